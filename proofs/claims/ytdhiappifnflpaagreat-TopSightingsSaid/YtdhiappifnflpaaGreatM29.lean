/- A range over a function within an iterator: the laws of the statement where the caller's relation is told of the loop's own record only. Plain theory, no program. Skies in memory: the walks of sky, sixth part: lookOf. Skies in memory: the walks of sky, seventh part: looks. -/
import Derived.Test.YtdhiappifnflpaaGreatIz
import Derived.Test.YtdhiappifnflpaaGreatM27
set_option maxRecDepth 100000
set_option maxHeartbeats 4000000
namespace Go.Proofs.YtdhiappifnflpaaGreat
open Go.RowKit
def PutA {β:Type} (r:Nat) (J:(Nat→Prop)→β→World→Prop):Prop:=∀ S s W l o o',l=r→J S s W→W.heap[l]?=some o→o.isCells=false→J S s (W.putObj l o')
theorem PutZ.at_ {β:Type} {M r:Nat} {J:(Nat→Prop)→β→World→Prop} (h:PutZ M J) (hr:M≤r):PutA r J:=fun S s W l o o' e=>h S s W l o o' oM
section
variable {P:Program} {α:Type} {g:Operand} {ps:Array Tmp} {assign body:Code} {Q:Exit→Act→World→Prop} {a:Act} {w:World} {gf:Nat} {lb:Array Value}
 {Hd:α→Array Value→World→Prop} {xs:List α} {S0 X:Nat→Prop} {Pre:World→Prop}
theorem wp_rangeFunc_a (hg:a.eval g=.func (.func gf) #[] lb) (eg:∀ args w,(callFunc gf args).run P w=.ok (.enter gf args) w)
  {M0:Nat} (hseq:SeqZ P gf lb Hd xs S0 X M0 Pre) (hM0:M0≤w.heap.size) (hPre:∀ w',Kp w.heap.size none w w'→Pre w') (hps:∀ x v W,Hd x v W→v.size=ps.size) (hS0:∀ k,S0 k→k<w.heap.size∧¬ X k) (hX:∀ k,X k→k<w.heap.size)
  (C:(Nat→Prop)→List α→World→Prop) (Cx:Code→(Nat→Prop)→List α→World→Prop) (hC:AbideZ C) (hCx:∀ c,AbideZ (Cx c)) (hCp:PutA (w.heap.size+1) C) (hCxp:∀ c,PutA (w.heap.size+1) (Cx c)) (h0:C S0 [] w)
  (hround:∀ (l:Nat) (S:Nat→Prop) (pre:List α) (x:α) (rest:List α) (vals:Array Value) (W:World) (K:Act→World→Prop),xs=pre++x::rest→C S pre W→Hd x vals W→l=w.heap.size+1→w.heap.size+2≤W.heap.size →
   Kz w.heap.size (fun k=>X k∨S0 k) w W→(∀ k,S k→¬ X k∧(k<w.heap.size→S0 k)) →
   (∀ a₁ W₁,Kp W.heap.size none W W₁→(∀ W₂,Kp W₁.heap.size (some l) W₁ W₂→W₂.heap.size=W₁.heap.size→(∃ r,W₂.heap[l]?=some (.loop r))→C S pre W₂ →
    body.wpIn (Fence.wide.inRound l) 0 P (roundZ X C Cx S (pre++[x]) W₂) a₁ W₂)→K a₁ W₁) →
   assign.wpIn (Fence.wide.inRound l) 0 P (Exit.then K (fun _ _ _=>False)) { tmps:=(ps.zip vals).foldl (fun t (p,v)=>t.setIfInBounds p v) a.tmps,defers:=[] } W)
  (hdone:∀ (W:World),C S0 xs W→Kz w.heap.size (fun k=>X k∨S0 k) w W→W.heap[w.heap.size]?=some (.deferred (some []))→w.heap.size+2≤W.heap.size→Q .normal { a with defers:={ target:=.collected w.heap.size,args:=#[] }::a.defers } W)
  (hstop:∀ (c:Code) (pre:List α) (W:World),Cx c S0 pre W→Kz w.heap.size (fun k=>X k∨S0 k) w W→W.heap[w.heap.size]?=some (.deferred (some []))→w.heap.size+2≤W.heap.size→c.wpIn Fence.wide 0 P Q { a with defers:={ target:=.collected w.heap.size,args:=#[] }::a.defers } W) :
  (Code.rangeFunc g ps assign body).wp P Q a w:=by
 refine(wpIn_wide (n:=0)).1 (wpIn_rangeFunc ?_);intro fn hfn;rw[show Fence.wide.round=none from rfl];obtain⟨rec,hrec⟩:∃ rec:LoopState→Option Code→Loop,rec=fun st pe=>{ state:=st,pending:=pe,fn,tmps:=a.tmps,params:=ps,assign,body,defers:=w.heap.size }:=⟨_,rfl⟩;obtain⟨W1,hW1⟩:∃ W1,(w.alloc (.deferred (some []))).alloc (.loop (rec .ready none))=W1:=⟨_,rfl⟩
 have hL1:W1.heap[w.heap.size+1]?=some (.loop (rec .ready none)):=by
  rw[← hW1];have:=World.alloc_heap_new (w.alloc (.deferred (some []))) (.loop (rec .ready none));rwa [World.size_alloc] at this
 have hK1:W1.heap[w.heap.size]?=some (.deferred (some [])):=by
  rw[← hW1];exact(Below.heap_alloc _ _ _ (by simp)).trans (World.alloc_heap_new w _)
 have hk1:Kp w.heap.size none w W1:=by
  rw[← hW1];exact((Kp.refl w.heap.size none w).alloc (Nat.le_refl _) _).alloc (by simp) _
 have hs1:w.heap.size+2≤W1.heap.size:=by rw[← hW1];simp
 obtain⟨M,hM⟩:∃ M,M=w.heap.size:=⟨_,rfl⟩;obtain⟨B,hB⟩:∃ B:(Nat→Prop)→World→Prop,B=fun S W=>W.heap[w.heap.size]?=some (.deferred (some []))∧(∀ k,S k→¬ X k∧(k<w.heap.size→S0 k)∧k≠w.heap.size∧k≠w.heap.size+1)∧Kz w.heap.size (fun k=>X k∨S0 k) w W∧w.heap.size+2≤W.heap.size:=⟨_,rfl⟩;have hBe:∀ S W,B S W↔(W.heap[w.heap.size]?=some (.deferred (some []))∧(∀ k,S k→¬ X k∧(k<w.heap.size→S0 k)∧k≠w.heap.size∧k≠w.heap.size+1)∧Kz w.heap.size (fun k=>X k∨S0 k) w W∧w.heap.size+2≤W.heap.size):=fun S W=>by rw[hB]
 clear hB
 have Bstep:∀ S W W' row,B S W→Kp W.heap.size row W W'→(∀ r,row=some r→S r)→B (fun k=>S k∨(W.heap.size≤k∧k<W'.heap.size)) W':=fun S W W' row h hk hr=>by
  obtain⟨h1,h2,h3,h4⟩:=(hBe _ _).1 h;have hz:=hk.size;refine(hBe _ _).2 ⟨(hk.block _ oM (fun e=>(h2 _ (hr _ e.symm)).2.2.1 rfl)).trans h1,?_,h3.then_ hk oM (fun r e hlt=>.inr ((h2 r (hr r e)).2.1 hlt)),by omega⟩;rintro k (hk'|hk')
  · exact h2 k hk'
  · exact⟨fun hx=>by have:=hX k hx;omega,fun hlt=>by omega,by omega,by omega⟩
 have Bless:∀ S S' W,B S W→(∀ k,S' k→S k)→B S' W:=fun S S' W h hs=>by
  obtain⟨h1,h2,h3,h4⟩:=(hBe _ _).1 h;exact(hBe _ _).2 ⟨h1,fun k hk=>h2 k (hs k hk),h3,h4⟩
 have Brec:∀ S W W' row,B S W→Kp W.heap.size row W W'→(∀ r,row=some r→S r)→∀ o,W.heap[w.heap.size+1]?=some o→W'.heap[w.heap.size+1]?=some o:=fun S W W' row h hk hr o ho=>by
  obtain⟨h1,h2,h3,h4⟩:=(hBe _ _).1 h;exact(hk.block _ oM (fun e=>(h2 _ (hr _ e.symm)).2.2.2 rfl)).trans ho
 have Bz:∀ S W W',B S W→Kz W.heap.size X W W'→B S W':=fun S W W' h hk=>by
  obtain⟨h1,h2,h3,h4⟩:=(hBe _ _).1 h;have hz:=hk.size;exact(hBe _ _).2 ⟨(hk.block _ oM (fun e=>by have:=hX _ e;omega)).trans h1,h2,h3.trans (hk.less oM (fun k _ hx=>.inl hx)),by omega⟩
 have Bput:∀ S W o',B S W→B S (W.putObj (w.heap.size+1) o'):=fun S W o' h=>by
  obtain⟨h1,h2,h3,h4⟩:=(hBe _ _).1 h;exact(hBe _ _).2 ⟨(World.putObj_heap_other oM).trans h1,h2,h3.trans ⟨rfl,rfl,rfl,by simp,fun i hi _=>World.putObj_heap_other oM⟩,by simp;omega⟩
 refine⟨w.heap.size+1,[{ target:=.collected w.heap.size,args:=#[] }],W1,{ target:=.fn (.func gf) lb,args:=#[.func (.yield (w.heap.size+1)) #[] #[]] },W1,gf,
  #[.func (.yield (w.heap.size+1)) #[] #[]]++lb,W1,?_,?_,fun _ _=>trivial,?_,fun h=>(by cases h),?_⟩
 · rw[← hW1,hrec];exact run_enterLoop_outer _ _ _ _ _
 ·
  simp only[resolve,hg];simp[go_sem]
 · simp[invoke,go_sem,eg]
 ·
  refine callsIn_wide.2 ((hseq (w.heap.size+1)
   (fun S pre W=>C S pre W∧W.heap[w.heap.size+1]?=some (.loop (rec .ready none))∧B S W)
   (fun S pre W=>∃ c,Cx c S pre W∧W.heap[w.heap.size+1]?=some (.loop (rec .done (some c)))∧B S W)
   W1 oM ⟨?_,?_⟩ ⟨?_,?_⟩ ?_ ⟨hC.keepN h0 hk1,hL1,(hBe _ _).2 ⟨hK1,fun k hk=>⟨(hS0 k hk).2,fun _=>hk,by have:=(hS0 k hk).1;omega,by have:=(hS0 k hk).1;omega⟩,.ofN hk1,hs1⟩⟩ (hPre _ hk1)).mono ?_)
  ·
   rintro S s W W' row ⟨h1,h2,h3⟩ hk hr;exact⟨hC.step _ _ _ _ _ h1 hk hr,Brec _ _ _ _ h3 hk hr _ h2,Bstep _ _ _ _ h3 hk hr⟩
  ·
   rintro S S' s W ⟨h1,h2,h3⟩ hs;exact⟨hC.less _ _ _ _ h1 hs,h2,Bless _ _ _ h3 hs⟩
  ·
   rintro S s W W' row ⟨c,h1,h2,h3⟩ hk hr;exact⟨c,(hCx c).step _ _ _ _ _ h1 hk hr,Brec _ _ _ _ h3 hk hr _ h2,Bstep _ _ _ _ h3 hk hr⟩
  ·
   rintro S S' s W ⟨c,h1,h2,h3⟩ hs;exact⟨c,(hCx c).less _ _ _ _ h1 hs,h2,Bless _ _ _ h3 hs⟩
  ·
   rintro S pre x rest vals W hxs ⟨hi,hl,hb⟩ hd;have hy:=run_yield (P:=P) (args:=vals) hl (by rw[hrec];exact hps x vals W hd);rw[hrec] at hy;have hb':=(hBe _ _).1 hb;refine⟨fn,_,assign,body,hy,roundIn_of_wpIn hfn (hround _ S pre x rest vals W _ hxs hi hd rfl hb'.2.2.2 hb'.2.2.1 (fun k hk=>⟨(hb'.2.1 k hk).1,(hb'.2.1 k hk).2.1⟩) fun a₁ W₂ hkw hbody=>?_)⟩;have hzw:=hkw.size;have hl2:=Brec _ _ _ _ hb hkw (fun _ e=>by cases e) _ hl;have hb2:B S W₂:=Bless _ _ _ (Bstep _ _ _ _ hb hkw (fun _ e=>by cases e)) fun _ h=>.inl h;have hz2:=((hBe _ _).1 hb2).2.2.2;refine⟨_,run_beginRound hl2 (by rw[hrec]),?_⟩;obtain⟨W₃,hW₃⟩:∃ W₃,W₃=W₂.putObj (w.heap.size+1) (.loop { rec .ready none with state:=.busy }):=⟨_,rfl⟩;have hs3:W₃.heap.size=W₂.heap.size:=by rw[hW₃];simp
   have hl3:W₃.heap[w.heap.size+1]?=some (.loop { rec .ready none with state:=.busy }):=by rw[hW₃];exact World.putObj_heap_same oM
   have hb3:B S W₃:=hW₃ ▸ Bput _ _ _ hb2;have hi3:C S pre W₃:=hW₃ ▸ hCp _ _ _ _ _ _ rfl (hC.keepN hi hkw) hl2 rfl;have ho3:∀ k,k≠w.heap.size+1→W₃.heap[k]?=W₂.heap[k]?:=fun k hk=>by rw[hW₃];exact World.putObj_heap_other hk
   have hk3:Kp W₂.heap.size (some (w.heap.size+1)) W₂ W₃:=by rw[hW₃];exact⟨rfl,rfl,rfl,by simp,fun i _ hn=>World.putObj_heap_other (fun e=>hn (by rw[e]))⟩
   replace hbody:=hbody W₃ hk3 hs3 ⟨_,hl3⟩ hi3;rw[← hW₃];refine wpIn_mono hbody ?_
   have fin:∀ (jump:Option Code) (W₄:World),Kz W₃.heap.size X W₃ W₄ →
     (Instr.endRound (w.heap.size+1) jump).run P W₄=.ok (.bool jump.isNone) (W₄.putObj (w.heap.size+1) (.loop (rec (if jump.isNone then .ready else .done) jump))) ∧
     W₄.heap[w.heap.size+1]?=some (.loop { rec .ready none with state:=.busy }) ∧
     (W₄.putObj (w.heap.size+1) (.loop (rec (if jump.isNone then .ready else .done) jump))).heap[w.heap.size+1]?=some (.loop (rec (if jump.isNone then .ready else .done) jump)) ∧
     B S (W₄.putObj (w.heap.size+1) (.loop (rec (if jump.isNone then .ready else .done) jump))):=fun jump W₄ hk4=>by
    have hl4:=(hk4.block (w.heap.size+1) oM (fun e=>by have:=hX _ e;omega)).trans hl3;have hz4:=hk4.size;have:=run_endRound (P:=P) jump hl4;rw[hrec] at this ⊢;exact⟨this,by rw[hrec] at hl4;exact hl4,World.putObj_heap_same oM,Bput _ _ _ (Bz _ _ _ hb3 hk4)⟩
   have stop:∀ (W₄:World) (o':Obj),Kz W₃.heap.size X W₃ W₄→Kz W.heap.size (fun k=>X k∨k=w.heap.size+1) W (W₄.putObj (w.heap.size+1) o'):=fun W₄ o' hk4=>by
    have hz4:=hk4.size
    exact⟨hk4.os.trans (hk3.os.trans hkw.os),hk4.tape.trans (hk3.tape.trans hkw.tape),hk4.output.trans (hk3.output.trans hkw.output),by simp;omega,fun k hk hx=>
     (World.putObj_heap_other (fun e=>hx (.inr e))).trans ((hk4.block k oM (fun e=>hx (.inl e))).trans ((ho3 k (fun e=>hx (.inr e))).trans (hkw.block k hk (by simp))))⟩
   rintro e a₃ W₄ hp;cases e with
   | normal=>
    obtain⟨hk4,hi4⟩:=hp;obtain⟨hr,hl4,hl5,hb5⟩:=fin none W₄ hk4;have hz4:=hk4.size;refine⟨_,_,hr,.inl ⟨rfl,⟨hCp _ _ _ _ _ _ rfl hi4 hl4 rfl,hl5,hb5⟩,?_⟩⟩;refine⟨hk4.os.trans (hk3.os.trans hkw.os),hk4.tape.trans (hk3.tape.trans hkw.tape),hk4.output.trans (hk3.output.trans hkw.output),by simp;omega,fun k hk hx=>?_⟩;by_cases e:k=w.heap.size+1
    · rw[e];exact hl5.trans hl.symm
    · exact(World.putObj_heap_other e).trans ((hk4.block k oM hx).trans ((ho3 k e).trans (hkw.block k hk (by simp))))
   | ret=>
    obtain⟨hk4,hi4⟩:=hp;obtain⟨hr,hl4,hl5,hb5⟩:=fin (some .ret) W₄ hk4;exact⟨_,_,hr,.inr ⟨rfl,⟨.ret,hCxp _ _ _ _ _ _ _ rfl hi4 hl4 rfl,hl5,hb5⟩,stop _ _ hk4⟩⟩
   | exit id=>
    obtain⟨hk4,hi4⟩:=hp;obtain⟨hr,hl4,hl5,hb5⟩:=fin (some (.exit id)) W₄ hk4;exact⟨_,_,hr,.inr ⟨rfl,⟨.exit id,hCxp _ _ _ _ _ _ _ rfl hi4 hl4 rfl,hl5,hb5⟩,stop _ _ hk4⟩⟩
   | goto t=>
    obtain⟨hk4,hi4⟩:=hp;obtain⟨hr,hl4,hl5,hb5⟩:=fin (some (.goto t)) W₄ hk4;exact⟨_,_,hr,.inr ⟨rfl,⟨.goto t,hCxp _ _ _ _ _ _ _ rfl hi4 hl4 rfl,hl5,hb5⟩,stop _ _ hk4⟩⟩
   | panic ch=>exact hp.elim
   | outgrown=>exact hp.elim
  ·
   rintro e W2 ⟨⟨v,rfl⟩,(⟨hi,hl,hb⟩|⟨pre,c,hi,hl,hb⟩)⟩
   ·
    have he:(Instr.endLoop (w.heap.size+1)).run P W2=.ok none (W2.putObj (w.heap.size+1) (.loop { rec .ready none with state:=.exhausted })):=by
     have:=run_endLoop (P:=P) hl (by rw[hrec];simp);rw[hrec] at this ⊢;exact this
    have q:=(hBe _ _).1 (Bput _ _ (.loop { rec .ready none with state:=.exhausted }) hb);exact⟨none,_,he,hdone _ (hCp _ _ _ _ _ _ rfl hi hl rfl) q.2.2.1 q.1 q.2.2.2⟩
   ·
    have he:(Instr.endLoop (w.heap.size+1)).run P W2=.ok (some c) (W2.putObj (w.heap.size+1) (.loop { rec .done (some c) with state:=.exhausted })):=by
     have:=run_endLoop (P:=P) hl (by rw[hrec];simp);rw[hrec] at this ⊢;exact this
    have q:=(hBe _ _).1 (Bput _ _ (.loop { rec .done (some c) with state:=.exhausted }) hb);exact⟨some c,_,he,hstop c pre _ (hCxp _ _ _ _ _ _ _ rfl hi hl rfl) q.2.2.1 q.1 q.2.2.2⟩
end
def InC {α β:Type} (R:Nat→Prop) (J:(Nat→Prop)→β→World→Prop) (f:List α→β) (S:Nat→Prop) (pre:List α) (W:World):Prop:=∃ T:Nat→Prop,(∀ k,R k→k<W.heap.size→T k)∧(∀ k,S k→T k)∧J T (f pre) W
theorem InC.abide {α β:Type} {R:Nat→Prop} {J:(Nat→Prop)→β→World→Prop} {f:List α→β} (hJ:AbideZ J):AbideZ (InC R J f) where
 step:=fun S s W W' row ⟨T,h1,h2,h3⟩ hk hr=>by
  refine⟨fun k=>T k∨(W.heap.size≤k∧k<W'.heap.size),fun k hRk hlt=>?_,?_,hJ.step T _ _ _ _ h3 hk (fun q e=>h2 q (hr q e))⟩
  ·
   by_cases e:k<W.heap.size
   · exact .inl (h1 k hRk e)
   · exact .inr ⟨by omega,hlt⟩
  ·
   rintro k (hk|hk)
   · exact .inl (h2 k hk)
   · exact .inr hk
 less:=fun S S' s W ⟨T,h1,h2,h3⟩ hs=>⟨T,h1,fun k hk=>h2 k (hs k hk),h3⟩
theorem J_put {β:Type} {J:(Nat→Prop)→β→World→Prop} (hJ:AbideZ J) {T:Nat→Prop} {s:β} {W:World} {l:Nat} (o':Obj) (hT:T l) (h:J T s W):J T s (W.putObj l o'):=by
 have hk:Kp W.heap.size (some l) W (W.putObj l o'):=⟨rfl,rfl,rfl,by simp,fun i _ hn=>World.putObj_heap_other (fun e=>hn (by rw[e]))⟩;exact hJ.less _ _ _ _ (hJ.step T _ _ _ _ h hk (fun q e=>by injection e with e;rw[← e];exact hT)) fun k hk=>.inl hk
theorem InC.put {α β:Type} {r:Nat} {R:Nat→Prop} {J:(Nat→Prop)→β→World→Prop} {f:List α→β} (hJ:AbideZ J) (hr:R r):PutA r (InC R J f):=by
 rintro S s W l o o' rfl ⟨T,h1,h2,h3⟩ ho hc;have hlt:l<W.heap.size:=(Array.getElem?_eq_some_iff.1 ho).1;exact⟨T,fun k hk hlk=>h1 k hk (by simpa using hlk),h2,J_put hJ o' (h1 l hr hlt) h3⟩
def InX {α β:Type} (R:Nat→Prop) (J:(Nat→Prop)→β→World→Prop) (c:Code) (S:Nat→Prop) (_:List α) (W:World):Prop:=c=.ret∧∃ (T:Nat→Prop) (p:β),(∀ k,R k→k<W.heap.size→T k)∧(∀ k,S k→T k)∧J T p W
theorem InX.abide {α β:Type} {R:Nat→Prop} {J:(Nat→Prop)→β→World→Prop} (hJ:AbideZ J) (c:Code):AbideZ (InX (α:=α) R J c) where
 step:=fun S s W W' row ⟨hc,T,p,h⟩ hk hr=>by
  obtain⟨T2,h1,h2,h3⟩:=(InC.abide (α:=α) (R:=R) (f:=fun _=>p) hJ).step S s W W' row ⟨T,h⟩ hk hr;exact⟨hc,T2,p,h1,h2,h3⟩
 less:=fun S S' s W ⟨hc,T,p,h1,h2,h3⟩ hs=>⟨hc,T,p,h1,fun k hk=>h2 k (hs k hk),h3⟩
theorem InX.put {α β:Type} {r:Nat} {R:Nat→Prop} {J:(Nat→Prop)→β→World→Prop} (hJ:AbideZ J) (hr:R r) (c:Code):PutA r (InX (α:=α) R J c):=by
 rintro S s W l o o' e ⟨hc,T,p,h⟩ ho hcl;obtain⟨T2,h1,h2,h3⟩:=InC.put (α:=α) (f:=fun _=>p) hJ hr S s W l o o' e ⟨T,h⟩ ho hcl;exact⟨hc,T2,p,h1,h2,h3⟩
def mark (D:Nat):Deferred:={ target:=.collected D,args:=#[] }
def Marks (l:List Nat) (W:World):Prop:=l.Nodup∧∀ D∈l,W.heap[D]?=some (.deferred (some []))
theorem leaves_marks {P:Program} {fn:Func} {tmps:Array Value} {R:Ending→World→Prop} {v:Value} (Inv:World→Prop) (hr:∀ w,Inv w→(results fn tmps).run P w=.ok v w):∀ (l:List Nat) (W:World),Marks l W →
  (∀ W D,D∈l→Inv W→Inv (W.putObj D (.deferred none)))→(∀ W,Inv W→R (.returned v) W)→Inv W→LeavesInM Fence.wide 0 P fn tmps R (l.map mark) .returning W
 | [],W,_,_,h,h0=>⟨v,hr W h0,h W h0⟩
 | D::r,W,⟨hn,hm⟩,hI,h,h0=>by
  rw[List.nodup_cons] at hn;refine⟨by simp,.inl ⟨D,W.putObj D (.deferred none),rfl,run_takeDeferred (hm D (by simp)),?_⟩⟩;exact leaves_marks Inv hr r _ ⟨hn.2,fun E hE=>(World.putObj_heap_other (fun e=>hn.1 (by rw[← e];exact hE))).trans (hm E (by simp[hE]))⟩ (fun W E hE=>hI W E (by simp[hE])) h (hI W D (by simp) h0)
theorem yield_lt {P:Program} {l:Nat} {args:Array Value} {W:World} {R:Ending→World→Prop} (h:YieldAt Fence.wide 0 P l args W R):l<W.heap.size:=by
 obtain⟨fn,tmps,assign,body,hy,-⟩:=h;by_cases hl:l<W.heap.size
 · exact hl
 ·
  exfalso
  have e:W.heap[l]?=none:=Array.getElem?_eq_none oM;simp[Instr.yield,Instr.getLoop,getObj,Sem.run,Result.andThen,e,go_sem] at hy
def coneC (c:Cone):Array Value:=#[c.fx,c.fy,c.dx,c.dy,c.low,c.high]
def lookV:Look→Value
 | .angle c=>.iface 219 (.agg #[c.fx,c.fy,c.dx,c.dy,c.low,c.high])
 | .reach fx fy lo hi=>.iface 215 (.agg #[fx,fy,lo,hi])
 | .empty c hi=>.iface 221 (.agg #[c.fx,c.fy,c.dx,c.dy,c.low,c.high,hi])
theorem sky_lookOf_any (A B C:Option Addr) (c e f:Nat) (S:Sky) (x:Sg) (w:World) (hS:S.ok) (hA:SkyAt none w A B C S) (hx:S.okSg x) :
  Calls Tryz.prog 80 #[.agg #[.slice A S.W.bs.length c,S.W.home,.slice B S.st.length e,.slice C S.ct.length f],x] w fun e9 w'=>e9=.returned (lookV (S.look x))∧Kp w.heap.size none w w':=by
 obtain⟨⟨x1,x2⟩,ht,hs,hc,hr,hh⟩:=hx;obtain⟨y,hy⟩:=Option.isSome_iff_exists.1 hs;have cW:=fun w h=>sky_Where_any A B C c e f S x.stn x.tick y w hS h ht hy;have cc:=fun w h=>sky_catalog_any A B C c e f S x.cat w (by have:=hS.c1;omega) h;obtain⟨L,hL⟩:∃ q9,Hid (q9=S.look x):=⟨_,Lib.hid rfl⟩;rw[← hL.out];have hLd:L=S.look x:=hL.out;clear hL;unfold Sky.look Sky.cone Sky.from at hLd;rw[hy] at hLd;simp only[Option.getD_some] at hLd;generalize (S.W.hp x.tick).x+y.ox=p1 at *;generalize (S.W.hp x.tick).y+y.oy=p2 at *
 have hcat:x.kind≠2→∃ z,S.catalog x.cat=some z∧-20000≤z.lo∧z.hi≤20000∧z.lo≤z.hi∧0≤x.err∧x.err≤500000:=fun k=>by
  obtain⟨q1,q2,q3,q4⟩:=hc k;obtain⟨z,hz⟩:=Option.isSome_iff_exists.1 q1;have:=hS.cb z (Sky.catalog_mem hz);exact⟨z,hz,by omega,by omega,by omega,q4.1,q4.2⟩
 clear hy hs hc hr hh ht hS;replace hcat:=Lib.hid hcat;obtain⟨w1,hw1,D,X,K,hz⟩:=box2 w 43 #[.slice A S.W.bs.length c,S.W.home,.slice B S.st.length e,.slice C S.ct.length f] 90 x;replace hLd:=Lib.hid hLd;go_enter Tryz.func80,Tryz.ntmps80
 go_wp2_with fail
 rw[← hw1];clear hw1;refine mK (cW _ (hA.kpN K)) fun w2 k=>?_;replace D:=D.kpN k;replace X:=X.kpN k;replace K:=K.thenN k oM;have hzk:=k.size;clear k;by_cases k2:x.kind=2
 ·
  have hLh:=hLd.out;rw[if_pos k2] at hLh;replace hLh:=Lib.hid hLh;clear hLd hcat cc cW;have k3:(x.kind==2)=true:=by simp[k2]
  clear k2;have P:=Blk.new w2 73 #[p1,p2];have X2:=X.alloc (.cells #[p1,p2] 73);have cP:=P.cell;have cX:=X2.cell;go_wp2
  go_ret
  exact⟨by rw[hLh.out];rfl,K.thenN (Kp.new1 _ _) (Nat.le_refl _)⟩
 ·
  have hLh:=hLd.out;rw[if_neg k2] at hLh;obtain⟨z,hz,z1,z2,z3,z4,z5⟩:=hcat.out k2;rw[hz] at hLh cc;simp only[Option.getD_some] at hLh;unfold catalogV at cc;have e1:wrap64 (z.lo-x.err)=z.lo-x.err:=by unfold wrap64;omega
  have e2:wrap64 (z.hi+x.err)=z.hi+x.err:=by unfold wrap64;omega
  have k3:(x.kind==2)=false:=by simp[k2]
  have hzk2:=hzk;clear hz z1 z2 z3 z4 z5 hcat hLd cW;replace hLh:=Lib.hid hLh;have pD:=D.cell;have pX:=X.cell;obtain⟨w9_,rfl,P,k9_,hzn⟩:=box1 w2 73 #[p1,p2];replace D:=D.kpN k9_;replace X:=X.kpN k9_;replace K:=K.thenN k9_ oU;clear k9_;have cD:=D.cell;have fD:=D.frozen;have cX:=X.cell;have fX:=X.frozen;go_wp2_with fail
  clear cD fD pD cX fX pX;generalize (w2.alloc (.cells #[p1,p2] 73))=w3 at *;obtain⟨q,hx⟩:∃ q9,q9=w2.heap.size:=⟨_,rfl⟩;rw[← hx] at P ⊢;replace hx:=Lib.hid hx;clear hx;have cP:=P.cell;have fP:=P.frozen;have cX:=X.cell;have fX:=X.frozen;go_wp2_with fail
  refine mK (cc _ (hA.kpN K)) fun w4 k=>?_;clear cP fP cX fX;replace P:=P.kpN k;replace X:=X.kpN k;replace K:=K.thenN k oM;have hzk:=k.size;clear k;clear cc;have P5:=(P.alloc (.cells #[z.ver,z.lo,z.hi] 148));have X5:=(X.alloc (.cells #[z.ver,z.lo,z.hi] 148));have Z5:=Blk.new w4 148 #[z.ver,z.lo,z.hi];have X6:=X5.alloc (.cells #[p1,p2,x.dx,x.dy,.int .i64 (z.lo-x.err),.int .i64 (z.hi+x.err)] 217);have Q6:=Blk.newAt (w4.alloc (.cells #[z.ver,z.lo,z.hi] 148)) 217 #[p1,p2,x.dx,x.dy,.int .i64 (z.lo-x.err),.int .i64 (z.hi+x.err)] (n:=w4.heap.size+1) (by simp);have cP:=P5.cell;have cX:=X5.cell;have cZ:=Z5.cell;have dX:=X6.cell;have dQ:=Q6.cell;by_cases k4:x.kind=1
  ·
   have k5:(x.kind==1)=true:=by simp[k4]
   have hL2:=hLh.out;rw[if_pos k4] at hL2;replace hL2:=Lib.hid hL2;clear k4 k2;go_wp2
   go_ret
   exact⟨by rw[hL2.out];rfl,K.thenN (Kp.new2 _ _ _) (Nat.le_refl _)⟩
  ·
   have k5:(x.kind==1)=false:=by simp[k4]
   have hL2:=hLh.out;rw[if_neg k4] at hL2;replace hL2:=Lib.hid hL2;clear k4 k2;go_wp2
   go_ret
   exact⟨by rw[hL2.out];rfl,K.thenN (Kp.new2 _ _ _) (Nat.le_refl _)⟩
structure Cone.sm (c:Cone):Prop where
 f:-5000≤c.fx∧c.fx≤5000∧-5000≤c.fy∧c.fy≤5000
 d:-4096≤c.dx∧c.dx≤4096∧-4096≤c.dy∧c.dy≤4096
 l:-1000000≤c.low∧c.low≤1000000∧-1000000≤c.high∧c.high≤1000000
def NearV (p:Pt):Prop:=-33554432≤p.x∧p.x≤33554432∧-33554432≤p.y∧p.y≤33554432
theorem cone_turns_any (c:Cone) (p:Pt) (hc:c.sm) (hp:NearV p) (w:World) :
  Calls Tryz.prog 171 #[.agg #[c.fx,c.fy,c.dx,c.dy,c.low,c.high],.agg #[p.x,p.y]] w fun e w'=>e=.returned (.tuple #[(c.n p),(c.d p)])∧Kp w.heap.size none w w':=by
 obtain⟨f1,f2,f3,f4⟩:=hc.f;obtain⟨d1,d2,d3,d4⟩:=hc.d;unfold NearV at hp;have e1:wrap64 (p.x-c.fx)=p.x-c.fx:=by unfold wrap64;omega
 have e2:wrap64 (p.y-c.fy)=p.y-c.fy:=by unfold wrap64;omega
 have m1:=mul_bd (a:=c.dx) (b:=p.y-c.fy) (A:=4096) (B:=33560000) oM oM;have m2:=mul_bd (a:=c.dy) (b:=p.x-c.fx) (A:=4096) (B:=33560000) oM oM;have m3:=mul_bd (a:=c.dx) (b:=p.x-c.fx) (A:=4096) (B:=33560000) oM oM;have m4:=mul_bd (a:=c.dy) (b:=p.y-c.fy) (A:=4096) (B:=33560000) oM oM;simp only[Nat.reduceMul] at m1 m2 m3 m4;have e3:c.n p=c.dx * (p.y-c.fy)-c.dy * (p.x-c.fx):=rfl;have e4:c.d p=c.dx * (p.x-c.fx)+c.dy * (p.y-c.fy):=rfl
 have e5:wrap64 (wrap64 (c.dx * (p.y-c.fy))-wrap64 (c.dy * (p.x-c.fx)))=c.n p:=by
  rw[e3];generalize c.dx * (p.y-c.fy)=a at *;generalize c.dy * (p.x-c.fx)=b at *;rw[show wrap64 a=a by unfold wrap64;omega,show wrap64 b=b by unfold wrap64;omega];unfold wrap64;omega
 have e6:wrap64 (wrap64 (c.dx * (p.x-c.fx))+wrap64 (c.dy * (p.y-c.fy)))=c.d p:=by
  rw[e4];generalize c.dx * (p.x-c.fx)=a at *;generalize c.dy * (p.y-c.fy)=b at *;rw[show wrap64 a=a by unfold wrap64;omega,show wrap64 b=b by unfold wrap64;omega];unfold wrap64;omega
 generalize c.n p=n at *;generalize c.d p=d at *;clear e3 e4 m1 m2 m3 m4 hc hp f1 f2 f3 f4 d1 d2 d3 d4;obtain⟨w1,hw1,C,P,K,hz⟩:=box2 w 217 #[c.fx,c.fy,c.dx,c.dy,c.low,c.high] 73 #[p.x,p.y];go_enter Tryz.func171,Tryz.ntmps171
 go_wp2_with fail
 rw[← hw1];clear hw1;obtain⟨S,hS0,hS1⟩:=cls_of2 (P:=fun w'=>Blk w' _ _ _∧Blk w' _ _ _∧Kp _ _ _ w') w1 ⟨C,P,K⟩;try dsimp only at hS0
 have cC:=fun (x:Ev (S 0)) i=>((hS0 _).1 x.h).1.cell i;have cP:=fun (x:Ev (S 0)) i=>((hS0 _).1 x.h).2.1.cell i;replace C:=C.drew;replace P:=P.drew;replace K:=K.drew;have hevT:=ev_true;refine wro S [(0,0),(1,1),(2,0),(3,0),(4,1),(5,0),(6,0),(7,1),(8,0),(9,0),(10,1),(11,0),(12,0),(13,0)] [] ((hS0 _).2 ⟨C,P,K⟩) ?_;intro _hev;refine oX ?_;refine wpOrd_nil ?_;clear hevT _hev;clear cC cP hS0 hS1 S;generalize w1.drew=w2 at *;go_wp2_with fail
 obtain⟨S,hS0,hS1⟩:=cls_of2 (P:=fun w'=>Blk w' _ _ _∧Blk w' _ _ _∧Kp _ _ _ w') w2 ⟨C,P,K⟩;try dsimp only at hS0
 have cC:=fun (x:Ev (S 0)) i=>((hS0 _).1 x.h).1.cell i;have cP:=fun (x:Ev (S 0)) i=>((hS0 _).1 x.h).2.1.cell i;replace C:=C.drew;replace P:=P.drew;replace K:=K.drew;have hevT:=ev_true;refine wro S [(0,0),(1,0),(2,1),(3,0),(4,0),(5,0),(6,0),(7,1),(8,0),(9,0),(10,0),(11,0),(12,0),(13,1),(14,0),(15,0),(16,0),(17,0),(18,1),(19,0),(20,0),(21,0),(22,0),(23,0)] [] ((hS0 _).2 ⟨C,P,K⟩) ?_;intro _hev;refine oX ?_;refine wpOrd_nil ?_;clear hevT _hev;clear cC cP hS0 hS1 S;generalize w2.drew=w3 at *;go_wp2_with fail
 exact bodyPost_ret (v:=.tuple #[n,d]) (by simp[results,Tryz.results171,go_sem,e5,e6]) rfl ⟨rfl,K⟩
theorem cone_bd (c:Cone) (p:Pt) (hc:c.sm) (hp:NearV p):(c.n p).natAbs≤300000000000∧(c.d p).natAbs≤300000000000:=by
 obtain⟨f1,f2,f3,f4⟩:=hc.f;obtain⟨d1,d2,d3,d4⟩:=hc.d;unfold NearV at hp;have m1:=mul_bd (a:=c.dx) (b:=p.y-c.fy) (A:=4096) (B:=33560000) oM oM;have m2:=mul_bd (a:=c.dy) (b:=p.x-c.fx) (A:=4096) (B:=33560000) oM oM;have m3:=mul_bd (a:=c.dx) (b:=p.x-c.fx) (A:=4096) (B:=33560000) oM oM;have m4:=mul_bd (a:=c.dy) (b:=p.y-c.fy) (A:=4096) (B:=33560000) oM oM;simp only[Nat.reduceMul] at m1 m2 m3 m4;unfold Cone.n Cone.d;generalize c.dx * (p.y-c.fy)=a1 at *;generalize c.dy * (p.x-c.fx)=a2 at *;generalize c.dx * (p.x-c.fx)=a3 at *;generalize c.dy * (p.y-c.fy)=a4 at *;omega
theorem cone_sides_any (c:Cone) (p:Pt) (hc:c.sm) (hp:NearV p) (w:World) :
  Calls Tryz.prog 136 #[.agg #[c.fx,c.fy,c.dx,c.dy,c.low,c.high],.agg #[p.x,p.y]] w fun e w'=>e=.returned (.tuple #[.bool (c.behind p),.bool (c.below p),.bool (c.above p)])∧Kp w.heap.size none w w':=by
 have ct:=fun w=>cone_turns_any c p hc hp w;obtain⟨b1,b2⟩:=cone_bd c p hc hp;obtain⟨l1,l2,l3,l4⟩:=hc.l;unfold Cone.behind Cone.below Cone.above;generalize c.n p=n at *;generalize c.d p=d at *;have m1:=mul_bd (a:=c.low) (b:=d) (A:=1000000) (B:=300000000000) oM b2;have m2:=mul_bd (a:=c.high) (b:=d) (A:=1000000) (B:=300000000000) oM b2;simp only[Nat.reduceMul] at m1 m2;obtain⟨u1,hu1⟩:∃ q9,Hid (q9=c.low * d):=⟨_,Lib.hid rfl⟩;obtain⟨u2,hu2⟩:∃ q9,Hid (q9=c.high * d):=⟨_,Lib.hid rfl⟩;obtain⟨u3,hu3⟩:∃ q9,Hid (q9=1000000 * n):=⟨_,Lib.hid rfl⟩;rw[← hu1.out] at m1;rw[← hu2.out] at m2;have e1:wrap64 (c.low * d)=u1:=by rw[← hu1.out];unfold wrap64;omega
 have e2:wrap64 (c.high * d)=u2:=by rw[← hu2.out];unfold wrap64;omega
 have e3:wrap64 (1000000 * n)=u3:=by rw[hu3.out];unfold wrap64;omega
 rw[← hu1.out,← hu2.out,← hu3.out];clear hu1 hu2 hu3 m1 m2 b1 b2 l1 l2 l3 l4 hc hp;obtain⟨w1,hw1,C,P,K,hz⟩:=box2 w 217 #[c.fx,c.fy,c.dx,c.dy,c.low,c.high] 73 #[p.x,p.y];go_enter Tryz.func136,Tryz.ntmps136
 go_wp2_with fail
 rw[← hw1];clear hw1;refine mK (ct _) fun w2 k=>?_;replace C:=C.kpN k;replace P:=P.kpN k;replace K:=K.thenN k oM;have hzk:=k.size;clear k;have cC:=C.cell;go_wp2_with fail
 clear cC;obtain⟨S,hS0,hS1⟩:=cls_of2 (P:=fun w'=>Blk w' _ _ _∧Kp _ _ _ w') w2 ⟨C,K⟩;try dsimp only at hS0
 have cC:=fun (x:Ev (S 0)) i=>((hS0 _).1 x.h).1.cell i;replace C:=C.drew;replace K:=K.drew;have hevT:=ev_true;refine wro S [(0,0),(1,0),(2,0),(3,0),(4,0),(5,1),(6,0),(7,0),(8,0),(9,0),(10,0),(11,0),(12,1),(13,0),(14,0),(15,0),(16,0),(17,0),(18,0)] [] ((hS0 _).2 ⟨C,K⟩) ?_;intro _hev;refine oX ?_;refine wpOrd_nil ?_;clear hevT _hev;clear cC hS0 hS1 S;generalize w2.drew=w3 at *;go_wp2_with fail
 exact bodyPost_ret (v:=.tuple #[.bool (decide (d≤0)),.bool (decide (u3<u1)),.bool (decide (u2<u3))]) (by simp[results,Tryz.results136,go_sem]) rfl ⟨rfl,K⟩
theorem cone_has_any (c:Cone) (p:Pt) (hc:c.sm) (hp:NearV p) (w:World) :
  Calls Tryz.prog 142 #[.agg #[c.fx,c.fy,c.dx,c.dy,c.low,c.high],.agg #[p.x,p.y]] w fun e w'=>e=.returned (.bool (c.hasP p))∧Kp w.heap.size none w w':=by
 have cs:=fun w=>cone_sides_any c p hc hp w;unfold Cone.hasP;generalize c.behind p=b1 at *;generalize c.below p=b2 at *;generalize c.above p=b3 at *;clear hc hp;obtain⟨w1,hw1,C,P,K,hz⟩:=box2 w 217 #[c.fx,c.fy,c.dx,c.dy,c.low,c.high] 73 #[p.x,p.y];go_enter Tryz.func142,Tryz.ntmps142
 go_wp2_with fail
 rw[← hw1];clear hw1;refine mK (cs _) fun w2 k=>?_;replace C:=C.kpN k;replace P:=P.kpN k;replace K:=K.thenN k oM;have hzk:=k.size;clear k;cases b1
 all_goals
  cases b2
  all_goals
   cases b3
   all_goals
    go_wp2
    go_ret
    exact⟨rfl,K⟩
theorem sky_distance_any (p:Pt) (fx fy:Int) (hp:NearV p) (hf:-5000≤fx∧fx≤5000∧-5000≤fy∧fy≤5000) (w:World) :
  Calls Tryz.prog 138 #[.agg #[p.x,p.y],.agg #[fx,fy]] w fun e w'=>e=.returned (.int .i64 (dist2 p fx fy))∧Kp w.heap.size none w w':=by
 unfold NearV at hp;have m1:=mul_bd (a:=p.x-fx) (b:=p.x-fx) (A:=33560000) (B:=33560000) oM oM;have m2:=mul_bd (a:=p.y-fy) (b:=p.y-fy) (A:=33560000) (B:=33560000) oM oM;simp only[Nat.reduceMul] at m1 m2;have e1:wrap64 (p.x-fx)=p.x-fx:=by unfold wrap64;omega
 have e2:wrap64 (p.y-fy)=p.y-fy:=by unfold wrap64;omega
 unfold dist2;obtain⟨r,hr⟩:∃ q9,Hid (q9=(p.x-fx) * (p.x-fx)+(p.y-fy) * (p.y-fy)):=⟨_,Lib.hid rfl⟩
 have e5:wrap64 (wrap64 ((p.x-fx) * (p.x-fx))+wrap64 ((p.y-fy) * (p.y-fy)))=r:=by
  rw[hr.out];generalize (p.x-fx) * (p.x-fx)=a at *;generalize (p.y-fy) * (p.y-fy)=b at *;rw[show wrap64 a=a by unfold wrap64;omega,show wrap64 b=b by unfold wrap64;omega];unfold wrap64;omega
 rw[← hr.out];clear hr m1 m2 hp hf;go_enter Tryz.func138,Tryz.ntmps138
 go_wp2
 go_ret
 exact⟨by rw[e5];rfl,Kp.new2 _ _ _⟩
end Go.Proofs.YtdhiappifnflpaaGreat
