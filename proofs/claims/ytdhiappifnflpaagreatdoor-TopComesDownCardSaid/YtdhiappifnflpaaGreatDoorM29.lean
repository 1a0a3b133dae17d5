/- A range over a function within an iterator: the laws of the statement where the caller's relation is told of the loop's own record only. Plain theory, no program. Skies in memory: the walks of sky, sixth part: lookOf. Skies in memory: the walks of sky, seventh part: looks. Skies in memory: the walks of sky, ninth part: the corners of an area, one by one. Skies in memory: the walks of sky, fifth part: CheckSight. Skies in memory: the walks of sky, eighth part: Agrees. Skies in memory: the walks of sky, tenth part: Excludes. -/
import Derived.Test.YtdhiappifnflpaaGreatDoorIz
import Derived.Test.YtdhiappifnflpaaGreatDoorM28
import Derived.Test.YtdhiappifnflpaaGreatDoorM12
import Derived.RangeFuncLeaves
import Derived.RangeFuncBound
import Derived.RangeFuncCalls
import Derived.RangeFuncBox
import Derived.OwnWalkIn
import Derived.TacticsInMore
import Derived.LoopNIn
import Derived.LoopIn
import Derived.Shelf.Abstract
import Derived.Shelf.RegionOpen
namespace Go.Proofs.YtdhiappifnflpaaGreatDoor
open Go.RowKit
def PutA {β:Type} (r:Nat) (J:(Nat→Prop)→β→World→Prop):Prop:=∀ S s W l o o',l=r→J S s W→W.heap[l]?=some o→o.isCells=false→J S s (W.putObj l o')
theorem PutZ.at_ {β:Type} {M r:Nat} {J:(Nat→Prop)→β→World→Prop} (h:PutZ M J) (hr:M≤r):PutA r J:=fun S s W l o o' e=>h S s W l o o' oM
section
variable {P:Program} {α:Type} {g:Operand} {ps:Array Tmp} {assign body:Code} {Q:Exit→Act→World→Prop} {a:Act} {w:World} {gf:Nat} {lb:Array Value}
 {Hd:α→Array Value→World→Prop} {xs:List α} {S0 X:Nat→Prop} {Pre:World→Prop}
theorem wp_rangeFunc_a (hg:a.eval g=.func (.func gf) #[] lb) (eg:∀ args w,(callFunc gf args).run P w=.ok (.enter gf args) w)
  {M0:Nat} (hseq:SeqZ P gf lb Hd xs S0 X M0 Pre) (hM0:M0≤w.heap.size) (hPre:∀ w',Kp w.heap.size none w w'→Pre w') (hps:∀ x v W,Hd x v W→v.size=ps.size) (hS0:∀ k,S0 k→k<w.heap.size∧¬ X k) (hX:∀ k,X k→k<w.heap.size)
  (C:(Nat→Prop)→List α→World→Prop) (Cx:Code→(Nat→Prop)→List α→World→Prop) (hC:AbideZ C) (hCx:∀ c,AbideZ (Cx c)) (hCp:PutA (w.heap.size+1) C) (hCxp:∀ c,PutA (w.heap.size+1) (Cx c)) (h0:C S0 [] w)
  (hround:∀ (l:Nat) (S:Nat→Prop) (pre:List α) (x:α) (rest:List α) (vals:Array Value) (W:World) (K:Act→World→Prop),xs=pre++x::rest→C S pre W→Hd x vals W→l=w.heap.size+1→w.heap.size+2≤W.heap.size →
   Kz w.heap.size (fun k=>X k∨S0 k) w W→(∀ k,S k→¬ X k∧(k<w.heap.size→S0 k)) →
   (∀ a₁ W₁,Kp W.heap.size none W W₁→(∀ W₂,Kp W₁.heap.size (some l) W₁ W₂→W₂.heap.size=W₁.heap.size→(∃ r,W₂.heap[l]?=some (.loop r))→C S pre W₂ →
    body.wpIn (Fence.wide.inRound l) 0 P (roundZ X C Cx S (pre++[x]) W₂) a₁ W₂)→K a₁ W₁) →
   assign.wpIn (Fence.wide.inRound l) 0 P (Exit.then K (fun _ _ _=>False)) { tmps:=(ps.zip vals).foldl (fun t (p,v)=>t.setIfInBounds p v) a.tmps,defers:=[] } W)
  (hdone:∀ (W:World),C S0 xs W→Kz w.heap.size (fun k=>X k∨S0 k) w W→W.heap[w.heap.size]?=some (.deferred (some []))→w.heap.size+2≤W.heap.size→Q .normal { a with defers:={ target:=.collected w.heap.size,args:=#[] }::a.defers } W)
  (hstop:∀ (c:Code) (pre:List α) (W:World),Cx c S0 pre W→Kz w.heap.size (fun k=>X k∨S0 k) w W→W.heap[w.heap.size]?=some (.deferred (some []))→w.heap.size+2≤W.heap.size→c.wpIn Fence.wide 0 P Q { a with defers:={ target:=.collected w.heap.size,args:=#[] }::a.defers } W) :
  (Code.rangeFunc g ps assign body).wp P Q a w:=by
 refine(wpIn_wide (n:=0)).1 (wpIn_rangeFunc ?_);intro fn hfn;rw[show Fence.wide.round=none from rfl];obtain⟨rec,hrec⟩:∃ rec:LoopState→Option Code→Loop,rec=fun st pe=>{ state:=st,pending:=pe,fn,tmps:=a.tmps,params:=ps,assign,body,defers:=w.heap.size }:=⟨_,rfl⟩;obtain⟨W1,hW1⟩:∃ W1,(w.alloc (.deferred (some []))).alloc (.loop (rec .ready none))=W1:=⟨_,rfl⟩
 have hL1:W1.heap[w.heap.size+1]?=some (.loop (rec .ready none)):=by
  rw[← hW1];have:=World.alloc_heap_new (w.alloc (.deferred (some []))) (.loop (rec .ready none));rwa [World.size_alloc] at this
 have hK1:W1.heap[w.heap.size]?=some (.deferred (some [])):=by
  rw[← hW1];exact(Below.heap_alloc _ _ _ (by simp)).trans (World.alloc_heap_new w _)
 have hk1:Kp w.heap.size none w W1:=by
  rw[← hW1];exact((Kp.refl w.heap.size none w).alloc (Nat.le_refl _) _).alloc (by simp) _
 have hs1:w.heap.size+2≤W1.heap.size:=by rw[← hW1];simp
 obtain⟨M,hM⟩:∃ M,M=w.heap.size:=⟨_,rfl⟩;obtain⟨B,hB⟩:∃ B:(Nat→Prop)→World→Prop,B=fun S W=>W.heap[w.heap.size]?=some (.deferred (some []))∧(∀ k,S k→¬ X k∧(k<w.heap.size→S0 k)∧k≠w.heap.size∧k≠w.heap.size+1)∧Kz w.heap.size (fun k=>X k∨S0 k) w W∧w.heap.size+2≤W.heap.size:=⟨_,rfl⟩;have hBe:∀ S W,B S W↔(W.heap[w.heap.size]?=some (.deferred (some []))∧(∀ k,S k→¬ X k∧(k<w.heap.size→S0 k)∧k≠w.heap.size∧k≠w.heap.size+1)∧Kz w.heap.size (fun k=>X k∨S0 k) w W∧w.heap.size+2≤W.heap.size):=fun S W=>by rw[hB]
 clear hB
 have Bstep:∀ S W W' row,B S W→Kp W.heap.size row W W'→(∀ r,row=some r→S r)→B (fun k=>S k∨(W.heap.size≤k∧k<W'.heap.size)) W':=fun S W W' row h hk hr=>by
  obtain⟨h1,h2,h3,h4⟩:=(hBe _ _).1 h;have hz:=hk.size;refine(hBe _ _).2 ⟨(hk.block _ oM (fun e=>(h2 _ (hr _ e.symm)).2.2.1 rfl)).trans h1,?_,h3.then_ hk oM (fun r e hlt=>.inr ((h2 r (hr r e)).2.1 hlt)),by omega⟩;rintro k (hk'|hk')
  · exact h2 k hk'
  · exact⟨fun hx=>by have:=hX k hx;omega,fun hlt=>by omega,by omega,by omega⟩
 have Bless:∀ S S' W,B S W→(∀ k,S' k→S k)→B S' W:=fun S S' W h hs=>by
  obtain⟨h1,h2,h3,h4⟩:=(hBe _ _).1 h;exact(hBe _ _).2 ⟨h1,fun k hk=>h2 k (hs k hk),h3,h4⟩
 have Brec:∀ S W W' row,B S W→Kp W.heap.size row W W'→(∀ r,row=some r→S r)→∀ o,W.heap[w.heap.size+1]?=some o→W'.heap[w.heap.size+1]?=some o:=fun S W W' row h hk hr o ho=>by
  obtain⟨h1,h2,h3,h4⟩:=(hBe _ _).1 h;exact(hk.block _ oM (fun e=>(h2 _ (hr _ e.symm)).2.2.2 rfl)).trans ho
 have Bz:∀ S W W',B S W→Kz W.heap.size X W W'→B S W':=fun S W W' h hk=>by
  obtain⟨h1,h2,h3,h4⟩:=(hBe _ _).1 h;have hz:=hk.size;exact(hBe _ _).2 ⟨(hk.block _ oM (fun e=>by have:=hX _ e;omega)).trans h1,h2,h3.trans (hk.less oM (fun k _ hx=>.inl hx)),by omega⟩
 have Bput:∀ S W o',B S W→B S (W.putObj (w.heap.size+1) o'):=fun S W o' h=>by
  obtain⟨h1,h2,h3,h4⟩:=(hBe _ _).1 h;exact(hBe _ _).2 ⟨(World.putObj_heap_other oM).trans h1,h2,h3.trans ⟨rfl,rfl,rfl,by simp,fun i hi _=>World.putObj_heap_other oM⟩,by simp;omega⟩
 refine⟨w.heap.size+1,[{ target:=.collected w.heap.size,args:=#[] }],W1,{ target:=.fn (.func gf) lb,args:=#[.func (.yield (w.heap.size+1)) #[] #[]] },W1,gf,
  #[.func (.yield (w.heap.size+1)) #[] #[]]++lb,W1,?_,?_,fun _ _=>trivial,?_,fun h=>(by cases h),?_⟩
 · rw[← hW1,hrec];exact run_enterLoop_outer _ _ _ _ _
 ·
  simp only[resolve,hg];simp[go_sem]
 · simp[invoke,go_sem,eg]
 ·
  refine callsIn_wide.2 ((hseq (w.heap.size+1)
   (fun S pre W=>C S pre W∧W.heap[w.heap.size+1]?=some (.loop (rec .ready none))∧B S W)
   (fun S pre W=>∃ c,Cx c S pre W∧W.heap[w.heap.size+1]?=some (.loop (rec .done (some c)))∧B S W)
   W1 oM ⟨?_,?_⟩ ⟨?_,?_⟩ ?_ ⟨hC.keepN h0 hk1,hL1,(hBe _ _).2 ⟨hK1,fun k hk=>⟨(hS0 k hk).2,fun _=>hk,by have:=(hS0 k hk).1;omega,by have:=(hS0 k hk).1;omega⟩,.ofN hk1,hs1⟩⟩ (hPre _ hk1)).mono ?_)
  ·
   rintro S s W W' row ⟨h1,h2,h3⟩ hk hr;exact⟨hC.step _ _ _ _ _ h1 hk hr,Brec _ _ _ _ h3 hk hr _ h2,Bstep _ _ _ _ h3 hk hr⟩
  ·
   rintro S S' s W ⟨h1,h2,h3⟩ hs;exact⟨hC.less _ _ _ _ h1 hs,h2,Bless _ _ _ h3 hs⟩
  ·
   rintro S s W W' row ⟨c,h1,h2,h3⟩ hk hr;exact⟨c,(hCx c).step _ _ _ _ _ h1 hk hr,Brec _ _ _ _ h3 hk hr _ h2,Bstep _ _ _ _ h3 hk hr⟩
  ·
   rintro S S' s W ⟨c,h1,h2,h3⟩ hs;exact⟨c,(hCx c).less _ _ _ _ h1 hs,h2,Bless _ _ _ h3 hs⟩
  ·
   rintro S pre x rest vals W hxs ⟨hi,hl,hb⟩ hd;have hy:=run_yield (P:=P) (args:=vals) hl (by rw[hrec];exact hps x vals W hd);rw[hrec] at hy;have hb':=(hBe _ _).1 hb;refine⟨fn,_,assign,body,hy,roundIn_of_wpIn hfn (hround _ S pre x rest vals W _ hxs hi hd rfl hb'.2.2.2 hb'.2.2.1 (fun k hk=>⟨(hb'.2.1 k hk).1,(hb'.2.1 k hk).2.1⟩) fun a₁ W₂ hkw hbody=>?_)⟩;have hzw:=hkw.size;have hl2:=Brec _ _ _ _ hb hkw (fun _ e=>by cases e) _ hl;have hb2:B S W₂:=Bless _ _ _ (Bstep _ _ _ _ hb hkw (fun _ e=>by cases e)) fun _ h=>.inl h;have hz2:=((hBe _ _).1 hb2).2.2.2;refine⟨_,run_beginRound hl2 (by rw[hrec]),?_⟩;obtain⟨W₃,hW₃⟩:∃ W₃,W₃=W₂.putObj (w.heap.size+1) (.loop { rec .ready none with state:=.busy }):=⟨_,rfl⟩;have hs3:W₃.heap.size=W₂.heap.size:=by rw[hW₃];simp
   have hl3:W₃.heap[w.heap.size+1]?=some (.loop { rec .ready none with state:=.busy }):=by rw[hW₃];exact World.putObj_heap_same oM
   have hb3:B S W₃:=hW₃ ▸ Bput _ _ _ hb2;have hi3:C S pre W₃:=hW₃ ▸ hCp _ _ _ _ _ _ rfl (hC.keepN hi hkw) hl2 rfl;have ho3:∀ k,k≠w.heap.size+1→W₃.heap[k]?=W₂.heap[k]?:=fun k hk=>by rw[hW₃];exact World.putObj_heap_other hk
   have hk3:Kp W₂.heap.size (some (w.heap.size+1)) W₂ W₃:=by rw[hW₃];exact⟨rfl,rfl,rfl,by simp,fun i _ hn=>World.putObj_heap_other (fun e=>hn (by rw[e]))⟩
   replace hbody:=hbody W₃ hk3 hs3 ⟨_,hl3⟩ hi3;rw[← hW₃];refine wpIn_mono hbody ?_
   have fin:∀ (jump:Option Code) (W₄:World),Kz W₃.heap.size X W₃ W₄ →
     (Instr.endRound (w.heap.size+1) jump).run P W₄=.ok (.bool jump.isNone) (W₄.putObj (w.heap.size+1) (.loop (rec (if jump.isNone then .ready else .done) jump))) ∧
     W₄.heap[w.heap.size+1]?=some (.loop { rec .ready none with state:=.busy }) ∧
     (W₄.putObj (w.heap.size+1) (.loop (rec (if jump.isNone then .ready else .done) jump))).heap[w.heap.size+1]?=some (.loop (rec (if jump.isNone then .ready else .done) jump)) ∧
     B S (W₄.putObj (w.heap.size+1) (.loop (rec (if jump.isNone then .ready else .done) jump))):=fun jump W₄ hk4=>by
    have hl4:=(hk4.block (w.heap.size+1) oM (fun e=>by have:=hX _ e;omega)).trans hl3;have hz4:=hk4.size;have:=run_endRound (P:=P) jump hl4;rw[hrec] at this ⊢;exact⟨this,by rw[hrec] at hl4;exact hl4,World.putObj_heap_same oM,Bput _ _ _ (Bz _ _ _ hb3 hk4)⟩
   have stop:∀ (W₄:World) (o':Obj),Kz W₃.heap.size X W₃ W₄→Kz W.heap.size (fun k=>X k∨k=w.heap.size+1) W (W₄.putObj (w.heap.size+1) o'):=fun W₄ o' hk4=>by
    have hz4:=hk4.size
    exact⟨hk4.os.trans (hk3.os.trans hkw.os),hk4.tape.trans (hk3.tape.trans hkw.tape),hk4.output.trans (hk3.output.trans hkw.output),by simp;omega,fun k hk hx=>
     (World.putObj_heap_other (fun e=>hx (.inr e))).trans ((hk4.block k oM (fun e=>hx (.inl e))).trans ((ho3 k (fun e=>hx (.inr e))).trans (hkw.block k hk (by simp))))⟩
   rintro e a₃ W₄ hp;cases e with
   | normal=>
    obtain⟨hk4,hi4⟩:=hp;obtain⟨hr,hl4,hl5,hb5⟩:=fin none W₄ hk4;have hz4:=hk4.size;refine⟨_,_,hr,.inl ⟨rfl,⟨hCp _ _ _ _ _ _ rfl hi4 hl4 rfl,hl5,hb5⟩,?_⟩⟩;refine⟨hk4.os.trans (hk3.os.trans hkw.os),hk4.tape.trans (hk3.tape.trans hkw.tape),hk4.output.trans (hk3.output.trans hkw.output),by simp;omega,fun k hk hx=>?_⟩;by_cases e:k=w.heap.size+1
    · rw[e];exact hl5.trans hl.symm
    · exact(World.putObj_heap_other e).trans ((hk4.block k oM hx).trans ((ho3 k e).trans (hkw.block k hk (by simp))))
   | ret=>
    obtain⟨hk4,hi4⟩:=hp;obtain⟨hr,hl4,hl5,hb5⟩:=fin (some .ret) W₄ hk4;exact⟨_,_,hr,.inr ⟨rfl,⟨.ret,hCxp _ _ _ _ _ _ _ rfl hi4 hl4 rfl,hl5,hb5⟩,stop _ _ hk4⟩⟩
   | exit id=>
    obtain⟨hk4,hi4⟩:=hp;obtain⟨hr,hl4,hl5,hb5⟩:=fin (some (.exit id)) W₄ hk4;exact⟨_,_,hr,.inr ⟨rfl,⟨.exit id,hCxp _ _ _ _ _ _ _ rfl hi4 hl4 rfl,hl5,hb5⟩,stop _ _ hk4⟩⟩
   | goto t=>
    obtain⟨hk4,hi4⟩:=hp;obtain⟨hr,hl4,hl5,hb5⟩:=fin (some (.goto t)) W₄ hk4;exact⟨_,_,hr,.inr ⟨rfl,⟨.goto t,hCxp _ _ _ _ _ _ _ rfl hi4 hl4 rfl,hl5,hb5⟩,stop _ _ hk4⟩⟩
   | panic ch=>exact hp.elim
   | outgrown=>exact hp.elim
  ·
   rintro e W2 ⟨⟨v,rfl⟩,(⟨hi,hl,hb⟩|⟨pre,c,hi,hl,hb⟩)⟩
   ·
    have he:(Instr.endLoop (w.heap.size+1)).run P W2=.ok none (W2.putObj (w.heap.size+1) (.loop { rec .ready none with state:=.exhausted })):=by
     have:=run_endLoop (P:=P) hl (by rw[hrec];simp);rw[hrec] at this ⊢;exact this
    have q:=(hBe _ _).1 (Bput _ _ (.loop { rec .ready none with state:=.exhausted }) hb);exact⟨none,_,he,hdone _ (hCp _ _ _ _ _ _ rfl hi hl rfl) q.2.2.1 q.1 q.2.2.2⟩
   ·
    have he:(Instr.endLoop (w.heap.size+1)).run P W2=.ok (some c) (W2.putObj (w.heap.size+1) (.loop { rec .done (some c) with state:=.exhausted })):=by
     have:=run_endLoop (P:=P) hl (by rw[hrec];simp);rw[hrec] at this ⊢;exact this
    have q:=(hBe _ _).1 (Bput _ _ (.loop { rec .done (some c) with state:=.exhausted }) hb);exact⟨some c,_,he,hstop c pre _ (hCxp _ _ _ _ _ _ _ rfl hi hl rfl) q.2.2.1 q.1 q.2.2.2⟩
end
def InC {α β:Type} (R:Nat→Prop) (J:(Nat→Prop)→β→World→Prop) (f:List α→β) (S:Nat→Prop) (pre:List α) (W:World):Prop:=∃ T:Nat→Prop,(∀ k,R k→k<W.heap.size→T k)∧(∀ k,S k→T k)∧J T (f pre) W
theorem InC.abide {α β:Type} {R:Nat→Prop} {J:(Nat→Prop)→β→World→Prop} {f:List α→β} (hJ:AbideZ J):AbideZ (InC R J f) where
 step:=fun S s W W' row ⟨T,h1,h2,h3⟩ hk hr=>by
  refine⟨fun k=>T k∨(W.heap.size≤k∧k<W'.heap.size),fun k hRk hlt=>?_,?_,hJ.step T _ _ _ _ h3 hk (fun q e=>h2 q (hr q e))⟩
  ·
   by_cases e:k<W.heap.size
   · exact .inl (h1 k hRk e)
   · exact .inr ⟨by omega,hlt⟩
  ·
   rintro k (hk|hk)
   · exact .inl (h2 k hk)
   · exact .inr hk
 less:=fun S S' s W ⟨T,h1,h2,h3⟩ hs=>⟨T,h1,fun k hk=>h2 k (hs k hk),h3⟩
theorem J_put {β:Type} {J:(Nat→Prop)→β→World→Prop} (hJ:AbideZ J) {T:Nat→Prop} {s:β} {W:World} {l:Nat} (o':Obj) (hT:T l) (h:J T s W):J T s (W.putObj l o'):=by
 have hk:Kp W.heap.size (some l) W (W.putObj l o'):=⟨rfl,rfl,rfl,by simp,fun i _ hn=>World.putObj_heap_other (fun e=>hn (by rw[e]))⟩;exact hJ.less _ _ _ _ (hJ.step T _ _ _ _ h hk (fun q e=>by injection e with e;rw[← e];exact hT)) fun k hk=>.inl hk
theorem InC.put {α β:Type} {r:Nat} {R:Nat→Prop} {J:(Nat→Prop)→β→World→Prop} {f:List α→β} (hJ:AbideZ J) (hr:R r):PutA r (InC R J f):=by
 rintro S s W l o o' rfl ⟨T,h1,h2,h3⟩ ho hc;have hlt:l<W.heap.size:=(Array.getElem?_eq_some_iff.1 ho).1;exact⟨T,fun k hk hlk=>h1 k hk (by simpa using hlk),h2,J_put hJ o' (h1 l hr hlt) h3⟩
def InX {α β:Type} (R:Nat→Prop) (J:(Nat→Prop)→β→World→Prop) (c:Code) (S:Nat→Prop) (_:List α) (W:World):Prop:=c=.ret∧∃ (T:Nat→Prop) (p:β),(∀ k,R k→k<W.heap.size→T k)∧(∀ k,S k→T k)∧J T p W
theorem InX.abide {α β:Type} {R:Nat→Prop} {J:(Nat→Prop)→β→World→Prop} (hJ:AbideZ J) (c:Code):AbideZ (InX (α:=α) R J c) where
 step:=fun S s W W' row ⟨hc,T,p,h⟩ hk hr=>by
  obtain⟨T2,h1,h2,h3⟩:=(InC.abide (α:=α) (R:=R) (f:=fun _=>p) hJ).step S s W W' row ⟨T,h⟩ hk hr;exact⟨hc,T2,p,h1,h2,h3⟩
 less:=fun S S' s W ⟨hc,T,p,h1,h2,h3⟩ hs=>⟨hc,T,p,h1,fun k hk=>h2 k (hs k hk),h3⟩
theorem InX.put {α β:Type} {r:Nat} {R:Nat→Prop} {J:(Nat→Prop)→β→World→Prop} (hJ:AbideZ J) (hr:R r) (c:Code):PutA r (InX (α:=α) R J c):=by
 rintro S s W l o o' e ⟨hc,T,p,h⟩ ho hcl;obtain⟨T2,h1,h2,h3⟩:=InC.put (α:=α) (f:=fun _=>p) hJ hr S s W l o o' e ⟨T,h⟩ ho hcl;exact⟨hc,T2,p,h1,h2,h3⟩
def mark (D:Nat):Deferred:={ target:=.collected D,args:=#[] }
def Marks (l:List Nat) (W:World):Prop:=l.Nodup∧∀ D∈l,W.heap[D]?=some (.deferred (some []))
theorem leaves_marks {P:Program} {fn:Func} {tmps:Array Value} {R:Ending→World→Prop} {v:Value} (Inv:World→Prop) (hr:∀ w,Inv w→(results fn tmps).run P w=.ok v w):∀ (l:List Nat) (W:World),Marks l W →
  (∀ W D,D∈l→Inv W→Inv (W.putObj D (.deferred none)))→(∀ W,Inv W→R (.returned v) W)→Inv W→LeavesInM Fence.wide 0 P fn tmps R (l.map mark) .returning W
 | [],W,_,_,h,h0=>⟨v,hr W h0,h W h0⟩
 | D::r,W,⟨hn,hm⟩,hI,h,h0=>by
  rw[List.nodup_cons] at hn;refine⟨by simp,.inl ⟨D,W.putObj D (.deferred none),rfl,run_takeDeferred (hm D (by simp)),?_⟩⟩;exact leaves_marks Inv hr r _ ⟨hn.2,fun E hE=>(World.putObj_heap_other (fun e=>hn.1 (by rw[← e];exact hE))).trans (hm E (by simp[hE]))⟩ (fun W E hE=>hI W E (by simp[hE])) h (hI W D (by simp) h0)
theorem yield_lt {P:Program} {l:Nat} {args:Array Value} {W:World} {R:Ending→World→Prop} (h:YieldAt Fence.wide 0 P l args W R):l<W.heap.size:=by
 obtain⟨fn,tmps,assign,body,hy,-⟩:=h;by_cases hl:l<W.heap.size
 · exact hl
 ·
  exfalso
  have e:W.heap[l]?=none:=Array.getElem?_eq_none oM;simp[Instr.yield,Instr.getLoop,getObj,Sem.run,Result.andThen,e,go_sem] at hy
def coneC (c:Cone):Array Value:=#[c.fx,c.fy,c.dx,c.dy,c.low,c.high]
structure Cone.sm (c:Cone):Prop where
 f:-5000≤c.fx∧c.fx≤5000∧-5000≤c.fy∧c.fy≤5000
 d:-4096≤c.dx∧c.dx≤4096∧-4096≤c.dy∧c.dy≤4096
 l:-1000000≤c.low∧c.low≤1000000∧-1000000≤c.high∧c.high≤1000000
def NearV (p:Pt):Prop:=-33554432≤p.x∧p.x≤33554432∧-33554432≤p.y∧p.y≤33554432
end Go.Proofs.YtdhiappifnflpaaGreatDoor
namespace Go.Proofs.YtdhiappifnflpaaGreatDoor
open Go.RowKit
attribute [local go_sem] Oper.semAt_some
def HdV (p:Pt) (v:Array Value) (_:World):Prop:=v=#[.agg #[p.x,p.y]]
end Go.Proofs.YtdhiappifnflpaaGreatDoor
namespace Go.Proofs.YtdhiappifnflpaaGreatDoor
open Go.RowKit
def SgPost (S:Sky) (x:Sg) (w:World) (e:Ending) (w':World):Prop:=(∃ v:Int,e=.returned (.int .i64 v)∧(v=0↔S.okSg x))∧Kp w.heap.size none w w'
def Look.sm:Look→Prop
 | .angle c=>c.sm
 | .reach fx fy lo hi=>(-5000≤fx∧fx≤5000∧-5000≤fy∧fy≤5000)∧0≤lo∧lo≤hi∧hi≤134217728
 | .empty c hi=>c.sm∧1≤hi∧hi≤134217728
def AgrPost (S:Sky) (x:Sg) (p:Pt) (w:World) (e:Ending) (w':World):Prop:=(∃ r:Bool,e=.returned (.bool r)∧(r=true→S.okSg x∧(S.look x).agrees p=true))∧Kp w.heap.size none w w'
end Go.Proofs.YtdhiappifnflpaaGreatDoor
namespace Go.Proofs.YtdhiappifnflpaaGreatDoor
open Go.RowKit
attribute [local go_sem] Oper.semAt_some
theorem NearV.crn {a:Ar} (h:a.bd 33554432):∀ p∈a.crn,NearV p:=by
 unfold Ar.bd Sp.bd at h;intro p hp;simp only[Ar.crn,List.mem_cons,List.not_mem_nil,or_false] at hp;unfold NearV;rcases hp with rfl|rfl|rfl|rfl<;>simp only<;>omega
def AllB (f:Pt→Bool) (x:Nat) (S:Nat→Prop) (pre:List Pt) (W:World):Prop:=pre.all f=true∧Blk W x 4 #[.bool false]∧¬ S x
theorem AllB.abide (f:Pt→Bool) (x:Nat):AbideZ (AllB f x) where
 step:=fun S s W W' row ⟨h1,h3,h4⟩ hk hr=>by
  refine⟨h1,h3.kp hk h3.lt (fun e=>h4 (hr _ e.symm)),?_⟩;rintro (q|q)
  · exact h4 q
  · have:=h3.lt;omega
 less:=fun S S' s W ⟨h1,h3,h4⟩ hs=>⟨h1,h3,fun q=>h4 (hs _ q)⟩
theorem AllB.put (f:Pt→Bool) (x M:Nat):PutZ M (AllB f x):=fun S s W l o o' _ ⟨h1,h3,h4⟩ ho hc=>⟨h1,h3.put_ o' ho hc,h4⟩
def StopB (b:Bool) (G:Prop) (x:Nat) (c:Code) (S:Nat→Prop) (_:List Pt) (W:World):Prop:=c=.ret∧G∧Blk W x 4 #[.bool b]∧¬ S x
theorem StopB.abide (b:Bool) (G:Prop) (x:Nat) (c:Code):AbideZ (StopB b G x c) where
 step:=fun S s W W' row ⟨h1,h2,h3,h4⟩ hk hr=>by
  refine⟨h1,h2,h3.kp hk h3.lt (fun e=>h4 (hr _ e.symm)),?_⟩;rintro (q|q)
  · exact h4 q
  · have:=h3.lt;omega
 less:=fun S S' s W ⟨h1,h2,h3,h4⟩ hs=>⟨h1,h2,h3,fun q=>h4 (hs _ q)⟩
theorem StopB.put (b:Bool) (G:Prop) (x:Nat) (c:Code) (M:Nat):PutZ M (StopB b G x c):=fun S s W l o o' _ ⟨h1,h2,h3,h4⟩ ho hc=>⟨h1,h2,h3.put_ o' ho hc,h4⟩
def TestP (g:Nat) (lb:Array Value) (f:Pt→Bool) (L:List Pt) (w:World):Prop:=∀ (W:World) (p:Pt),p∈L→Kp w.heap.size none w W→Calls Tryz.prog g (#[.agg #[p.x,p.y]]++lb) W fun e w'=>e=.returned (.bool (f p))∧Kp W.heap.size none W w'
theorem Kz.under {M N x:Nat} {w w':World} (h:Kz M (fun k=>k=x∨False) w w') (hN:N≤M) (hx:N≤x):Kp N none w w':=
 (h.less hN (fun k hk e=>by rcases e with e|e;exact absurd e oM;exact e):Kz N (fun _=>False) w w').kpN
theorem mark_kp {D B:Nat} {w w':World} (h:Kp B none w w') (hD:B≤D):Kp B none w (w'.putObj D (.deferred none)):=
 h.trans ⟨rfl,rfl,rfl,by simp,fun i hi _=>World.putObj_heap_other oM⟩
end Go.Proofs.YtdhiappifnflpaaGreatDoor
