/- A range over a function whose body may leave early, at the top or within a round: the iterator's contract and the laws for the statement. Plain theory over Derived/RangeFuncIn, no program. -/
import Derived.Test.YtdhiappifnflpaaGreatDoorInv
import Derived.RangeFuncNested
import Derived.RangeFuncRecord
namespace Go.Proofs.YtdhiappifnflpaaGreatDoor
open Go.RowKit
structure Kz (M:Nat) (X:Nat→Prop) (w w':World):Prop where
 os:w'.os=w.os
 tape:w'.tape=w.tape
 output:w'.output=w.output
 size:w.heap.size≤w'.heap.size
 block:∀ k,k<M→¬ X k→w'.heap[k]?=w.heap[k]?
section
variable {M M':Nat} {X Y:Nat→Prop} {row:Option Nat} {w w' w1 w2:World}
theorem Kz.refl (M:Nat) (X:Nat→Prop) (w:World):Kz M X w w:=⟨rfl,rfl,rfl,Nat.le_refl _,fun _ _ _=>rfl⟩
theorem Kz.trans (h:Kz M X w w1) (k:Kz M X w1 w2):Kz M X w w2:=⟨k.os.trans h.os,k.tape.trans h.tape,k.output.trans h.output,Nat.le_trans h.size k.size,fun i hi hn=>(k.block i hi hn).trans (h.block i hi hn)⟩
theorem Kz.less (h:Kz M X w w') (hM:M'≤M) (hX:∀ k,k<M'→X k→Y k):Kz M' Y w w':=⟨h.os,h.tape,h.output,h.size,fun k hk hn=>h.block k oM fun hx=>hn (hX k hk hx)⟩
theorem Kz.of (h:Kp M row w w') (hr:∀ r,row=some r→r<M→X r):Kz M X w w':=⟨h.os,h.tape,h.output,h.size,fun k hk hn=>h.block k hk fun e=>hn (hr k e.symm hk)⟩
theorem Kz.ofN (h:Kp M none w w'):Kz M X w w':=.of h fun _ e=>by cases e
theorem Kz.then_ (h:Kz M X w w1) (k:Kp w1.heap.size row w1 w2) (hM:M≤w1.heap.size) (hr:∀ r,row=some r→r<M→X r):Kz M X w w2:=h.trans (.of (k.mono hM) hr)
theorem Kz.thenN (h:Kz M X w w1) (k:Kp w1.heap.size none w1 w2) (hM:M≤w1.heap.size):Kz M X w w2:=h.then_ k hM fun _ e=>by cases e
theorem Kz.kp (h:Kz M X w w') (hX:∀ k,k<M→X k→some k=row):Kp M row w w':=⟨h.os,h.tape,h.output,h.size,fun k hk hn=>h.block k hk fun hx=>hn (hX k hk hx)⟩
theorem Kz.kpN (h:Kz M (fun _=>False) w w'):Kp M none w w':=h.kp fun _ _ h=>h.elim
theorem Blk.kz {g:Nat} {t:TypeId} {cs:Array Value} (h:Blk w g t cs) (hk:Kz M X w w') (hg:g<M) (hn:¬ X g):Blk w' g t cs:=(hk.block g hg hn).trans h
end
structure AbideZ {β:Type} (J:(Nat→Prop)→β→World→Prop):Prop where
 step:∀ S s W W' row,J S s W→Kp W.heap.size row W W'→(∀ r,row=some r→S r)→J (fun k=>S k∨(W.heap.size≤k∧k<W'.heap.size)) s W'
 less:∀ S S' s W,J S s W→(∀ k,S' k→S k)→J S' s W
section
variable {β:Type} {J:(Nat→Prop)→β→World→Prop} {S S':Nat→Prop} {s:β} {W W':World} {row:Option Nat}
theorem AbideZ.keep (h:AbideZ J) (hj:J S s W) (hk:Kp W.heap.size row W W') (hr:∀ r,row=some r→S r):J S s W':=h.less _ _ _ _ (h.step _ _ _ _ _ hj hk hr) fun _ hk=>.inl hk
theorem AbideZ.keepN (h:AbideZ J) (hj:J S s W) (hk:Kp W.heap.size none W W'):J S s W':=h.keep hj hk (fun _ e=>by cases e)
end
def PutZ {β:Type} (M:Nat) (J:(Nat→Prop)→β→World→Prop):Prop:=∀ S s W l o o',M≤l→J S s W→W.heap[l]?=some o→o.isCells=false→J S s (W.putObj l o')
def SeqZ {α:Type} (P:Program) (gf:Nat) (lb:Array Value) (Hd:α→Array Value→World→Prop) (xs:List α) (S0 X:Nat→Prop) (M:Nat) (Pre:World→Prop):Prop:=
 ∀ (l:Nat) (J Jx:(Nat→Prop)→List α→World→Prop) (W:World),M≤l→AbideZ J→AbideZ Jx →
  (∀ S pre x rest vals W1,xs=pre++x::rest→J S pre W1→Hd x vals W1→YieldAt Fence.wide 0 P l vals W1 fun e W'=>
   (e=.returned (.bool true)∧J S (pre++[x]) W'∧Kz W1.heap.size X W1 W')∨(e=.returned (.bool false)∧Jx S (pre++[x]) W'∧Kz W1.heap.size (fun k=>X k∨k=l) W1 W')) →
  J S0 [] W→Pre W →
  Calls P gf (#[.func (.yield l) #[] #[]]++lb) W fun e W'=>(∃ v,e=.returned v)∧(J S0 xs W'∨∃ pre,Jx S0 pre W')
def roundZ {α:Type} (X:Nat→Prop) (C:(Nat→Prop)→List α→World→Prop) (Cx:Code→(Nat→Prop)→List α→World→Prop) (S:Nat→Prop) (xs:List α) (W:World):Exit→Act→World→Prop
 | .normal,_,W'=>Kz W.heap.size X W W'∧C S xs W'
 | .ret,_,W'=>Kz W.heap.size X W W'∧Cx .ret S xs W'
 | .exit id,_,W'=>Kz W.heap.size X W W'∧Cx (.exit id) S xs W'
 | .goto t,_,W'=>Kz W.heap.size X W W'∧Cx (.goto t) S xs W'
 | .panic _,_,_=>False
 | .outgrown,_,_=>False
section
variable {P:Program} {α:Type} {g:Operand} {ps:Array Tmp} {assign body:Code} {Q:Exit→Act→World→Prop} {a:Act} {w:World} {gf:Nat} {lb:Array Value}
 {Hd:α→Array Value→World→Prop} {xs:List α} {S0 X:Nat→Prop} {Pre:World→Prop}
theorem wp_rangeFunc_z (hg:a.eval g=.func (.func gf) #[] lb) (eg:∀ args w,(callFunc gf args).run P w=.ok (.enter gf args) w)
  {M0:Nat} (hseq:SeqZ P gf lb Hd xs S0 X M0 Pre) (hM0:M0≤w.heap.size) (hPre:∀ w',Kp w.heap.size none w w'→Pre w') (hps:∀ x v W,Hd x v W→v.size=ps.size) (hS0:∀ k,S0 k→k<w.heap.size∧¬ X k) (hX:∀ k,X k→k<w.heap.size)
  (C:(Nat→Prop)→List α→World→Prop) (Cx:Code→(Nat→Prop)→List α→World→Prop) (hC:AbideZ C) (hCx:∀ c,AbideZ (Cx c)) (hCp:PutZ w.heap.size C) (hCxp:∀ c,PutZ w.heap.size (Cx c)) (h0:C S0 [] w)
  (hround:∀ (l:Nat) (S:Nat→Prop) (pre:List α) (x:α) (rest:List α) (vals:Array Value) (W:World) (K:Act→World→Prop),xs=pre++x::rest→C S pre W→Hd x vals W→l=w.heap.size+1→w.heap.size+2≤W.heap.size →
   Kz w.heap.size (fun k=>X k∨S0 k) w W→(∀ k,S k→¬ X k∧(k<w.heap.size→S0 k)) →
   (∀ a₁ W₁,Kp W.heap.size none W W₁→(∀ W₂,Kp W₁.heap.size (some l) W₁ W₂→W₂.heap.size=W₁.heap.size→(∃ r,W₂.heap[l]?=some (.loop r))→C S pre W₂ →
    body.wpIn (Fence.wide.inRound l) 0 P (roundZ X C Cx S (pre++[x]) W₂) a₁ W₂)→K a₁ W₁) →
   assign.wpIn (Fence.wide.inRound l) 0 P (Exit.then K (fun _ _ _=>False)) { tmps:=(ps.zip vals).foldl (fun t (p,v)=>t.setIfInBounds p v) a.tmps,defers:=[] } W)
  (hdone:∀ (W:World),C S0 xs W→Kz w.heap.size (fun k=>X k∨S0 k) w W→W.heap[w.heap.size]?=some (.deferred (some []))→w.heap.size+2≤W.heap.size→Q .normal { a with defers:={ target:=.collected w.heap.size,args:=#[] }::a.defers } W)
  (hstop:∀ (c:Code) (pre:List α) (W:World),Cx c S0 pre W→Kz w.heap.size (fun k=>X k∨S0 k) w W→W.heap[w.heap.size]?=some (.deferred (some []))→w.heap.size+2≤W.heap.size→c.wpIn Fence.wide 0 P Q { a with defers:={ target:=.collected w.heap.size,args:=#[] }::a.defers } W) :
  (Code.rangeFunc g ps assign body).wp P Q a w:=by
 refine(wpIn_wide (n:=0)).1 (wpIn_rangeFunc ?_);intro fn hfn;rw[show Fence.wide.round=none from rfl];obtain⟨rec,hrec⟩:∃ rec:LoopState→Option Code→Loop,rec=fun st pe=>{ state:=st,pending:=pe,fn,tmps:=a.tmps,params:=ps,assign,body,defers:=w.heap.size }:=⟨_,rfl⟩;obtain⟨W1,hW1⟩:∃ W1,(w.alloc (.deferred (some []))).alloc (.loop (rec .ready none))=W1:=⟨_,rfl⟩
 have hL1:W1.heap[w.heap.size+1]?=some (.loop (rec .ready none)):=by
  rw[← hW1];have:=World.alloc_heap_new (w.alloc (.deferred (some []))) (.loop (rec .ready none));rwa [World.size_alloc] at this
 have hK1:W1.heap[w.heap.size]?=some (.deferred (some [])):=by
  rw[← hW1];exact(Below.heap_alloc _ _ _ (by simp)).trans (World.alloc_heap_new w _)
 have hk1:Kp w.heap.size none w W1:=by
  rw[← hW1];exact((Kp.refl w.heap.size none w).alloc (Nat.le_refl _) _).alloc (by simp) _
 have hs1:w.heap.size+2≤W1.heap.size:=by rw[← hW1];simp
 obtain⟨M,hM⟩:∃ M,M=w.heap.size:=⟨_,rfl⟩;obtain⟨B,hB⟩:∃ B:(Nat→Prop)→World→Prop,B=fun S W=>W.heap[w.heap.size]?=some (.deferred (some []))∧(∀ k,S k→¬ X k∧(k<w.heap.size→S0 k)∧k≠w.heap.size∧k≠w.heap.size+1)∧Kz w.heap.size (fun k=>X k∨S0 k) w W∧w.heap.size+2≤W.heap.size:=⟨_,rfl⟩;have hBe:∀ S W,B S W↔(W.heap[w.heap.size]?=some (.deferred (some []))∧(∀ k,S k→¬ X k∧(k<w.heap.size→S0 k)∧k≠w.heap.size∧k≠w.heap.size+1)∧Kz w.heap.size (fun k=>X k∨S0 k) w W∧w.heap.size+2≤W.heap.size):=fun S W=>by rw[hB]
 clear hB
 have Bstep:∀ S W W' row,B S W→Kp W.heap.size row W W'→(∀ r,row=some r→S r)→B (fun k=>S k∨(W.heap.size≤k∧k<W'.heap.size)) W':=fun S W W' row h hk hr=>by
  obtain⟨h1,h2,h3,h4⟩:=(hBe _ _).1 h;have hz:=hk.size;refine(hBe _ _).2 ⟨(hk.block _ oM (fun e=>(h2 _ (hr _ e.symm)).2.2.1 rfl)).trans h1,?_,h3.then_ hk oM (fun r e hlt=>.inr ((h2 r (hr r e)).2.1 hlt)),by omega⟩;rintro k (hk'|hk')
  · exact h2 k hk'
  · exact⟨fun hx=>by have:=hX k hx;omega,fun hlt=>by omega,by omega,by omega⟩
 have Bless:∀ S S' W,B S W→(∀ k,S' k→S k)→B S' W:=fun S S' W h hs=>by
  obtain⟨h1,h2,h3,h4⟩:=(hBe _ _).1 h;exact(hBe _ _).2 ⟨h1,fun k hk=>h2 k (hs k hk),h3,h4⟩
 have Brec:∀ S W W' row,B S W→Kp W.heap.size row W W'→(∀ r,row=some r→S r)→∀ o,W.heap[w.heap.size+1]?=some o→W'.heap[w.heap.size+1]?=some o:=fun S W W' row h hk hr o ho=>by
  obtain⟨h1,h2,h3,h4⟩:=(hBe _ _).1 h;exact(hk.block _ oM (fun e=>(h2 _ (hr _ e.symm)).2.2.2 rfl)).trans ho
 have Bz:∀ S W W',B S W→Kz W.heap.size X W W'→B S W':=fun S W W' h hk=>by
  obtain⟨h1,h2,h3,h4⟩:=(hBe _ _).1 h;have hz:=hk.size;exact(hBe _ _).2 ⟨(hk.block _ oM (fun e=>by have:=hX _ e;omega)).trans h1,h2,h3.trans (hk.less oM (fun k _ hx=>.inl hx)),by omega⟩
 have Bput:∀ S W o',B S W→B S (W.putObj (w.heap.size+1) o'):=fun S W o' h=>by
  obtain⟨h1,h2,h3,h4⟩:=(hBe _ _).1 h;exact(hBe _ _).2 ⟨(World.putObj_heap_other oM).trans h1,h2,h3.trans ⟨rfl,rfl,rfl,by simp,fun i hi _=>World.putObj_heap_other oM⟩,by simp;omega⟩
 refine⟨w.heap.size+1,[{ target:=.collected w.heap.size,args:=#[] }],W1,{ target:=.fn (.func gf) lb,args:=#[.func (.yield (w.heap.size+1)) #[] #[]] },W1,gf,
  #[.func (.yield (w.heap.size+1)) #[] #[]]++lb,W1,?_,?_,fun _ _=>trivial,?_,fun h=>(by cases h),?_⟩
 · rw[← hW1,hrec];exact run_enterLoop_outer _ _ _ _ _
 ·
  simp only[resolve,hg];simp[go_sem]
 · simp[invoke,go_sem,eg]
 ·
  refine callsIn_wide.2 ((hseq (w.heap.size+1)
   (fun S pre W=>C S pre W∧W.heap[w.heap.size+1]?=some (.loop (rec .ready none))∧B S W)
   (fun S pre W=>∃ c,Cx c S pre W∧W.heap[w.heap.size+1]?=some (.loop (rec .done (some c)))∧B S W)
   W1 oM ⟨?_,?_⟩ ⟨?_,?_⟩ ?_ ⟨hC.keepN h0 hk1,hL1,(hBe _ _).2 ⟨hK1,fun k hk=>⟨(hS0 k hk).2,fun _=>hk,by have:=(hS0 k hk).1;omega,by have:=(hS0 k hk).1;omega⟩,.ofN hk1,hs1⟩⟩ (hPre _ hk1)).mono ?_)
  ·
   rintro S s W W' row ⟨h1,h2,h3⟩ hk hr;exact⟨hC.step _ _ _ _ _ h1 hk hr,Brec _ _ _ _ h3 hk hr _ h2,Bstep _ _ _ _ h3 hk hr⟩
  ·
   rintro S S' s W ⟨h1,h2,h3⟩ hs;exact⟨hC.less _ _ _ _ h1 hs,h2,Bless _ _ _ h3 hs⟩
  ·
   rintro S s W W' row ⟨c,h1,h2,h3⟩ hk hr;exact⟨c,(hCx c).step _ _ _ _ _ h1 hk hr,Brec _ _ _ _ h3 hk hr _ h2,Bstep _ _ _ _ h3 hk hr⟩
  ·
   rintro S S' s W ⟨c,h1,h2,h3⟩ hs;exact⟨c,(hCx c).less _ _ _ _ h1 hs,h2,Bless _ _ _ h3 hs⟩
  ·
   rintro S pre x rest vals W hxs ⟨hi,hl,hb⟩ hd;have hy:=run_yield (P:=P) (args:=vals) hl (by rw[hrec];exact hps x vals W hd);rw[hrec] at hy;have hb':=(hBe _ _).1 hb;refine⟨fn,_,assign,body,hy,roundIn_of_wpIn hfn (hround _ S pre x rest vals W _ hxs hi hd rfl hb'.2.2.2 hb'.2.2.1 (fun k hk=>⟨(hb'.2.1 k hk).1,(hb'.2.1 k hk).2.1⟩) fun a₁ W₂ hkw hbody=>?_)⟩;have hzw:=hkw.size;have hl2:=Brec _ _ _ _ hb hkw (fun _ e=>by cases e) _ hl;have hb2:B S W₂:=Bless _ _ _ (Bstep _ _ _ _ hb hkw (fun _ e=>by cases e)) fun _ h=>.inl h;have hz2:=((hBe _ _).1 hb2).2.2.2;refine⟨_,run_beginRound hl2 (by rw[hrec]),?_⟩;obtain⟨W₃,hW₃⟩:∃ W₃,W₃=W₂.putObj (w.heap.size+1) (.loop { rec .ready none with state:=.busy }):=⟨_,rfl⟩;have hs3:W₃.heap.size=W₂.heap.size:=by rw[hW₃];simp
   have hl3:W₃.heap[w.heap.size+1]?=some (.loop { rec .ready none with state:=.busy }):=by rw[hW₃];exact World.putObj_heap_same oM
   have hb3:B S W₃:=hW₃ ▸ Bput _ _ _ hb2;have hi3:C S pre W₃:=hW₃ ▸ hCp _ _ _ _ _ _ oM (hC.keepN hi hkw) hl2 rfl;have ho3:∀ k,k≠w.heap.size+1→W₃.heap[k]?=W₂.heap[k]?:=fun k hk=>by rw[hW₃];exact World.putObj_heap_other hk
   have hk3:Kp W₂.heap.size (some (w.heap.size+1)) W₂ W₃:=by rw[hW₃];exact⟨rfl,rfl,rfl,by simp,fun i _ hn=>World.putObj_heap_other (fun e=>hn (by rw[e]))⟩
   replace hbody:=hbody W₃ hk3 hs3 ⟨_,hl3⟩ hi3;rw[← hW₃];refine wpIn_mono hbody ?_
   have fin:∀ (jump:Option Code) (W₄:World),Kz W₃.heap.size X W₃ W₄ →
     (Instr.endRound (w.heap.size+1) jump).run P W₄=.ok (.bool jump.isNone) (W₄.putObj (w.heap.size+1) (.loop (rec (if jump.isNone then .ready else .done) jump))) ∧
     W₄.heap[w.heap.size+1]?=some (.loop { rec .ready none with state:=.busy }) ∧
     (W₄.putObj (w.heap.size+1) (.loop (rec (if jump.isNone then .ready else .done) jump))).heap[w.heap.size+1]?=some (.loop (rec (if jump.isNone then .ready else .done) jump)) ∧
     B S (W₄.putObj (w.heap.size+1) (.loop (rec (if jump.isNone then .ready else .done) jump))):=fun jump W₄ hk4=>by
    have hl4:=(hk4.block (w.heap.size+1) oM (fun e=>by have:=hX _ e;omega)).trans hl3;have hz4:=hk4.size;have:=run_endRound (P:=P) jump hl4;rw[hrec] at this ⊢;exact⟨this,by rw[hrec] at hl4;exact hl4,World.putObj_heap_same oM,Bput _ _ _ (Bz _ _ _ hb3 hk4)⟩
   have stop:∀ (W₄:World) (o':Obj),Kz W₃.heap.size X W₃ W₄→Kz W.heap.size (fun k=>X k∨k=w.heap.size+1) W (W₄.putObj (w.heap.size+1) o'):=fun W₄ o' hk4=>by
    have hz4:=hk4.size
    exact⟨hk4.os.trans (hk3.os.trans hkw.os),hk4.tape.trans (hk3.tape.trans hkw.tape),hk4.output.trans (hk3.output.trans hkw.output),by simp;omega,fun k hk hx=>
     (World.putObj_heap_other (fun e=>hx (.inr e))).trans ((hk4.block k oM (fun e=>hx (.inl e))).trans ((ho3 k (fun e=>hx (.inr e))).trans (hkw.block k hk (by simp))))⟩
   rintro e a₃ W₄ hp;cases e with
   | normal=>
    obtain⟨hk4,hi4⟩:=hp;obtain⟨hr,hl4,hl5,hb5⟩:=fin none W₄ hk4;have hz4:=hk4.size;refine⟨_,_,hr,.inl ⟨rfl,⟨hCp _ _ _ _ _ _ oM hi4 hl4 rfl,hl5,hb5⟩,?_⟩⟩;refine⟨hk4.os.trans (hk3.os.trans hkw.os),hk4.tape.trans (hk3.tape.trans hkw.tape),hk4.output.trans (hk3.output.trans hkw.output),by simp;omega,fun k hk hx=>?_⟩;by_cases e:k=w.heap.size+1
    · rw[e];exact hl5.trans hl.symm
    · exact(World.putObj_heap_other e).trans ((hk4.block k oM hx).trans ((ho3 k e).trans (hkw.block k hk (by simp))))
   | ret=>
    obtain⟨hk4,hi4⟩:=hp;obtain⟨hr,hl4,hl5,hb5⟩:=fin (some .ret) W₄ hk4;exact⟨_,_,hr,.inr ⟨rfl,⟨.ret,hCxp _ _ _ _ _ _ _ oM hi4 hl4 rfl,hl5,hb5⟩,stop _ _ hk4⟩⟩
   | exit id=>
    obtain⟨hk4,hi4⟩:=hp;obtain⟨hr,hl4,hl5,hb5⟩:=fin (some (.exit id)) W₄ hk4;exact⟨_,_,hr,.inr ⟨rfl,⟨.exit id,hCxp _ _ _ _ _ _ _ oM hi4 hl4 rfl,hl5,hb5⟩,stop _ _ hk4⟩⟩
   | goto t=>
    obtain⟨hk4,hi4⟩:=hp;obtain⟨hr,hl4,hl5,hb5⟩:=fin (some (.goto t)) W₄ hk4;exact⟨_,_,hr,.inr ⟨rfl,⟨.goto t,hCxp _ _ _ _ _ _ _ oM hi4 hl4 rfl,hl5,hb5⟩,stop _ _ hk4⟩⟩
   | panic ch=>exact hp.elim
   | outgrown=>exact hp.elim
  ·
   rintro e W2 ⟨⟨v,rfl⟩,(⟨hi,hl,hb⟩|⟨pre,c,hi,hl,hb⟩)⟩
   ·
    have he:(Instr.endLoop (w.heap.size+1)).run P W2=.ok none (W2.putObj (w.heap.size+1) (.loop { rec .ready none with state:=.exhausted })):=by
     have:=run_endLoop (P:=P) hl (by rw[hrec];simp);rw[hrec] at this ⊢;exact this
    have q:=(hBe _ _).1 (Bput _ _ (.loop { rec .ready none with state:=.exhausted }) hb);exact⟨none,_,he,hdone _ (hCp _ _ _ _ _ _ oM hi hl rfl) q.2.2.1 q.1 q.2.2.2⟩
   ·
    have he:(Instr.endLoop (w.heap.size+1)).run P W2=.ok (some c) (W2.putObj (w.heap.size+1) (.loop { rec .done (some c) with state:=.exhausted })):=by
     have:=run_endLoop (P:=P) hl (by rw[hrec];simp);rw[hrec] at this ⊢;exact this
    have q:=(hBe _ _).1 (Bput _ _ (.loop { rec .done (some c) with state:=.exhausted }) hb);exact⟨some c,_,he,hstop c pre _ (hCxp _ _ _ _ _ _ _ oM hi hl rfl) q.2.2.1 q.1 q.2.2.2⟩
theorem wp_rangeFunc_zn {l₀:Nat} {r₀:Loop} (hl₀:w.heap[l₀]?=some (.loop r₀)) (hg:a.eval g=.func (.func gf) #[] lb) (eg:∀ args w,(callFunc gf args).run P w=.ok (.enter gf args) w)
  {M0:Nat} (hseq:SeqZ P gf lb Hd xs S0 X M0 Pre) (hM0:M0≤w.heap.size) (hPre:∀ w',Kp w.heap.size none w w'→Pre w') (hps:∀ x v W,Hd x v W→v.size=ps.size) (hS0:∀ k,S0 k→k<w.heap.size∧¬ X k) (hX:∀ k,X k→k<w.heap.size)
  (C:(Nat→Prop)→List α→World→Prop) (Cx:Code→(Nat→Prop)→List α→World→Prop) (hC:AbideZ C) (hCx:∀ c,AbideZ (Cx c)) (hCp:PutZ w.heap.size C) (hCxp:∀ c,PutZ w.heap.size (Cx c)) (h0:C S0 [] w)
  (hround:∀ (l:Nat) (S:Nat→Prop) (pre:List α) (x:α) (rest:List α) (vals:Array Value) (W:World) (K:Act→World→Prop),xs=pre++x::rest→C S pre W→Hd x vals W→l=w.heap.size→w.heap.size+1≤W.heap.size →
   Kz w.heap.size (fun k=>X k∨S0 k) w W→(∀ k,S k→¬ X k∧(k<w.heap.size→S0 k)) →
   (∀ a₁ W₁,Kp W.heap.size none W W₁→(∀ W₂,Kp W₁.heap.size (some l) W₁ W₂→W₂.heap.size=W₁.heap.size→(∃ r,W₂.heap[l]?=some (.loop r))→C S pre W₂ →
    body.wpIn (Fence.wide.inRound l) 0 P (roundZ X C Cx S (pre++[x]) W₂) a₁ W₂)→K a₁ W₁) →
   assign.wpIn (Fence.wide.inRound l) 0 P (Exit.then K (fun _ _ _=>False)) { tmps:=(ps.zip vals).foldl (fun t (p,v)=>t.setIfInBounds p v) a.tmps,defers:=[] } W)
  (hdone:∀ (W:World),C S0 xs W→Kz w.heap.size (fun k=>X k∨S0 k) w W→w.heap.size+1≤W.heap.size→Q .normal a W)
  (hstop:∀ (c:Code) (pre:List α) (W:World),Cx c S0 pre W→Kz w.heap.size (fun k=>X k∨S0 k) w W→w.heap.size+1≤W.heap.size→c.wpIn (Fence.wide.inRound l₀) 0 P Q a W) :
  (Code.rangeFunc g ps assign body).wpIn (Fence.wide.inRound l₀) 0 P Q a w:=by
 refine wpIn_rangeFunc ?_;intro fn hfn;rw[show (Fence.wide.inRound l₀).round=some l₀ from rfl];obtain⟨rec,hrec⟩:∃ rec:LoopState→Option Code→Loop,rec=fun st pe=>{ state:=st,pending:=pe,fn,tmps:=a.tmps,params:=ps,assign,body,defers:=r₀.defers }:=⟨_,rfl⟩;obtain⟨W1,hW1⟩:∃ W1,w.alloc (.loop (rec .ready none))=W1:=⟨_,rfl⟩
 have hL1:W1.heap[w.heap.size]?=some (.loop (rec .ready none)):=by
  rw[← hW1];exact World.alloc_heap_new w _
 have hk1:Kp w.heap.size none w W1:=by
  rw[← hW1];exact(Kp.refl w.heap.size none w).alloc (Nat.le_refl _) _
 have hs1:w.heap.size+1≤W1.heap.size:=by rw[← hW1];simp
 obtain⟨M,hM⟩:∃ M,M=w.heap.size:=⟨_,rfl⟩;obtain⟨B,hB⟩:∃ B:(Nat→Prop)→World→Prop,B=fun S W=>(∀ k,S k→¬ X k∧(k<w.heap.size→S0 k)∧k≠w.heap.size)∧Kz w.heap.size (fun k=>X k∨S0 k) w W∧w.heap.size+1≤W.heap.size:=⟨_,rfl⟩;have hBe:∀ S W,B S W↔((∀ k,S k→¬ X k∧(k<w.heap.size→S0 k)∧k≠w.heap.size)∧Kz w.heap.size (fun k=>X k∨S0 k) w W∧w.heap.size+1≤W.heap.size):=fun S W=>by rw[hB]
 clear hB
 have Bstep:∀ S W W' row,B S W→Kp W.heap.size row W W'→(∀ r,row=some r→S r)→B (fun k=>S k∨(W.heap.size≤k∧k<W'.heap.size)) W':=fun S W W' row h hk hr=>by
  obtain⟨h2,h3,h4⟩:=(hBe _ _).1 h;have hz:=hk.size;refine(hBe _ _).2 ⟨?_,h3.then_ hk oM (fun r e hlt=>.inr ((h2 r (hr r e)).2.1 hlt)),by omega⟩;rintro k (hk'|hk')
  · exact h2 k hk'
  · exact⟨fun hx=>by have:=hX k hx;omega,fun hlt=>by omega,by omega⟩
 have Bless:∀ S S' W,B S W→(∀ k,S' k→S k)→B S' W:=fun S S' W h hs=>by
  obtain⟨h2,h3,h4⟩:=(hBe _ _).1 h;exact(hBe _ _).2 ⟨fun k hk=>h2 k (hs k hk),h3,h4⟩
 have Brec:∀ S W W' row,B S W→Kp W.heap.size row W W'→(∀ r,row=some r→S r)→∀ o,W.heap[w.heap.size]?=some o→W'.heap[w.heap.size]?=some o:=fun S W W' row h hk hr o ho=>by
  obtain⟨h2,h3,h4⟩:=(hBe _ _).1 h;exact(hk.block _ oM (fun e=>(h2 _ (hr _ e.symm)).2.2 rfl)).trans ho
 have Bz:∀ S W W',B S W→Kz W.heap.size X W W'→B S W':=fun S W W' h hk=>by
  obtain⟨h2,h3,h4⟩:=(hBe _ _).1 h;have hz:=hk.size;exact(hBe _ _).2 ⟨h2,h3.trans (hk.less oM (fun k _ hx=>.inl hx)),by omega⟩
 have Bput:∀ S W o',B S W→B S (W.putObj w.heap.size o'):=fun S W o' h=>by
  obtain⟨h2,h3,h4⟩:=(hBe _ _).1 h;exact(hBe _ _).2 ⟨h2,h3.trans ⟨rfl,rfl,rfl,by simp,fun i hi _=>World.putObj_heap_other oM⟩,by simp;omega⟩
 refine⟨w.heap.size,[],W1,{ target:=.fn (.func gf) lb,args:=#[.func (.yield w.heap.size) #[] #[]] },W1,gf,
  #[.func (.yield w.heap.size) #[] #[]]++lb,W1,?_,?_,fun _ _=>trivial,?_,fun h=>(by cases h),?_⟩
 · rw[← hW1,hrec];exact run_enterLoop_inner hl₀ _ _ _ _ _
 ·
  simp only[resolve,hg];simp[go_sem]
 · simp[invoke,go_sem,eg]
 ·
  refine CallsIn.inRound l₀ (callsIn_wide.2 ((hseq w.heap.size
   (fun S pre W=>C S pre W∧W.heap[w.heap.size]?=some (.loop (rec .ready none))∧B S W)
   (fun S pre W=>∃ c,Cx c S pre W∧W.heap[w.heap.size]?=some (.loop (rec .done (some c)))∧B S W)
   W1 oM ⟨?_,?_⟩ ⟨?_,?_⟩ ?_ ⟨hC.keepN h0 hk1,hL1,(hBe _ _).2 ⟨fun k hk=>⟨(hS0 k hk).2,fun _=>hk,by have:=(hS0 k hk).1;omega⟩,.ofN hk1,hs1⟩⟩ (hPre _ hk1)).mono ?_))
  ·
   rintro S s W W' row ⟨h1,h2,h3⟩ hk hr;exact⟨hC.step _ _ _ _ _ h1 hk hr,Brec _ _ _ _ h3 hk hr _ h2,Bstep _ _ _ _ h3 hk hr⟩
  ·
   rintro S S' s W ⟨h1,h2,h3⟩ hs;exact⟨hC.less _ _ _ _ h1 hs,h2,Bless _ _ _ h3 hs⟩
  ·
   rintro S s W W' row ⟨c,h1,h2,h3⟩ hk hr;exact⟨c,(hCx c).step _ _ _ _ _ h1 hk hr,Brec _ _ _ _ h3 hk hr _ h2,Bstep _ _ _ _ h3 hk hr⟩
  ·
   rintro S S' s W ⟨c,h1,h2,h3⟩ hs;exact⟨c,(hCx c).less _ _ _ _ h1 hs,h2,Bless _ _ _ h3 hs⟩
  ·
   rintro S pre x rest vals W hxs ⟨hi,hl,hb⟩ hd;have hy:=run_yield (P:=P) (args:=vals) hl (by rw[hrec];exact hps x vals W hd);rw[hrec] at hy;have hb':=(hBe _ _).1 hb;refine⟨fn,_,assign,body,hy,roundIn_of_wpIn hfn (hround _ S pre x rest vals W _ hxs hi hd rfl hb'.2.2 hb'.2.1 (fun k hk=>⟨(hb'.1 k hk).1,(hb'.1 k hk).2.1⟩) fun a₁ W₂ hkw hbody=>?_)⟩;have hzw:=hkw.size;have hl2:=Brec _ _ _ _ hb hkw (fun _ e=>by cases e) _ hl;have hb2:B S W₂:=Bless _ _ _ (Bstep _ _ _ _ hb hkw (fun _ e=>by cases e)) fun _ h=>.inl h;have hz2:=((hBe _ _).1 hb2).2.2;refine⟨_,run_beginRound hl2 (by rw[hrec]),?_⟩;obtain⟨W₃,hW₃⟩:∃ W₃,W₃=W₂.putObj w.heap.size (.loop { rec .ready none with state:=.busy }):=⟨_,rfl⟩;have hs3:W₃.heap.size=W₂.heap.size:=by rw[hW₃];simp
   have hl3:W₃.heap[w.heap.size]?=some (.loop { rec .ready none with state:=.busy }):=by rw[hW₃];exact World.putObj_heap_same oM
   have hb3:B S W₃:=hW₃ ▸ Bput _ _ _ hb2;have hi3:C S pre W₃:=hW₃ ▸ hCp _ _ _ _ _ _ oM (hC.keepN hi hkw) hl2 rfl;have ho3:∀ k,k≠w.heap.size→W₃.heap[k]?=W₂.heap[k]?:=fun k hk=>by rw[hW₃];exact World.putObj_heap_other hk
   have hk3:Kp W₂.heap.size (some w.heap.size) W₂ W₃:=by rw[hW₃];exact⟨rfl,rfl,rfl,by simp,fun i _ hn=>World.putObj_heap_other (fun e=>hn (by rw[e]))⟩
   replace hbody:=hbody W₃ hk3 hs3 ⟨_,hl3⟩ hi3;rw[← hW₃];refine wpIn_mono hbody ?_
   have fin:∀ (jump:Option Code) (W₄:World),Kz W₃.heap.size X W₃ W₄ →
     (Instr.endRound w.heap.size jump).run P W₄=.ok (.bool jump.isNone) (W₄.putObj w.heap.size (.loop (rec (if jump.isNone then .ready else .done) jump))) ∧
     W₄.heap[w.heap.size]?=some (.loop { rec .ready none with state:=.busy }) ∧
     (W₄.putObj w.heap.size (.loop (rec (if jump.isNone then .ready else .done) jump))).heap[w.heap.size]?=some (.loop (rec (if jump.isNone then .ready else .done) jump)) ∧
     B S (W₄.putObj w.heap.size (.loop (rec (if jump.isNone then .ready else .done) jump))):=fun jump W₄ hk4=>by
    have hl4:=(hk4.block w.heap.size oM (fun e=>by have:=hX _ e;omega)).trans hl3;have hz4:=hk4.size;have:=run_endRound (P:=P) jump hl4;rw[hrec] at this ⊢;exact⟨this,by rw[hrec] at hl4;exact hl4,World.putObj_heap_same oM,Bput _ _ _ (Bz _ _ _ hb3 hk4)⟩
   have stop:∀ (W₄:World) (o':Obj),Kz W₃.heap.size X W₃ W₄→Kz W.heap.size (fun k=>X k∨k=w.heap.size) W (W₄.putObj (w.heap.size) o'):=fun W₄ o' hk4=>by
    have hz4:=hk4.size
    exact⟨hk4.os.trans (hk3.os.trans hkw.os),hk4.tape.trans (hk3.tape.trans hkw.tape),hk4.output.trans (hk3.output.trans hkw.output),by simp;omega,fun k hk hx=>
     (World.putObj_heap_other (fun e=>hx (.inr e))).trans ((hk4.block k oM (fun e=>hx (.inl e))).trans ((ho3 k (fun e=>hx (.inr e))).trans (hkw.block k hk (by simp))))⟩
   rintro e a₃ W₄ hp;cases e with
   | normal=>
    obtain⟨hk4,hi4⟩:=hp;obtain⟨hr,hl4,hl5,hb5⟩:=fin none W₄ hk4;have hz4:=hk4.size;refine⟨_,_,hr,.inl ⟨rfl,⟨hCp _ _ _ _ _ _ oM hi4 hl4 rfl,hl5,hb5⟩,?_⟩⟩;refine⟨hk4.os.trans (hk3.os.trans hkw.os),hk4.tape.trans (hk3.tape.trans hkw.tape),hk4.output.trans (hk3.output.trans hkw.output),by simp;omega,fun k hk hx=>?_⟩;by_cases e:k=w.heap.size
    · rw[e];exact hl5.trans hl.symm
    · exact(World.putObj_heap_other e).trans ((hk4.block k oM hx).trans ((ho3 k e).trans (hkw.block k hk (by simp))))
   | ret=>
    obtain⟨hk4,hi4⟩:=hp;obtain⟨hr,hl4,hl5,hb5⟩:=fin (some .ret) W₄ hk4;exact⟨_,_,hr,.inr ⟨rfl,⟨.ret,hCxp _ _ _ _ _ _ _ oM hi4 hl4 rfl,hl5,hb5⟩,stop _ _ hk4⟩⟩
   | exit id=>
    obtain⟨hk4,hi4⟩:=hp;obtain⟨hr,hl4,hl5,hb5⟩:=fin (some (.exit id)) W₄ hk4;exact⟨_,_,hr,.inr ⟨rfl,⟨.exit id,hCxp _ _ _ _ _ _ _ oM hi4 hl4 rfl,hl5,hb5⟩,stop _ _ hk4⟩⟩
   | goto t=>
    obtain⟨hk4,hi4⟩:=hp;obtain⟨hr,hl4,hl5,hb5⟩:=fin (some (.goto t)) W₄ hk4;exact⟨_,_,hr,.inr ⟨rfl,⟨.goto t,hCxp _ _ _ _ _ _ _ oM hi4 hl4 rfl,hl5,hb5⟩,stop _ _ hk4⟩⟩
   | panic ch=>exact hp.elim
   | outgrown=>exact hp.elim
  ·
   rintro e W2 ⟨⟨v,rfl⟩,(⟨hi,hl,hb⟩|⟨pre,c,hi,hl,hb⟩)⟩
   ·
    have he:(Instr.endLoop w.heap.size).run P W2=.ok none (W2.putObj w.heap.size (.loop { rec .ready none with state:=.exhausted })):=by
     have:=run_endLoop (P:=P) hl (by rw[hrec];simp);rw[hrec] at this ⊢;exact this
    have q:=(hBe _ _).1 (Bput _ _ (.loop { rec .ready none with state:=.exhausted }) hb);exact⟨none,_,he,hdone _ (hCp _ _ _ _ _ _ oM hi hl rfl) q.2.1 q.2.2⟩
   ·
    have he:(Instr.endLoop w.heap.size).run P W2=.ok (some c) (W2.putObj w.heap.size (.loop { rec .done (some c) with state:=.exhausted })):=by
     have:=run_endLoop (P:=P) hl (by rw[hrec];simp);rw[hrec] at this ⊢;exact this
    have q:=(hBe _ _).1 (Bput _ _ (.loop { rec .done (some c) with state:=.exhausted }) hb);exact⟨some c,_,he,hstop c pre _ (hCxp _ _ _ _ _ _ _ oM hi hl rfl) q.2.1 q.2.2⟩
end
theorem calls_of_wp_m {P:Program} {f:FuncId} {fn:Func} {c:Code} {args:Array Value} {w:World} {R:Ending→World→Prop} (hf:P.funcs[f]?=some fn) (hb:fn.body=some c)
  (h:c.wp P (bodyPostM Fence.wide 0 P fn R) { tmps:=args++Array.replicate (fn.ntmps-args.size) undef,defers:=[] } w):Calls P f args w R:=
 callsIn_wide.1 (callsIn_of_wp_marks (n:=0) hf hb trivial (wpIn_wide.2 h))
theorem postM_ret {P:Program} {fn:Func} {R:Ending→World→Prop} {a:Act} {w:World} {v:Value} (hr:(results fn a.tmps).run P w=.ok v w) (hd:a.defers=[]) (hR:R (.returned v) w):bodyPostM Fence.wide 0 P fn R .ret a w:=by
 show LeavesInM _ _ _ _ _ _ a.defers _ _
 rw[hd];exact⟨v,hr,hR⟩
theorem postM_mark {P:Program} {fn:Func} {R:Ending→World→Prop} {a:Act} {w:World} {v:Value} {D:Nat} (hd:a.defers=[{ target:=.collected D,args:=#[] }]) (hk:w.heap[D]?=some (.deferred (some [])))
  (hr:(results fn a.tmps).run P (w.putObj D (.deferred none))=.ok v (w.putObj D (.deferred none))) (hR:R (.returned v) (w.putObj D (.deferred none))):bodyPostM Fence.wide 0 P fn R .ret a w:=by
 show LeavesInM _ _ _ _ _ _ a.defers _ _
 rw[hd];exact⟨by simp,.inl ⟨_,_,rfl,run_takeDeferred hk,⟨v,hr,hR⟩⟩⟩
def AtB {α:Type} (x:Nat) (T:TypeId) (cs:List α→Array Value) (S:Nat→Prop) (pre:List α) (W:World):Prop:=Blk W x T (cs pre)∧¬ S x
theorem AtB.abide {α:Type} (x:Nat) (T:TypeId) (cs:List α→Array Value):AbideZ (AtB x T cs) where
 step:=fun S s W W' row h hk hr=>by
  have hx:=h.1.lt;refine⟨h.1.kp hk hx (fun e=>h.2 (hr _ e.symm)),?_⟩;rintro (q|q)
  · exact h.2 q
  · omega
 less:=fun S S' s W h hs=>⟨h.1,fun q=>h.2 (hs _ q)⟩
theorem Blk.put_ {W:World} {x:Nat} {T:TypeId} {cs:Array Value} (h:Blk W x T cs) {l:Nat} {o:Obj} (o':Obj) (ho:W.heap[l]?=some o) (hc:o.isCells=false):Blk (W.putObj l o') x T cs:=by
 have hne:x≠l:=fun e=>by
  subst e;unfold Blk at h;rw[h] at ho;injection ho with ho
  subst ho;cases hc
 exact(World.putObj_heap_other hne).trans h
theorem AtB.put {α:Type} (M x:Nat) (T:TypeId) (cs:List α→Array Value):PutZ M (AtB x T cs):=fun S s W l o o' _ h ho hc=>⟨h.1.put_ o' ho hc,h.2⟩
def NoC {α:Type} (_:Nat→Prop) (_:List α) (_:World):Prop:=False
theorem NoC.abide {α:Type}:AbideZ (NoC (α:=α)):=⟨fun _ _ _ _ _ h _ _=>h,fun _ _ _ _ h _=>h⟩
theorem NoC.put {α:Type} (M:Nat):PutZ M (NoC (α:=α)):=fun _ _ _ _ _ _ _ h _ _=>h
end Go.Proofs.YtdhiappifnflpaaGreatDoor
