/- A range over a function whose iterator keeps state of its own in cells: the law for the statement. Plain theory over Derived/RangeFuncIn, no program. -/
import Derived.Test.YtdhiappifnflpaaGreatDoorInv
import Derived.RangeFuncNested
import Derived.RangeFuncRecord
namespace Go.Proofs.YtdhiappifnflpaaGreatDoor.Bl
open Go.RowKit
structure KeptY (S:Nat→Prop) (M X:Nat) (W W':World):Prop where
 size:W.heap.size≤W'.heap.size
 same:∀ k,(S k∨(k<M∧k≠X))→W'.heap[k]?=W.heap[k]?
theorem KeptY.trans {S:Nat→Prop} {M X:Nat} {A B C:World} (h:KeptY S M X A B) (k:KeptY S M X B C):KeptY S M X A C:=
 ⟨Nat.le_trans h.size k.size,fun i hi=>(k.same i hi).trans (h.same i hi)⟩
theorem KeptY.less {S S':Nat→Prop} {M X:Nat} {A B:World} (h:KeptY S M X A B) (hs:∀ k,S' k→S k):KeptY S' M X A B:=
 ⟨h.size,fun i hi=>h.same i (hi.imp (hs i) id)⟩
theorem KeptY.putObj {S:Nat→Prop} {M X:Nat} (W:World) (l:Nat) (o:Obj) (hl:M≤l) (hS:¬ S l):KeptY S M X W (W.putObj l o):=
 ⟨by simp,fun k hk=>World.putObj_heap_other (fun e=>by subst e;rcases hk with h|h;exact hS h;omega)⟩
structure Abide {β:Type} (J:(Nat→Prop)→β→World→Prop):Prop where
 step:∀ S s W W' row,J S s W→Kp W.heap.size row W W'→(∀ r,row=some r→S r)→J (fun k=>S k∨(W.heap.size≤k∧k<W'.heap.size)) s W'
 less:∀ S S' s W,J S s W→(∀ k,S' k→S k)→J S' s W
theorem Abide.keep {β:Type} {J:(Nat→Prop)→β→World→Prop} (h:Abide J) {S:Nat→Prop} {s:β} {W W':World} {row:Option Nat} (hj:J S s W) (hk:Kp W.heap.size row W W') (hr:∀ r,row=some r→S r):J S s W':=
 h.less _ _ _ _ (h.step _ _ _ _ _ hj hk hr) fun _ hk=>.inl hk
theorem Abide.keepN {β:Type} {J:(Nat→Prop)→β→World→Prop} (h:Abide J) {S:Nat→Prop} {s:β} {W W':World} (hj:J S s W) (hk:Kp W.heap.size none W W'):J S s W':=
 h.keep hj hk (fun _ e=>by cases e)
def SeqY {α:Type} (P:Program) (gf:Nat) (lb:Array Value) (encs:α→Array Value) (xs:List α) (M X:Nat) (Pre:World→Prop):Prop:=
 ∀ (l:Nat) (J:(Nat→Prop)→List α→World→Prop) (W:World),Abide J →
  (∀ S pre x W1,J S pre W1→pre.length<xs.length→YieldAt Fence.wide 0 P l (encs x) W1 fun e W'=>e=.returned (.bool true)∧J S (pre++[x]) W'∧KeptY S M X W1 W') →
  J (fun _=>False) [] W→Pre W→M≤W.heap.size →
  Calls P gf (#[.func (.yield l) #[] #[]]++lb) W fun e W'=>(∃ v,e=.returned v)∧J (fun _=>False) xs W'
theorem wp_rangeFunc_y {P:Program} {α:Type} {g:Operand} {ps:Array Tmp} {assign body:Code} {Q:Exit→Act→World→Prop} {a:Act} {w:World}
  {gf:Nat} {lb:Array Value} (hg:a.eval g=.func (.func gf) #[] lb) (eg:∀ args w,(callFunc gf args).run P w=.ok (.enter gf args) w)
  {encs:α→Array Value} {xs:List α} {X:Nat} {Pre:World→Prop} (hseq:SeqY P gf lb encs xs w.heap.size X Pre) (hPre:∀ w',Kp w.heap.size none w w'→Pre w') (hps:∀ x,(encs x).size=ps.size)
  (I:(Nat→Prop)→List α→World→Prop) (hI:Abide I) (hIput:∀ S s W l o o',w.heap.size≤l→I S s W→W.heap[l]?=some o→o.isCells=false→I S s (W.putObj l o')) (h0:I (fun _=>False) [] w)
  (hround:∀ (l:Nat) (S:Nat→Prop) (pre:List α) (x:α) (W:World) (K:Act→World→Prop),I S pre W→pre.length<xs.length→¬ S w.heap.size→¬ S (w.heap.size+1)→w.heap.size+2≤W.heap.size →
   (∃ o,W.heap[w.heap.size+1]?=some o∧o.isCells=false) →
   (∀ a₁ W₁,KeptY (fun k=>S k∨k=w.heap.size∨k=w.heap.size+1) w.heap.size X W W₁ →
    (∀ o':Obj,o'.isCells=false→body.wpIn (Fence.wide.inRound l) 0 P (fun e _ W'=>e=.normal∧KeptY (fun k=>S k∨k=w.heap.size∨k=w.heap.size+1) w.heap.size X (W₁.putObj (w.heap.size+1) o') W'∧I S (pre++[x]) W') a₁ (W₁.putObj (w.heap.size+1) o'))→K a₁ W₁) →
   assign.wpIn (Fence.wide.inRound l) 0 P (Exit.then K (fun _ _ _=>False)) { tmps:=(ps.zip (encs x)).foldl (fun t (p,v)=>t.setIfInBounds p v) a.tmps,defers:=[] } W)
  (hdone:∀ (W:World),I (fun _=>False) xs W→W.heap[w.heap.size]?=some (.deferred (some []))→w.heap.size+2≤W.heap.size→Q .normal { a with defers:={ target:=.collected w.heap.size,args:=#[] }::a.defers } W) :
  (Code.rangeFunc g ps assign body).wp P Q a w:=by
 refine(wpIn_wide (n:=0)).1 (wpIn_rangeFunc ?_);intro fn hfn;rw[show Fence.wide.round=none from rfl];obtain⟨rec,hrec⟩:∃ rec:LoopState→Option Code→Loop,rec=fun st pe=>{ state:=st,pending:=pe,fn,tmps:=a.tmps,params:=ps,assign,body,defers:=w.heap.size }:=⟨_,rfl⟩;obtain⟨W1,hW1⟩:∃ W1,(w.alloc (.deferred (some []))).alloc (.loop (rec .ready none))=W1:=⟨_,rfl⟩
 have hL1:W1.heap[w.heap.size+1]?=some (.loop (rec .ready none)):=by
  rw[← hW1];have:=World.alloc_heap_new (w.alloc (.deferred (some []))) (.loop (rec .ready none));rwa [World.size_alloc] at this
 have hK1:W1.heap[w.heap.size]?=some (.deferred (some [])):=by
  rw[← hW1];exact(Below.heap_alloc _ _ _ (by simp)).trans (World.alloc_heap_new w _)
 have hk1:Kp w.heap.size none w W1:=by
  rw[← hW1];exact((Kp.refl w.heap.size none w).alloc (Nat.le_refl _) _).alloc (by simp) _
 have hs1:w.heap.size+2≤W1.heap.size:=by rw[← hW1];simp
 have hI1:I (fun _=>False) [] W1:=hI.keepN h0 hk1
 refine⟨w.heap.size+1,[{ target:=.collected w.heap.size,args:=#[] }],W1,{ target:=.fn (.func gf) lb,args:=#[.func (.yield (w.heap.size+1)) #[] #[]] },W1,gf,
  #[.func (.yield (w.heap.size+1)) #[] #[]]++lb,W1,?_,?_,fun _ _=>trivial,?_,fun h=>(by cases h),?_⟩
 · rw[← hW1,hrec];exact run_enterLoop_outer _ _ _ _ _
 ·
  simp only[resolve,hg];simp[go_sem]
 · simp[invoke,go_sem,eg]
 ·
  refine callsIn_wide.2 ((hseq (w.heap.size+1)
   (fun S pre W=>I S pre W∧W.heap[w.heap.size+1]?=some (.loop (rec .ready none))∧W.heap[w.heap.size]?=some (.deferred (some []))∧¬ S w.heap.size∧¬ S (w.heap.size+1)∧w.heap.size+2≤W.heap.size)
   W1 ⟨?_,?_⟩ ?_ ⟨hI1,hL1,hK1,id,id,hs1⟩ (hPre _ hk1) oM).mono ?_)
  ·
   rintro S s W W' row ⟨h1,h2,h3,h4,h5,h6⟩ hk hr;have hz:=hk.size;refine⟨hI.step _ _ _ _ _ h1 hk hr,(hk.block _ oM (fun e=>h5 (hr _ e.symm))).trans h2,(hk.block _ oM (fun e=>h4 (hr _ e.symm))).trans h3,?_,?_,by omega⟩
   ·
    rintro (h|h)
    · exact h4 h
    · omega
   ·
    rintro (h|h)
    · exact h5 h
    · omega
  ·
   rintro S S' s W ⟨h1,h2,h3,h4,h5,h6⟩ hs;exact⟨hI.less _ _ _ _ h1 hs,h2,h3,fun h=>h4 (hs _ h),fun h=>h5 (hs _ h),h6⟩
  ·
   rintro S pre x W ⟨hi,hl,hk,hn1,hn2,hsz⟩ hlen;have hy:=run_yield (P:=P) (args:=encs x) hl (by rw[hrec];exact hps x);rw[hrec] at hy;refine⟨fn,_,assign,body,hy,roundIn_of_wpIn hfn (hround _ S pre x W _ hi hlen hn1 hn2 hsz ⟨_,hl,rfl⟩ fun a₁ W₂ hkep hbody=>?_)⟩;have hz2:=hkep.size;have hl2:W₂.heap[w.heap.size+1]?=some (.loop (rec .ready none)):=(hkep.same _ (.inl (.inr (.inr rfl)))).trans hl;have hk2:W₂.heap[w.heap.size]?=some (.deferred (some [])):=(hkep.same _ (.inl (.inr (.inl rfl)))).trans hk;refine⟨_,run_beginRound hl2 (by rw[hrec]),?_⟩;obtain⟨W₃,hW₃⟩:∃ W₃,W₃=W₂.putObj (w.heap.size+1) (.loop { rec .ready none with state:=.busy }):=⟨_,rfl⟩;have hs3:W₃.heap.size=W₂.heap.size:=by rw[hW₃];simp
   have hl3:W₃.heap[w.heap.size+1]?=some (.loop { rec .ready none with state:=.busy }):=by rw[hW₃];exact World.putObj_heap_same oM
   have hk3:W₃.heap[w.heap.size]?=some (.deferred (some [])):=by rw[hW₃];exact(World.putObj_heap_other oM).trans hk2
   have hkep3:KeptY S w.heap.size X W₂ W₃:=by rw[hW₃];exact .putObj _ _ _ oM hn2
   replace hbody:=hbody (.loop { rec .ready none with state:=.busy }) rfl;rw[← hW₃] at hbody ⊢;refine wpIn_mono hbody ?_;rintro e a₃ W₄ ⟨rfl,hkep4,hi4⟩;have hz4:=hkep4.size;have hl4:W₄.heap[w.heap.size+1]?=some (.loop { rec .ready none with state:=.busy }):=(hkep4.same _ (.inl (.inr (.inr rfl)))).trans hl3;have hk4:W₄.heap[w.heap.size]?=some (.deferred (some [])):=(hkep4.same _ (.inl (.inr (.inl rfl)))).trans hk3;have hr:=run_endRound (P:=P) none hl4;refine⟨_,_,hr,rfl,⟨hIput _ _ _ _ _ _ oM hi4 hl4 rfl,?_,(World.putObj_heap_other oM).trans hk4,hn1,hn2,by simp;omega⟩,?_⟩
   · rw[World.putObj_heap_same oM,hrec];rfl
   · exact(((hkep.less fun _ h=>.inl h).trans hkep3).trans (hkep4.less fun _ h=>.inl h)).trans (.putObj _ _ _ oM hn2)
  ·
   rintro e W2 ⟨⟨v,rfl⟩,hi,hl,hk,_,_,hsz⟩;exact⟨none,_,by have:=run_endLoop (P:=P) hl (by rw[hrec];simp);rw[hrec] at this;exact this,hdone _ (hIput _ _ _ _ _ _ oM hi hl rfl) ((World.putObj_heap_other oM).trans hk) (by simp;omega)⟩
theorem calls_of_wp_m {P:Program} {f:FuncId} {fn:Func} {c:Code} {args:Array Value} {w:World} {R:Ending→World→Prop} (hf:P.funcs[f]?=some fn) (hb:fn.body=some c)
  (h:c.wp P (bodyPostM Fence.wide 0 P fn R) { tmps:=args++Array.replicate (fn.ntmps-args.size) undef,defers:=[] } w):Calls P f args w R:=
 callsIn_wide.1 (callsIn_of_wp_marks (n:=0) hf hb trivial (wpIn_wide.2 h))
theorem postM_ret {P:Program} {fn:Func} {R:Ending→World→Prop} {a:Act} {w:World} {v:Value} (hr:(results fn a.tmps).run P w=.ok v w) (hd:a.defers=[]) (hR:R (.returned v) w):bodyPostM Fence.wide 0 P fn R .ret a w:=by
 show LeavesInM _ _ _ _ _ _ a.defers _ _
 rw[hd];exact⟨v,hr,hR⟩
theorem postM_mark {P:Program} {fn:Func} {R:Ending→World→Prop} {a:Act} {w:World} {v:Value} {D:Nat} (hd:a.defers=[{ target:=.collected D,args:=#[] }]) (hk:w.heap[D]?=some (.deferred (some [])))
  (hr:(results fn a.tmps).run P (w.putObj D (.deferred none))=.ok v (w.putObj D (.deferred none))) (hR:R (.returned v) (w.putObj D (.deferred none))):bodyPostM Fence.wide 0 P fn R .ret a w:=by
 show LeavesInM _ _ _ _ _ _ a.defers _ _
 rw[hd];exact⟨by simp,.inl ⟨_,_,rfl,run_takeDeferred hk,⟨v,hr,hR⟩⟩⟩
end Go.Proofs.YtdhiappifnflpaaGreatDoor.Bl
