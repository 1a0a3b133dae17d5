/- A region that draws its order, walked once: operations that only yield a value are taken as soon as they are ready; what acts on the world comes up alone, in one forced order (a Bool that the kernel reckons). Plain theory over Derived/OrdersHeld, no program. The ring of numbers and what is made of it: each function's contract. -/
import Derived.OrdersHeld
import Derived.KernelRfl
import Derived.Test.YtdhiappifnflpaaGreatDoorM01
import Derived.Test.YtdhiappifnflpaaGreatDoorProg
set_option maxHeartbeats 400000
namespace Go.Proofs.YtdhiappifnflpaaGreatDoor
open Go.RowKit
def valOp:Op→Bool
 | .move _|.assign _|.pick ..|.build ..|.load ..|.nilCheck _|.binOp ..|.unOp ..|.convert ..|.slice ..|.fieldAddr ..|.field ..|.indexAddr ..|.index ..|.extract ..=>true
 | .call { callee:=.builtin .len,.. }|.call { callee:=.builtin .min,.. }|.call { callee:=.builtin .max,.. }|.call { callee:=.builtin .cap,.. }=>true
 | _=>false
def OnlyVal (s:Sem Next):Prop:=∀ P w,(∃ v w',s.run P w=.ok (.value v) w')∨∃ h w',s.run P w=.halt h w'
theorem OnlyVal.bind {α:Type} {s:Sem α} {f:α→Sem Next} (h:∀ x,OnlyVal (f x)):OnlyVal (s >>= f):=by
 intro P w;simp only[Sem.run_bind];cases hr:s.run P w with
 | ok v w'=>exact h v P w'
 | halt x w'=>exact .inr ⟨x,w',rfl⟩
theorem OnlyVal.pure_ (v:Value):OnlyVal (pure (.value v)):=fun _ w=>.inl ⟨v,w,rfl⟩
theorem OnlyVal.halt_ (h:Halt):OnlyVal (Sem.halt h):=fun _ w=>.inr ⟨h,w,rfl⟩
theorem OnlyVal.of_sem (s:Sem Value):OnlyVal (do pure (.value (← s))):=OnlyVal.bind fun v=>OnlyVal.pure_ v
theorem OnlyVal.nilDeref:OnlyVal (runtimePanic .nilDeref:Sem Next):=OnlyVal.bind fun _=>OnlyVal.halt_ _
theorem onlyVal_of_valOp {o:Oper} (h:valOp o.op=true) (ρ:Operand→Value):OnlyVal (execOp ρ o):=by
 unfold execOp;cases ho:o.op with
 | call c=>
  rw[ho] at h;obtain⟨cal,args,ats⟩:=c;cases cal with
  | builtin b=>
   cases b<;>simp only[valOp,Bool.false_eq_true] at h<;>exact OnlyVal.of_sem _
  | value f=>simp[valOp] at h
  | invoke r m=>simp[valOp] at h
 | nilCheck x=>
  dsimp only;split
  · exact OnlyVal.nilDeref
  · exact OnlyVal.nilDeref
  · exact OnlyVal.nilDeref
  ·
   split
   · exact OnlyVal.nilDeref
   ·
    refine OnlyVal.bind fun p=>OnlyVal.bind fun r=>?_;split
    · exact OnlyVal.bind fun _=>OnlyVal.pure_ _
    · exact OnlyVal.pure_ _
   · exact OnlyVal.pure_ _
  · exact OnlyVal.pure_ _
 | move x=>exact OnlyVal.pure_ _
 | assign x=>exact OnlyVal.pure_ _
 | pick x y z=>exact OnlyVal.bind fun _=>OnlyVal.pure_ _
 | _=>first|(rw[ho] at h;simp[valOp] at h;done)|exact OnlyVal.of_sem _
theorem yieldsIf_of_quiet {P:Program} {ops:Array Oper} {o:Oper} {a:Act} {C:World→Prop} {v:Value} (hv:valOp o.op=true)
  (hw:Region.wanted o (yielded ops a.tmps)=true) (h:∀ w,C w→o.quietAt P a C w v):YieldsIf P ops C o v a:=by
 refine .inl ⟨hw,fun w hC=>?_⟩;have h1:=h w hC;unfold Oper.quietAt at h1;rcases onlyVal_of_valOp hv a.eval P w with⟨u,w',hr⟩|⟨x,w',hr⟩
 ·
  rw[hr] at h1 ⊢;obtain⟨rfl,rfl⟩:=h1;rfl
 ·
  rw[hr] at h1;exact h1.elim
def nthOp:List Oper→Nat→Option Oper
 | [],_=>none
 | o::_,0=>some o
 | _::l,n+1=>nthOp l n
theorem nthOp_eq:∀ (l:List Oper) (i:Nat),nthOp l i=l.toArray[i]?
 | [],_=>by simp[nthOp]
 | _::_,0=>by simp[nthOp]
 | _::l,i+1=>by have:=nthOp_eq l i;simp[nthOp,this]
def nx (adv:List Nat) (p i:Nat):Nat:=if adv.contains i then p+1 else p
section
variable {P:Program} {ops:Array Oper} {Q:Exit→Act→World→Prop} {S:Nat→World→Prop} {adv:List Nat}
def wpPh (P:Program) (ops:Array Oper) (Q:Exit→Act→World→Prop) (S:Nat→World→Prop) (adv:List Nat):Nat→Array Bool→Nat→Act→World→Prop
 | 0,listed,_,a,w=>Region.ready .any ops listed=[]∧Q .normal a w
 | fuel+1,listed,p,a,w=>
  (Region.ready .any ops listed=[]→Q .normal a w) ∧
  ∀ i∈Region.ready .any ops listed,wpOp P ops Q i (fun a' w'=>S (nx adv p i) w'∧wpPh P ops Q S adv fuel (listed.setIfInBounds i true) (nx adv p i) a' w') a w
theorem wpAny_of_ph:∀ (fuel:Nat) (listed:Array Bool) (p:Nat) (a:Act) (w:World),wpPh P ops Q S adv fuel listed p a w→wpAny P .any ops Q fuel listed a w
 | 0,_,_,_,_,h=>h
 | fuel+1,_,_,_,_,h=>⟨h.1,fun i hi=>wpOp_mono (fun a' w' h'=>wpAny_of_ph fuel _ _ a' w' h'.2) (h.2 i hi)⟩
theorem wpPh_first {i:Nat} {oi:Oper} {v:Value} {Si:World→Prop} (hi:ops[i]?=some oi) (hia:adv.contains i=false) (hsel:∀ (j:Nat) (o:Oper) cs b,ops[j]?=some o→o.op≠.select cs b)
  (hQ:∀ c a w,Q (.panic c) (a.put oi.dst v) w→Q (.panic c) a w) :
  ∀ (fuel:Nat) (listed:Array Bool) (p:Nat) (a:Act) (w:World),
   (∀ j oj,ops[j]?=some oj→j≠i→listed.getD j true=false→(∀ e∈oj.after,Region.binds .any e=true→e.on≠i)→oi.apart ops oj=true∧(adv.contains j=false∨∀ w,Si w)) →
   (∀ w,S p w→Si w)→i∈Region.ready .any ops listed→YieldsIf P ops Si oi v a→S p w →
   wpPh P ops Q S adv fuel (listed.setIfInBounds i true) p (a.put oi.dst v) w→wpPh P ops Q S adv (fuel+1) listed p a w:=by
 have hn:∀ p,nx adv p i=p:=fun p=>by simp[nx];intro h;rw[List.contains_eq_mem] at hia;simp[h] at hia
 intro fuel;induction fuel with
 | zero=>
  intro listed p a w _ hS hr hy hw H;refine⟨fun h=>(by rw[h] at hr;cases hr),fun j hj=>?_⟩;by_cases hji:j=i
  ·
   subst hji;exact hy.wpOp hi (hS w hw) ⟨(hn p).symm ▸ hw,H⟩
  ·
   have:=ready_mono hj hji;rw[H.1] at this;cases this
 | succ fuel ih=>
  intro listed p a w hfree hS hr hy hw H;refine⟨fun h=>(by rw[h] at hr;cases hr),fun j hj=>?_⟩;by_cases hji:j=i
  ·
   subst hji;exact hy.wpOp hi (hS w hw) ⟨(hn p).symm ▸ hw,(hn p).symm ▸ H⟩
  ·
   have h1:=H.2 j (ready_mono hj hji);obtain⟨hjun,oj,hoj,hall⟩:=mem_ready.1 hj
   have hnot:∀ e∈oj.after,Region.binds .any e=true→e.on≠i:=fun e he hb heq=>by
    have h1:=hall e he hb;have h0:=(mem_ready.1 hr).1;rw[heq] at h1;rcases Nat.lt_or_ge i listed.size with h'|h'
    · simp[h'] at h0 h1;rw[h0] at h1;cases h1
    · simp[Array.getElem?_eq_none h'] at h1
   obtain⟨hap,had⟩:=hfree j oj hoj hji hjun hnot;have h2:=wpOp_putIf hoj hap (fun cs b=>hsel i oi cs b hi) (fun cs b=>hsel j oj cs b hoj) hQ hy h1
   have hfree':∀ k ok,ops[k]?=some ok→k≠i→(listed.setIfInBounds j true).getD k true=false →
     (∀ e∈ok.after,Region.binds .any e=true→e.on≠i)→oi.apart ops ok=true∧(adv.contains k=false∨∀ w,Si w):=fun k ok hk hki hun hno=>by
    refine hfree k ok hk hki ?_ hno;by_cases hjk:j=k
    · subst hjk;exact hjun
    · rw[getD_set_ne true hjk] at hun;exact hun
   have hS':∀ w,S (nx adv p j) w→Si w:=by
    rcases had with had|had
    ·
     intro w hw;refine hS w ?_;have:nx adv p j=p:=by simp[nx];intro h;rw[List.contains_eq_mem] at had;simp[h] at had
     rwa [this] at hw
    · exact fun w _=>had w
   refine wpOp_mono (fun a' w' h3=>⟨h3.2.1,ih (listed.setIfInBounds j true) (nx adv p j) a' w' hfree' hS' (ready_mono hr (Ne.symm hji)) h3.1 h3.2.1 ?_⟩) h2;rw[Array.setIfInBounds_comm _ _ hji];exact h3.2.2
end
def ordB (ops:Array Oper) (adv:List Nat):List (Nat × Nat)→Array Bool→Bool
 | [],listed=>(Region.ready .any ops listed).isEmpty
 | (i,k)::r,listed=>
  (match k with
   | 0=>(Region.ready .any ops listed).contains i&&Region.free .any ops listed i&&((ops[i]?).map (valOp ·.op)).getD false&&!adv.contains i
   | 1=>(Region.ready .any ops listed).contains i&&Region.free .any ops listed i&&((ops[i]?).map (valOp ·.op)).getD false&&!adv.contains i &&
    adv.all fun j=>listed.getD j true||((ops[j]?).map fun oj=>oj.after.any fun e=>Region.binds .any e&&e.on==i).getD true
   | 2=>Region.ready .any ops listed==[i]&&!adv.contains i
   | 3=>Region.ready .any ops listed==[i]&&adv.contains i
   | _=>false)
  && ordB ops adv r (listed.setIfInBounds i true)
def wpOrd (P:Program) (l:List Oper) (S:Nat→World→Prop) (Q:Act→World→Prop):List (Nat × Nat)→Nat→Act→World→Prop
 | [],_,a,w=>Q a w
 | (i,k)::r,p,a,w=>∃ o,nthOp l i=some o ∧
  if Region.wanted o (yielded l.toArray a.tmps) then
   (match k with
    | 0=>o.quiet P a (fun w'=>∃ x:Ev (fun _=>True),w'=x.w) (fun a'=>wpOrd P l S Q r p a' w)
    | 1=>o.quiet P a (fun w'=>∃ x:Ev (S p),w'=x.w) (fun a'=>wpOrd P l S Q r p a' w)
    | 2=>o.wp P a w (fun a' w'=>S p w'∧wpOrd P l S Q r p a' w') (fun _ _ _=>False)
    | _=>o.wp P a w (fun a' w'=>S (p+1) w'∧wpOrd P l S Q r (p+1) a' w') (fun _ _ _=>False))
  else if k=3 then S (p+1) w∧wpOrd P l S Q r (p+1) (a.put o.dst undef) w else wpOrd P l S Q r p (a.put o.dst undef) w
def onlyNormal (Q:Act→World→Prop):Exit→Act→World→Prop
 | .normal,a,w=>Q a w
 | _,_,_=>False
theorem wp_exits {P:Program} {o:Oper} {a:Act} {w:World} {K:Act→World→Prop} {Q Q':Exit→Act→World→Prop} (hq:∀ e a w,Q e a w→Q' e a w)
  (hh:o.wp P a w K Q):o.wp P a w K Q':=by
 unfold Oper.wp at *;generalize (execOp a.eval o).run P w=r at *;cases r with
 | ok n w'=>
  cases n<;>simp only[Oper.upon] at hh ⊢ <;>
   first
    | exact hh
    | exact Calls.mono hh (fun e w'' he=>by cases e<;>first|exact he|exact hq _ _ _ he|exact(let ⟨a,w,h⟩:=he;⟨a,w,hq _ _ _ h⟩))
 | halt x w'=>cases x<;>simp only[Oper.upon] at hh ⊢<;>first|exact hh|exact hq _ _ _ hh
section
variable {P:Program} {l:List Oper} {S:Nat→World→Prop} {adv:List Nat} {Q:Act→World→Prop}
theorem nx_in {p i:Nat} (h:adv.contains i=true):nx adv p i=p+1:=by unfold nx;rw[if_pos h]
theorem nx_out {p i:Nat} (h:adv.contains i=false):nx adv p i=p:=by unfold nx;rw[if_neg (by rw[h];simp)]
theorem wpPh_of_ord (hs:Region.noSelect l.toArray=true):∀ (r:List (Nat × Nat)) (listed:Array Bool) (p:Nat) (a:Act) (w:World),ordB l.toArray adv r listed=true→S p w→wpOrd P l S Q r p a w →
  wpPh P l.toArray (onlyNormal Q) S adv r.length listed p a w
 | [],listed,p,a,w,hB,_,h=>⟨by simpa [ordB] using hB,h⟩
 | (i,0)::r,listed,p,a,w,hB,hC,h=>by
  obtain⟨o,ho,h⟩:=h;have ho':l.toArray[i]?=some o:=by rw[← nthOp_eq];exact ho
  simp only[ordB,Bool.and_eq_true,ho',Option.map_some,Option.getD_some,Bool.not_eq_true'] at hB;obtain⟨⟨⟨⟨hr,hf⟩,hv⟩,hia⟩,hB'⟩:=hB;have hap:=Region.free_spec ho' hf;by_cases hw:Region.wanted o (yielded l.toArray a.tmps)=true
  ·
   simp only[hw,if_true] at h;obtain⟨v,h1,h2⟩:=h
   have hy:YieldsIf P l.toArray (fun _=>True) o v a:=by
    have:=yieldsIf_of_quiet hv hw h1;exact this.imp (fun ⟨e1,e2⟩=>⟨e1,fun w' hC'=>e2 w' ⟨⟨w',hC'⟩,rfl⟩⟩) id
   exact wpPh_first ho' hia (Region.noSelect_spec hs) (fun _ _ _ hh=>hh) _ _ _ _ _ (fun j oj hj hji hun hno=>⟨hap j oj hj hji hun hno,.inr fun _=>trivial⟩) (fun _ _=>trivial) (by simpa using hr) hy hC (wpPh_of_ord hs r _ _ _ w hB' hC h2)
  ·
   simp only[hw,if_false,Bool.false_eq_true] at h;simp only[show ¬ (0=3) from by omega,if_false] at h
   exact wpPh_first (Si:=fun _=>True) ho' hia (Region.noSelect_spec hs) (fun _ _ _ hh=>hh) _ _ _ _ _ (fun j oj hj hji hun hno=>⟨hap j oj hj hji hun hno,.inr fun _=>trivial⟩) (fun _ _=>trivial) (by simpa using hr)
    (.inr ⟨by simpa using hw,rfl⟩) hC (wpPh_of_ord hs r _ _ _ w hB' hC h)
 | (i,1)::r,listed,p,a,w,hB,hC,h=>by
  obtain⟨o,ho,h⟩:=h;have ho':l.toArray[i]?=some o:=by rw[← nthOp_eq];exact ho
  simp only[ordB,Bool.and_eq_true,ho',Option.map_some,Option.getD_some,Bool.not_eq_true'] at hB;obtain⟨⟨⟨⟨⟨hr,hf⟩,hv⟩,hia⟩,hadv⟩,hB'⟩:=hB;have hap:=Region.free_spec ho' hf
  have hno':∀ j oj,l.toArray[j]?=some oj→listed.getD j true=false→(∀ e∈oj.after,Region.binds .any e=true→e.on≠i)→adv.contains j=false:=by
   intro j oj hj hun hno;by_cases hja:adv.contains j=true
   ·
    have hm:j∈adv:=by simpa using hja
    have:=List.all_eq_true.1 hadv j hm;simp only[hun,Bool.false_or,hj,Option.map_some,Option.getD_some] at this;obtain⟨e,he,hb⟩:=Array.any_eq_true'.1 this;simp only[Bool.and_eq_true,beq_iff_eq] at hb;exact absurd hb.2 (hno e he hb.1)
   · simpa using hja
  by_cases hw:Region.wanted o (yielded l.toArray a.tmps)=true
  ·
   simp only[hw,if_true] at h;obtain⟨v,h1,h2⟩:=h
   have hy:YieldsIf P l.toArray (S p) o v a:=by
    have:=yieldsIf_of_quiet hv hw h1;exact this.imp (fun ⟨e1,e2⟩=>⟨e1,fun w' hC'=>e2 w' ⟨⟨w',hC'⟩,rfl⟩⟩) id
   exact wpPh_first ho' hia (Region.noSelect_spec hs) (fun _ _ _ hh=>hh) _ _ _ _ _ (fun j oj hj hji hun hno=>⟨hap j oj hj hji hun hno,.inl (hno' j oj hj hun hno)⟩) (fun _ h=>h) (by simpa using hr) hy hC (wpPh_of_ord hs r _ _ _ w hB' hC h2)
  ·
   simp only[hw,if_false,Bool.false_eq_true] at h;simp only[show ¬ (1=3) from by omega,if_false] at h
   exact wpPh_first (Si:=S p) ho' hia (Region.noSelect_spec hs) (fun _ _ _ hh=>hh) _ _ _ _ _ (fun j oj hj hji hun hno=>⟨hap j oj hj hji hun hno,.inl (hno' j oj hj hun hno)⟩) (fun _ h=>h) (by simpa using hr)
    (.inr ⟨by simpa using hw,rfl⟩) hC (wpPh_of_ord hs r _ _ _ w hB' hC h)
 | (i,2)::r,listed,p,a,w,hB,hC,h=>by
  obtain⟨o,ho,h⟩:=h;have ho':l.toArray[i]?=some o:=by rw[← nthOp_eq];exact ho
  simp only[ordB,Bool.and_eq_true,beq_iff_eq,Bool.not_eq_true'] at hB;obtain⟨⟨hr,hia⟩,hB'⟩:=hB;refine⟨fun h0=>(by rw[hr] at h0;cases h0),fun j hj=>?_⟩;rw[hr] at hj;have hj':j=i:=by simpa using hj
  subst hj';rw[nx_out hia];unfold wpOp;simp only[ho'];by_cases hw:Region.wanted o (yielded l.toArray a.tmps)=true
  ·
   simp only[hw,if_true] at h ⊢;refine .inl ?_
   have h3:=Oper.wp_mono (P:=P) (Q:=fun _ _ _=>False) (K':=fun a' w'=>S p w'∧wpPh P l.toArray (onlyNormal Q) S adv r.length (listed.setIfInBounds j true) p a' w')
    (fun a' w' hh=>⟨hh.1,wpPh_of_ord hs r _ _ a' w' hB' hh.1 hh.2⟩) h
   exact wp_exits (fun e a w hh=>hh.elim) h3
  ·
   simp only[hw,if_false,Bool.false_eq_true] at h ⊢;simp only[show ¬ (2=3) from by omega,if_false] at h;exact⟨hC,wpPh_of_ord hs r _ _ _ w hB' hC h⟩
 | (i,3)::r,listed,p,a,w,hB,hC,h=>by
  obtain⟨o,ho,h⟩:=h;have ho':l.toArray[i]?=some o:=by rw[← nthOp_eq];exact ho
  simp only[ordB,Bool.and_eq_true,beq_iff_eq] at hB;obtain⟨⟨hr,hia⟩,hB'⟩:=hB;refine⟨fun h0=>(by rw[hr] at h0;cases h0),fun j hj=>?_⟩;rw[hr] at hj;have hj':j=i:=by simpa using hj
  subst hj';rw[nx_in hia];unfold wpOp;simp only[ho'];by_cases hw:Region.wanted o (yielded l.toArray a.tmps)=true
  ·
   simp only[hw,if_true] at h ⊢;refine .inl ?_
   have h3:=Oper.wp_mono (P:=P) (Q:=fun _ _ _=>False) (K':=fun a' w'=>S (p+1) w'∧wpPh P l.toArray (onlyNormal Q) S adv r.length (listed.setIfInBounds j true) (p+1) a' w')
    (fun a' w' hh=>⟨hh.1,wpPh_of_ord hs r _ _ a' w' hB' hh.1 hh.2⟩) h
   exact wp_exits (fun e a w hh=>hh.elim) h3
  ·
   simp only[hw,if_false,if_true,Bool.false_eq_true] at h ⊢;exact⟨h.1,wpPh_of_ord hs r _ _ _ w hB' h.1 h.2⟩
 | (i,k+4)::r,listed,p,a,w,hB,hC,h=>by
  simp[ordB] at hB
theorem wp_region_ord {id:Nat} {Q:Exit→Act→World→Prop} {a:Act} {w:World} (S:Nat→World→Prop) (ord:List (Nat × Nat)) (adv:List Nat) (hm:P.follows .mixedOrders=true)
  (hB:(Region.noSelect l.toArray&&(ordB l.toArray adv ord (Array.replicate l.toArray.size false)&&ord.length==l.toArray.size))=true)
  (hC:S 0 w.drew) (h:Nonempty (Ev (S 0))→wpOrd P l S (fun a' w'=>Q .normal a' w') ord 0 a w.drew):(Code.region id l.toArray true).wp P Q a w:=by
 simp only[Bool.and_eq_true,beq_iff_eq] at hB;obtain⟨hs,hB,hl⟩:=hB;have h1:=wpPh_of_ord (Q:=fun a' w'=>Q .normal a' w') hs ord (Array.replicate l.toArray.size false) 0 a w.drew hB hC (h ⟨⟨_,hC⟩⟩);rw[hl] at h1;refine Code.wp_mono ?_ (wp_region_any hm (wpAny_of_ph _ _ _ _ _ h1));intro e a w hq;cases e<;>first|exact hq|exact hq.elim
theorem ev_true:Nonempty (Ev (fun _=>True)):=⟨⟨default,trivial⟩⟩
variable {p:Nat}
theorem wpOrd_nil {a:Act} {w:World} (h:Q a w):wpOrd P l S Q [] p a w:=h
theorem wpOrd_v {i:Nat} {r:List (Nat × Nat)} {a:Act} {w:World} {o:Oper} (ho:nthOp l i=some o) (hw:Region.wanted o (yielded l.toArray a.tmps)=true)
  (h:∀ K:Act→Prop,(∀ a,wpOrd P l S Q r p a w→K a)→o.quiet P a (fun w'=>∃ x:Ev (fun _=>True),w'=x.w) K):wpOrd P l S Q ((i,0)::r) p a w:=
 ⟨o,ho,by rw[if_pos hw];exact h _ fun _ h=>h⟩
theorem wpOrd_q {i:Nat} {r:List (Nat × Nat)} {a:Act} {w:World} {o:Oper} (ho:nthOp l i=some o) (hw:Region.wanted o (yielded l.toArray a.tmps)=true)
  (h:∀ K:Act→Prop,(∀ a,wpOrd P l S Q r p a w→K a)→o.quiet P a (fun w'=>∃ x:Ev (S p),w'=x.w) K):wpOrd P l S Q ((i,1)::r) p a w:=
 ⟨o,ho,by rw[if_pos hw];exact h _ fun _ h=>h⟩
theorem wpOrd_s {i k:Nat} {r:List (Nat × Nat)} {a:Act} {w:World} {o:Oper} (hk:k≠3) (ho:nthOp l i=some o) (hw:Region.wanted o (yielded l.toArray a.tmps)=false)
  (h:wpOrd P l S Q r p (a.put o.dst undef) w):wpOrd P l S Q ((i,k)::r) p a w:=
 ⟨o,ho,by rw[if_neg (by rw[hw];exact Bool.false_ne_true),if_neg hk];exact h⟩
theorem wpOrd_l {i:Nat} {r:List (Nat × Nat)} {a:Act} {w:World} {o:Oper} (ho:nthOp l i=some o) (hw:Region.wanted o (yielded l.toArray a.tmps)=true)
  (h:∀ K:Act→World→Prop,(∀ a w,S p w→wpOrd P l S Q r p a w→K a w)→o.wp P a w K (fun _ _ _=>False)):wpOrd P l S Q ((i,2)::r) p a w:=
 ⟨o,ho,by rw[if_pos hw];exact h _ fun _ _ h1 h2=>⟨h1,h2⟩⟩
theorem wpOrd_a {i:Nat} {r:List (Nat × Nat)} {a:Act} {w:World} {o:Oper} (ho:nthOp l i=some o) (hw:Region.wanted o (yielded l.toArray a.tmps)=true)
  (h:∀ K:Act→World→Prop,(∀ a w,S (p+1) w→wpOrd P l S Q r (p+1) a w→K a w)→o.wp P a w K (fun _ _ _=>False)):wpOrd P l S Q ((i,3)::r) p a w:=
 ⟨o,ho,by rw[if_pos hw];exact h _ fun _ _ h1 h2=>⟨h1,h2⟩⟩
theorem oV {i:Nat} {r:List (Nat × Nat)} {a:Act} {w:World} {o:Oper} (h:∀ K:Act→Prop,(∀ a,wpOrd P l S Q r p a w→K a)→o.quiet P a (fun w'=>∃ x:Ev (fun _=>True),w'=x.w) K) (ho:nthOp l i=some o:=by rfl) (hw:Region.wanted o (yielded l.toArray a.tmps)=true:=by rfl):wpOrd P l S Q ((i,0)::r) p a w:=wpOrd_v ho hw h
theorem oQ {i:Nat} {r:List (Nat × Nat)} {a:Act} {w:World} {o:Oper} (h:∀ K:Act→Prop,(∀ a,wpOrd P l S Q r p a w→K a)→o.quiet P a (fun w'=>∃ x:Ev (S p),w'=x.w) K) (ho:nthOp l i=some o:=by rfl) (hw:Region.wanted o (yielded l.toArray a.tmps)=true:=by rfl):wpOrd P l S Q ((i,1)::r) p a w:=wpOrd_q ho hw h
theorem oS {i k:Nat} {r:List (Nat × Nat)} {a:Act} {w:World} {o:Oper} (h:wpOrd P l S Q r p (a.put o.dst undef) w) (hk:k≠3:=by decide) (ho:nthOp l i=some o:=by rfl) (hw:Region.wanted o (yielded l.toArray a.tmps)=false:=by rfl):wpOrd P l S Q ((i,k)::r) p a w:=wpOrd_s hk ho hw h
theorem oL {i:Nat} {r:List (Nat × Nat)} {a:Act} {w:World} {o:Oper} (h:∀ K:Act→World→Prop,(∀ a w,S p w→wpOrd P l S Q r p a w→K a w)→o.wp P a w K (fun _ _ _=>False)) (ho:nthOp l i=some o:=by rfl) (hw:Region.wanted o (yielded l.toArray a.tmps)=true:=by rfl):wpOrd P l S Q ((i,2)::r) p a w:=wpOrd_l ho hw h
theorem oA {i:Nat} {r:List (Nat × Nat)} {a:Act} {w:World} {o:Oper} (h:∀ K:Act→World→Prop,(∀ a w,S (p+1) w→wpOrd P l S Q r (p+1) a w→K a w)→o.wp P a w K (fun _ _ _=>False)) (ho:nthOp l i=some o:=by rfl) (hw:Region.wanted o (yielded l.toArray a.tmps)=true:=by rfl):wpOrd P l S Q ((i,3)::r) p a w:=wpOrd_a ho hw h
theorem wro {id:Nat} {Q:Exit→Act→World→Prop} {a:Act} {w:World} (S:Nat→World→Prop) (ord:List (Nat × Nat)) (adv:List Nat) (hC:S 0 w.drew) (h:Nonempty (Ev (S 0))→wpOrd P l S (fun a' w'=>Q .normal a' w') ord 0 a w.drew) (hm:P.follows .mixedOrders=true:=by kernel_rfl)
 (hB:(Region.noSelect l.toArray&&(ordB l.toArray adv ord (Array.replicate l.toArray.size false)&&ord.length==l.toArray.size))=true:=by kernel_rfl):(Code.region id l.toArray true).wp P Q a w:=wp_region_ord S ord adv hm hB hC h
end
theorem wpOrd_s2 {P:Program} {l:List Oper} {S:Nat→World→Prop} {Q:Act→World→Prop} {p i k:Nat} {r:List (Nat × Nat)} {a:Act} {w:World} {o:Oper} {d:Option Nat} (hk:k≠3)
  (ho:nthOp l i=some o) (hw:Region.wanted o (yielded l.toArray a.tmps)=false) (hd:o.dst=d)
  (h : ∀ K : Act → Prop, (∀ a, wpOrd P l S Q r p a w → K a) → Oper.quiet P { dst := d, op := .move (.const undef), type := 0, pos := "", after := #[], guard := none } a (fun w' => w' = w) K) :
  wpOrd P l S Q ((i,k)::r) p a w:=by
 refine wpOrd_s hk ho hw ?_;obtain⟨v,h1,h2⟩:=h _ fun _ h=>h;have h3:Oper.quietUpon P (fun w'=>w'=w) w v (.ok (.value undef) w):=h1 w rfl;obtain⟨_,h4⟩:=h3;subst h4 hd;exact h2
structure Rest (p:Prop):Prop where
 h:p
theorem oX {p q:Prop} (h:q) (k:Rest q→p:=by intro q;(repeat (first|((first|refine oV ?_|refine oQ ?_);intro K hK;go_big_quiet_op;go_big_quiet_on)|refine oS ?_));exact q.h):p:=k ⟨h⟩
theorem oY {p q:Prop} (h:q) (k:Rest q→p:=by intro q;(repeat ((first|refine oV ?_|refine oQ ?_);intro K hK;go_big_quiet_op;go_big_quiet_on));exact q.h):p:=k ⟨h⟩
theorem oZ {p q:Prop} (h:q) (k:Rest q→p:=by intro q;refine wpOrd_s2 (by decide) rfl rfl rfl ?_;intro K hK;go_big_quiet_op;go_big_quiet_on;exact q.h):p:=k ⟨h⟩
theorem tmod_emod (n m:Int) (hm:0<m):n % m=if n.tmod m<0 then n.tmod m+m else n.tmod m:=by
 have h1:=Int.emod_nonneg n (show m≠0 by omega);have h2:=Int.emod_lt_of_pos n hm;rw[Int.tmod_eq_emod];split<;>split<;>omega
theorem tmod_bd (n m:Int) (hm:0<m):-m<n.tmod m∧n.tmod m<m:=by
 have h1:=Int.emod_nonneg n (show m≠0 by omega);have h2:=Int.emod_lt_of_pos n hm;rw[Int.tmod_eq_emod];split<;>omega
theorem quiet_left {P:Program} {f:FuncId} {args:Array Value} {w:World} {n:Nat} {v:Value}
  (h:Calls P f args (w.drewN n) fun e w'=>e=.returned v∧w.drewN n=w'):Calls P f args (w.drewN n) fun e w''=>e=.returned v∧∃ m,w''=w.drewN m:=
 h.mono fun _ _ ⟨he,hm⟩=>⟨he,n,hm.symm⟩
theorem mod_any (n m:Int) (w:World) (hm:0<m) (hm2:m≤1152921504606846976) :
  Calls Tryz.prog 69 #[n,m] w fun e w'=>e=.returned (.int .i64 (n % m))∧w=w':=by
 have hb:=tmod_bd n m hm;have HE:=Lib.hid (tmod_emod n m hm);go_enter Tryz.func69,Tryz.ntmps69
 go_wp2
 ·
  have ht:n.tmod m<0:=by assumption
  go_ret
  exact⟨by rw[HE.out,if_pos ht];rfl,rfl⟩
 ·
  have ht:0≤n.tmod m:=by assumption
  go_ret
  exact⟨by rw[HE.out,if_neg oM];rfl,rfl⟩
theorem mod64_any (n m:Int) (w:World) (hm:0<m) (hm2:m≤1152921504606846976) :
  Calls Tryz.prog 118 #[n,m] w fun e w'=>e=.returned (.int .i64 (n % m))∧w=w':=by
 have hb:=tmod_bd n m hm;have HE:=Lib.hid (tmod_emod n m hm);go_enter Tryz.func118,Tryz.ntmps118
 go_wp2
 ·
  have ht:n.tmod m<0:=by assumption
  go_ret
  exact⟨by rw[HE.out,if_pos ht];rfl,rfl⟩
 ·
  have ht:0≤n.tmod m:=by assumption
  go_ret
  exact⟨by rw[HE.out,if_neg oM];rfl,rfl⟩
def ringT:Nat:=90
structure RingAt (w:World) (g:Nat) (nums:List Int) (k:Nat):Prop where
 ex:∃ (A:Option Addr) (cap:Nat),Blk w g ringT #[.slice A nums.length cap,k]∧Rd (some g) w 1 (fun x=>[Value.int .i64 x]) A nums.length nums ∧
  (0<nums.length→∀ ad,A=some ad→ad.block<g)
 small:nums.length≤17592186044416
section
variable {w w':World} {g:Nat} {nums:List Int} {k:Nat}
theorem RingAt.lt (h:RingAt w g nums k):g<w.heap.size:=by
 obtain⟨A,cap,hb,_⟩:=h.ex;exact hb.lt
theorem RingAt.kpN (h:RingAt w g nums k) (hk:Kp w.heap.size none w w'):RingAt w' g nums k:=by
 obtain⟨⟨A,cap,hb,hr,hl⟩,hs⟩:=h;exact⟨⟨A,cap,hb.kpN hk,hr.kpN hk,hl⟩,hs⟩
theorem RingAt.alloc (h:RingAt w g nums k) (o:Obj):RingAt (w.alloc o) g nums k:=h.kpN ((Kp.refl _ _ w).alloc (Nat.le_refl _) o)
theorem RingAt.drewN (h:RingAt w g nums k) (n:Nat):RingAt (w.drewN n) g nums k:=h.kpN ((Kp.refl _ _ w).drewN n)
theorem RingAt.drew (h:RingAt w g nums k):RingAt w.drew g nums k:=h.kpN ((Kp.refl _ _ w).drew)
theorem RingAt.set (h:RingAt w g nums k) (k':Nat):RingAt (w.setCell ⟨g,1,none⟩ (.int .i64 k')) g nums k':=by
 obtain⟨⟨A,cap,hb,hr,hl⟩,hs⟩:=h;exact⟨⟨A,cap,hb.set_ 1 _,hr.setCell rfl _,hl⟩,hs⟩
theorem RingAt.big (h:RingAt w g nums k) {p:Addr} (hp:g<p.block) (u:Value):RingAt (w.setCell p u) g nums k:=by
 obtain⟨⟨A,cap,hb,hr,hl⟩,hs⟩:=h;refine⟨⟨A,cap,hb.far oM u,⟨hr.1,fun hn=>?_⟩,hl⟩,hs⟩;obtain⟨b,o,rfl,hb',hn',hc⟩:=hr.2 hn;have hlt:b<g:=hl hn _ rfl;exact⟨b,o,rfl,by simpa [World.setCell] using hb',hn',fun i hi j v hv=>(World.cell?_of_block (Below.heap_setCell w p u b oM)).trans (hc i hi j v hv)⟩
theorem RingAt.kpRow (h:RingAt w g nums k) {b:Nat} (hk:Kp w.heap.size (some b) w w') (hb:g<b):RingAt w' g nums k:=by
 obtain⟨⟨A,cap,hB,hr,hl⟩,hs⟩:=h;refine⟨⟨A,cap,hB.kp hk hB.lt (fun e=>by injection e with e;omega),⟨hr.1,fun hn=>?_⟩,hl⟩,hs⟩;obtain⟨c,o,rfl,hb',hn',hc⟩:=hr.2 hn;have hlt:c<g:=hl hn _ rfl;exact⟨c,o,rfl,Nat.lt_of_lt_of_le hb' hk.size,hn',fun i hi j v hv=>(hk.cell c _ hb' (fun e=>by injection e with e;omega)).trans (hc i hi j v hv)⟩
theorem RingAt.grown (h:RingAt w g nums k) {r:Option Nat} (hg:w.grownBy w' r) (hr:∀ b,r=some b→g<b):RingAt w' g nums k:=by
 cases r with
 | none=>exact h.kpN (Kp.of_grown hg)
 | some b=>exact h.kpRow (Kp.of_grown hg) (hr b rfl)
theorem RingAt.ne (h:RingAt w g nums k) {b:Nat} (hb:w.heap.size≤b):some b≠some g:=by
 intro e;have:=h.lt;injection e
 omega
end
def RPost (g:Nat) (nums:List Int) (k':Nat) (w:World) (V:Value→Prop) (e:Ending) (w':World):Prop:=
 ∃ v,e=.returned v∧V v∧RingAt w' g nums k'∧Kp w.heap.size (some g) w w'
def RPostB (g:Nat) (nums:List Int) (kmax:Nat) (w:World) (V:Value→World→Prop) (e:Ending) (w':World):Prop:=
 ∃ v k',e=.returned v∧V v w'∧k'≤kmax∧RingAt w' g nums k'∧Kp w.heap.size (some g) w w'
def nextRaw (nums:List Int) (k:Nat):Int:=
 if nums.length=0 then ((k:Int)+1) * 7919 % 10007
 else ((k:Int)+1) * 7919 % 10007+nums.getD ((k+1) % nums.length) 0 % 1048576 / (1+((k:Int)+1) / (nums.length:Int))
theorem next_raw (g:Nat) (nums:List Int) (k:Nat) (n:Int) (w:World) (h:RingAt w g nums k) (hk:k≤1000000) (hn:0<n) (hn2:n≤1152921504606846976) :
  Calls Tryz.prog 27 #[.pointer (some ⟨g,0,none⟩),n] w fun e w'=>e=.returned (.int .i64 (nextRaw nums k % n))∧∃ m,w'=(w.setCell ⟨g,1,none⟩ (.int .i64 ((k+1:Nat):Int))).drewN m:=by
 obtain⟨⟨A,cap,hb,hr,hl⟩,hs⟩:=h;clear hl;have c0:w.cell? ⟨g,0,none⟩=some (.slice A nums.length cap):=hb.cell 0;have c1:w.cell? ⟨g,1,none⟩=some (.int .i64 k):=hb.cell 1;have f1:w.frozen? ⟨g,1,none⟩=false:=hb.frozen 1;by_cases h0:nums.length=0
 ·
  have HR:Hid (nextRaw nums k=((k:Int)+1) * 7919 % 10007):=Lib.hid (by unfold nextRaw;rw[if_pos h0]);have h0':¬ 0<nums.length:=by omega
  go_enter Tryz.func27,Tryz.ntmps27
  go_wp2
  go_ret
  exact⟨by rw[HR.out];rfl,0,rfl⟩
 ·
  obtain⟨b,o,rfl,hbs,hbr,hc⟩:=hr.at_ oM;have hi:(k+1) % nums.length<nums.length:=Nat.mod_lt _ oM;have c2:=Rd.cell1 (f:=fun x=>Value.int .i64 x) (fun _=>rfl) hc ((k+1) % nums.length) hi
  have HR:Hid (nextRaw nums k=((k:Int)+1) * 7919 % 10007+nums[(k+1) % nums.length] % 1048576 / (1+((k:Int)+1) / (nums.length:Int))):=
   Lib.hid (by unfold nextRaw;rw[if_neg h0,List.getD_eq_getElem?_getD,List.getElem?_eq_getElem hi,Option.getD_some])
  have e1:(0:Int)≤((k:Int)+1) % (nums.length:Int):=Int.emod_nonneg _ oM;have e2:((k:Int)+1) % (nums.length:Int)<(nums.length:Int):=Int.emod_lt_of_pos _ oM;have e3:(0:Int)≤((k:Int)+1) / (nums.length:Int):=Int.ediv_nonneg oM oM;have e4:((k:Int)+1) / (nums.length:Int)≤(k:Int)+1:=Int.ediv_le_self _ oM;have m1:=Int.emod_nonneg (nums[(k+1) % nums.length]) (show (1048576:Int)≠0 by omega);have m2:=Int.emod_lt_of_pos (nums[(k+1) % nums.length]) (show (0:Int)<1048576 by omega);have hne:b≠g:=fun e=>hbr (by rw[e]);have q1:=Int.ediv_nonneg m1 (show (0:Int)≤1+((k:Int)+1) / (nums.length:Int) by omega);have q2:=Int.ediv_le_self (1+((k:Int)+1) / (nums.length:Int)) m1;go_enter Tryz.func27,Tryz.ntmps27
  go_wp2
  go_quiet ((go_at_call 69;exact quiet_left (mod_any _ _ _ oM oM)))
  go_wp2
  go_ret
  exact⟨by rw[HR.out];rfl,nq,rfl⟩
theorem next_any (g:Nat) (nums:List Int) (k:Nat) (n:Int) (w:World) (h:RingAt w g nums k) (hk:k≤1000000) (hn:0<n) (hn2:n≤1152921504606846976) :
  Calls Tryz.prog 27 #[.pointer (some ⟨g,0,none⟩),n] w (RPost g nums (k+1) w fun v=>∃ x:Int,v=.int .i64 x∧0≤x∧x<n):=by
 refine(next_raw g nums k n w h hk hn hn2).mono ?_;rintro e w' ⟨rfl,m,rfl⟩;exact⟨_,rfl,⟨_,rfl,Int.emod_nonneg _ oM,Int.emod_lt_of_pos _ hn⟩,(h.set (k+1)).drewN m,((Kp.refl _ (some g) w).setRow (p:=⟨g,1,none⟩) rfl _).drewN m⟩
theorem range_any (g:Nat) (nums:List Int) (k:Nat) (lo hi:Int) (w:World) (h:RingAt w g nums k) (hk:k≤1000000) (h1:-1152921504606846976≤lo) (h2:lo≤hi) (h3:hi≤1000000000000000000) (h4:hi-lo<1000000000000000000) :
  Calls Tryz.prog 25 #[.pointer (some ⟨g,0,none⟩),lo,hi] w (RPost g nums (k+1) w fun v=>∃ x:Int,v=.int .i64 x∧lo≤x∧x≤hi):=by
 go_enter Tryz.func25,Tryz.ntmps25
 go_wp2_with fail
 refine(next_any g nums k _ _ h hk oM oM).mono ?_;rintro e w1 ⟨v,rfl,⟨x,rfl,hx1,hx2⟩,hr1,hk1⟩;go_wp2
 go_ret
 exact⟨_,rfl,⟨_,rfl,by omega,by omega⟩,hr1,hk1⟩
end Go.Proofs.YtdhiappifnflpaaGreatDoor
