/- A region that draws its order, each of its operations shown once: one relation that every operation keeps, whatever has been carried out before. Plain theory over Derived/Orders, no program. -/
import Derived.Test.YtdhiappifnflpaaGreatDoorTree
import Derived.RangeFuncCalls
import Derived.RangeFuncLeaves
import Derived.RangeFuncBound
import Derived.OrdersIn
namespace Go.Proofs.YtdhiappifnflpaaGreatDoor
open Go.RowKit
def tmpsL (D:Nat→Bool) (v:Nat→Value):List (Option Nat)→List Value→List Value
 | some j::os,x::t=>(if D j then v j else x)::tmpsL D v os t
 | none::os,x::t=>x::tmpsL D v os t
 | [],t=>t
 | _::_,[]=>[]
def fullL (v:Nat→Value):List (Option Nat)→List Value→List Value
 | some j::os,_::t=>v j::fullL v os t
 | none::os,x::t=>x::fullL v os t
 | [],t=>t
 | _::_,[]=>[]
theorem fullL_eq (v:Nat→Value):∀ (os:List (Option Nat)) (t:List Value),tmpsL (fun _=>true) v os t=fullL v os t
 | [],t=>by simp[tmpsL,fullL]
 | some j::os,[]=>by simp[tmpsL,fullL]
 | none::os,[]=>by simp[tmpsL,fullL]
 | some j::os,x::t=>by simp[tmpsL,fullL,fullL_eq v os t]
 | none::os,x::t=>by simp[tmpsL,fullL,fullL_eq v os t]
theorem tmpsL_at (D:Nat→Bool) (v:Nat→Value):∀ (os:List (Option Nat)) (t:List Value) (k:Nat),(tmpsL D v os t)[k]?=match os[k]? with
  | some (some j)=>(t[k]?).map fun x=>if D j then v j else x
  | _=>t[k]?
 | [],t,k=>by simp[tmpsL]
 | some j::os,[],k=>by
  simp only[tmpsL,List.getElem?_nil,Option.map_none];split<;>rfl
 | none::os,[],k=>by
  simp only[tmpsL,List.getElem?_nil,Option.map_none];split<;>rfl
 | some j::os,x::t,0=>by simp[tmpsL]
 | none::os,x::t,0=>by simp[tmpsL]
 | some j::os,x::t,k+1=>by simpa [tmpsL] using tmpsL_at D v os t k
 | none::os,x::t,k+1=>by simpa [tmpsL] using tmpsL_at D v os t k
theorem tmpsL_len (D:Nat→Bool) (v:Nat→Value):∀ (os:List (Option Nat)) (t:List Value),(tmpsL D v os t).length=t.length
 | [],t=>by simp[tmpsL]
 | some j::os,[]=>by simp[tmpsL]
 | none::os,[]=>by simp[tmpsL]
 | some j::os,x::t=>by simp[tmpsL,tmpsL_len D v os t]
 | none::os,x::t=>by simp[tmpsL,tmpsL_len D v os t]
def actD (own:List (Option Nat)) (a:Act) (D:Nat→Bool) (v:Nat→Value):Act:=⟨(tmpsL D v own a.tmps.toList).toArray,a.defers⟩
def actF (own:List (Option Nat)) (a:Act) (v:Nat→Value):Act:=⟨(fullL v own a.tmps.toList).toArray,a.defers⟩
theorem actF_eq (own:List (Option Nat)) (a:Act) (v:Nat→Value):actD own a (fun _=>true) v=actF own a v:=by unfold actD actF;rw[fullL_eq]
def fullV:List (Option Value)→List Value→List Value
 | some v::os,_::t=>v::fullV os t
 | none::os,x::t=>x::fullV os t
 | [],t=>t
 | _::_,[]=>[]
theorem fullV_eq (v:Nat→Value):∀ (os:List (Option Nat)) (t:List Value),fullL v os t=fullV (os.map fun x=>x.map v) t
 | [],t=>by simp[fullL,fullV]
 | some j::os,[]=>by simp[fullL,fullV]
 | none::os,[]=>by simp[fullL,fullV]
 | some j::os,x::t=>by simp[fullL,fullV,fullV_eq v os t]
 | none::os,x::t=>by simp[fullL,fullV,fullV_eq v os t]
def allP:List Nat→(Nat→Prop)→Prop
 | [],_=>True
 | k::r,p=>p k∧allP r p
theorem allP_spec {p:Nat→Prop}:∀ {l:List Nat},(∀ k∈l,p k)→allP l p
 | [],_=>trivial
 | k::r,h=>⟨h k (by simp),allP_spec fun j hj=>h j (by simp[hj])⟩
theorem allP_get {p:Nat→Prop}:∀ {l:List Nat},allP l p→∀ k∈l,p k
 | [],_,k,hk=>by cases hk
 | j::r,h,k,hk=>by
  rcases List.mem_cons.1 hk with rfl|hk
  · exact h.1
  · exact allP_get h.2 k hk
def invB (l:List Oper) (own:List (Option Nat)) (up sm:List (List Nat)):Bool:=
 Region.noSelect l.toArray &&
 (List.range l.length).all fun i=>match nthOp l i with
  | none=>false
  | some o=>
   (match o.dst with
    | none=>own.all (· !=some i)
    | some d=>own[d]?==some (some i)&&(List.range own.length).all fun k=>k==d||own[k]? !=some (some i)) &&
   ((o.looksAt l.toArray).all fun t=>match own[t]? with
    | some (some j)=>o.after.any fun e=>Region.binds .any e&&e.on==j
    | _=>true) &&
   ((up.getD i []).all fun k=>o.after.any fun e=>Region.binds .any e&&(e.on==k||(up.getD e.on []).contains k)) &&
   ((List.range l.length).all fun j=>j==i||(up.getD j []).contains i||(sm.getD i []).contains j) &&
   o.after.all fun e=>!Region.binds .any e||Nat.blt e.on i
def ownB (n:Nat) (own:List (Option Nat)):Bool:=own.all fun x=>match x with
 | some j=>Nat.blt j n
 | none=>true
structure InvOk (l:List Oper) (own:List (Option Nat)) (up sm:List (List Nat)):Prop where
 sel:Region.noSelect l.toArray=true
 dst:∀ i o d,nthOp l i=some o→o.dst=some d→own[d]?=some (some i)
 one:∀ i o k,nthOp l i=some o→own[k]?=some (some i)→o.dst=some k
 look:∀ i o t j,nthOp l i=some o→t∈o.looksAt l.toArray→own[t]?=some (some j)→∃ e∈o.after,Region.binds .any e=true∧e.on=j
 ups:∀ i o k,nthOp l i=some o→k∈up.getD i []→∃ e∈o.after,Region.binds .any e=true∧(e.on=k∨k∈up.getD e.on [])
 sms:∀ i o j,nthOp l i=some o→j<l.length→j≠i→i ∉ up.getD j []→j∈sm.getD i []
 low:∀ i o,nthOp l i=some o→∀ e∈o.after,Region.binds .any e=true→e.on<i
theorem nthOp_lt:∀ {l:List Oper} {i:Nat} {o:Oper},nthOp l i=some o→i<l.length
 | [],_,_,h=>by simp[nthOp] at h
 | _::_,0,_,_=>by simp
 | _::l,i+1,o,h=>by have:=nthOp_lt (l:=l) (i:=i) (o:=o) (by simpa [nthOp] using h);simpa using this
theorem nthOp_some:∀ {l:List Oper} {i:Nat},i<l.length→∃ o,nthOp l i=some o
 | [],_,h=>by simp at h
 | o::_,0,_=>⟨o,rfl⟩
 | _::l,i+1,h=>by simpa [nthOp] using nthOp_some (l:=l) (i:=i) (by simpa using h)
theorem invOk_of {l:List Oper} {own:List (Option Nat)} {up sm:List (List Nat)} (h:invB l own up sm=true):InvOk l own up sm:=by
 unfold invB at h;rw[Bool.and_eq_true,List.all_eq_true] at h;obtain⟨h0,h1⟩:=h
 have key:∀ i o,nthOp l i=some o→_:=fun i o ho=>by
  have:=h1 i (List.mem_range.2 (nthOp_lt ho));rw[ho] at this;simp only[Bool.and_eq_true] at this;exact this
 refine⟨h0,?_,?_,?_,?_,?_,?_⟩
 ·
  intro i o d ho hd;have h:=(key i o ho).1.1.1.1;rw[hd] at h;simp only[Bool.and_eq_true,beq_iff_eq] at h;exact h.1
 ·
  intro i o k ho hk;have h:=(key i o ho).1.1.1.1;cases hd:o.dst with
  | none=>
   rw[hd] at h;simp only[List.all_eq_true,bne_iff_ne] at h;exact absurd rfl (h _ (List.mem_of_getElem? hk))
  | some d=>
   rw[hd] at h;simp only[Bool.and_eq_true,List.all_eq_true,Bool.or_eq_true,beq_iff_eq,bne_iff_ne] at h;rcases h.2 k (List.mem_range.2 (List.getElem?_eq_some_iff.1 hk).1) with h2|h2
   · rw[h2]
   · exact absurd hk h2
 ·
  intro i o t j ho ht hj;have h:=(key i o ho).1.1.1.2;rw[List.all_eq_true] at h;have:=h t ht;rw[hj] at this;simp only[Array.any_eq_true',Bool.and_eq_true,beq_iff_eq] at this;obtain⟨e,he,hb,hon⟩:=this;exact⟨e,he,hb,hon⟩
 ·
  intro i o k ho hk;have h:=(key i o ho).1.1.2;rw[List.all_eq_true] at h;have:=h k hk;simp only[Array.any_eq_true',Bool.and_eq_true,Bool.or_eq_true,beq_iff_eq,List.contains_iff_mem] at this;obtain⟨e,he,hb,hon⟩:=this;exact⟨e,he,hb,hon⟩
 ·
  intro i o j ho hj hji hni;have h:=(key i o ho).1.2;rw[List.all_eq_true] at h;have:=h j (List.mem_range.2 hj);simp only[Bool.or_eq_true,beq_iff_eq,List.contains_iff_mem] at this;rcases this with(h|h)|h
  · exact absurd h hji
  · exact absurd h hni
  · exact h
 ·
  intro i o ho e he hb;have h:=(key i o ho).2;rw[Array.all_eq_true'] at h;have:=h e he;rw[hb] at this;simpa [Nat.blt_eq] using this
section
variable {P:Program} {l:List Oper} {own:List (Option Nat)} {up sm:List (List Nat)} {Γ:Type} {B:Nat→(Nat→Bool)→Γ→World→Prop} {F:Nat→Γ→World→Prop} {val:Γ→Nat→Value} {a0:Act} {Q:Act→World→Prop}
def OpDo (P:Program) (o:Oper) (a:Act) (w:World) (K:Act→World→Prop):Prop:=
 o.wp P a w K (fun _ _ _=>False)∨∃ l f tmps assign body w1,(execOp a.eval o).run P w=.ok (.round l f tmps assign body) w1∧RoundIn Fence.wide 0 P l f tmps assign body w1 fun e w2=>∃ v,e=.returned v∧K (a.put o.dst v) w2
def Done (own:List (Option Nat)) (sm:List (List Nat)) (B:Nat→(Nat→Bool)→Γ→World→Prop) (F:Nat→Γ→World→Prop) (val:Γ→Nat→Value) (a0:Act) (i:Nat) (o:Oper) (n:Nat) (D:Nat→Bool) (γ:Γ) (w:World) (a':Act) (w':World):Prop:=
 ∃ γ',a'=(actF own a0 (val γ)).put o.dst (val γ' i)∧B (n+1) (fun j=>j==i||D j) γ' w'∧F i γ' w'∧allP (sm.getD i []) fun j=>val γ' j=val γ j∧(F j γ w→F j γ' w')
def OpOk (P:Program) (l:List Oper) (own:List (Option Nat)) (up sm:List (List Nat)) (B:Nat→(Nat→Bool)→Γ→World→Prop) (F:Nat→Γ→World→Prop) (val:Γ→Nat→Value) (a0:Act) (i:Nat) (o:Oper):Prop:=
 ∀ n D γ w,n<l.length→D i=false→B n D γ w→allP (up.getD i []) (fun k=>F k γ w) →
  (Region.wanted o (yielded l.toArray (actF own a0 (val γ)).tmps)=true∧OpDo P o (actF own a0 (val γ)) w (Done own sm B F val a0 i o n D γ w)) ∨
  (Region.wanted o (yielded l.toArray (actF own a0 (val γ)).tmps)=false∧Done own sm B F val a0 i o n D γ w ((actF own a0 (val γ)).put o.dst undef) w)
def opsOk (P:Program) (l:List Oper) (own:List (Option Nat)) (up sm:List (List Nat)) (B:Nat→(Nat→Bool)→Γ→World→Prop) (F:Nat→Γ→World→Prop) (val:Γ→Nat→Value) (a0:Act):Nat→List Oper→Prop
 | _,[]=>True
 | i,o::r=>OpOk P l own up sm B F val a0 i o∧opsOk P l own up sm B F val a0 (i+1) r
theorem opsOk_get:∀ {r:List Oper} {j i:Nat} {o:Oper},opsOk P l own up sm B F val a0 j r→nthOp r i=some o→OpOk P l own up sm B F val a0 (j+i) o
 | [],_,_,_,_,h=>by simp[nthOp] at h
 | x::r,j,0,o,h,ho=>by simp only[nthOp,Option.some.injEq] at ho;subst ho;exact h.1
 | x::r,j,i+1,o,h,ho=>by
  have:=opsOk_get h.2 (i:=i) (by simpa [nthOp] using ho);rwa [show j+1+i=j+(i+1) by omega] at this
def lst (listed:Array Bool) (j:Nat):Bool:=listed.getD j false
structure InvAt (l:List Oper) (own:List (Option Nat)) (B:Nat→(Nat→Bool)→Γ→World→Prop) (F:Nat→Γ→World→Prop) (val:Γ→Nat→Value) (a0:Act) (n:Nat) (listed:Array Bool) (a:Act) (w:World):Prop where
 size:listed.size=l.length
 cnt:listed.toList.count true=n
 ex:∃ γ,a=actD own a0 (lst listed) (val γ)∧B n (lst listed) γ w∧∀ j,lst listed j=true→F j γ w
 down:∀ j o,lst listed j=true→nthOp l j=some o→∀ e∈o.after,Region.binds .any e=true→lst listed e.on=true
theorem eval_same (D:Nat→Bool) (v:Nat→Value) (x:Operand) (h:∀ t j,x=.tmp t→own[t]?=some (some j)→D j=true):(actD own a0 D v).eval x=(actF own a0 v).eval x:=by
 rw[← actF_eq];cases x with
 | tmp t=>
  simp only[Act.eval,actD,Array.getD_eq_getD_getElem?,List.getElem?_toArray,tmpsL_at];cases ho:own[t]? with
  | none=>rfl
  | some q=>
   cases q with
   | none=>rfl
   | some j=>simp only[h t j rfl ho,if_true]
 | const v=>rfl
 | global g=>rfl
 | func f=>rfl
theorem tmp_same (D:Nat→Bool) (v:Nat→Value) (t:Nat) (h:∀ j,own[t]?=some (some j)→D j=true):(actD own a0 D v).tmps[t]?=(actF own a0 v).tmps[t]?:=by
 rw[← actF_eq];simp only[actD,List.getElem?_toArray,tmpsL_at];cases ho:own[t]? with
 | none=>rfl
 | some q=>
  cases q with
  | none=>rfl
  | some j=>simp only[h j ho,if_true]
theorem looks_op {o:Oper} {t:Nat} (h:Operand.tmp t∈o.op.operands):t∈o.looksAt l.toArray:=
 List.mem_append_left _ (List.mem_filterMap.2 ⟨.tmp t,by simpa using h,rfl⟩)
theorem wanted_same {o:Oper} (D:Nat→Bool) (v:Nat→Value) (h:∀ t j,t∈o.looksAt l.toArray→own[t]?=some (some j)→D j=true) :
  Region.wanted o (yielded l.toArray (actD own a0 D v).tmps)=Region.wanted o (yielded l.toArray (actF own a0 v).tmps):=by
 unfold Region.wanted;cases hg:o.guard with
 | none=>rfl
 | some gw=>
  obtain⟨g,want⟩:=gw
  have hy:yielded l.toArray (actD own a0 D v).tmps g=yielded l.toArray (actF own a0 v).tmps g:=by
   unfold yielded;cases ht:(l.toArray[g]?).bind (·.dst) with
   | none=>rfl
   | some t=>simp only[Option.bind_some];rw[tmp_same D v t fun j hj=>h t j (by simp only[Oper.looksAt,hg,ht];simp) hj]
  simp only[hy]
theorem put_same {i:Nat} {o:Oper} (hc:InvOk l own up sm) (ho:nthOp l i=some o) {listed:Array Bool} (hs:listed.size=l.length) {v v':Nat→Value} (hv:∀ j,lst listed j=true→v' j=v j) :
  (actD own a0 (lst listed) v).put o.dst (v' i)=actD own a0 (lst (listed.setIfInBounds i true)) v':=by
 have hi:=nthOp_lt ho
 have hl:∀ j,lst (listed.setIfInBounds i true) j=if j=i then true else lst listed j:=by
  intro j;unfold lst;by_cases hj:j=i
  · subst hj;rw[if_pos rfl];simp[Array.getD_eq_getD_getElem?,hs,hi]
  · rw[if_neg hj];simp[Array.getD_eq_getD_getElem?,Array.getElem?_setIfInBounds_ne (Ne.symm hj)]
 have ext:∀ (x y:List Value),(∀ k:Nat,x[k]?=y[k]?)→x=y:=fun x y h=>List.ext_getElem? h;cases hd:o.dst with
 | none=>
  show actD own a0 (lst listed) v=_
  unfold actD;congr 2
  refine ext _ _ fun k=>?_;rw[tmpsL_at,tmpsL_at];cases hk:own[k]? with
  | none=>rfl
  | some q=>
   cases q with
   | none=>rfl
   | some j=>
    have hji:j≠i:=fun e=>by
     subst e;have:=hc.one _ _ _ ho hk;rw[hd] at this;cases this
    simp only[hl,if_neg hji];by_cases hj:lst listed j=true
    · rw[hv j hj]
    · simp[hj]
 | some d=>
  unfold actD Act.put;simp only[List.setIfInBounds_toArray];congr 2
  refine ext _ _ fun k=>?_;rw[List.getElem?_set,tmpsL_at,tmpsL_at,tmpsL_len];by_cases hk:d=k
  ·
   subst hk;rw[hc.dst _ _ _ ho hd];simp only[hl,if_true];by_cases hb:d<a0.tmps.toList.length
   · rw[if_pos hb,List.getElem?_eq_getElem hb,Option.map_some]
   · rw[if_neg hb,List.getElem?_eq_none (Nat.le_of_not_lt hb)];rfl
  ·
   rw[if_neg hk];cases ho':own[k]? with
   | none=>rfl
   | some q=>
    cases q with
    | none=>rfl
    | some j=>
     have hji:j≠i:=fun e=>by
      subst e;have:=hc.one _ _ _ ho ho';rw[hd] at this;injection this with this
      exact hk this
     simp only[hl,if_neg hji];by_cases hj:lst listed j=true
     · rw[hv j hj]
     · simp[hj]
theorem put_like {a b:Act} {d:Option Nat} {u v:Value} (hs:a.tmps.size=b.tmps.size) (h:a.put d u=a.put d v):b.put d u=b.put d v:=by
 cases d with
 | none=>rfl
 | some d=>
  unfold Act.put at h ⊢;by_cases hd:d<a.tmps.size
  ·
   have h1:=congrArg (fun x:Act=>x.tmps[d]?) h;simp[hd] at h1
   rw[h1]
  ·
   have e:∀ x:Value,b.tmps.setIfInBounds d x=b.tmps:=fun x=>Array.setIfInBounds_eq_of_size_le oM;simp only[e]
theorem rowsIn_of {row:String} {args:Array Value} {w:World} {R:Value→World→Prop} (h:Rows P row args w R):RowsIn Fence.wide 0 P row args w R:=
 fun c cs _=>let ⟨v,w',r,s⟩:=h c cs;⟨v,w',r,stepsIn_wide.2 s⟩
theorem wp_like {o:Oper} {a b:Act} {w:World} {K K':Act→World→Prop} {Q:Exit→Act→World→Prop} (he:execOp b.eval o=execOp a.eval o) (hK:∀ u w',K (a.put o.dst u) w'→K' (b.put o.dst u) w')
  (hD:∀ d w',¬ K ({ a with defers:=d::a.defers }.put o.dst undef) w')
  (h:OpDo P o a w K):o.wpIn Fence.wide 0 P b w K' Q:=by
 refine⟨fun _ _=>trivial,?_⟩;rw[show o.semAt Fence.wide.round b.eval=execOp b.eval o from rfl];rcases h with h|⟨l,f,tmps,assign,body,w1,hr,h⟩
 ·
  unfold Oper.wp at h;rw[he];generalize (execOp a.eval o).run P w=r at h ⊢;cases r with
  | ok n w'=>
   cases n<;>simp only[Oper.upon] at h
   case value u=>exact hK _ _ h
   case skip=>exact hK _ _ h
   case defer d=>exact absurd h (hD d w')
   case enter f args=>
    refine⟨fun h=>(by cases h),callsIn_wide.2 (Calls.mono h fun e w'' he=>?_)⟩;cases e with
    | returned u=>exact hK _ _ he
    | panicked c=>exact he.elim
    | outgrown=>exact(by obtain⟨_,_,hf⟩:=he;exact hf.elim)
   case row row args=>exact⟨fun h=>(by cases h),rowsIn_of (Rows.mono h fun u w'' he=>hK _ _ he)⟩
  | halt x w'=>cases x<;>simp only[Oper.upon] at h
 ·
  rw[he,hr];refine⟨fun h=>(by cases h),h.mono fun e w2 ⟨v,hv,hk⟩=>?_⟩;subst hv;exact hK _ _ hk
theorem done_defer {i n:Nat} {D:Nat→Bool} {o:Oper} {γ:Γ} {w:World} (d:Deferred) (w':World):¬ Done own sm B F val a0 i o n D γ w ({ (actF own a0 (val γ)) with defers:=d::(actF own a0 (val γ)).defers }.put o.dst undef) w':=by
 rintro ⟨γ',h,_⟩;have h1:=congrArg (fun x:Act=>x.defers.length) h;cases hd:o.dst<;>rw[hd] at h1<;>simp[Act.put] at h1
theorem act_size (D:Nat→Bool) (v:Nat→Value):(actF own a0 v).tmps.size=(actD own a0 D v).tmps.size:=by
 rw[← actF_eq];simp[actD,tmpsL_len]
theorem count_set {xs:List Bool} {i:Nat} (hi:xs[i]?=some false):(xs.set i true).count true=xs.count true+1:=by
 induction xs generalizing i with
 | nil=>simp at hi
 | cons x xs ih=>
  cases i with
  | zero=>simp at hi;subst hi;simp
  | succ i=>simp at hi;have:=ih hi;simp[List.count_cons,this];omega
theorem step_inv (hc:InvOk l own up sm) (hop:opsOk P l own up sm B F val a0 0 l)
  {n:Nat} {listed:Array Bool} {a:Act} {w:World} (hn:n<l.length) (h:InvAt l own B F val a0 n listed a w) {i:Nat} (hi:i∈Region.ready .any l.toArray listed) :
  wpOpIn Fence.wide 0 P l.toArray (onlyNormal Q) i (fun a' w'=>InvAt l own B F val a0 (n+1) (listed.setIfInBounds i true) a' w') a w:=by
 obtain⟨hsz,hcnt,⟨γ,rfl,hB,hF⟩,hdown⟩:=h;obtain⟨hun,o,ho,hall⟩:=mem_ready.1 hi;have ho':nthOp l i=some o:=by rw[nthOp_eq];exact ho
 have hil:=nthOp_lt ho'
 have hui:lst listed i=false:=by
  unfold lst;simp[Array.getD_eq_getD_getElem?,hsz,hil] at hun ⊢
  exact hun
 have hdep:∀ e∈o.after,Region.binds .any e=true→lst listed e.on=true:=hall
 have hlook:∀ t j,t∈o.looksAt l.toArray→own[t]?=some (some j)→lst listed j=true:=fun t j ht hj=>by
  obtain⟨e,he,hb,rfl⟩:=hc.look _ _ _ _ ho' ht hj;exact hdep e he hb
 have hupl:∀ j,lst listed j=true→∀ k∈up.getD j [],lst listed k=true:=by
  intro j;induction j using Nat.strongRecOn with
  | _ j ih=>
   intro hj k hk;rcases Nat.lt_or_ge j l.length with hjl|hjl
   ·
    obtain⟨oj,hoj⟩:=nthOp_some hjl;obtain⟨e,he,hb,hek⟩:=hc.ups _ _ _ hoj hk;have h1:=hdown j oj hj hoj e he hb;rcases hek with rfl|hek
    · exact h1
    · exact ih e.on (hc.low _ _ hoj e he hb) h1 k hek
   ·
    unfold lst at hj;simp[Array.getD_eq_getD_getElem?,Array.getElem?_eq_none (show listed.size≤j by omega)] at hj
 have hUp:allP (up.getD i []) (fun k=>F k γ w):=allP_spec fun k hk=>by
  obtain⟨e,he,hb,hek⟩:=hc.ups _ _ _ ho' hk;have h1:=hdep e he hb;rcases hek with rfl|hek
  · exact hF _ h1
  · exact hF _ (hupl _ h1 k hek)
 have hne:∀ k,lst listed k=true→k<l.length:=fun k hk=>by
  rcases Nat.lt_or_ge k l.length with h|h
  · exact h
  ·
   unfold lst at hk;simp[Array.getD_eq_getD_getElem?,Array.getElem?_eq_none (show listed.size≤k by omega)] at hk
 have hl:∀ j,lst (listed.setIfInBounds i true) j=true↔j=i∨lst listed j=true:=by
  intro j;unfold lst;by_cases hj:j=i
  · subst hj;simp[Array.getD_eq_getD_getElem?,hsz,hil]
  · simp[Array.getD_eq_getD_getElem?,Array.getElem?_setIfInBounds_ne (Ne.symm hj),hj]
 have hlf:(fun j=>j==i||lst listed j)=lst (listed.setIfInBounds i true):=funext fun j=>by
  rw[Bool.eq_iff_iff,hl j,Bool.or_eq_true,beq_iff_eq]
 have fin:∀ u w',Done own sm B F val a0 i o n (lst listed) γ w ((actF own a0 (val γ)).put o.dst u) w'→InvAt l own B F val a0 (n+1) (listed.setIfInBounds i true) ((actD own a0 (lst listed) (val γ)).put o.dst u) w':=by
  rintro u w' ⟨γ',ha,hB',hF',hsm⟩
  have hsm':∀ j,lst listed j=true→val γ' j=val γ j∧(F j γ w→F j γ' w'):=fun j hj=>
   allP_get hsm j (hc.sms _ _ _ ho' (hne j hj) (fun e=>by rw[e,hui] at hj;cases hj) (fun hm=>by have:=hupl j hj i hm;rw[hui] at this;cases this))
  refine⟨by simpa using hsz,?_,⟨γ',?_,hlf ▸ hB',fun j hj=>?_⟩,fun j oj hj hoj e he hb=>?_⟩
  ·
   rw[Array.toList_setIfInBounds];rw[count_set,hcnt];have:i<listed.size:=by omega
   unfold lst at hui;simp[Array.getD_eq_getD_getElem?,this] at hui
   simp[this,hui]
  ·
   rw[put_like (act_size _ _) ha];exact put_same hc ho' hsz fun j hj=>(hsm' j hj).1
  ·
   rcases (hl j).1 hj with rfl|hj
   · exact hF'
   · exact(hsm' j hj).2 (hF j hj)
  ·
   rcases (hl j).1 hj with rfl|hj
   ·
    rw[ho'] at hoj;injection hoj with hoj
    subst hoj;exact(hl _).2 (.inr (hdep e he hb))
   · exact(hl _).2 (.inr (hdown j oj hj hoj e he hb))
 have hO:=opsOk_get hop ho';rw[Nat.zero_add] at hO;unfold wpOpIn;simp only[ho];rw[wanted_same (lst listed) (val γ) hlook];rcases hO n (lst listed) γ w hn hui hB hUp with⟨hw,h⟩|⟨hw,h⟩
 ·
  simp only[hw,if_true];refine wp_like (a:=actF own a0 (val γ)) ?_ fin (fun d w'=>done_defer d w') h;exact execOp_congr o (fun cs b=>Region.noSelect_spec hc.sel i o cs b ho) fun x hx=>eval_same _ _ x fun t j hxt hj=>hlook t j (by subst hxt;exact looks_op hx) hj
 ·
  simp only[hw,Bool.false_eq_true,if_false];exact⟨fun _ _=>trivial,fin undef w h⟩
theorem all_of_done (hc:InvOk l own up sm) {listed:Array Bool} (hs:listed.size=l.length) (h:Region.ready .any l.toArray listed=[]):∀ j,j<l.length→lst listed j=true:=by
 intro j;induction j using Nat.strongRecOn with
 | _ j ih=>
  intro hj;obtain⟨o,ho⟩:=nthOp_some hj;by_cases hx:lst listed j=true
  · exact hx
  ·
   exfalso
   have:j∈Region.ready .any l.toArray listed:=mem_ready.2 ⟨by
    unfold lst at hx;simp[Array.getD_eq_getD_getElem?,hs,hj] at hx ⊢
    exact hx,o,by rw[← nthOp_eq];exact ho,fun e he hb=>by
    have h1:=hc.low _ _ ho e he hb;exact ih e.on h1 oM⟩
   rw[h] at this;cases this
theorem inv_end (hc:InvOk l own up sm) (hown:ownB l.length own=true) (hend:∀ n D γ w,n≤l.length→(∀ j,j<l.length→D j=true)→B n D γ w→(∀ j,j<l.length→F j γ w)→Q (actF own a0 (val γ)) w)
  {n:Nat} {listed:Array Bool} {a:Act} {w:World} (hn:n≤l.length) (h:InvAt l own B F val a0 n listed a w) (hr:Region.ready .any l.toArray listed=[]):Q a w:=by
 obtain⟨hsz,hcnt,⟨γ,rfl,hB,hF⟩,hdown⟩:=h;have hall:=all_of_done hc hsz hr
 have he:actD own a0 (lst listed) (val γ)=actF own a0 (val γ):=by
  rw[← actF_eq];unfold actD;congr 2
  refine List.ext_getElem? fun k=>?_;rw[tmpsL_at,tmpsL_at];cases hk:own[k]? with
  | none=>rfl
  | some q=>
   cases q with
   | none=>rfl
   | some j=>
    by_cases hj:j<l.length
    · simp[hall j hj]
    ·
     exfalso
     have h1:=List.all_eq_true.1 hown _ (List.mem_of_getElem? hk);simp only[Nat.blt_eq] at h1;exact hj h1
 rw[he];exact hend n _ γ w hn hall hB fun j hj=>hF j (hall j hj)
theorem ready_nil {n:Nat} {listed:Array Bool} {a:Act} {w:World} (h:InvAt l own B F val a0 n listed a w) (hn:n=l.length):Region.ready .any l.toArray listed=[]:=by
 obtain⟨hsz,hcnt,_,_⟩:=h;have hall:∀ b∈listed.toList,true=b:=List.count_eq_length.1 (by rw[hcnt,hn,← hsz];simp);rw[List.eq_nil_iff_forall_not_mem];intro i hi;obtain⟨hun,o,ho,_⟩:=mem_ready.1 hi
 have hil:i<listed.size:=by
  rw[hsz];have:=(Array.getElem?_eq_some_iff.1 ho).1;simpa using this
 have h1:=hall listed[i] (Array.getElem_mem_toList hil);simp[Array.getD_eq_getD_getElem?,hil] at hun
 rw[hun] at h1;cases h1
theorem wpAny_of_inv (hc:InvOk l own up sm) (hown:ownB l.length own=true) (hop:opsOk P l own up sm B F val a0 0 l)
  (hend:∀ n D γ w,n≤l.length→(∀ j,j<l.length→D j=true)→B n D γ w→(∀ j,j<l.length→F j γ w)→Q (actF own a0 (val γ)) w) :
  ∀ (fuel n:Nat) (listed:Array Bool) (a:Act) (w:World),n+fuel=l.length→InvAt l own B F val a0 n listed a w→wpAnyIn Fence.wide 0 P .any l.toArray (onlyNormal Q) fuel listed a w
 | 0,n,listed,a,w,hn,h=>⟨ready_nil h oM,inv_end hc hown hend oM h (ready_nil h oM)⟩
 | fuel+1,n,listed,a,w,hn,h=>
  ⟨fun hr=>inv_end hc hown hend oM h hr,fun i hi=>wpOpIn_mono (fun a' w' h'=>wpAny_of_inv hc hown hop hend fuel (n+1) _ a' w' oM h') (step_inv hc hop oM h hi)⟩
end
theorem act_none (own:List (Option Nat)) (a:Act) (v:Nat→Value):a=actD own a (fun _=>false) v:=by
 have:tmpsL (fun _=>false) v own a.tmps.toList=a.tmps.toList:=List.ext_getElem? fun k=>by
  rw[tmpsL_at];cases own[k]? with
  | none=>rfl
  | some q=>
   cases q with
   | none=>rfl
   | some j=>simp
 unfold actD;rw[this]
theorem wp_region_inv {P:Program} {l:List Oper} {id:Nat} {Q:Exit→Act→World→Prop} {a:Act} {w:World} {Γ:Type} (own:List (Option Nat)) (up sm:List (List Nat)) (vals:Γ→List Value) (ov:Γ→List (Option Value)) (A:Γ→Act)
  (B:Nat→(Nat→Bool)→Γ→World→Prop) (F:Nat→Γ→World→Prop) (γ0:Γ) (hm:P.follows .mixedOrders=true) (hO:∀ γ,own.map (fun x=>x.map fun j=>(vals γ).getD j undef)=ov γ) (hA':∀ γ,(⟨(fullV (ov γ) a.tmps.toList).toArray,a.defers⟩:Act)=A γ)
  (hc:(invB l own up sm&&ownB l.length own)=true) (hB:B 0 (fun _=>false) γ0 w.drew)
  (hop:(∀ γ,actF own a (fun j=>(vals γ).getD j undef)=A γ)→opsOk P l own up sm B F (fun γ j=>(vals γ).getD j undef) a 0 l)
  (hend:∀ n D γ w,n≤l.length→(∀ j,j<l.length→D j=true)→B n D γ w→(∀ j,j<l.length→F j γ w)→Q .normal (A γ) w):(Code.region id l.toArray true).wp P Q a w:=by
 rw[Bool.and_eq_true] at hc;have hA:∀ γ,actF own a (fun j=>(vals γ).getD j undef)=A γ:=fun γ=>by rw[← hA',← hO];unfold actF;rw[fullV_eq]
 have h0:InvAt l own B F (fun γ j=>(vals γ).getD j undef) a 0 (Array.replicate l.length false) a w.drew:=by
  have hl:∀ j,lst (Array.replicate l.length false) j=false:=fun j=>by
   unfold lst;rw[Array.getD_eq_getD_getElem?,Array.getElem?_replicate];split<;>rfl
  refine⟨by simp,List.count_eq_zero.2 (by simp),⟨γ0,?_,(funext hl:lst (Array.replicate l.length false)=fun _=>false) ▸ hB,fun j hj=>?_⟩,fun j o hj=>?_⟩
  ·
   have:lst (Array.replicate l.length false)=fun _=>false:=funext hl;rw[this];exact act_none own a _
  · rw[hl j] at hj;cases hj
  · rw[hl j] at hj;cases hj
 have h1:=wpAny_of_inv (Q:=fun a' w'=>Q .normal a' w') (invOk_of hc.1) hc.2 (hop hA) (fun n D γ w hn hD hB hF=>by rw[hA];exact hend n D γ w hn hD hB hF) l.length 0 _ a w.drew oM h0;refine Code.wp_mono ?_ (wpIn_wide.1 (wpIn_region_any hm (by simpa using h1)));intro e a w hq;cases e<;>first|exact hq|exact hq.elim
theorem ops_seq {P:Program} {l:List Oper} {own:List (Option Nat)} {up sm:List (List Nat)} {Γ:Type} {B:Nat→(Nat→Bool)→Γ→World→Prop} {F:Nat→Γ→World→Prop} {val:Γ→Nat→Value} {a0:Act} {Q:Act→World→Prop}
  (hc:InvOk l own up sm) (hown:ownB l.length own=true) (hop:opsOk P l own up sm B F val a0 0 l)
  (hend:∀ n D γ w,n≤l.length→(∀ j,j<l.length→D j=true)→B n D γ w→(∀ j,j<l.length→F j γ w)→Q (actF own a0 (val γ)) w) :
  ∀ (m k:Nat) (listed:Array Bool) (a:Act) (w:World),k+m=l.length→InvAt l own B F val a0 k listed a w→(∀ j,lst listed j=true↔j<k)→wpOpsIn Fence.wide 0 P l.toArray (onlyNormal Q) (List.range' k m) a w
 | 0,k,listed,a,w,hk,h,_=>inv_end hc hown hend oM h (ready_nil h oM)
 | m+1,k,listed,a,w,hk,h,hl=>by
  rw[List.range'_succ,wpOpsIn_cons];obtain⟨o,ho⟩:=nthOp_some (l:=l) (i:=k) oM;have hsz:=h.size
  have hun:lst listed k=false:=by
   have:=hl k;cases hx:lst listed k
   · rfl
   · have:=this.1 hx;omega
  have hi:k∈Region.ready .any l.toArray listed:=mem_ready.2 ⟨by
    unfold lst at hun;have hks:k<listed.size:=by omega
    simp[Array.getD_eq_getD_getElem?,hks] at hun ⊢
    exact hun,o,by rw[← nthOp_eq];exact ho,fun e he hb=>(hl _).2 (hc.low _ _ ho e he hb)⟩
  refine wpOpIn_mono (fun a' w' h'=>ops_seq hc hown hop hend m (k+1) _ a' w' oM h' fun j=>?_) (step_inv hc hop oM h hi);have h2:=hl j;unfold lst at h2 ⊢;by_cases hj:j=k
  ·
   subst hj;have hks:j<listed.size:=by omega
   simp[Array.getD_eq_getD_getElem?,hks]
  ·
   rw[Array.getD_eq_getD_getElem?,Array.getElem?_setIfInBounds_ne (Ne.symm hj),← Array.getD_eq_getD_getElem?,h2];omega
theorem wp_region_inv0 {P:Program} {l:List Oper} {id:Nat} {Q:Exit→Act→World→Prop} {a:Act} {w:World} {Γ:Type} (own:List (Option Nat)) (up sm:List (List Nat)) (vals:Γ→List Value) (ov:Γ→List (Option Value)) (A:Γ→Act)
  (B:Nat→(Nat→Bool)→Γ→World→Prop) (F:Nat→Γ→World→Prop) (γ0:Γ) (hO:∀ γ,own.map (fun x=>x.map fun j=>(vals γ).getD j undef)=ov γ) (hA':∀ γ,(⟨(fullV (ov γ) a.tmps.toList).toArray,a.defers⟩:Act)=A γ)
  (hc:(invB l own up sm&&ownB l.length own)=true) (hB:B 0 (fun _=>false) γ0 w)
  (hop:(∀ γ,actF own a (fun j=>(vals γ).getD j undef)=A γ)→opsOk P l own up sm B F (fun γ j=>(vals γ).getD j undef) a 0 l)
  (hend:∀ n D γ w,n≤l.length→(∀ j,j<l.length→D j=true)→B n D γ w→(∀ j,j<l.length→F j γ w)→Q .normal (A γ) w):(Code.region id l.toArray false).wp P Q a w:=by
 rw[Bool.and_eq_true] at hc;have hA:∀ γ,actF own a (fun j=>(vals γ).getD j undef)=A γ:=fun γ=>by rw[← hA',← hO];unfold actF;rw[fullV_eq]
 have hl:∀ j,lst (Array.replicate l.length false) j=false:=fun j=>by
  unfold lst;rw[Array.getD_eq_getD_getElem?,Array.getElem?_replicate];split<;>rfl
 have h0:InvAt l own B F (fun γ j=>(vals γ).getD j undef) a 0 (Array.replicate l.length false) a w:=by
  refine⟨by simp,List.count_eq_zero.2 (by simp),⟨γ0,?_,(funext hl:lst (Array.replicate l.length false)=fun _=>false) ▸ hB,fun j hj=>?_⟩,fun j o hj=>?_⟩
  ·
   have:lst (Array.replicate l.length false)=fun _=>false:=funext hl;rw[this];exact act_none own a _
  · rw[hl j] at hj;cases hj
  · rw[hl j] at hj;cases hj
 have h1:=ops_seq (Q:=fun a' w'=>Q .normal a' w') (invOk_of hc.1) hc.2 (hop hA) (fun n D γ w hn hD hB hF=>by rw[hA];exact hend n D γ w hn hD hB hF) l.length 0 _ a w oM h0 (fun j=>by rw[hl j];simp);refine Code.wp_mono ?_ (wpIn_wide.1 (wpIn_region (n:=0) (by rw[List.size_toArray,List.range_eq_range'];exact h1)));intro e a w hq;cases e<;>first|exact hq|exact hq.elim
section
variable {P:Program} {l:List Oper} {own:List (Option Nat)} {up sm:List (List Nat)} {Γ:Type} {B:Nat→(Nat→Bool)→Γ→World→Prop} {F:Nat→Γ→World→Prop} {vals:Γ→List Value} {a0:Act} {A:Γ→Act}
theorem opOk_l {i:Nat} {o:Oper} (hA:∀ γ,actF own a0 (fun j=>(vals γ).getD j undef)=A γ) (hw:∀ γ,Region.wanted o (yielded l.toArray (A γ).tmps)=true)
  (h:∀ n D γ w,n<l.length→D i=false→B n D γ w→allP (up.getD i []) (fun k=>F k γ w)→∀ K:Act→World→Prop,
   (∀ a' w' γ',a'=(A γ).put o.dst ((vals γ').getD i undef)→B (n+1) (fun j=>j==i||D j) γ' w'→F i γ' w'→(allP (sm.getD i []) fun j=>(vals γ').getD j undef=(vals γ).getD j undef∧(F j γ w→F j γ' w'))→K a' w') →
   o.wp P (A γ) w K (fun _ _ _=>False)) :
  OpOk P l own up sm B F (fun γ j=>(vals γ).getD j undef) a0 i o:=
 fun n D γ w hn hD hB hU=>.inl ⟨by rw[hA];exact hw γ,by rw[hA];exact .inl (h n D γ w hn hD hB hU _ fun _ _ γ' h1 h2 h3 h4=>⟨γ',by rw[hA];exact h1,h2,h3,h4⟩)⟩
theorem opOk_y {i:Nat} {o:Oper} (hA:∀ γ,actF own a0 (fun j=>(vals γ).getD j undef)=A γ) (hw:∀ γ,Region.wanted o (yielded l.toArray (A γ).tmps)=true)
  (h:∀ n D γ w,n<l.length→D i=false→B n D γ w→allP (up.getD i []) (fun k=>F k γ w)→∀ K:Act→World→Prop,
   (∀ a' w' γ',a'=(A γ).put o.dst ((vals γ').getD i undef)→B (n+1) (fun j=>j==i||D j) γ' w'→F i γ' w'→(allP (sm.getD i []) fun j=>(vals γ').getD j undef=(vals γ).getD j undef∧(F j γ w→F j γ' w'))→K a' w') →
   ∃ lp args,(execOp (A γ).eval o).run P w=(Instr.yield lp args).run P w∧YieldAt Fence.wide 0 P lp args w fun e w'=>∃ v,e=.returned v∧K ((A γ).put o.dst v) w') :
  OpOk P l own up sm B F (fun γ j=>(vals γ).getD j undef) a0 i o:=
 fun n D γ w hn hD hB hU=>.inl ⟨by rw[hA];exact hw γ,by
  rw[hA];obtain⟨lp,args,he,fn,tmps,assign,body,hy,hR⟩:=h n D γ w hn hD hB hU (Done own sm B F (fun γ j=>(vals γ).getD j undef) a0 i o n D γ w) fun _ _ γ' h1 h2 h3 h4=>⟨γ',by rw[hA];exact h1,h2,h3,h4⟩;exact .inr ⟨lp,fn,tmps,assign,body,w,by rw[he];exact hy,hR⟩⟩
theorem opOk_v {i:Nat} {o:Oper} (hA:∀ γ,actF own a0 (fun j=>(vals γ).getD j undef)=A γ) (hw:∀ γ,Region.wanted o (yielded l.toArray (A γ).tmps)=true) (hF:∀ γ w,F i γ w) (hmono:∀ n D γ w,n<l.length→B n D γ w→B (n+1) (fun j=>j==i||D j) γ w)
  (h:∀ n D γ w,B n D γ w→allP (up.getD i []) (fun k=>F k γ w)→∀ K:Act→World→Prop,(∀ a',a'=(A γ).put o.dst ((vals γ).getD i undef)→K a' w)→o.wp P (A γ) w K (fun _ _ _=>False)) :
  OpOk P l own up sm B F (fun γ j=>(vals γ).getD j undef) a0 i o:=
 opOk_l hA hw fun n D γ w hn _ hB hU _ hK=>h n D γ w hB hU _ fun _ h1=>hK _ _ γ h1 (hmono n D γ w hn hB) (hF γ w) (allP_spec fun _ _=>⟨rfl,id⟩)
theorem opOk_s {i:Nat} {o:Oper} (hA:∀ γ,actF own a0 (fun j=>(vals γ).getD j undef)=A γ) (hw:∀ γ,Region.wanted o (yielded l.toArray (A γ).tmps)=false) (hv:∀ γ,(vals γ).getD i undef=undef) (hF:∀ γ w,F i γ w) (hmono:∀ n D γ w,n<l.length→B n D γ w→B (n+1) (fun j=>j==i||D j) γ w) :
  OpOk P l own up sm B F (fun γ j=>(vals γ).getD j undef) a0 i o:=
 fun n D γ w hn _ hB _=>.inr ⟨by rw[hA];exact hw γ,γ,by rw[hA,show (fun γ j=>(vals γ).getD j undef) γ i=undef from hv γ],hmono n D γ w hn hB,hF γ w,allP_spec fun _ _=>⟨rfl,id⟩⟩
theorem oKv {i:Nat} {o:Oper} (hA:∀ γ,actF own a0 (fun j=>(vals γ).getD j undef)=A γ) (hmono:∀ n D γ w,n<l.length→B n D γ w→B (n+1) (fun j=>j==i||D j) γ w:=by intro n D γ w hn h;(try dsimp only at h);exact h)
 (h:∀ n D γ w,B n D γ w→allP (up.getD i []) (fun k=>F k γ w)→∀ K:Act→World→Prop,(∀ a',a'=(A γ).put o.dst ((vals γ).getD i undef)→K a' w)→o.wp P (A γ) w K (fun _ _ _=>False):=by intro n D γ w hB hU K hK;(try dsimp only at hB);(try dsimp only);clear hB hU;go_step;exact hK _ rfl)
 (hw:∀ γ,Region.wanted o (yielded l.toArray (A γ).tmps)=true:=by exact fun _=>rfl) (hF:∀ γ w,F i γ w:=by exact fun _ _=>trivial) :
 OpOk P l own up sm B F (fun γ j=>(vals γ).getD j undef) a0 i o:=opOk_v hA hw hF hmono h
end
theorem dA {p:Prop} (h:p:=by (try dsimp only[allP,List.getD_cons_zero,List.getD_cons_succ]);(repeat' apply And.intro)<;>first|exact rfl|exact trivial|exact id|assumption):p:=h
end Go.Proofs.YtdhiappifnflpaaGreatDoor
