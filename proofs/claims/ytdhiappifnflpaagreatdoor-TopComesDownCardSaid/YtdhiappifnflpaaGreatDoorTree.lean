/- A region that draws its order where several operations that act on the world may come next: a tree of choices. Plain theory over the one of forced orders. -/
import Derived.Test.YtdhiappifnflpaaGreatDoorM03
namespace Go.Proofs.YtdhiappifnflpaaGreatDoor
open Go.RowKit
inductive Tr where
 | nil:Tr
 | st (i k:Nat) (r:Tr):Tr
 | b2 (i:Nat) (x:Tr) (j:Nat) (y:Tr):Tr
 | b3 (i:Nat) (x:Tr) (j:Nat) (y:Tr) (k:Nat) (z:Tr):Tr
def Tr.depth:Tr→Nat
 | .nil=>0
 | .st _ _ r=>r.depth+1
 | .b2 _ x _ _=>x.depth+1
 | .b3 _ x _ _ _ _=>x.depth+1
def trB (ops:Array Oper):Tr→Array Bool→Bool
 | .nil,listed=>(Region.ready .any ops listed).isEmpty
 | .st i k r,listed=>
  (match k with
   | 0=>(Region.ready .any ops listed).contains i&&Region.free .any ops listed i&&((ops[i]?).map (valOp ·.op)).getD false
   | 1=>(Region.ready .any ops listed).contains i&&Region.free .any ops listed i&&((ops[i]?).map (valOp ·.op)).getD false
   | 2=>Region.ready .any ops listed==[i]
   | _=>false)
  && trB ops r (listed.setIfInBounds i true)
 | .b2 i x j y,listed=>Region.ready .any ops listed==[i,j]&&(x.depth==y.depth&&(trB ops x (listed.setIfInBounds i true)&&trB ops y (listed.setIfInBounds j true)))
 | .b3 i x j y k z,listed=>Region.ready .any ops listed==[i,j,k]&&(x.depth==y.depth&&(x.depth==z.depth&&(trB ops x (listed.setIfInBounds i true)&&(trB ops y (listed.setIfInBounds j true)&&trB ops z (listed.setIfInBounds k true)))))
def wpOne (P:Program) (l:List Oper) (C:World→Prop) (i:Nat) (R:Act→World→Prop) (a:Act) (w:World):Prop:=∃ o,nthOp l i=some o ∧
 if Region.wanted o (yielded l.toArray a.tmps) then o.wp P a w (fun a' w'=>C w'∧R a' w') (fun _ _ _=>False) else R (a.put o.dst undef) w
def wpTr (P:Program) (l:List Oper) (C:World→Prop) (Q:Act→World→Prop):Tr→Act→World→Prop
 | .nil,a,w=>Q a w
 | .st i k r,a,w=>∃ o,nthOp l i=some o ∧
  if Region.wanted o (yielded l.toArray a.tmps) then
   (match k with
    | 0=>o.quiet P a (fun w'=>∃ x:Ev (fun _=>True),w'=x.w) (fun a'=>wpTr P l C Q r a' w)
    | 1=>o.quiet P a (fun w'=>∃ x:Ev C,w'=x.w) (fun a'=>wpTr P l C Q r a' w)
    | _=>o.wp P a w (fun a' w'=>C w'∧wpTr P l C Q r a' w') (fun _ _ _=>False))
  else wpTr P l C Q r (a.put o.dst undef) w
 | .b2 i x j y,a,w=>wpOne P l C i (wpTr P l C Q x) a w∧wpOne P l C j (wpTr P l C Q y) a w
 | .b3 i x j y k z,a,w=>wpOne P l C i (wpTr P l C Q x) a w∧wpOne P l C j (wpTr P l C Q y) a w∧wpOne P l C k (wpTr P l C Q z) a w
section
variable {P:Program} {l:List Oper} {C:World→Prop} {Q:Act→World→Prop}
theorem wpOp_of_one {i:Nat} {R R':Act→World→Prop} {a:Act} {w:World} (hw0:C w) (h:wpOne P l C i R a w) (hR:∀ a w,C w→R a w→R' a w):wpOp P l.toArray (onlyNormal Q) i (fun a' w'=>C w'∧R' a' w') a w:=by
 obtain⟨o,ho,h⟩:=h;have ho':l.toArray[i]?=some o:=by rw[← nthOp_eq];exact ho
 unfold wpOp;simp only[ho'];by_cases hw:Region.wanted o (yielded l.toArray a.tmps)=true
 ·
  simp only[hw,if_true] at h ⊢;refine .inl ?_;have h3:=Oper.wp_mono (P:=P) (Q:=fun _ _ _=>False) (K':=fun a' w'=>C w'∧R' a' w') (fun a' w' hh=>⟨hh.1,hR a' w' hh.1 hh.2⟩) h;exact wp_exits (fun e a w hh=>hh.elim) h3
 ·
  simp only[hw,if_false,Bool.false_eq_true] at h ⊢;exact⟨hw0,hR _ _ hw0 h⟩
theorem wpPh_of_tr (hs:Region.noSelect l.toArray=true):∀ (t:Tr) (listed:Array Bool) (a:Act) (w:World),trB l.toArray t listed=true→C w→wpTr P l C Q t a w →
  wpPh P l.toArray (onlyNormal Q) (fun _=>C) [] t.depth listed 0 a w
 | .nil,listed,a,w,hB,_,h=>⟨by simpa [trB] using hB,h⟩
 | .st i 0 r,listed,a,w,hB,hC,h=>by
  obtain⟨o,ho,h⟩:=h;have ho':l.toArray[i]?=some o:=by rw[← nthOp_eq];exact ho
  simp only[trB,Bool.and_eq_true,ho',Option.map_some,Option.getD_some] at hB;obtain⟨⟨⟨hr,hf⟩,hv⟩,hB'⟩:=hB;have hap:=Region.free_spec ho' hf;by_cases hw:Region.wanted o (yielded l.toArray a.tmps)=true
  ·
   simp only[hw,if_true] at h;obtain⟨v,h1,h2⟩:=h
   have hy:YieldsIf P l.toArray (fun _=>True) o v a:=by
    have:=yieldsIf_of_quiet hv hw h1;exact this.imp (fun ⟨e1,e2⟩=>⟨e1,fun w' hC'=>e2 w' ⟨⟨w',hC'⟩,rfl⟩⟩) id
   exact wpPh_first (S:=fun _=>C) (adv:=[]) ho' rfl (Region.noSelect_spec hs) (fun _ _ _ hh=>hh) _ _ _ _ _ (fun j oj hj hji hun hno=>⟨hap j oj hj hji hun hno,.inr fun _=>trivial⟩) (fun _ _=>trivial) (by simpa using hr) hy hC (wpPh_of_tr hs r _ _ w hB' hC h2)
  ·
   simp only[hw,if_false,Bool.false_eq_true] at h
   exact wpPh_first (S:=fun _=>C) (adv:=[]) (Si:=fun _=>True) ho' rfl (Region.noSelect_spec hs) (fun _ _ _ hh=>hh) _ _ _ _ _ (fun j oj hj hji hun hno=>⟨hap j oj hj hji hun hno,.inr fun _=>trivial⟩) (fun _ _=>trivial) (by simpa using hr)
    (.inr ⟨by simpa using hw,rfl⟩) hC (wpPh_of_tr hs r _ _ w hB' hC h)
 | .st i 1 r,listed,a,w,hB,hC,h=>by
  obtain⟨o,ho,h⟩:=h;have ho':l.toArray[i]?=some o:=by rw[← nthOp_eq];exact ho
  simp only[trB,Bool.and_eq_true,ho',Option.map_some,Option.getD_some] at hB;obtain⟨⟨⟨hr,hf⟩,hv⟩,hB'⟩:=hB;have hap:=Region.free_spec ho' hf;by_cases hw:Region.wanted o (yielded l.toArray a.tmps)=true
  ·
   simp only[hw,if_true] at h;obtain⟨v,h1,h2⟩:=h
   have hy:YieldsIf P l.toArray C o v a:=by
    have:=yieldsIf_of_quiet hv hw h1;exact this.imp (fun ⟨e1,e2⟩=>⟨e1,fun w' hC'=>e2 w' ⟨⟨w',hC'⟩,rfl⟩⟩) id
   exact wpPh_first (S:=fun _=>C) (adv:=[]) ho' rfl (Region.noSelect_spec hs) (fun _ _ _ hh=>hh) _ _ _ _ _ (fun j oj hj hji hun hno=>⟨hap j oj hj hji hun hno,.inl rfl⟩) (fun _ h=>h) (by simpa using hr) hy hC (wpPh_of_tr hs r _ _ w hB' hC h2)
  ·
   simp only[hw,if_false,Bool.false_eq_true] at h
   exact wpPh_first (S:=fun _=>C) (adv:=[]) (Si:=C) ho' rfl (Region.noSelect_spec hs) (fun _ _ _ hh=>hh) _ _ _ _ _ (fun j oj hj hji hun hno=>⟨hap j oj hj hji hun hno,.inl rfl⟩) (fun _ h=>h) (by simpa using hr)
    (.inr ⟨by simpa using hw,rfl⟩) hC (wpPh_of_tr hs r _ _ w hB' hC h)
 | .st i 2 r,listed,a,w,hB,hC,h=>by
  simp only[trB,Bool.and_eq_true,beq_iff_eq] at hB;obtain⟨hr,hB'⟩:=hB;refine⟨fun h0=>(by rw[hr] at h0;cases h0),fun j hj=>?_⟩;rw[hr] at hj;have hj':j=i:=by simpa using hj
  subst hj';exact wpOp_of_one (i:=j) (R:=wpTr P l C Q r) hC h (fun a' w' hC' hh=>wpPh_of_tr hs r _ a' w' hB' hC' hh)
 | .st i (k+3) r,listed,a,w,hB,hC,h=>by
  simp[trB] at hB
 | .b2 i x j y,listed,a,w,hB,hC,h=>by
  simp only[trB,Bool.and_eq_true,beq_iff_eq] at hB;obtain⟨hr,hd,hx,hy⟩:=hB;refine⟨fun h0=>(by rw[hr] at h0;cases h0),fun m hm=>?_⟩;rw[hr] at hm;have hm':m=i∨m=j:=by simpa using hm
  rcases hm' with rfl|rfl
  · exact wpOp_of_one (i:=m) (R:=wpTr P l C Q x) hC h.1 (fun a' w' hC' hh=>wpPh_of_tr hs x _ a' w' hx hC' hh)
  · exact wpOp_of_one (i:=m) (R:=wpTr P l C Q y) hC h.2 (fun a' w' hC' hh=>hd ▸ wpPh_of_tr hs y _ a' w' hy hC' hh)
 | .b3 i x j y k z,listed,a,w,hB,hC,h=>by
  simp only[trB,Bool.and_eq_true,beq_iff_eq] at hB;obtain⟨hr,hd,hd2,hx,hy,hz⟩:=hB;refine⟨fun h0=>(by rw[hr] at h0;cases h0),fun m hm=>?_⟩;rw[hr] at hm;have hm':m=i∨m=j∨m=k:=by simpa using hm
  rcases hm' with rfl|rfl|rfl
  · exact wpOp_of_one (i:=m) (R:=wpTr P l C Q x) hC h.1 (fun a' w' hC' hh=>wpPh_of_tr hs x _ a' w' hx hC' hh)
  · exact wpOp_of_one (i:=m) (R:=wpTr P l C Q y) hC h.2.1 (fun a' w' hC' hh=>hd ▸ wpPh_of_tr hs y _ a' w' hy hC' hh)
  · exact wpOp_of_one (i:=m) (R:=wpTr P l C Q z) hC h.2.2 (fun a' w' hC' hh=>hd2 ▸ wpPh_of_tr hs z _ a' w' hz hC' hh)
theorem wp_region_tr {id:Nat} {Q:Exit→Act→World→Prop} {a:Act} {w:World} (C:World→Prop) (t:Tr) (hm:P.follows .mixedOrders=true)
  (hB:(Region.noSelect l.toArray&&(trB l.toArray t (Array.replicate l.toArray.size false)&&t.depth==l.toArray.size))=true)
  (hC:C w.drew) (h:Nonempty (Ev C)→wpTr P l C (fun a' w'=>Q .normal a' w') t a w.drew):(Code.region id l.toArray true).wp P Q a w:=by
 simp only[Bool.and_eq_true,beq_iff_eq] at hB;obtain⟨hs,hB,hl⟩:=hB;have h1:=wpPh_of_tr (Q:=fun a' w'=>Q .normal a' w') hs t (Array.replicate l.toArray.size false) a w.drew hB hC (h ⟨⟨_,hC⟩⟩);rw[hl] at h1;refine Code.wp_mono ?_ (wp_region_any hm (wpAny_of_ph _ _ _ _ _ h1));intro e a w hq;cases e<;>first|exact hq|exact hq.elim
theorem wpTr_nil {a:Act} {w:World} (h:Q a w):wpTr P l C Q .nil a w:=h
theorem wpTr_v {i:Nat} {r:Tr} {a:Act} {w:World} {o:Oper} (ho:nthOp l i=some o) (hw:Region.wanted o (yielded l.toArray a.tmps)=true)
  (h:∀ K:Act→Prop,(∀ a,wpTr P l C Q r a w→K a)→o.quiet P a (fun w'=>∃ x:Ev (fun _=>True),w'=x.w) K):wpTr P l C Q (.st i 0 r) a w:=
 ⟨o,ho,by rw[if_pos hw];exact h _ fun _ h=>h⟩
theorem wpTr_q {i:Nat} {r:Tr} {a:Act} {w:World} {o:Oper} (ho:nthOp l i=some o) (hw:Region.wanted o (yielded l.toArray a.tmps)=true)
  (h:∀ K:Act→Prop,(∀ a,wpTr P l C Q r a w→K a)→o.quiet P a (fun w'=>∃ x:Ev C,w'=x.w) K):wpTr P l C Q (.st i 1 r) a w:=
 ⟨o,ho,by rw[if_pos hw];exact h _ fun _ h=>h⟩
theorem wpTr_s {i k:Nat} {r:Tr} {a:Act} {w:World} {o:Oper} (ho:nthOp l i=some o) (hw:Region.wanted o (yielded l.toArray a.tmps)=false)
  (h:wpTr P l C Q r (a.put o.dst undef) w):wpTr P l C Q (.st i k r) a w:=
 ⟨o,ho,by rw[if_neg (by rw[hw];exact Bool.false_ne_true)];exact h⟩
theorem wpTr_l {i:Nat} {r:Tr} {a:Act} {w:World} {o:Oper} (ho:nthOp l i=some o) (hw:Region.wanted o (yielded l.toArray a.tmps)=true)
  (h:∀ K:Act→World→Prop,(∀ a w,C w→wpTr P l C Q r a w→K a w)→o.wp P a w K (fun _ _ _=>False)):wpTr P l C Q (.st i 2 r) a w:=
 ⟨o,ho,by rw[if_pos hw];exact h _ fun _ _ h1 h2=>⟨h1,h2⟩⟩
theorem wpOne_l {i:Nat} {R:Act→World→Prop} {a:Act} {w:World} {o:Oper} (ho:nthOp l i=some o) (hw:Region.wanted o (yielded l.toArray a.tmps)=true)
  (h:∀ K:Act→World→Prop,(∀ a w,C w→R a w→K a w)→o.wp P a w K (fun _ _ _=>False)):wpOne P l C i R a w:=
 ⟨o,ho,by rw[if_pos hw];exact h _ fun _ _ h1 h2=>⟨h1,h2⟩⟩
theorem wpTr_b2 {i j:Nat} {x y:Tr} {a:Act} {w:World} (h:wpOne P l C i (wpTr P l C Q x) a w) (k:wpOne P l C j (wpTr P l C Q y) a w):wpTr P l C Q (.b2 i x j y) a w:=⟨h,k⟩
end
theorem tX {p q:Prop} (h:q) (k:Rest q→p:=by intro q;(repeat (first|(refine wpTr_v rfl rfl ?_;intro K hK;go_big_quiet_op;go_big_quiet_on)|(refine wpTr_q rfl rfl ?_;intro K hK;go_big_quiet_op;go_big_quiet_on)|refine wpTr_s rfl rfl ?_));exact q.h):p:=k ⟨h⟩
end Go.Proofs.YtdhiappifnflpaaGreatDoor
