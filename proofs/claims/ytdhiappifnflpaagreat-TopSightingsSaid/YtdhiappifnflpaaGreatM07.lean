/- Quotients of products, comparisons of products: the walks of span, second part. A region that draws its order where several operations that act on the world may come next: a tree of choices. Plain theory over the one of forced orders. -/
import Derived.Test.YtdhiappifnflpaaGreatM06
import Derived.Test.YtdhiappifnflpaaGreatM02
namespace Go.Proofs.YtdhiappifnflpaaGreat
open Go.RowKit
theorem neg_ediv_nat (n k:Nat) (hk:0<k):(-(n:Int)) / (k:Int)=-((n / k+if 0<n % k then 1 else 0:Nat):Int):=by
 have h:=Nat.div_add_mod n k;have hr:=Nat.mod_lt n hk;obtain⟨q,hq⟩:∃ q,q=n / k:=⟨_,rfl⟩;obtain⟨r,hr'⟩:∃ r,r=n % k:=⟨_,rfl⟩;rw[← hq,← hr'] at h ⊢;rw[← hr'] at hr;clear hq hr';have hk':(0:Int)<k:=by omega
 by_cases h0:0<r
 ·
  rw[if_pos h0]
  have e:-(n:Int)=((k:Int)-r)+(k:Int) * (-((q:Int)+1)):=by
   have:(n:Int)=(k:Int) * q+r:=by exact_mod_cast h.symm
   rw[this];grind
  rw[e,Int.add_mul_ediv_left _ _ oM,Int.ediv_eq_zero_of_lt oM oM];omega
 ·
  rw[if_neg h0];obtain rfl:r=0:=by omega
  have e:-(n:Int)=0+(k:Int) * (-(q:Int)):=by
   have:(n:Int)=(k:Int) * q+(0:Nat):=by exact_mod_cast h.symm
   rw[this];grind
  rw[e,Int.add_mul_ediv_left _ _ oM,Int.zero_ediv];omega
theorem lt_u64 {n:Nat} (h:n<9223372036854775808):n<18446744073709551616:=Nat.lt_trans h (by decide)
theorem lt_i64 {n:Nat} (h:n≤1152921504606846976):n<9223372036854775808:=Nat.lt_of_le_of_lt h (by decide)
theorem pos_ediv_nat (n k:Nat):(n:Int) / (k:Int)=((n / k:Nat):Int):=by simp
theorem div_same (V c:Int) (hc:c≠0) (h:(0≤V∧0<c)∨(V≤0∧c<0)):Int.fdiv V c=((V.natAbs / c.natAbs:Nat):Int)∧cdiv V c=((V.natAbs / c.natAbs+if 0<V.natAbs % c.natAbs then 1 else 0:Nat):Int):=by
 unfold cdiv;have hk:0<c.natAbs:=by omega
 rcases h with⟨h1,h2⟩|⟨h1,h2⟩
 ·
  have e1:V=(V.natAbs:Int):=by omega
  have e2:c=(c.natAbs:Int):=by omega
  rw[fdiv_pos _ h2,fdiv_pos _ h2];refine⟨?_,?_⟩
  · rw[← pos_ediv_nat,← e1,← e2]
  ·
   have:=neg_ediv_nat V.natAbs c.natAbs hk;rw[← e1,← e2] at this;rw[this];omega
 ·
  have e1:-V=(V.natAbs:Int):=by omega
  have e2:-c=(c.natAbs:Int):=by omega
  rw[fdiv_neg' _ h2,fdiv_neg' _ h2];refine⟨?_,?_⟩
  · rw[← pos_ediv_nat,← e1,← e2]
  ·
   have:=neg_ediv_nat V.natAbs c.natAbs hk;rw[← e1,← e2] at this;rw[this];omega
theorem div_diff (V c:Int) (hc:c≠0) (h:(V≤0∧0<c)∨(0≤V∧c<0)):Int.fdiv V c=-((V.natAbs / c.natAbs+if 0<V.natAbs % c.natAbs then 1 else 0:Nat):Int)∧cdiv V c=-((V.natAbs / c.natAbs:Nat):Int):=by
 unfold cdiv;have hk:0<c.natAbs:=by omega
 rcases h with⟨h1,h2⟩|⟨h1,h2⟩
 ·
  have e1:V=-(V.natAbs:Int):=by omega
  have e1':-V=(V.natAbs:Int):=by omega
  have e2:c=(c.natAbs:Int):=by omega
  rw[fdiv_pos _ h2,fdiv_pos _ h2];refine⟨?_,?_⟩
  ·
   have:=neg_ediv_nat V.natAbs c.natAbs hk;rw[← e1,← e2] at this;exact this
  · rw[← pos_ediv_nat,← e1',← e2]
 ·
  have e1:V=(V.natAbs:Int):=by omega
  have e2:-c=(c.natAbs:Int):=by omega
  have e3:- -V=(V.natAbs:Int):=by omega
  rw[fdiv_neg' _ h2,fdiv_neg' _ h2];refine⟨?_,?_⟩
  ·
   have:=neg_ediv_nat V.natAbs c.natAbs hk;rw[← e1,← e2] at this;exact this
  · rw[← pos_ediv_nat,← e3,← e2]
structure Dv (V c:Int) (s:Bool) (d q r u:Nat) (lo hi:Int):Prop where
 d0:0<d
 dl:d<9223372036854775808
 ed:d=c.natAbs
 eq:q=V.natAbs / d
 er:r=V.natAbs % d
 eu:u=q+if 0<r then 1 else 0
 ul:u≤1152921504606846976
 res:if (!(s==decide (c<0)))=true then lo=-(u:Int)∧hi=-(q:Int) else lo=(q:Int)∧hi=(u:Int)
theorem dv_of (V c:Int) (s:Bool) (hc:c≠0) (hcl:-9223372036854775808<c∧c<9223372036854775808) (hV:V.natAbs≤1152921504606846976) (hs:if s then V≤0 else 0≤V):∃ d q r u,Dv V c s d q r u (Int.fdiv V c) (cdiv V c):=by
 have hk:0<c.natAbs:=by omega
 have hq:V.natAbs / c.natAbs≤V.natAbs:=Nat.div_le_self _ _;have hm:=Nat.div_add_mod V.natAbs c.natAbs;refine⟨_,_,_,_,hk,by omega,rfl,rfl,rfl,rfl,?_,?_⟩
 ·
  split
  ·
   rename_i h;rcases Nat.lt_or_ge 1 c.natAbs with h1|h1
   ·
    have:V.natAbs / c.natAbs * 2≤V.natAbs:=by
     have:=Nat.mul_le_mul_left (V.natAbs / c.natAbs) h1;have e:V.natAbs / c.natAbs * c.natAbs=c.natAbs * (V.natAbs / c.natAbs):=Nat.mul_comm _ _;omega
    omega
   ·
    have e:c.natAbs=1:=by omega
    rw[e] at h;have:=Nat.mod_one V.natAbs;omega
  · omega
 ·
  cases s with
  | true=>
   simp only[if_true] at hs;by_cases h:c<0
   · rw[if_neg (by simp[h])];exact div_same V c hc (.inr ⟨hs,h⟩)
   · rw[if_pos (by simp[h])];exact div_diff V c hc (.inl ⟨hs,by omega⟩)
  | false=>
   simp only[Bool.false_eq_true,if_false] at hs;by_cases h:c<0
   · rw[if_pos (by simp[h])];exact div_diff V c hc (.inr ⟨hs,h⟩)
   · rw[if_neg (by simp[h])];exact div_same V c hc (.inl ⟨hs,by omega⟩)
set_option maxHeartbeats 1000000 in
theorem divide_aux (c:Int) (s x y:Bool) (N d q r u:Nat) (lo hi:Int) (w:World) (hx:decide (c<0)=x) (hy:decide ((0:Int)<(r:Int))=y)
  (hsz:∀ w,Calls Tryz.prog 115 #[c] w fun e w'=>e=.returned (.int .u64 (d:Int))∧Kp w.heap.size none w w')
  (hdv:∀ w,Calls Tryz.prog 116 #[.int .u64 0,.int .u64 (N:Int),.int .u64 (d:Int)] w fun e w'=>e=.returned (.tuple #[.int .u64 (q:Int),.int .u64 (r:Int)])∧Kp w.heap.size none w w')
  (a1:¬ (d:Int)≤0) (d1:¬ (1152921504606846976:Int)<(q:Int)) (d6:¬ (1152921504606846976:Int)<(u:Int)) (d4:wrap64 (q:Int)=(q:Int)) (d5:wrap64 (u:Int)=(u:Int))
  (n4:wrap64 (-(q:Int))=-(q:Int)) (n5:wrap64 (-(u:Int))=-(u:Int)) (d7:if y then IntKind.u64.wrap ((q:Int)+1)=(u:Int) else u=q)
  (res:if (!(s==x))=true then lo=-(u:Int)∧hi=-(q:Int) else lo=(q:Int)∧hi=(u:Int)) :
  Calls Tryz.prog 71 #[.agg #[.int .u64 0,.int .u64 (N:Int),.bool s],c] w fun e w'=>e=.returned (.tuple #[lo,hi,(0:Int)])∧Kp w.heap.size none w w':=by
 obtain⟨w1,hw1,S,K,hz⟩:=box1 w 137 #[.int .u64 0,.int .u64 N,.bool s];cases y with
 | true=>
  simp only[decide_eq_true_eq] at hy;simp only[if_true] at d7;cases s<;>cases x<;>(first|simp only[beq_self_eq_true,Bool.not_true,Bool.false_eq_true,if_false] at res|simp only[show (true==false)=false from rfl,show (false==true)=false from rfl,Bool.not_false,if_true] at res)<;>obtain⟨rfl,rfl⟩:=res
  all_goals
   go_enter Tryz.func71,Tryz.ntmps71
   go_wp2_with fail
   rw[← hw1];clear hw1;refine mK (hsz _) fun w2 k=>?_;replace S:=S.kpN k;replace K:=K.thenN k oM;have hzk:=k.size;clear k;have cS:=S.cell;have fS:=S.frozen;go_wp2_with fail
   refine mK (hdv _) fun w3 k=>?_;clear cS fS;replace S:=S.kpN k;replace K:=K.thenN k oM;have hzk:=k.size;clear k;have cS:=S.cell;have fS:=S.frozen;go_wp2_with fail
   clear cS fS;exact bodyPost_ret (by simp[results,Tryz.results71,go_sem]) rfl ⟨rfl,K⟩
 | false=>
  simp only[decide_eq_false_iff_not] at hy;simp only[Bool.false_eq_true,if_false] at d7;subst d7;clear d5 d6 n5;cases s<;>cases x<;>(first|simp only[beq_self_eq_true,Bool.not_true,Bool.false_eq_true,if_false] at res|simp only[show (true==false)=false from rfl,show (false==true)=false from rfl,Bool.not_false,if_true] at res)<;>obtain⟨rfl,rfl⟩:=res
  all_goals
   go_enter Tryz.func71,Tryz.ntmps71
   go_wp2_with fail
   rw[← hw1];clear hw1;refine mK (hsz _) fun w2 k=>?_;replace S:=S.kpN k;replace K:=K.thenN k oM;have hzk:=k.size;clear k;have cS:=S.cell;have fS:=S.frozen;go_wp2_with fail
   refine mK (hdv _) fun w3 k=>?_;clear cS fS;replace S:=S.kpN k;replace K:=K.thenN k oM;have hzk:=k.size;clear k;have cS:=S.cell;have fS:=S.frozen;go_wp2_with fail
   clear cS fS;exact bodyPost_ret (by simp[results,Tryz.results71,go_sem]) rfl ⟨rfl,K⟩
theorem wrap_q {q:Nat} (h:q≤1152921504606846976):¬ (1152921504606846976:Int)<(q:Int)∧wrap64 (q:Int)=(q:Int)∧wrap64 (-(q:Int))=-(q:Int):=by
 refine⟨by omega,?_,?_⟩<;>unfold wrap64<;>omega
theorem u_next {q:Nat} (h:q≤1152921504606846976):IntKind.u64.wrap ((q:Int)+1)=((q+1:Nat):Int):=by rw[wrapu];omega
theorem span_divide_any (V c:Int) (s:Bool) (hc:c≠0) (hcl:-9223372036854775808<c∧c<9223372036854775808) (hV:V.natAbs≤1152921504606846976) (hs:if s then V≤0 else 0≤V) (w:World) :
  Calls Tryz.prog 71 #[.agg #[.int .u64 0,.int .u64 ((V.natAbs:Nat):Int),.bool s],c] w fun e w'=>e=.returned (.tuple #[(Int.fdiv V c),(cdiv V c),(0:Int)])∧Kp w.heap.size none w w':=by
 obtain⟨d,q,r,u,D⟩:=dv_of V c s hc hcl hV hs;have hql:q≤1152921504606846976:=by have h1:=D.ul;have h2:=D.eu;split at h2<;>omega
 have wq:=wrap_q hql;have wu:=wrap_q D.ul;refine divide_aux c s _ (decide ((0:Int)<(r:Int))) V.natAbs d q r u _ _ w rfl rfl (fun w=>?_) (fun w=>?_) (by have:=D.d0;omega) wq.1 wu.1 wq.2.1 wu.2.1 wq.2.2 wu.2.2 ?_ D.res
 ·
  have:=span_size_any c hcl.1 hcl.2 w;rw[← D.ed] at this;exact this
 ·
  have:=div64_any 0 V.natAbs d w D.d0 (lt_u64 (lt_i64 hV)) (lt_u64 D.dl);rw[Nat.zero_mul,Nat.zero_add,← D.eq,← D.er] at this;exact this
 ·
  have hu:=D.eu;split
  ·
   rename_i h;have h:(0:Int)<(r:Int):=by simpa using h
   rw[if_pos (show 0<r by omega)] at hu;rw[hu];exact u_next hql
  ·
   rename_i h;have h:¬ (0:Int)<(r:Int):=by simpa using h
   rw[if_neg (show ¬ 0<r by omega)] at hu;exact hu
inductive Tr where
 | nil:Tr
 | st (i k:Nat) (r:Tr):Tr
 | b2 (i:Nat) (x:Tr) (j:Nat) (y:Tr):Tr
 | b3 (i:Nat) (x:Tr) (j:Nat) (y:Tr) (k:Nat) (z:Tr):Tr
def Tr.depth:Tr→Nat
 | .nil=>0
 | .st _ _ r=>r.depth+1
 | .b2 _ x _ _=>x.depth+1
 | .b3 _ x _ _ _ _=>x.depth+1
def trB (ops:Array Oper):Tr→Array Bool→Bool
 | .nil,listed=>(Region.ready .any ops listed).isEmpty
 | .st i k r,listed=>
  (match k with
   | 0=>(Region.ready .any ops listed).contains i&&Region.free .any ops listed i&&((ops[i]?).map (valOp ·.op)).getD false
   | 1=>(Region.ready .any ops listed).contains i&&Region.free .any ops listed i&&((ops[i]?).map (valOp ·.op)).getD false
   | 2=>Region.ready .any ops listed==[i]
   | _=>false)
  && trB ops r (listed.setIfInBounds i true)
 | .b2 i x j y,listed=>Region.ready .any ops listed==[i,j]&&(x.depth==y.depth&&(trB ops x (listed.setIfInBounds i true)&&trB ops y (listed.setIfInBounds j true)))
 | .b3 i x j y k z,listed=>Region.ready .any ops listed==[i,j,k]&&(x.depth==y.depth&&(x.depth==z.depth&&(trB ops x (listed.setIfInBounds i true)&&(trB ops y (listed.setIfInBounds j true)&&trB ops z (listed.setIfInBounds k true)))))
def wpOne (P:Program) (l:List Oper) (C:World→Prop) (i:Nat) (R:Act→World→Prop) (a:Act) (w:World):Prop:=∃ o,nthOp l i=some o ∧
 if Region.wanted o (yielded l.toArray a.tmps) then o.wp P a w (fun a' w'=>C w'∧R a' w') (fun _ _ _=>False) else R (a.put o.dst undef) w
def wpTr (P:Program) (l:List Oper) (C:World→Prop) (Q:Act→World→Prop):Tr→Act→World→Prop
 | .nil,a,w=>Q a w
 | .st i k r,a,w=>∃ o,nthOp l i=some o ∧
  if Region.wanted o (yielded l.toArray a.tmps) then
   (match k with
    | 0=>o.quiet P a (fun w'=>∃ x:Ev (fun _=>True),w'=x.w) (fun a'=>wpTr P l C Q r a' w)
    | 1=>o.quiet P a (fun w'=>∃ x:Ev C,w'=x.w) (fun a'=>wpTr P l C Q r a' w)
    | _=>o.wp P a w (fun a' w'=>C w'∧wpTr P l C Q r a' w') (fun _ _ _=>False))
  else wpTr P l C Q r (a.put o.dst undef) w
 | .b2 i x j y,a,w=>wpOne P l C i (wpTr P l C Q x) a w∧wpOne P l C j (wpTr P l C Q y) a w
 | .b3 i x j y k z,a,w=>wpOne P l C i (wpTr P l C Q x) a w∧wpOne P l C j (wpTr P l C Q y) a w∧wpOne P l C k (wpTr P l C Q z) a w
section
variable {P:Program} {l:List Oper} {C:World→Prop} {Q:Act→World→Prop}
theorem wpOp_of_one {i:Nat} {R R':Act→World→Prop} {a:Act} {w:World} (hw0:C w) (h:wpOne P l C i R a w) (hR:∀ a w,C w→R a w→R' a w):wpOp P l.toArray (onlyNormal Q) i (fun a' w'=>C w'∧R' a' w') a w:=by
 obtain⟨o,ho,h⟩:=h;have ho':l.toArray[i]?=some o:=by rw[← nthOp_eq];exact ho
 unfold wpOp;simp only[ho'];by_cases hw:Region.wanted o (yielded l.toArray a.tmps)=true
 ·
  simp only[hw,if_true] at h ⊢;refine .inl ?_;have h3:=Oper.wp_mono (P:=P) (Q:=fun _ _ _=>False) (K':=fun a' w'=>C w'∧R' a' w') (fun a' w' hh=>⟨hh.1,hR a' w' hh.1 hh.2⟩) h;exact wp_exits (fun e a w hh=>hh.elim) h3
 ·
  simp only[hw,if_false,Bool.false_eq_true] at h ⊢;exact⟨hw0,hR _ _ hw0 h⟩
theorem wpPh_of_tr (hs:Region.noSelect l.toArray=true):∀ (t:Tr) (listed:Array Bool) (a:Act) (w:World),trB l.toArray t listed=true→C w→wpTr P l C Q t a w →
  wpPh P l.toArray (onlyNormal Q) (fun _=>C) [] t.depth listed 0 a w
 | .nil,listed,a,w,hB,_,h=>⟨by simpa [trB] using hB,h⟩
 | .st i 0 r,listed,a,w,hB,hC,h=>by
  obtain⟨o,ho,h⟩:=h;have ho':l.toArray[i]?=some o:=by rw[← nthOp_eq];exact ho
  simp only[trB,Bool.and_eq_true,ho',Option.map_some,Option.getD_some] at hB;obtain⟨⟨⟨hr,hf⟩,hv⟩,hB'⟩:=hB;have hap:=Region.free_spec ho' hf;by_cases hw:Region.wanted o (yielded l.toArray a.tmps)=true
  ·
   simp only[hw,if_true] at h;obtain⟨v,h1,h2⟩:=h
   have hy:YieldsIf P l.toArray (fun _=>True) o v a:=by
    have:=yieldsIf_of_quiet hv hw h1;exact this.imp (fun ⟨e1,e2⟩=>⟨e1,fun w' hC'=>e2 w' ⟨⟨w',hC'⟩,rfl⟩⟩) id
   exact wpPh_first (S:=fun _=>C) (adv:=[]) ho' rfl (Region.noSelect_spec hs) (fun _ _ _ hh=>hh) _ _ _ _ _ (fun j oj hj hji hun hno=>⟨hap j oj hj hji hun hno,.inr fun _=>trivial⟩) (fun _ _=>trivial) (by simpa using hr) hy hC (wpPh_of_tr hs r _ _ w hB' hC h2)
  ·
   simp only[hw,if_false,Bool.false_eq_true] at h
   exact wpPh_first (S:=fun _=>C) (adv:=[]) (Si:=fun _=>True) ho' rfl (Region.noSelect_spec hs) (fun _ _ _ hh=>hh) _ _ _ _ _ (fun j oj hj hji hun hno=>⟨hap j oj hj hji hun hno,.inr fun _=>trivial⟩) (fun _ _=>trivial) (by simpa using hr)
    (.inr ⟨by simpa using hw,rfl⟩) hC (wpPh_of_tr hs r _ _ w hB' hC h)
 | .st i 1 r,listed,a,w,hB,hC,h=>by
  obtain⟨o,ho,h⟩:=h;have ho':l.toArray[i]?=some o:=by rw[← nthOp_eq];exact ho
  simp only[trB,Bool.and_eq_true,ho',Option.map_some,Option.getD_some] at hB;obtain⟨⟨⟨hr,hf⟩,hv⟩,hB'⟩:=hB;have hap:=Region.free_spec ho' hf;by_cases hw:Region.wanted o (yielded l.toArray a.tmps)=true
  ·
   simp only[hw,if_true] at h;obtain⟨v,h1,h2⟩:=h
   have hy:YieldsIf P l.toArray C o v a:=by
    have:=yieldsIf_of_quiet hv hw h1;exact this.imp (fun ⟨e1,e2⟩=>⟨e1,fun w' hC'=>e2 w' ⟨⟨w',hC'⟩,rfl⟩⟩) id
   exact wpPh_first (S:=fun _=>C) (adv:=[]) ho' rfl (Region.noSelect_spec hs) (fun _ _ _ hh=>hh) _ _ _ _ _ (fun j oj hj hji hun hno=>⟨hap j oj hj hji hun hno,.inl rfl⟩) (fun _ h=>h) (by simpa using hr) hy hC (wpPh_of_tr hs r _ _ w hB' hC h2)
  ·
   simp only[hw,if_false,Bool.false_eq_true] at h
   exact wpPh_first (S:=fun _=>C) (adv:=[]) (Si:=C) ho' rfl (Region.noSelect_spec hs) (fun _ _ _ hh=>hh) _ _ _ _ _ (fun j oj hj hji hun hno=>⟨hap j oj hj hji hun hno,.inl rfl⟩) (fun _ h=>h) (by simpa using hr)
    (.inr ⟨by simpa using hw,rfl⟩) hC (wpPh_of_tr hs r _ _ w hB' hC h)
 | .st i 2 r,listed,a,w,hB,hC,h=>by
  simp only[trB,Bool.and_eq_true,beq_iff_eq] at hB;obtain⟨hr,hB'⟩:=hB;refine⟨fun h0=>(by rw[hr] at h0;cases h0),fun j hj=>?_⟩;rw[hr] at hj;have hj':j=i:=by simpa using hj
  subst hj';exact wpOp_of_one (i:=j) (R:=wpTr P l C Q r) hC h (fun a' w' hC' hh=>wpPh_of_tr hs r _ a' w' hB' hC' hh)
 | .st i (k+3) r,listed,a,w,hB,hC,h=>by
  simp[trB] at hB
 | .b2 i x j y,listed,a,w,hB,hC,h=>by
  simp only[trB,Bool.and_eq_true,beq_iff_eq] at hB;obtain⟨hr,hd,hx,hy⟩:=hB;refine⟨fun h0=>(by rw[hr] at h0;cases h0),fun m hm=>?_⟩;rw[hr] at hm;have hm':m=i∨m=j:=by simpa using hm
  rcases hm' with rfl|rfl
  · exact wpOp_of_one (i:=m) (R:=wpTr P l C Q x) hC h.1 (fun a' w' hC' hh=>wpPh_of_tr hs x _ a' w' hx hC' hh)
  · exact wpOp_of_one (i:=m) (R:=wpTr P l C Q y) hC h.2 (fun a' w' hC' hh=>hd ▸ wpPh_of_tr hs y _ a' w' hy hC' hh)
 | .b3 i x j y k z,listed,a,w,hB,hC,h=>by
  simp only[trB,Bool.and_eq_true,beq_iff_eq] at hB;obtain⟨hr,hd,hd2,hx,hy,hz⟩:=hB;refine⟨fun h0=>(by rw[hr] at h0;cases h0),fun m hm=>?_⟩;rw[hr] at hm;have hm':m=i∨m=j∨m=k:=by simpa using hm
  rcases hm' with rfl|rfl|rfl
  · exact wpOp_of_one (i:=m) (R:=wpTr P l C Q x) hC h.1 (fun a' w' hC' hh=>wpPh_of_tr hs x _ a' w' hx hC' hh)
  · exact wpOp_of_one (i:=m) (R:=wpTr P l C Q y) hC h.2.1 (fun a' w' hC' hh=>hd ▸ wpPh_of_tr hs y _ a' w' hy hC' hh)
  · exact wpOp_of_one (i:=m) (R:=wpTr P l C Q z) hC h.2.2 (fun a' w' hC' hh=>hd2 ▸ wpPh_of_tr hs z _ a' w' hz hC' hh)
theorem wp_region_tr {id:Nat} {Q:Exit→Act→World→Prop} {a:Act} {w:World} (C:World→Prop) (t:Tr) (hm:P.follows .mixedOrders=true)
  (hB:(Region.noSelect l.toArray&&(trB l.toArray t (Array.replicate l.toArray.size false)&&t.depth==l.toArray.size))=true)
  (hC:C w.drew) (h:Nonempty (Ev C)→wpTr P l C (fun a' w'=>Q .normal a' w') t a w.drew):(Code.region id l.toArray true).wp P Q a w:=by
 simp only[Bool.and_eq_true,beq_iff_eq] at hB;obtain⟨hs,hB,hl⟩:=hB;have h1:=wpPh_of_tr (Q:=fun a' w'=>Q .normal a' w') hs t (Array.replicate l.toArray.size false) a w.drew hB hC (h ⟨⟨_,hC⟩⟩);rw[hl] at h1;refine Code.wp_mono ?_ (wp_region_any hm (wpAny_of_ph _ _ _ _ _ h1));intro e a w hq;cases e<;>first|exact hq|exact hq.elim
theorem wpTr_nil {a:Act} {w:World} (h:Q a w):wpTr P l C Q .nil a w:=h
theorem wpTr_v {i:Nat} {r:Tr} {a:Act} {w:World} {o:Oper} (ho:nthOp l i=some o) (hw:Region.wanted o (yielded l.toArray a.tmps)=true)
  (h:∀ K:Act→Prop,(∀ a,wpTr P l C Q r a w→K a)→o.quiet P a (fun w'=>∃ x:Ev (fun _=>True),w'=x.w) K):wpTr P l C Q (.st i 0 r) a w:=
 ⟨o,ho,by rw[if_pos hw];exact h _ fun _ h=>h⟩
theorem wpTr_q {i:Nat} {r:Tr} {a:Act} {w:World} {o:Oper} (ho:nthOp l i=some o) (hw:Region.wanted o (yielded l.toArray a.tmps)=true)
  (h:∀ K:Act→Prop,(∀ a,wpTr P l C Q r a w→K a)→o.quiet P a (fun w'=>∃ x:Ev C,w'=x.w) K):wpTr P l C Q (.st i 1 r) a w:=
 ⟨o,ho,by rw[if_pos hw];exact h _ fun _ h=>h⟩
theorem wpTr_s {i k:Nat} {r:Tr} {a:Act} {w:World} {o:Oper} (ho:nthOp l i=some o) (hw:Region.wanted o (yielded l.toArray a.tmps)=false)
  (h:wpTr P l C Q r (a.put o.dst undef) w):wpTr P l C Q (.st i k r) a w:=
 ⟨o,ho,by rw[if_neg (by rw[hw];exact Bool.false_ne_true)];exact h⟩
theorem wpTr_l {i:Nat} {r:Tr} {a:Act} {w:World} {o:Oper} (ho:nthOp l i=some o) (hw:Region.wanted o (yielded l.toArray a.tmps)=true)
  (h:∀ K:Act→World→Prop,(∀ a w,C w→wpTr P l C Q r a w→K a w)→o.wp P a w K (fun _ _ _=>False)):wpTr P l C Q (.st i 2 r) a w:=
 ⟨o,ho,by rw[if_pos hw];exact h _ fun _ _ h1 h2=>⟨h1,h2⟩⟩
theorem wpOne_l {i:Nat} {R:Act→World→Prop} {a:Act} {w:World} {o:Oper} (ho:nthOp l i=some o) (hw:Region.wanted o (yielded l.toArray a.tmps)=true)
  (h:∀ K:Act→World→Prop,(∀ a w,C w→R a w→K a w)→o.wp P a w K (fun _ _ _=>False)):wpOne P l C i R a w:=
 ⟨o,ho,by rw[if_pos hw];exact h _ fun _ _ h1 h2=>⟨h1,h2⟩⟩
theorem wpTr_b2 {i j:Nat} {x y:Tr} {a:Act} {w:World} (h:wpOne P l C i (wpTr P l C Q x) a w) (k:wpOne P l C j (wpTr P l C Q y) a w):wpTr P l C Q (.b2 i x j y) a w:=⟨h,k⟩
end
theorem tX {p q:Prop} (h:q) (k:Rest q→p:=by intro q;(repeat (first|(refine wpTr_v rfl rfl ?_;intro K hK;go_big_quiet_op;go_big_quiet_on)|(refine wpTr_q rfl rfl ?_;intro K hK;go_big_quiet_op;go_big_quiet_on)|refine wpTr_s rfl rfl ?_));exact q.h):p:=k ⟨h⟩
end Go.Proofs.YtdhiappifnflpaaGreat
