/- Comparisons of products, whether a segment comes near: the walks of span, seventh part. Whether a segment comes near: the walks of span, eighth part. comes, Within, CheckArea: the walks of span, ninth part. -/
import Derived.Test.YtdhiappifnflpaaGreatDoorM13
set_option maxHeartbeats 2000000
namespace Go.Proofs.YtdhiappifnflpaaGreatDoor
open Go.RowKit
theorem Kp.new1 (w:World) (o:Obj):Kp w.heap.size none w (w.alloc o):=(Kp.refl _ _ w).alloc (Nat.le_refl _) o
theorem Kp.new2 (w:World) (o o':Obj):Kp w.heap.size none w ((w.alloc o).alloc o'):=(Kp.new1 w o).alloc (by simp) o'
def sgN (N:Nat) (s:Bool):Int:=if N=0 then 0 else if s then -1 else 1
def cmpN (N:Nat) (s:Bool) (N':Nat) (s':Bool):Int:=
 if sgN N s≠sgN N' s' then min (max (sgN N s-sgN N' s') (-1)) 1 else if N=N' then 0 else if N<N' then -(sgN N s) else sgN N s
theorem cmpN_neg {V V':Int} {s s':Bool} (h:V≠0→s=decide (V<0)) (h':V'≠0→s'=decide (V'<0)):cmpN V.natAbs s V'.natAbs s'<0↔V<V':=by
 have e:sgN V.natAbs s=if V=0 then 0 else if V<0 then -1 else 1:=by
  unfold sgN;by_cases q:V=0
  · simp[q]
  ·
   rw[if_neg oM,if_neg q,h q];by_cases r:V<0<;>simp[r]
 have e':sgN V'.natAbs s'=if V'=0 then 0 else if V'<0 then -1 else 1:=by
  unfold sgN;by_cases q:V'=0
  · simp[q]
  ·
   rw[if_neg oM,if_neg q,h' q];by_cases r:V'<0<;>simp[r]
 unfold cmpN;rw[e,e'];split<;>split<;>split<;>omega
theorem span_less_any (H L H' L':Nat) (w:World) :
  Calls Tryz.prog 130 #[.agg #[.int .u64 H,.int .u64 L],.agg #[.int .u64 H',.int .u64 L']] w fun e w'=>e=.returned (.bool (decide (H<H'∨(H=H'∧L<L'))))∧Kp w.heap.size none w w':=by
 go_enter Tryz.func130,Tryz.ntmps130
 go_wp2
 all_goals
  go_ret
  refine⟨ret_bool ?_,Kp.new2 _ _ _⟩;rw[Bool.eq_iff_iff];simp
  try omega
theorem span_sign_any (N:Nat) (s:Bool) (w:World) :
  Calls Tryz.prog 177 #[.agg #[.int .u64 0,.int .u64 N,.bool s]] w fun e w'=>e=.returned (.int .i64 (sgN N s))∧Kp w.heap.size none w w':=by
 by_cases h:N=0
 ·
  subst h;go_enter Tryz.func177,Tryz.ntmps177
  go_wp2
  go_ret
  exact⟨rfl,Kp.new1 _ _⟩
 ·
  have h1:¬ (N:Int)=0:=by omega
  have e:sgN N s=if s then -1 else 1:=by unfold sgN;rw[if_neg h]
  rw[e];clear e h;cases s
  ·
   go_enter Tryz.func177,Tryz.ntmps177
   go_wp2
   go_ret
   exact⟨rfl,Kp.new1 _ _⟩
  ·
   go_enter Tryz.func177,Tryz.ntmps177
   go_wp2
   go_ret
   exact⟨rfl,Kp.new1 _ _⟩
theorem sgN_three (N:Nat) (s:Bool):sgN N s=0∨sgN N s=1∨sgN N s=-1:=by
 unfold sgN;split
 · exact .inl rfl
 ·
  split
  · exact .inr (.inr rfl)
  · exact .inr (.inl rfl)
theorem compare_aux (N:Nat) (s:Bool) (N':Nat) (s':Bool) (a b:Int) (ha:sgN N s=a) (hb:sgN N' s'=b) (hab:(a=0∨a=1∨a=-1)∧(b=0∨b=1∨b=-1)) (w:World) :
  Calls Tryz.prog 157 #[.agg #[.int .u64 0,.int .u64 N,.bool s],.agg #[.int .u64 0,.int .u64 N',.bool s']] w fun e w'=>e=.returned (.int .i64 (if a≠b then min (max (a-b) (-1)) 1 else if N=N' then 0 else if N<N' then -a else a))∧Kp w.heap.size none w w':=by
 have c1:=fun w=>span_sign_any N s w;have c2:=fun w=>span_sign_any N' s' w;rw[ha] at c1;rw[hb] at c2;clear ha hb;by_cases hne:a=b
 case neg=>
  have e2:(if a≠b then min (max (a-b) (-1)) 1 else if N=N' then 0 else if N<N' then -a else a)=min (max (a-b) (-1)) 1:=if_pos hne;rw[e2];clear e2;have n1:¬ a=b:=hne;have n3:wrap64 (a-b)=a-b:=by unfold wrap64;omega
  obtain⟨r,hr⟩:∃ r,r=min (max (a-b) (-1)) 1:=⟨_,rfl⟩;rw[← hr];have q1:max (a-b) (-1)≤1→max (a-b) (-1)=r:=by omega
  have q2:¬ max (a-b) (-1)≤1→1=r:=by omega
  have hr':=Lib.hid hr;clear hr q1 q2 hab;obtain⟨w1,hw1,A,B,K,hz⟩:=box2 w 161 #[.int .u64 0,.int .u64 N,.bool s] 161 #[.int .u64 0,.int .u64 N',.bool s'];go_enter Tryz.func157,Tryz.ntmps157
  go_wp2_with fail
  rw[← hw1];clear hw1;obtain⟨S,hS0⟩:=cls_of (P:=fun w'=>Blk w' _ _ _∧Blk w' _ _ _∧Kp _ none _ w') w1 ⟨A,B,K⟩;try dsimp only at hS0
  have cA:=fun (x:Ev (S 0)) i=>((hS0 _).1 x.h).1.cell i;have cB:=fun (x:Ev (S 0)) i=>((hS0 _).1 x.h).2.1.cell i;replace A:=A.drew;replace B:=B.drew;replace K:=K.drew;have hevT:=ev_true;refine wro S [(0,1),(2,1),(1,2),(3,2),(4,0),(5,0)] [] ((hS0 _).2 ⟨A,B,K⟩) ?_;intro _hev;refine oX ?_;refine oL ?_;intro Kc hKc;go_step;refine mK (c1 _) fun w2 k=>?_;replace A:=A.kpN k;replace B:=B.kpN k;replace K:=K.tN k;clear k;refine hKc _ _ ((hS0 _).2 ⟨A,B,K⟩) ?_;clear hKc Kc;refine oL ?_;intro Kc hKc;go_step;refine mK (c2 _) fun w3 k=>?_;replace A:=A.kpN k;replace B:=B.kpN k;replace K:=K.tN k;clear k;refine hKc _ _ ((hS0 _).2 ⟨A,B,K⟩) ?_;clear hKc Kc;refine oX ?_;refine wpOrd_nil ?_;clear hevT _hev;clear cA cB hS0 S;have cA:=A.cell;have fA:=A.frozen;have cB:=B.cell;have fB:=B.frozen;go_wp2_with fail
  clear cA fA cB fB;go_ret
  refine⟨?_,K⟩;rw[hr'.out];rfl
 case pos=>
  subst hne;have e2:(if a≠a then min (max (a-a) (-1)) 1 else if N=N' then 0 else if N<N' then -a else a)=if N=N' then 0 else if N<N' then -a else a:=if_neg (by simp);rw[e2];clear e2;have n3:wrap64 (-a)=-a:=by unfold wrap64;omega
  by_cases hN:N=N'
  ·
   subst hN;rw[if_pos rfl];obtain⟨w1,hw1,A,B,K,hz⟩:=box2 w 161 #[.int .u64 0,.int .u64 N,.bool s] 161 #[.int .u64 0,.int .u64 N,.bool s'];go_enter Tryz.func157,Tryz.ntmps157
   go_wp2_with fail
   rw[← hw1];clear hw1;obtain⟨S,hS0⟩:=cls_of (P:=fun w'=>Blk w' _ _ _∧Blk w' _ _ _∧Kp _ none _ w') w1 ⟨A,B,K⟩;try dsimp only at hS0
   have cA:=fun (x:Ev (S 0)) i=>((hS0 _).1 x.h).1.cell i;have cB:=fun (x:Ev (S 0)) i=>((hS0 _).1 x.h).2.1.cell i;replace A:=A.drew;replace B:=B.drew;replace K:=K.drew;have hevT:=ev_true;refine wro S [(0,1),(2,1),(1,2),(3,2),(4,0),(5,0)] [] ((hS0 _).2 ⟨A,B,K⟩) ?_;intro _hev;refine oX ?_;refine oL ?_;intro Kc hKc;go_step;refine mK (c1 _) fun w2 k=>?_;replace A:=A.kpN k;replace B:=B.kpN k;replace K:=K.tN k;clear k;refine hKc _ _ ((hS0 _).2 ⟨A,B,K⟩) ?_;clear hKc Kc;refine oL ?_;intro Kc hKc;go_step;refine mK (c2 _) fun w3 k=>?_;replace A:=A.kpN k;replace B:=B.kpN k;replace K:=K.tN k;clear k;refine hKc _ _ ((hS0 _).2 ⟨A,B,K⟩) ?_;clear hKc Kc;refine oX ?_;refine wpOrd_nil ?_;clear hevT _hev;clear cA cB hS0 S;have cA:=A.cell;have fA:=A.frozen;have cB:=B.cell;have fB:=B.frozen;go_wp2_with fail
   clear cA fA cB fB;go_ret
   exact⟨rfl,K⟩
  ·
   rw[if_neg hN];have c3:=fun w=>span_less_any 0 N 0 N' w;have e3:decide (0<0∨(0=0∧N<N'))=decide (N<N'):=by simp
   rw[e3] at c3;have n4:¬ (N:Int)=(N':Int):=by omega
   clear e3 hN;by_cases hlt:N<N'
   ·
    rw[if_pos hlt];rw[decide_eq_true hlt] at c3;clear hlt;obtain⟨w1,hw1,A,B,K,hz⟩:=box2 w 161 #[.int .u64 0,.int .u64 N,.bool s] 161 #[.int .u64 0,.int .u64 N',.bool s'];go_enter Tryz.func157,Tryz.ntmps157
    go_wp2_with fail
    rw[← hw1];clear hw1;obtain⟨S,hS0⟩:=cls_of (P:=fun w'=>Blk w' _ _ _∧Blk w' _ _ _∧Kp _ none _ w') w1 ⟨A,B,K⟩;try dsimp only at hS0
    have cA:=fun (x:Ev (S 0)) i=>((hS0 _).1 x.h).1.cell i;have cB:=fun (x:Ev (S 0)) i=>((hS0 _).1 x.h).2.1.cell i;replace A:=A.drew;replace B:=B.drew;replace K:=K.drew;have hevT:=ev_true;refine wro S [(0,1),(2,1),(1,2),(3,2),(4,0),(5,0)] [] ((hS0 _).2 ⟨A,B,K⟩) ?_;intro _hev;refine oX ?_;refine oL ?_;intro Kc hKc;go_step;refine mK (c1 _) fun w2 k=>?_;replace A:=A.kpN k;replace B:=B.kpN k;replace K:=K.tN k;clear k;refine hKc _ _ ((hS0 _).2 ⟨A,B,K⟩) ?_;clear hKc Kc;refine oL ?_;intro Kc hKc;go_step;refine mK (c2 _) fun w3 k=>?_;replace A:=A.kpN k;replace B:=B.kpN k;replace K:=K.tN k;clear k;refine hKc _ _ ((hS0 _).2 ⟨A,B,K⟩) ?_;clear hKc Kc;refine oX ?_;refine wpOrd_nil ?_;clear hevT _hev;clear cA cB hS0 S;have cA:=A.cell;have fA:=A.frozen;have cB:=B.cell;have fB:=B.frozen;go_wp2_with fail
    refine mK (c3 _) fun w4 k=>?_;clear cA fA cB fB;replace A:=A.kpN k;replace B:=B.kpN k;replace K:=K.thenN k oM;have hzk:=k.size;clear k;have cA:=A.cell;have fA:=A.frozen;have cB:=B.cell;have fB:=B.frozen;go_wp2_with fail
    clear cA fA cB fB;go_ret
    exact⟨rfl,K⟩
   ·
    rw[if_neg hlt];rw[decide_eq_false hlt] at c3;clear hlt;obtain⟨w1,hw1,A,B,K,hz⟩:=box2 w 161 #[.int .u64 0,.int .u64 N,.bool s] 161 #[.int .u64 0,.int .u64 N',.bool s'];go_enter Tryz.func157,Tryz.ntmps157
    go_wp2_with fail
    rw[← hw1];clear hw1;obtain⟨S,hS0⟩:=cls_of (P:=fun w'=>Blk w' _ _ _∧Blk w' _ _ _∧Kp _ none _ w') w1 ⟨A,B,K⟩;try dsimp only at hS0
    have cA:=fun (x:Ev (S 0)) i=>((hS0 _).1 x.h).1.cell i;have cB:=fun (x:Ev (S 0)) i=>((hS0 _).1 x.h).2.1.cell i;replace A:=A.drew;replace B:=B.drew;replace K:=K.drew;have hevT:=ev_true;refine wro S [(0,1),(2,1),(1,2),(3,2),(4,0),(5,0)] [] ((hS0 _).2 ⟨A,B,K⟩) ?_;intro _hev;refine oX ?_;refine oL ?_;intro Kc hKc;go_step;refine mK (c1 _) fun w2 k=>?_;replace A:=A.kpN k;replace B:=B.kpN k;replace K:=K.tN k;clear k;refine hKc _ _ ((hS0 _).2 ⟨A,B,K⟩) ?_;clear hKc Kc;refine oL ?_;intro Kc hKc;go_step;refine mK (c2 _) fun w3 k=>?_;replace A:=A.kpN k;replace B:=B.kpN k;replace K:=K.tN k;clear k;refine hKc _ _ ((hS0 _).2 ⟨A,B,K⟩) ?_;clear hKc Kc;refine oX ?_;refine wpOrd_nil ?_;clear hevT _hev;clear cA cB hS0 S;have cA:=A.cell;have fA:=A.frozen;have cB:=B.cell;have fB:=B.frozen;go_wp2_with fail
    refine mK (c3 _) fun w4 k=>?_;clear cA fA cB fB;replace A:=A.kpN k;replace B:=B.kpN k;replace K:=K.thenN k oM;have hzk:=k.size;clear k;have cA:=A.cell;have fA:=A.frozen;have cB:=B.cell;have fB:=B.frozen;go_wp2_with fail
    clear cA fA cB fB;go_ret
    exact⟨rfl,K⟩
theorem span_compare_any (N:Nat) (s:Bool) (N':Nat) (s':Bool) (w:World) :
  Calls Tryz.prog 157 #[.agg #[.int .u64 0,.int .u64 N,.bool s],.agg #[.int .u64 0,.int .u64 N',.bool s']] w fun e w'=>e=.returned (.int .i64 (cmpN N s N' s'))∧Kp w.heap.size none w w':=
 compare_aux N s N' s' _ _ rfl rfl ⟨sgN_three _ _,sgN_three _ _⟩ w
theorem sgn_dec {s:Bool} {V:Int} (g:if s=true then V≤0 else 0≤V) (h:V≠0):s=decide (V<0):=by
 cases s with
 | false=>simp only[Bool.false_eq_true,if_false] at g;exact(decide_eq_false oM).symm
 | true=>simp only[if_true] at g;exact(decide_eq_true oM).symm
def Sm (p:Pt):Prop:=-1073741824≤p.x∧p.x≤1073741824∧-1073741824≤p.y∧p.y≤1073741824
theorem mul_sm {a b:Int} (ha:-1073741824≤a∧a≤1073741824) (hb:-1073741824≤b∧b≤1073741824):-1152921504606846976≤a * b∧a * b≤1152921504606846976:=by
 have h1:(a * b).natAbs≤1073741824 * 1073741824:=by rw[Int.natAbs_mul];exact Nat.mul_le_mul oM oM
 omega
theorem span_Cross_any (p q:Pt) (hp:Sm p) (hq:Sm q) (w:World) :
  Calls Tryz.prog 138 #[.agg #[p.x,p.y],.agg #[q.x,q.y]] w fun e w'=>(∃ n:Int,e=.returned (.int .i64 n)∧(n<0↔crs p q<0))∧Kp w.heap.size none w w':=by
 obtain⟨p1,p2,p3,p4⟩:=hp;obtain⟨q1,q2,q3,q4⟩:=hq;have m1:=mul_sm (a:=p.x) (b:=q.y) ⟨p1,p2⟩ ⟨q3,q4⟩;have m2:=mul_sm (a:=p.y) (b:=q.x) ⟨p3,p4⟩ ⟨q1,q2⟩;have d1:=fun w=>span_product_any p.x q.y oM oM oM w;have d2:=fun w=>span_product_any p.y q.x oM oM oM w;obtain⟨s,hs⟩:∃ s,s=!(decide (p.x<0)==decide (q.y<0)):=⟨_,rfl⟩;obtain⟨s',hs'⟩:∃ s',s'=!(decide (p.y<0)==decide (q.x<0)):=⟨_,rfl⟩;have g1:=sgn_prod p.x q.y;have g2:=sgn_prod p.y q.x;rw[← hs] at d1 g1;rw[← hs'] at d2 g2
 have hn:=cmpN_neg (V:=p.x * q.y) (V':=p.y * q.x) (s:=s) (s':=s')
  (sgn_dec g1) (sgn_dec g2)
 have hc:crs p q<0↔p.x * q.y<p.y * q.x:=by unfold crs;omega
 rw[← hc] at hn;have d3:=fun w=>span_compare_any (p.x * q.y).natAbs s (p.y * q.x).natAbs s' w;generalize cmpN (p.x * q.y).natAbs s (p.y * q.x).natAbs s'=r at *;generalize (p.x * q.y).natAbs=u at *;generalize (p.y * q.x).natAbs=v at *;replace hn:=Lib.hid hn;clear hc g1 g2 hs hs' m1 m2;obtain⟨w1,hw1,A,B,K,hz⟩:=box2 w 45 #[p.x,p.y] 45 #[q.x,q.y];go_enter Tryz.func138,Tryz.ntmps138
 go_wp2_with fail
 rw[← hw1];clear hw1;obtain⟨S,hS0⟩:=cls_of (P:=fun w'=>Blk w' _ _ _∧Blk w' _ _ _∧Kp _ none _ w') w1 ⟨A,B,K⟩;try dsimp only at hS0
 have cA:=fun (x:Ev (S 0)) i=>((hS0 _).1 x.h).1.cell i;have cB:=fun (x:Ev (S 0)) i=>((hS0 _).1 x.h).2.1.cell i;replace A:=A.drew;replace B:=B.drew;replace K:=K.drew;have hevT:=ev_true;refine wro S [(0,0),(1,1),(2,0),(3,1),(5,0),(6,1),(7,0),(8,1),(4,2),(9,2),(10,2),(11,0)] [] ((hS0 _).2 ⟨A,B,K⟩) ?_;intro _hev;refine oX ?_;refine oL ?_;intro Kc hKc;go_step;refine mK (d1 _) fun w2 k=>?_;replace A:=A.kpN k;replace B:=B.kpN k;replace K:=K.tN k;clear k;refine hKc _ _ ((hS0 _).2 ⟨A,B,K⟩) ?_;clear hKc Kc;refine oL ?_;intro Kc hKc;go_step;refine mK (d2 _) fun w3 k=>?_;replace A:=A.kpN k;replace B:=B.kpN k;replace K:=K.tN k;clear k;refine hKc _ _ ((hS0 _).2 ⟨A,B,K⟩) ?_;clear hKc Kc;refine oL ?_;intro Kc hKc;go_step;refine mK (d3 _) fun w4 k=>?_;replace A:=A.kpN k;replace B:=B.kpN k;replace K:=K.tN k;clear k;refine hKc _ _ ((hS0 _).2 ⟨A,B,K⟩) ?_;clear hKc Kc;refine oX ?_;refine wpOrd_nil ?_;clear hevT _hev;clear cA cB hS0 S;have cA:=A.cell;have fA:=A.frozen;have cB:=B.cell;have fB:=B.frozen;go_wp2_with fail
 clear cA fA cB fB;go_ret
 exact⟨⟨_,rfl,hn.out⟩,K⟩
def encI (x:Int):List Value:=[.int .i64 x]
def encPt (p:Pt):List Value:=[.int .i64 p.x,.int .i64 p.y]
theorem Rd.of_blk {α:Type} {w:World} {b:Nat} {T:TypeId} {cs:Array Value} {sz:Nat} {enc:α→List Value} {xs:List α} (h:Blk w b T cs) (hc:∀ i (hi:i<xs.length) j v,(enc xs[i])[j]?=some v→cs[i * sz+j]?=some v) :
  Rd none w sz enc (some ⟨b,0,none⟩) xs.length xs:=
 ⟨rfl,fun _=>⟨b,0,rfl,h.lt,by simp,fun i hi j v hv=>by rw[h.cell,Nat.zero_add];exact hc i hi j v hv⟩⟩
theorem rd_int2 {w:World} {b:Nat} {T:TypeId} {x y:Int} (h:Blk w b T #[x,y]):Rd none w 1 encI (some ⟨b,0,none⟩) 2 [x,y]:=
 Rd.of_blk h fun i hi j v hv=>by
  match i,hi,j,hv with
  | 0,_,0,hv=>exact hv
  | 1,_,0,hv=>exact hv
theorem rd_int4 {w:World} {b:Nat} {T:TypeId} {x y z u:Int} (h:Blk w b T #[x,y,z,u]):Rd none w 1 encI (some ⟨b,0,none⟩) 4 [x,y,z,u]:=
 Rd.of_blk h fun i hi j v hv=>by
  match i,hi,j,hv with
  | 0,_,0,hv=>exact hv
  | 1,_,0,hv=>exact hv
  | 2,_,0,hv=>exact hv
  | 3,_,0,hv=>exact hv
theorem rd_pt2 {w:World} {b:Nat} {T:TypeId} {p q:Pt} (h:Blk w b T #[p.x,p.y,q.x,q.y]):Rd none w 2 encPt (some ⟨b,0,none⟩) 2 [p,q]:=
 Rd.of_blk h fun i hi j v hv=>by
  match i,hi,j,hv with
  | 0,_,0,hv=>exact hv
  | 0,_,1,hv=>exact hv
  | 1,_,0,hv=>exact hv
  | 1,_,1,hv=>exact hv
def Fr1 (x:Int):Prop:=-268435456≤x∧x≤268435456
theorem within_t {n lo hi:Int} (h1:lo≤n) (h2:n≤hi) (w:World):Calls Tryz.prog 128 #[n,lo,hi] w fun e w'=>e=.returned (.bool true)∧Kp w.heap.size none w w':=by
 have:=span_within_any n lo hi w;rwa [btw_t h1 h2] at this
def IdxAt (n:Nat) (w:World) (v:Value) (wr:World):Prop:=∃ i:Nat,v=.int .i64 i∧i≤n∧Kp w.heap.size none w wr
theorem span_far_any (A:Option Addr) (cap:Nat) (xs:List Int) (w:World) (hr:Rd none w 1 encI A xs.length xs) (hn:xs.length≤1000000) (hx:∀ x∈xs,Fr1 x) :
  Calls Tryz.prog 92 #[.slice A xs.length cap] w fun e w'=>e=.returned (.bool true)∧Kp w.heap.size none w w':=by
 go_enter Tryz.func92,Tryz.ntmps92
 go_wp2_with fail
 go_loopw [7] (fun v wr=>IdxAt xs.length w v wr) (fun v _=>(xs.length:Int).toNat-(intOf v).toNat)
 case atStart=>exact⟨0,rfl,Nat.zero_le _,Kp.refl _ _ _⟩
 case round=>
  obtain⟨i,rfl,hi,KK⟩:=hrel;by_cases h:i<xs.length
  ·
   obtain⟨b,o,rfl,hb,-,hc⟩:=(hr.kpN KK).at_ oM;have c0:=Rd.cell1 (f:=fun x=>Value.int .i64 x) (fun _=>rfl) hc i h;have hxi:=hx _ (List.getElem_mem h);generalize xs[i]=x at *;have hii:(i:Int)<(xs.length:Int):=by omega
   have hi0:(0:Int)≤(i:Int):=by omega
   have hm:(xs.length:Int).toNat-((i+1:Nat):Int).toNat<(xs.length:Int).toNat-(i:Int).toNat:=by omega
   replace hm:=Lib.hid hm;clear hc hr hx;go_wp2_with fail
   refine mK (within_t hxi.1 hxi.2 _) fun w2 k=>?_;replace h:=Lib.hid h;go_wp2
   go_roundw
   case rel=>exact⟨i+1,by congr 1,h.out,KK.tN k⟩
   case measure=>exact hm.out
  ·
   obtain rfl:i=xs.length:=by omega
   go_wp2
   go_ret
   exact⟨rfl,KK⟩
def Fr (p:Pt):Prop:=Fr1 p.x∧Fr1 p.y
theorem span_asks_any (A:Option Addr) (cap:Nat) (r:Int) (xs:List Pt) (w:World) (hr:Rd none w 2 encPt A xs.length xs) (hn:xs.length≤1000000) (hx:∀ x∈xs,Fr x) (h0:0≤r) (h1:r≤268435456) :
  Calls Tryz.prog 86 #[r,.slice A xs.length cap] w fun e w'=>e=.returned (.bool true)∧Kp w.heap.size none w w':=by
 go_enter Tryz.func86,Tryz.ntmps86
 go_wp2_with fail
 go_loopw [9] (fun v wr=>IdxAt xs.length w v wr) (fun v _=>(xs.length:Int).toNat-(intOf v).toNat)
 case atStart=>exact⟨0,rfl,Nat.zero_le _,Kp.refl _ _ _⟩
 case round=>
  obtain⟨i,rfl,hi,KK⟩:=hrel;by_cases h:i<xs.length
  ·
   obtain⟨b,o,rfl,hb,-,hc⟩:=(hr.kpN KK).at_ oM;have c0:=hc i h 0 _ rfl;have c1:=hc i h 1 _ rfl;rw[Nat.add_zero] at c0;rw[← Nat.add_assoc] at c1;have hxi:=hx _ (List.getElem_mem h);generalize xs[i]=x at *;have hii:(i:Int)<(xs.length:Int):=by omega
   have hi0:(0:Int)≤(i:Int):=by omega
   have hm:(xs.length:Int).toNat-((i+1:Nat):Int).toNat<(xs.length:Int).toNat-(i:Int).toNat:=by omega
   replace hm:=Lib.hid hm;clear hc hr hx;obtain⟨w1,hw1⟩:∃ q9,q9=(wr.alloc (.cells #[x.x,x.y] 45)).alloc (.cells #[x.x,x.y] 2):=⟨_,rfl⟩;have L1:Blk w1 (wr.heap.size+1) 2 #[x.x,x.y]:=by rw[hw1];exact Blk.newAt _ _ _ (by simp)
   have k1:Kp wr.heap.size none wr w1:=by rw[hw1];exact Kp.new2 _ _ _
   have hrd:=rd_int2 L1;go_wp2_with fail
   rw[← hw1];refine mK (span_far_any _ _ [x.x,x.y] _ hrd (by simp) (by rintro z hz;simp at hz;rcases hz with rfl|rfl;exact hxi.1;exact hxi.2)) fun w2 k=>?_;replace KK:=(KK.tN k1).thenN k (Nat.le_refl _);clear hw1 k1 k c0 c1 hrd L1;replace h:=Lib.hid h;go_wp2
   go_roundw
   case rel=>exact⟨i+1,by congr 1,h.out,KK⟩
   case measure=>exact hm.out
  ·
   obtain rfl:i=xs.length:=by omega
   go_wp2_with fail
   refine mK (within_t h0 h1 _) fun w2 k=>?_;go_wp2
   go_ret
   exact⟨rfl,KK.tN k⟩
theorem n2_le {p:Pt} (h:Sm p):0≤n2 p∧n2 p≤2305843009213693952:=by
 have a:=mul_sm (a:=p.x) (b:=p.x) ⟨h.1,h.2.1⟩ ⟨h.1,h.2.1⟩;have b:=mul_sm (a:=p.y) (b:=p.y) ⟨h.2.2.1,h.2.2.2⟩ ⟨h.2.2.1,h.2.2.2⟩;have c:=sq_nonneg' p.x;have d:=sq_nonneg' p.y;unfold n2;omega
theorem span_square_any (p:Pt) (h:Sm p) (w:World) :
  Calls Tryz.prog 129 #[.agg #[p.x,p.y]] w fun e w'=>e=.returned (.int .i64 (n2 p))∧Kp w.heap.size none w w':=by
 have a:=mul_sm (a:=p.x) (b:=p.x) ⟨h.1,h.2.1⟩ ⟨h.1,h.2.1⟩;have b:=mul_sm (a:=p.y) (b:=p.y) ⟨h.2.2.1,h.2.2.2⟩ ⟨h.2.2.1,h.2.2.2⟩;have e1:wrap64 (p.x * p.x)=p.x * p.x:=by generalize p.x * p.x=z at *;unfold wrap64;omega
 have e2:wrap64 (p.y * p.y)=p.y * p.y:=by generalize p.y * p.y=z at *;unfold wrap64;omega
 have e3:wrap64 (p.x * p.x+p.y * p.y)=n2 p:=by unfold n2;generalize p.x * p.x=z at *;generalize p.y * p.y=u at *;unfold wrap64;omega
 clear a b h;go_enter Tryz.func129,Tryz.ntmps129
 go_wp2
 go_ret
 refine⟨?_,Kp.new1 _ _⟩
 show Ending.returned (.int .i64 (wrap64 (p.x * p.x+p.y * p.y)))=_
 rw[e3]
theorem words_lt (N M:Nat):(N / 18446744073709551616<M / 18446744073709551616∨(N / 18446744073709551616=M / 18446744073709551616∧N % 18446744073709551616<M % 18446744073709551616))↔N<M:=by omega
theorem natAbs_sq (c:Int):((c.natAbs * c.natAbs:Nat):Int)=c * c:=by
 rcases Int.natAbs_eq c with h|h
 · rw[Int.natCast_mul,← h]
 ·
  have:(c.natAbs:Int)=-c:=by omega
  rw[Int.natCast_mul,this];grind
theorem mul_bd {a b:Int} {A B:Nat} (ha:a.natAbs≤A) (hb:b.natAbs≤B):(a * b).natAbs≤A * B:=by rw[Int.natAbs_mul];exact Nat.mul_le_mul ha hb
structure Cm (p q:Pt) (r dx dy al lo cr rr:Int):Prop where
 hdx:dx=q.x-p.x
 hdy:dy=q.y-p.y
 hal:al=-(p.x * dx+p.y * dy)
 hlo:lo=dx * dx+dy * dy
 hcr:cr=p.x * q.y-p.y * q.x
 hrr:rr=r * r
theorem comes_case {p q:Pt} {r dx dy al lo cr rr:Int} (h:Cm p q r dx dy al lo cr rr):comesP p q r↔if al≤0 then n2 p≤rr else if lo≤al then n2 q≤rr else cr * cr≤rr * lo:=by
 obtain⟨rfl,rfl,rfl,rfl,rfl,rfl⟩:=h;exact Iff.rfl
structure CmN (p q:Pt) (r dx dy al cr:Int) (R L:Nat):Prop where
 g1:wrap64 (q.x-p.x)=dx
 g2:wrap64 (q.y-p.y)=dy
 eal:wrap64 (-wrap64 (wrap64 (p.x * dx)+wrap64 (p.y * dy)))=al
 elo:n2 ⟨dx,dy⟩=(L:Int)
 err:wrap64 (r * r)=(R:Int)
 ecr:wrap64 (wrap64 (p.x * q.y)-wrap64 (p.y * q.x))=cr
 uR:IntKind.u64.wrap (R:Int)=(R:Int)
 uL:IntKind.u64.wrap (L:Int)=(L:Int)
 Rl:R<18446744073709551616
 Ll:L<18446744073709551616
 cl:-9223372036854775808<cr∧cr<9223372036854775808
 sd:Sm ⟨dx,dy⟩
 res:comesP p q r↔if al≤0 then n2 p≤(R:Int) else if (L:Int)≤al then n2 q≤(R:Int) else ¬ R * L<cr.natAbs * cr.natAbs
theorem cmN_of (p q:Pt) (r:Int) (hp:Fr p) (hq:Fr q) (h0:0≤r) (h1:r≤268435456):∃ dx dy al cr R L,CmN p q r dx dy al cr R L:=by
 unfold Fr Fr1 at hp hq;obtain⟨R,hR⟩:=Int.eq_ofNat_of_zero_le (Int.mul_nonneg h0 h0);have sd:Sm ⟨q.x-p.x,q.y-p.y⟩:=⟨by show _≤q.x-p.x;omega,by show q.x-p.x≤_;omega,by show _≤q.y-p.y;omega,by show q.y-p.y≤_;omega⟩;obtain⟨n0,n1⟩:=n2_le sd;obtain⟨L,hL⟩:=Int.eq_ofNat_of_zero_le n0;have m1:=mul_bd (a:=p.x) (b:=q.x-p.x) (A:=268435456) (B:=536870912) oM oM;have m2:=mul_bd (a:=p.y) (b:=q.y-p.y) (A:=268435456) (B:=536870912) oM oM;have m3:=mul_bd (a:=p.x) (b:=q.y) (A:=268435456) (B:=268435456) oM oM;have m4:=mul_bd (a:=p.y) (b:=q.x) (A:=268435456) (B:=268435456) oM oM;have m5:=mul_bd (a:=r) (b:=r) (A:=268435456) (B:=268435456) oM oM;simp only[Nat.reduceMul] at m1 m2 m3 m4 m5;refine⟨q.x-p.x,q.y-p.y,-(p.x * (q.x-p.x)+p.y * (q.y-p.y)),p.x * q.y-p.y * q.x,R,L,?_,?_,?_,hL,?_,?_,?_,?_,?_,?_,?_,sd,?_⟩
 · unfold wrap64;omega
 · unfold wrap64;omega
 ·
  generalize p.x * (q.x-p.x)=a at *;generalize p.y * (q.y-p.y)=b at *;have e1:wrap64 a=a:=by unfold wrap64;omega
  have e2:wrap64 b=b:=by unfold wrap64;omega
  have e3:wrap64 (a+b)=a+b:=by unfold wrap64;omega
  rw[e1,e2,e3];unfold wrap64;omega
 · rw[hR];rw[hR] at m5;unfold wrap64;omega
 ·
  generalize p.x * q.y=a at *;generalize p.y * q.x=b at *;have e1:wrap64 a=a:=by unfold wrap64;omega
  have e2:wrap64 b=b:=by unfold wrap64;omega
  rw[e1,e2];unfold wrap64;omega
 · rw[wrapu];rw[hR] at m5;omega
 · rw[wrapu];omega
 · rw[hR] at m5;omega
 · omega
 ·
  generalize p.x * q.y=a at *;generalize p.y * q.x=b at *;omega
 ·
  have key:=comes_case (p:=p) (q:=q) (r:=r) ⟨rfl,rfl,rfl,rfl,rfl,rfl⟩;rw[key,hR];have hL':(q.x-p.x) * (q.x-p.x)+(q.y-p.y) * (q.y-p.y)=(L:Int):=hL;rw[hL'];have e:=natAbs_sq (p.x * q.y-p.y * q.x);have e2:((R * L:Nat):Int)=(R:Int) * (L:Int):=by push_cast;rfl
  rw[← e,← e2];have e3:(((p.x * q.y-p.y * q.x).natAbs * (p.x * q.y-p.y * q.x).natAbs:Nat):Int)≤((R * L:Nat):Int)↔¬ R * L<(p.x * q.y-p.y * q.x).natAbs * (p.x * q.y-p.y * q.x).natAbs:=by omega
  rw[e3]
theorem span_lessN_any (N M:Nat) (w:World) :
  Calls Tryz.prog 130 #[.agg #[.int .u64 ((N / 18446744073709551616:Nat):Int),.int .u64 ((N % 18446744073709551616:Nat):Int)],.agg #[.int .u64 ((M / 18446744073709551616:Nat):Int),.int .u64 ((M % 18446744073709551616:Nat):Int)]] w fun e w'=>e=.returned (.bool (decide (N<M)))∧Kp w.heap.size none w w':=by
 refine mK (span_less_any _ _ _ _ w) fun w1 k=>?_;refine⟨ret_bool ?_,k⟩;rw[Bool.eq_iff_iff];simp only[decide_eq_true_eq];exact words_lt N M
theorem span_comes_any (p q:Pt) (r:Int) (hp:Fr p) (hq:Fr q) (h0:0≤r) (h1:r≤268435456) (w:World) :
  Calls Tryz.prog 89 #[.agg #[p.x,p.y],.agg #[q.x,q.y],r] w fun e w'=>e=.returned (.bool (decide (comesP p q r)))∧Kp w.heap.size none w w':=by
 obtain⟨dx,dy,al,cr,R,L,⟨g1,g2,eal,elo,err,ecr,uR,uL,Rl,Ll,cl,sd,res⟩⟩:=cmN_of p q r hp hq h0 h1;unfold Fr Fr1 at hp hq;have cp:=fun w=>span_square_any p ⟨by omega,by omega,by omega,by omega⟩ w;have cq:=fun w=>span_square_any q ⟨by omega,by omega,by omega,by omega⟩ w;have cd:=fun w=>span_square_any ⟨dx,dy⟩ sd w;simp only at cd;rw[elo] at cd;have c1:=fun w=>span_size_any cr cl.1 cl.2 w;obtain⟨C,hC⟩:∃ C,C=cr.natAbs:=⟨_,rfl⟩;have hCl:C<18446744073709551616:=by omega
 rw[← hC] at c1 res;have c2:=fun w=>span_times_any R L Rl Ll w;have c3:=fun w=>span_times_any C C hCl hCl w;have c4:=fun w=>span_lessN_any (R * L) (C * C) w;obtain⟨b,hb⟩:∃ b,b=decide (comesP p q r):=⟨_,rfl⟩;rw[← hb]
 have res':b=if al≤0 then decide (n2 p≤(R:Int)) else if (L:Int)≤al then decide (n2 q≤(R:Int)) else !decide (R * L<C * C):=by
  rw[hb,Bool.eq_iff_iff,decide_eq_true_eq,res];split
  · simp
  · split<;>simp
 clear hp hq h0 h1 sd Rl Ll cl res hb hC hCl elo;generalize n2 p=np at *;generalize n2 q=nq at *;obtain⟨lt,hlt⟩:∃ lt,lt=decide (R * L<C * C):=⟨_,rfl⟩;rw[← hlt] at c4 res';generalize ((R * L / 18446744073709551616:Nat):Int)=t1 at *;generalize ((R * L % 18446744073709551616:Nat):Int)=t2 at *;generalize ((C * C / 18446744073709551616:Nat):Int)=t3 at *;generalize ((C * C % 18446744073709551616:Nat):Int)=t4 at *;clear hlt;replace res':=Lib.hid res';obtain⟨w1,hw1,P,Q,D,K,hz⟩:=box3 w 45 #[p.x,p.y] 45 #[q.x,q.y] 45 #[dx,dy];go_enter Tryz.func89,Tryz.ntmps89
 go_wp2_with fail
 rw[← hw1];clear hw1;obtain⟨S,hS0⟩:=cls_of (P:=fun w'=>Blk w' _ _ _∧Blk w' _ _ _∧Blk w' _ _ _∧Kp _ none _ w') w1 ⟨P,Q,D,K⟩;try dsimp only at hS0
 have cP:=fun (x:Ev (S 0)) i=>((hS0 _).1 x.h).1.cell i;have cQ:=fun (x:Ev (S 0)) i=>((hS0 _).1 x.h).2.1.cell i;have cD:=fun (x:Ev (S 0)) i=>((hS0 _).1 x.h).2.2.1.cell i;replace P:=P.drew;replace Q:=Q.drew;replace D:=D.drew;replace K:=K.drew;have hevT:=ev_true;refine wro S [(0,0),(1,1),(2,0),(3,1),(4,0),(5,0),(6,1),(7,0),(8,1),(9,0),(10,0),(11,0),(12,1),(13,2),(14,0),(15,0)] [] ((hS0 _).2 ⟨P,Q,D,K⟩) ?_;intro _hev;refine oX ?_;refine oL ?_;intro Kc hKc;go_step;refine mK (cd _) fun w2 k=>?_;replace P:=P.kpN k;replace Q:=Q.kpN k;replace D:=D.kpN k;replace K:=K.tN k;clear k;refine hKc _ _ ((hS0 _).2 ⟨P,Q,D,K⟩) ?_;clear hKc Kc;refine oX ?_;refine wpOrd_nil ?_;clear hevT _hev;clear cP cQ cD hS0 S;rw[eal];by_cases ha:al≤0
 ·
  have cP:=P.cell;have fP:=P.frozen;have cQ:=Q.cell;have fQ:=Q.frozen;have cD:=D.cell;have fD:=D.frozen;go_wp2_with fail
  refine mK (cp _) fun w3 k=>?_;clear cP fP cQ fQ cD fD;replace P:=P.kpN k;replace Q:=Q.kpN k;replace D:=D.kpN k;replace K:=K.thenN k oM;have hzk:=k.size;clear k;have cP:=P.cell;have fP:=P.frozen;have cQ:=Q.cell;have fQ:=Q.frozen;have cD:=D.cell;have fD:=D.frozen;go_wp2_with fail
  clear cP fP cQ fQ cD fD;go_ret
  refine⟨ret_bool ?_,K⟩;rw[res'.out,if_pos oM]
 ·
  by_cases hb:(L:Int)≤al
  ·
   have cP:=P.cell;have fP:=P.frozen;have cQ:=Q.cell;have fQ:=Q.frozen;have cD:=D.cell;have fD:=D.frozen;go_wp2_with fail
   refine mK (cq _) fun w3 k=>?_;clear cP fP cQ fQ cD fD;replace P:=P.kpN k;replace Q:=Q.kpN k;replace D:=D.kpN k;replace K:=K.thenN k oM;have hzk:=k.size;clear k;have cP:=P.cell;have fP:=P.frozen;have cQ:=Q.cell;have fQ:=Q.frozen;have cD:=D.cell;have fD:=D.frozen;go_wp2_with fail
   clear cP fP cQ fQ cD fD;go_ret
   refine⟨ret_bool ?_,K⟩;rw[res'.out,if_neg oM,if_pos oM]
  ·
   have cP:=P.cell;have fP:=P.frozen;have cQ:=Q.cell;have fQ:=Q.frozen;have cD:=D.cell;have fD:=D.frozen;go_wp2_with fail
   refine mK (c1 _) fun w3 k=>?_;clear cP fP cQ fQ cD fD;replace P:=P.kpN k;replace Q:=Q.kpN k;replace D:=D.kpN k;replace K:=K.thenN k oM;have hzk:=k.size;clear k;have cP:=P.cell;have fP:=P.frozen;have cQ:=Q.cell;have fQ:=Q.frozen;have cD:=D.cell;have fD:=D.frozen;go_wp2_with fail
   refine mK (c2 _) fun w4 k=>?_;clear cP fP cQ fQ cD fD;replace P:=P.kpN k;replace Q:=Q.kpN k;replace D:=D.kpN k;replace K:=K.thenN k oM;have hzk:=k.size;clear k;have cP:=P.cell;have fP:=P.frozen;have cQ:=Q.cell;have fQ:=Q.frozen;have cD:=D.cell;have fD:=D.frozen;go_wp2_with fail
   refine mK (c3 _) fun w5 k=>?_;clear cP fP cQ fQ cD fD;replace P:=P.kpN k;replace Q:=Q.kpN k;replace D:=D.kpN k;replace K:=K.thenN k oM;have hzk:=k.size;clear k;have cP:=P.cell;have fP:=P.frozen;have cQ:=Q.cell;have fQ:=Q.frozen;have cD:=D.cell;have fD:=D.frozen;go_wp2_with fail
   refine mK (c4 _) fun w6 k=>?_;clear cP fP cQ fQ cD fD;replace P:=P.kpN k;replace Q:=Q.kpN k;replace D:=D.kpN k;replace K:=K.thenN k oM;have hzk:=k.size;clear k;have cP:=P.cell;have fP:=P.frozen;have cQ:=Q.cell;have fQ:=Q.frozen;have cD:=D.cell;have fD:=D.frozen;go_wp2_with fail
   clear cP fP cQ fQ cD fD;go_ret
   refine⟨ret_bool ?_,K⟩;rw[res'.out,if_neg oM,if_neg oM]
end Go.Proofs.YtdhiappifnflpaaGreatDoor
