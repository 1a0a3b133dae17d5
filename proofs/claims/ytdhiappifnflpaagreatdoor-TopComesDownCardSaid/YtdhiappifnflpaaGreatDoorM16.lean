/- What moves a small body: the walks of force, first part. What moves a small body: the walks of force, second part. -/
import Derived.Test.YtdhiappifnflpaaGreatDoorM14
set_option maxHeartbeats 1000000
namespace Go.Proofs.YtdhiappifnflpaaGreatDoor
open Go.RowKit
theorem cls_of2 {P:World→Prop} (w:World) (_:P w):∃ S:Nat→World→Prop,(∀ w',S 0 w'↔P w')∧∀ w',S 1 w'↔True:=⟨fun n w'=>if n=0 then P w' else True,fun _=>Iff.rfl,fun _=>Iff.rfl⟩
theorem force_one_any (n:Int) (w:World) :
  Calls Tryz.prog 169 #[n] w fun e w'=>e=.returned (.agg #[n,n])∧Kp w.heap.size none w w':=by
 go_enter Tryz.func169,Tryz.ntmps169
 go_wp2_with fail
 exact bodyPost_ret (by simp[results,Tryz.results169,go_sem]) rfl ⟨rfl,Kp.new1 _ _⟩
theorem force_alone_any (p:Pt) (w:World) :
  Calls Tryz.prog 147 #[.agg #[p.x,p.y]] w fun e w'=>e=.returned (.agg #[p.x,p.x,p.y,p.y])∧Kp w.heap.size none w w':=by
 obtain⟨w1,hw1,A,R,K,hz⟩:=box2 w 45 #[p.x,p.y] 53 #[(0:Int),(0:Int),(0:Int),(0:Int)];go_enter Tryz.func147,Tryz.ntmps147
 go_wp2_with fail
 rw[← hw1];clear hw1;obtain⟨S,hS0,hS1⟩:=cls_of2 (P:=fun w'=>Blk w' _ _ _∧Kp _ none _ w') w1 ⟨A,K⟩;try dsimp only at hS0
 have cA:=fun (x:Ev (S 0)) i=>((hS0 _).1 x.h).1.cell i;replace A:=A.drew;replace K:=K.drew;replace R:=R.drew;have hevT:=ev_true;refine wro S [(0,0),(1,1),(3,0),(4,1),(2,2),(5,2),(6,0),(7,3)] [7] ((hS0 _).2 ⟨A,K⟩) ?_;intro _hev;refine oX ?_;refine oL ?_;intro Kc hKc;go_step;refine mK (force_one_any p.x _) fun w2 k=>?_;replace A:=A.kpN k;replace R:=R.kpN k;replace K:=K.tN k;clear k;refine hKc _ _ ((hS0 _).2 ⟨A,K⟩) ?_;clear hKc Kc;refine oL ?_;intro Kc hKc;go_step;refine mK (force_one_any p.y _) fun w3 k=>?_;replace A:=A.kpN k;replace R:=R.kpN k;replace K:=K.tN k;clear k;refine hKc _ _ ((hS0 _).2 ⟨A,K⟩) ?_;clear hKc Kc;refine oX ?_;refine oA ?_;intro Kc hKc;have cR:=R.cell;have fR:=R.frozen;go_step;refine hKc _ _ ((hS1 _).2 trivial) ?_;clear hKc Kc cR fR;change wpOrd _ _ _ _ _ 1 _ _;refine wpOrd_nil ?_;clear hevT _hev;clear cA hS0 hS1 S;have BR:=((((R.set_ 0 (.int .i64 p.x)).set_ 1 (.int .i64 p.x)).set_ 2 (.int .i64 p.y)).set_ 3 (.int .i64 p.y));have cR:=BR.cell;go_wp2_with fail
 exact bodyPost_ret (by simp[results,Tryz.results147,go_sem,cR]) rfl ⟨rfl,((((K.setNew (by simp<;>omega) _).setNew (by simp<;>omega) _).setNew (by simp<;>omega) _).setNew (by simp<;>omega) _)⟩
theorem force_bounded_any (s:Sp) (low high:Int) (h1:low≤s.lo) (h2:s.lo≤s.hi) (h3:s.hi≤high) (w:World) :
  Calls Tryz.prog 133 #[s,low,high] w fun e w'=>e=.returned (.int .i64 0)∧Kp w.heap.size none w w':=by
 have n1:¬ s.hi<s.lo:=by omega
 have n2:¬ s.lo<low:=by omega
 have n3:¬ high<s.hi:=by omega
 go_enter Tryz.func133,Tryz.ntmps133
 go_wp2
 go_ret
 exact⟨rfl,Kp.new1 _ _⟩
theorem fwithin_t {n lo hi:Int} (h1:lo≤n) (h2:n≤hi) (w:World):Calls Tryz.prog 134 #[n,lo,hi] w fun e w'=>e=.returned (.bool true)∧Kp w.heap.size none w w':=by
 have:=force_within_any n lo hi w;rwa [btw_t h1 h2] at this
theorem force_CheckDrift_any (d:Dr) (h:d.ok) (w:World) :
  Calls Tryz.prog 97 #[d] w fun e w'=>e=.returned (.int .i64 0)∧Kp w.heap.size none w w':=by
 obtain⟨h1,h2,h3,h4,h5,h6,h7,h8⟩:=h;obtain⟨w1,hw1,D,K,hz⟩:=box1 w 31 d;go_enter Tryz.func97,Tryz.ntmps97
 go_wp2_with fail
 rw[← hw1];clear hw1;refine mK (force_bounded_any d.light 0 1000 h1 h2 h3 _) fun w2 k=>?_;replace D:=D.kpN k;replace K:=K.thenN k oM;have hzk:=k.size;clear k;have cD:=D.cell;have fD:=D.frozen;go_wp2_with fail
 refine mK (force_bounded_any d.heat (-1000) 1000 h4 h5 h6 _) fun w3 k=>?_;clear cD fD;replace D:=D.kpN k;replace K:=K.thenN k oM;have hzk:=k.size;clear k;have cD:=D.cell;have fD:=D.frozen;go_wp2_with fail
 refine mK (fwithin_t h7 h8 _) fun w4 k=>?_;clear cD fD;replace D:=D.kpN k;replace K:=K.thenN k oM;have hzk:=k.size;clear k;have cD:=D.cell;have fD:=D.frozen;go_wp2_with fail
 clear cD fD;go_ret
 exact⟨rfl,K⟩
theorem force_minus_any (s:Sp) (h:s.fit) (w:World) :
  Calls Tryz.prog 175 #[s] w fun e w'=>e=.returned (.agg #[(negS s).lo,(negS s).hi])∧Kp w.heap.size none w w':=by
 obtain⟨h1,h2,h3⟩:=h;have e1:wrap64 (-s.hi)=-s.hi:=by unfold wrap64;omega
 have e2:wrap64 (-s.lo)=-s.lo:=by unfold wrap64;omega
 go_enter Tryz.func175,Tryz.ntmps175
 go_wp2_with fail
 exact bodyPost_ret (by simp[results,Tryz.results175,go_sem];exact⟨rfl,rfl⟩) rfl ⟨rfl,Kp.new2 _ _ _⟩
theorem force_sub_any (a b:Sp) (ha:a.fit) (hb:b.fit) (hr:(subS a b).fit) (w:World) :
  Calls Tryz.prog 207 #[a,b] w fun e w'=>e=.returned (.agg #[(subS a b).lo,(subS a b).hi])∧Kp w.heap.size none w w':=by
 have hc:=fun w=>span_Sub_any a b ha hb hr w;clear hr;generalize subS a b=m at *;obtain⟨w1,hw1,A,B,R,K,hz⟩:=box3 w 29 a 29 b 29 #[(0:Int),(0:Int)];go_enter Tryz.func207,Tryz.ntmps207
 go_wp2_with fail
 rw[← hw1];clear hw1;refine mK (hc _) fun w2 k=>?_;replace A:=A.kpN k;replace B:=B.kpN k;replace R:=R.kpN k;replace K:=K.thenN k oM;have hzk:=k.size;clear k;have pA:=A.cell;have pB:=B.cell;have pR:=R.cell;obtain⟨w9_,rfl,O,k9_,hzn⟩:=box1 w2 29 #[m.lo,m.hi];replace A:=A.kpN k9_;replace B:=B.kpN k9_;replace R:=R.kpN k9_;replace K:=K.thenN k9_ oU;clear k9_;have cA:=A.cell;have fA:=A.frozen;have cB:=B.cell;have fB:=B.frozen;have cR:=R.cell;have fR:=R.frozen;go_wp2_with fail
 clear cA fA pA cB fB pB cR fR pR;generalize (w2.alloc (.cells #[m.lo,m.hi] 29))=w3 at *;obtain⟨x,hx⟩:∃ q9,q9=w2.heap.size:=⟨_,rfl⟩;rw[← hx] at O ⊢;replace hx:=Lib.hid hx;have BR:=((R.set_ 0 (.int .i64 m.lo)).set_ 1 (.int .i64 m.hi));have cR:=BR.cell;exact bodyPost_ret (by simp[results,Tryz.results207,go_sem,cR]) rfl ⟨rfl,((K.setNew (by simp<;>omega) _).setNew (by simp<;>omega) _)⟩
theorem force_mul_any (a b:Sp) (ha:a.fit) (hb:b.fit) (hr:∀ x y,a.has x→b.has y→Fit1 (x * y)) (w:World) :
  Calls Tryz.prog 194 #[a,b] w fun e w'=>e=.returned (.agg #[(mulS a b).lo,(mulS a b).hi])∧Kp w.heap.size none w w':=by
 have hc:=fun w=>span_Mul_any a b ha hb hr w;clear hr;generalize mulS a b=m at *;obtain⟨w1,hw1,A,B,R,K,hz⟩:=box3 w 29 a 29 b 29 #[(0:Int),(0:Int)];go_enter Tryz.func194,Tryz.ntmps194
 go_wp2_with fail
 rw[← hw1];clear hw1;refine mK (hc _) fun w2 k=>?_;replace A:=A.kpN k;replace B:=B.kpN k;replace R:=R.kpN k;replace K:=K.thenN k oM;have hzk:=k.size;clear k;have pA:=A.cell;have pB:=B.cell;have pR:=R.cell;obtain⟨w9_,rfl,O,k9_,hzn⟩:=box1 w2 29 #[m.lo,m.hi];replace A:=A.kpN k9_;replace B:=B.kpN k9_;replace R:=R.kpN k9_;replace K:=K.thenN k9_ oU;clear k9_;have cA:=A.cell;have fA:=A.frozen;have cB:=B.cell;have fB:=B.frozen;have cR:=R.cell;have fR:=R.frozen;go_wp2_with fail
 clear cA fA pA cB fB pB cR fR pR;generalize (w2.alloc (.cells #[m.lo,m.hi] 29))=w3 at *;obtain⟨x,hx⟩:∃ q9,q9=w2.heap.size:=⟨_,rfl⟩;rw[← hx] at O ⊢;replace hx:=Lib.hid hx;have BR:=((R.set_ 0 (.int .i64 m.lo)).set_ 1 (.int .i64 m.hi));have cR:=BR.cell;exact bodyPost_ret (by simp[results,Tryz.results194,go_sem,cR]) rfl ⟨rfl,((K.setNew (by simp<;>omega) _).setNew (by simp<;>omega) _)⟩
theorem force_quot_any (a b:Sp) (ha:a.fit) (hb:b.fit) (hr:0<b.lo) (w:World) :
  Calls Tryz.prog 193 #[a,b] w fun e w'=>e=.returned (.agg #[(quotS a b).lo,(quotS a b).hi])∧Kp w.heap.size none w w':=by
 have hc:=fun w=>span_Quot_any a b ha hb hr w;clear hr;generalize quotS a b=m at *;obtain⟨w1,hw1,A,B,R,K,hz⟩:=box3 w 29 a 29 b 29 #[(0:Int),(0:Int)];go_enter Tryz.func193,Tryz.ntmps193
 go_wp2_with fail
 rw[← hw1];clear hw1;refine mK (hc _) fun w2 k=>?_;replace A:=A.kpN k;replace B:=B.kpN k;replace R:=R.kpN k;replace K:=K.thenN k oM;have hzk:=k.size;clear k;have pA:=A.cell;have pB:=B.cell;have pR:=R.cell;obtain⟨w9_,rfl,O,k9_,hzn⟩:=box1 w2 29 #[m.lo,m.hi];replace A:=A.kpN k9_;replace B:=B.kpN k9_;replace R:=R.kpN k9_;replace K:=K.thenN k9_ oU;clear k9_;have cA:=A.cell;have fA:=A.frozen;have cB:=B.cell;have fB:=B.frozen;have cR:=R.cell;have fR:=R.frozen;go_wp2_with fail
 clear cA fA pA cB fB pB cR fR pR;generalize (w2.alloc (.cells #[m.lo,m.hi] 29))=w3 at *;obtain⟨x,hx⟩:∃ q9,q9=w2.heap.size:=⟨_,rfl⟩;rw[← hx] at O ⊢;replace hx:=Lib.hid hx;have BR:=((R.set_ 0 (.int .i64 m.lo)).set_ 1 (.int .i64 m.hi));have cR:=BR.cell;exact bodyPost_ret (by simp[results,Tryz.results193,go_sem,cR]) rfl ⟨rfl,((K.setNew (by simp<;>omega) _).setNew (by simp<;>omega) _)⟩
theorem force_square_any (a:Sp) (ha:a.fit) (h1:-1073741824≤a.lo) (h2:a.hi≤1073741824) (w:World) :
  Calls Tryz.prog 205 #[a] w fun e w'=>e=.returned (.agg #[(squareS a).lo,(squareS a).hi])∧Kp w.heap.size none w w':=by
 have hc:=fun w=>span_Square_any a ha h1 h2 w;generalize squareS a=m at *;obtain⟨w1,hw1,A,R,K,hz⟩:=box2 w 29 a 29 #[(0:Int),(0:Int)];go_enter Tryz.func205,Tryz.ntmps205
 go_wp2_with fail
 rw[← hw1];clear hw1;refine mK (hc _) fun w2 k=>?_;replace A:=A.kpN k;replace R:=R.kpN k;replace K:=K.thenN k oM;have hzk:=k.size;clear k;have pA:=A.cell;have pR:=R.cell;obtain⟨w9_,rfl,O,k9_,hzn⟩:=box1 w2 29 #[m.lo,m.hi];replace A:=A.kpN k9_;replace R:=R.kpN k9_;replace K:=K.thenN k9_ oU;clear k9_;have cA:=A.cell;have fA:=A.frozen;have cR:=R.cell;have fR:=R.frozen;go_wp2_with fail
 clear cA fA pA cR fR pR;generalize (w2.alloc (.cells #[m.lo,m.hi] 29))=w3 at *;obtain⟨x,hx⟩:∃ q9,q9=w2.heap.size:=⟨_,rfl⟩;rw[← hx] at O ⊢;replace hx:=Lib.hid hx;have BR:=((R.set_ 0 (.int .i64 m.lo)).set_ 1 (.int .i64 m.hi));have cR:=BR.cell;exact bodyPost_ret (by simp[results,Tryz.results205,go_sem,cR]) rfl ⟨rfl,((K.setNew (by simp<;>omega) _).setNew (by simp<;>omega) _)⟩
theorem force_clamp_any (s:Sp) (w:World) :
  Calls Tryz.prog 208 #[s] w fun e w'=>e=.returned (.agg #[(clampS mp s).lo,(clampS mp s).hi])∧Kp w.heap.size none w w':=by
 go_enter Tryz.func208,Tryz.ntmps208
 go_wp2_with fail
 exact bodyPost_ret (by simp[results,Tryz.results208,go_sem];exact⟨rfl,rfl⟩) rfl ⟨rfl,Kp.new2 _ _ _⟩
def Sp.bd (s:Sp) (M:Int):Prop:=-M≤s.lo∧s.lo≤s.hi∧s.hi≤M
theorem Sp.bd.fit {s:Sp} {M:Int} (h:s.bd M) (hM:M≤1152921504606846976):s.fit:=by unfold Sp.bd at h;unfold Sp.fit;omega
theorem mulS_fit {a b:Sp} {A B:Nat} (ha:a.bd A) (hb:b.bd B) (h:A * B≤1152921504606846976):∀ x y,a.has x→b.has y→Fit1 (x * y):=by
 intro x y hx hy;unfold Sp.bd at ha hb;unfold Sp.has at hx hy;have:=mul_bd (a:=x) (b:=y) (A:=A) (B:=B) oM oM;unfold Fit1;generalize x * y=z at *;generalize A * B=C at *;omega
theorem mulS_bd {a b:Sp} {A B:Nat} (ha:a.bd A) (hb:b.bd B):(mulS a b).bd ((A * B:Nat):Int):=by
 have key:∀ x y,a.has x→b.has y→-((A * B:Nat):Int)≤x * y∧x * y≤((A * B:Nat):Int):=by
  intro x y hx hy;unfold Sp.bd at ha hb;unfold Sp.has at hx hy;have:=mul_bd (a:=x) (b:=y) (A:=A) (B:=B) oM oM;generalize x * y=z at *;generalize A * B=C at *;omega
 unfold Sp.bd at ha hb;have h1:=key a.lo b.lo ⟨by omega,by omega⟩ ⟨by omega,by omega⟩;have h2:=key a.lo b.hi ⟨by omega,by omega⟩ ⟨by omega,by omega⟩;have h3:=key a.hi b.lo ⟨by omega,by omega⟩ ⟨by omega,by omega⟩;have h4:=key a.hi b.hi ⟨by omega,by omega⟩ ⟨by omega,by omega⟩;have h5:=mulS_ok a b;refine⟨?_,h5,?_⟩
 · simp only[mulS,minC];omega
 · simp only[mulS,maxC];omega
theorem fdiv_bd {x y:Int} {M:Int} (h:-M≤x∧x≤M) (h0:0<y):(-M≤Int.fdiv x y∧Int.fdiv x y≤M)∧-M≤cdiv x y∧cdiv x y≤M:=by
 have key:∀ z:Int,-M≤z→z≤M→-M≤z / y∧z / y≤M:=fun z h1 h2=>by
  rcases Int.lt_or_le z 0 with g|g
  ·
   have a:=Int.ediv_mul_le z (show y≠0 by omega);refine⟨?_,?_⟩
   ·
    refine Int.le_ediv_of_mul_le h0 ?_;have:=Int.mul_le_mul_of_nonneg_left (show 1≤y by omega) (show 0≤M by omega);have e:-M * y=-(M * y):=by grind
    omega
   · have:=Int.ediv_neg_of_neg_of_pos g h0;omega
  ·
   have a:=Int.ediv_nonneg g (show 0≤y by omega);have b:=Int.ediv_le_self y g;omega
 unfold cdiv;rw[fdiv_pos x h0,fdiv_pos (-x) h0];have a:=key x h.1 h.2;have b:=key (-x) oM oM;omega
theorem quotS_bd {a b:Sp} {M:Int} (ha:a.bd M) (h0:0<b.lo) (hb:b.lo≤b.hi):(quotS a b).bd M:=by
 unfold Sp.bd at ha;have h1:=fdiv_bd (x:=a.lo) (y:=b.lo) (M:=M) oM h0;have h2:=fdiv_bd (x:=a.lo) (y:=b.hi) (M:=M) oM oM;have h3:=fdiv_bd (x:=a.hi) (y:=b.lo) (M:=M) oM h0;have h4:=fdiv_bd (x:=a.hi) (y:=b.hi) (M:=M) oM oM;have h5:=quotS_ok a b;refine⟨?_,h5,?_⟩
 · simp only[quotS,minC];omega
 · simp only[quotS,maxC];omega
theorem force_part_any (a b:Sp) (A B:Nat) (ha:a.bd A) (hb:b.bd B) (h:A * B≤1152921504606846976) (hA:A≤1152921504606846976) (hB:B≤1152921504606846976) (w:World) :
  Calls Tryz.prog 176 #[a,b] w fun e w'=>e=.returned (.agg #[(partS a b).lo,(partS a b).hi])∧Kp w.heap.size none w w':=by
 have c1:=fun w=>force_mul_any a b (ha.fit oM) (hb.fit oM) (mulS_fit ha hb h) w;have hm:=(mulS_bd ha hb).fit oM;have c2:=fun w=>force_quot_any (mulS a b) (oneS 1000) hm ⟨by decide,by decide,by decide⟩ (by decide) w;have e:quotS (mulS a b) (oneS 1000)=partS a b:=rfl;rw[e] at c2;generalize partS a b=p at *;clear e hm;generalize mulS a b=m at *;obtain⟨w1,hw1,A,B,R,K,hz⟩:=box3 w 29 a 29 b 29 #[(0:Int),(0:Int)];go_enter Tryz.func176,Tryz.ntmps176
 go_wp2_with fail
 rw[← hw1];clear hw1;refine mK (c1 _) fun w2 k=>?_;replace A:=A.kpN k;replace B:=B.kpN k;replace R:=R.kpN k;replace K:=K.thenN k oM;have hzk:=k.size;clear k;have cA:=A.cell;have fA:=A.frozen;have cB:=B.cell;have fB:=B.frozen;have cR:=R.cell;have fR:=R.frozen;go_wp2_with fail
 refine mK (force_one_any 1000 _) fun w3 k=>?_;clear cA fA cB fB cR fR;replace A:=A.kpN k;replace B:=B.kpN k;replace R:=R.kpN k;replace K:=K.thenN k oM;have hzk:=k.size;clear k;have cA:=A.cell;have fA:=A.frozen;have cB:=B.cell;have fB:=B.frozen;have cR:=R.cell;have fR:=R.frozen;go_wp2_with fail
 refine mK (c2 _) fun w4 k=>?_;clear cA fA cB fB cR fR;replace A:=A.kpN k;replace B:=B.kpN k;replace R:=R.kpN k;replace K:=K.thenN k oM;have hzk:=k.size;clear k;have cA:=A.cell;have fA:=A.frozen;have cB:=B.cell;have fB:=B.frozen;have cR:=R.cell;have fR:=R.frozen;go_wp2_with fail
 clear cA fA cB fB cR fR;have BR:=((R.set_ 0 (.int .i64 p.lo)).set_ 1 (.int .i64 p.hi));have cR:=BR.cell;exact bodyPost_ret (by simp[results,Tryz.results176,go_sem,cR]) rfl ⟨rfl,((K.setNew (by simp<;>omega) _).setNew (by simp<;>omega) _)⟩
def encSp (s:Sp):List Value:=[.int .i64 s.lo,.int .i64 s.hi]
def encAr (a:Ar):List Value:=[.int .i64 a.x.lo,.int .i64 a.x.hi,.int .i64 a.y.lo,.int .i64 a.y.hi]
theorem rd_sp2 {w:World} {b:Nat} {T:TypeId} {p q:Sp} (h:Blk w b T #[p.lo,p.hi,q.lo,q.hi]):Rd none w 2 encSp (some ⟨b,0,none⟩) 2 [p,q]:=
 Rd.of_blk h fun i hi j v hv=>by
  match i,hi,j,hv with
  | 0,_,0,hv=>exact hv
  | 0,_,1,hv=>exact hv
  | 1,_,0,hv=>exact hv
  | 1,_,1,hv=>exact hv
def accS (l:List Sp):Sp:=l.foldl addS ⟨0,0⟩
theorem accS_snoc (l:List Sp) (s:Sp):accS (l++[s])=addS (accS l) s:=by unfold accS;rw[List.foldl_append];rfl
theorem addS_zero (s:Sp):addS ⟨0,0⟩ s=s:=by unfold addS;simp
theorem accS_two (a b:Sp):accS [a,b]=addS a b:=by unfold accS;simp only[List.foldl_cons,List.foldl_nil,addS_zero]
def AccAt (xs:List Sp) (T:TypeId) (x:Nat) (w:World) (v:Value) (wr:World):Prop:=∃ i:Nat,v=.int .i64 i∧i≤xs.length∧Blk wr x T #[(accS (xs.take i)).lo,(accS (xs.take i)).hi]∧Blk wr w.heap.size T #[(0:Int),(0:Int)]∧Kp w.heap.size none w wr
theorem force_add_any (A:Option Addr) (cap:Nat) (xs:List Sp) (w:World) (hr:Rd none w 2 encSp A xs.length xs) (hn:xs.length≤1000000) (hx:∀ s∈xs,s.fit) (hf:∀ i,i≤xs.length→(accS (xs.take i)).fit) :
  Calls Tryz.prog 174 #[.slice A xs.length cap] w fun e w'=>e=.returned (.agg #[(accS xs).lo,(accS xs).hi])∧Kp w.heap.size none w w':=by
 obtain⟨w1,hw1,R,O,K,hz⟩:=box2 w 29 #[(0:Int),(0:Int)] 29 #[(0:Int),(0:Int)];go_enter Tryz.func174,Tryz.ntmps174
 go_wp2_with fail
 rw[← hw1];clear hw1;go_loopw [8] (fun v wr=>AccAt xs 29 (w.heap.size+1) w v wr) (fun v _=>(xs.length:Int).toNat-(intOf v).toNat)
 case atStart=>exact⟨0,rfl,Nat.zero_le _,O,R,K⟩
 case round=>
  obtain⟨i,rfl,hi,O1,R1,K1⟩:=hrel;clear O R K;have K:=K1;clear K1;have hz0:=K.size;by_cases h:i<xs.length
  ·
   obtain⟨b,o,rfl,hb,-,hc⟩:=(hr.kpN K).at_ oM;have c0:=hc i h 0 _ rfl;have c1:=hc i h 1 _ rfl;rw[Nat.add_zero] at c0;rw[← Nat.add_assoc] at c1;have hxi:=hx _ (List.getElem_mem h);have ea:accS (xs.take (i+1))=addS (accS (xs.take i)) xs[i]:=by rw[List.take_succ_eq_append_getElem h,accS_snoc]
   have fa:=hf (i+1) h;rw[ea] at fa;have cA:=fun w=>span_Add_any (accS (xs.take i)) xs[i] (hf i hi) hxi fa w;rw[← ea] at cA;obtain⟨acc2,h2⟩:∃ q9,Hid (q9=accS (xs.take (i+1))):=⟨_,Lib.hid rfl⟩;rw[← h2.out] at cA;clear ea;generalize accS (xs.take i)=acc at *;generalize xs[i]=x at *;have hii:(i:Int)<(xs.length:Int):=by omega
   have hi0:(0:Int)≤(i:Int):=by omega
   have hm:(xs.length:Int).toNat-((i+1:Nat):Int).toNat<(xs.length:Int).toNat-(i:Int).toNat:=by omega
   replace hm:=Lib.hid hm;have hlt:b<wr.heap.size:=hb;clear hc hr hx hf fa hxi;have d0:(wr.alloc (.cells #[x.lo,x.hi] 29)).cell? ⟨b,o+i * 2,none⟩=some (.int .i64 x.lo):=((Kp.new1 wr _).cell b _ hlt (by simp)).trans c0;have pO1:=O1.cell;have pR1:=R1.cell;obtain⟨w9_,rfl,X,k9_,hzn⟩:=box1 wr 29 #[x.lo,x.hi];replace O1:=O1.kpN k9_;replace R1:=R1.kpN k9_;replace K:=K.thenN k9_ oU;clear k9_;have cO1:=O1.cell;have fO1:=O1.frozen;have cR1:=R1.cell;have fR1:=R1.frozen;go_wp2_with fail
   clear cO1 fO1 pO1 cR1 fR1 pR1;generalize (wr.alloc (.cells #[x.lo,x.hi] 29))=w2 at *;obtain⟨y,hx⟩:∃ q9,q9=wr.heap.size:=⟨_,rfl⟩;rw[← hx] at X ⊢;replace hx:=Lib.hid hx;refine mK (cA _) fun w3 k=>?_;replace O1:=O1.kpN k;replace R1:=R1.kpN k;replace K:=K.tN k;clear k c0 c1 d0 hx;replace h:=Lib.hid h;have cO1:=O1.cell;have fO1:=O1.frozen;go_wp2_with fail
   clear cO1 fO1;go_roundw
   case rel=>exact⟨i+1,by congr 1,h.out,by rw[← h2.out];exact(O1.set_ 0 (.int .i64 acc2.lo)).set_ 1 (.int .i64 acc2.hi),(R1.far (by simp) _).far (by simp) _,(K.setNew (by simp) _).setNew (by simp) _⟩
   case measure=>exact hm.out
  ·
   obtain rfl:i=xs.length:=by omega
   rw[List.take_length] at O1;clear hx hf hr h hi;have K:=K;have cO1:=O1.cell;have fO1:=O1.frozen;have cR1:=R1.cell;have fR1:=R1.frozen;go_wp2_with fail
   clear cO1 fO1 cR1 fR1;have BR:=((R1.set_ 0 (.int .i64 (accS xs).lo)).set_ 1 (.int .i64 (accS xs).hi));have cR:=BR.cell;exact bodyPost_ret (by simp[results,Tryz.results174,go_sem,cR]) rfl ⟨rfl,((K.setNew (by simp<;>omega) _).setNew (by simp<;>omega) _)⟩
theorem force_add2 (b:Nat) (x y:Sp) (M:Int) (w:World) (T:TypeId) (h:Blk w b T #[x.lo,x.hi,y.lo,y.hi]) (hx:x.bd M) (hy:y.bd M) (hM:M≤576460752303423488) :
  Calls Tryz.prog 174 #[.slice (some ⟨b,0,none⟩) 2 2] w fun e w'=>e=.returned (.agg #[(addS x y).lo,(addS x y).hi])∧Kp w.heap.size none w w':=by
 have:=force_add_any (some ⟨b,0,none⟩) 2 [x,y] w (rd_sp2 h) (by simp) (by
  intro s hs;simp only[List.mem_cons,List.not_mem_nil,or_false] at hs;rcases hs with rfl|rfl
  · exact hx.fit oM
  · exact hy.fit oM) (by
  intro i hi;have hi:i≤2:=hi;unfold Sp.bd at hx hy;match i,hi with
  | 0,_=>show Sp.fit ⟨0,0⟩;unfold Sp.fit;simp only;omega
  | 1,_=>simp only[List.take,accS,List.foldl_cons,List.foldl_nil,addS_zero];unfold Sp.fit;omega
  | 2,_=>simp only[List.take,accS,List.foldl_cons,List.foldl_nil,addS_zero];unfold Sp.fit addS;simp only;omega)
 rw[accS_two] at this;exact this
theorem addS_bd {a b:Sp} {A B:Int} (ha:a.bd A) (hb:b.bd B):(addS a b).bd (A+B):=by unfold Sp.bd at *;unfold addS;simp only;omega
theorem subS_bd {a b:Sp} {A B:Int} (ha:a.bd A) (hb:b.bd B):(subS a b).bd (A+B):=by unfold Sp.bd at *;unfold subS;simp only;omega
theorem negS_bd {a:Sp} {A:Int} (ha:a.bd A):(negS a).bd A:=by unfold Sp.bd at *;unfold negS;simp only;omega
theorem partS_bd {a b:Sp} {A B:Nat} (ha:a.bd A) (hb:b.bd B):(partS a b).bd ((A * B:Nat):Int):=quotS_bd (mulS_bd ha hb) (by decide) (by decide)
theorem clampS_bd {s:Sp} (h:s.lo≤s.hi):(clampS mp s).bd mp:=by
 unfold Sp.bd clampS mp;simp only;omega
def Ar.bd (a:Ar) (M:Int):Prop:=a.x.bd M∧a.y.bd M
theorem force_light_any (d:Dr) (s:Ar) (hd:d.ok) (hs:s.bd 1048576) (w:World) :
  Calls Tryz.prog 155 #[d,s] w fun e w'=>e=.returned (.agg #[(lightA d s).x.lo,(lightA d s).x.hi,(lightA d s).y.lo,(lightA d s).y.hi])∧Kp w.heap.size none w w':=by
 have hl:d.light.bd ((1000:Nat):Int):=by have:=hd.l0;have:=hd.l1;have:=hd.l2;unfold Sp.bd;omega
 have p1:=fun w=>force_part_any d.light s.x 1000 1048576 hl hs.1 (by decide) (by decide) (by decide) w;have p2:=fun w=>force_part_any d.light s.y 1000 1048576 hl hs.2 (by decide) (by decide) (by decide) w;have n1:=fun w=>force_minus_any (partS d.light s.x) ((partS_bd hl hs.1).fit (by decide)) w;have n2:=fun w=>force_minus_any (partS d.light s.y) ((partS_bd hl hs.2).fit (by decide)) w;have e:lightA d s=⟨negS (partS d.light s.x),negS (partS d.light s.y)⟩:=rfl;rw[e];simp only;clear e hl hd hs;generalize negS (partS d.light s.x)=u1 at *;generalize negS (partS d.light s.y)=u2 at *;generalize partS d.light s.x=v1 at *;generalize partS d.light s.y=v2 at *;obtain⟨w1,hw1,D,A,R,K,hz⟩:=box3 w 31 d 53 s 53 #[(0:Int),(0:Int),(0:Int),(0:Int)];go_enter Tryz.func155,Tryz.ntmps155
 go_wp2_with fail
 rw[← hw1];clear hw1;obtain⟨S,hS0,hS1⟩:=cls_of2 (P:=fun w'=>Blk w' _ _ _∧Blk w' _ _ _∧Kp _ none _ w') w1 ⟨D,A,K⟩;try dsimp only at hS0
 have cD:=fun (x:Ev (S 0)) i=>((hS0 _).1 x.h).1.cell i;have cA:=fun (x:Ev (S 0)) i=>((hS0 _).1 x.h).2.1.cell i;replace D:=D.drew;replace A:=A.drew;replace K:=K.drew;replace R:=R.drew;have hevT:=ev_true;refine wro S [(0,0),(1,1),(2,0),(3,1),(6,0),(7,1),(8,0),(9,1),(4,2),(5,2),(10,2),(11,2),(12,0),(13,3)] [13] ((hS0 _).2 ⟨D,A,K⟩) ?_;intro _hev;refine oX ?_;refine oL ?_;intro Kc hKc;go_step;refine mK (p1 _) fun w2 k=>?_;replace D:=D.kpN k;replace A:=A.kpN k;replace R:=R.kpN k;replace K:=K.tN k;clear k;refine hKc _ _ ((hS0 _).2 ⟨D,A,K⟩) ?_;clear hKc Kc;refine oL ?_;intro Kc hKc;go_step;refine mK (n1 _) fun w3 k=>?_;replace D:=D.kpN k;replace A:=A.kpN k;replace R:=R.kpN k;replace K:=K.tN k;clear k;refine hKc _ _ ((hS0 _).2 ⟨D,A,K⟩) ?_;clear hKc Kc;refine oL ?_;intro Kc hKc;go_step;refine mK (p2 _) fun w4 k=>?_;replace D:=D.kpN k;replace A:=A.kpN k;replace R:=R.kpN k;replace K:=K.tN k;clear k;refine hKc _ _ ((hS0 _).2 ⟨D,A,K⟩) ?_;clear hKc Kc;refine oL ?_;intro Kc hKc;go_step;refine mK (n2 _) fun w5 k=>?_;replace D:=D.kpN k;replace A:=A.kpN k;replace R:=R.kpN k;replace K:=K.tN k;clear k;refine hKc _ _ ((hS0 _).2 ⟨D,A,K⟩) ?_;clear hKc Kc;refine oX ?_;refine oA ?_;intro Kc hKc;have cR:=R.cell;have fR:=R.frozen;go_step;refine hKc _ _ ((hS1 _).2 trivial) ?_;clear hKc Kc cR fR;change wpOrd _ _ _ _ _ 1 _ _;refine wpOrd_nil ?_;clear hevT _hev;clear cD cA hS0 hS1 S;have BR:=((((R.set_ 0 (.int .i64 u1.lo)).set_ 1 (.int .i64 u1.hi)).set_ 2 (.int .i64 u2.lo)).set_ 3 (.int .i64 u2.hi));have cR:=BR.cell;go_wp2_with fail
 exact bodyPost_ret (by simp[results,Tryz.results155,go_sem,cR]) rfl ⟨rfl,((((K.setNew (by simp<;>omega) _).setNew (by simp<;>omega) _).setNew (by simp<;>omega) _).setNew (by simp<;>omega) _)⟩
theorem force_heat_any (d:Dr) (s:Ar) (hd:d.ok) (hs:s.bd 1048576) (w:World) :
  Calls Tryz.prog 156 #[d,s] w fun e w'=>e=.returned (.agg #[(heatA d s).x.lo,(heatA d s).x.hi,(heatA d s).y.lo,(heatA d s).y.hi])∧Kp w.heap.size none w w':=by
 have hl:d.heat.bd ((1000:Nat):Int):=by have:=hd.h0;have:=hd.h1;have:=hd.h2;unfold Sp.bd;omega
 have p1:=fun w=>force_part_any d.heat s.y 1000 1048576 hl hs.2 (by decide) (by decide) (by decide) w;have p2:=fun w=>force_part_any d.heat s.x 1000 1048576 hl hs.1 (by decide) (by decide) (by decide) w;have n1:=fun w=>force_minus_any (partS d.heat s.y) ((partS_bd hl hs.2).fit (by decide)) w;have e:heatA d s=⟨negS (partS d.heat s.y),partS d.heat s.x⟩:=rfl;rw[e];simp only;clear e hl hd hs;generalize negS (partS d.heat s.y)=u1 at *;generalize partS d.heat s.y=v1 at *;generalize partS d.heat s.x=u2 at *;obtain⟨w1,hw1,D,A,R,K,hz⟩:=box3 w 31 d 53 s 53 #[(0:Int),(0:Int),(0:Int),(0:Int)];go_enter Tryz.func156,Tryz.ntmps156
 go_wp2_with fail
 rw[← hw1];clear hw1;obtain⟨S,hS0,hS1⟩:=cls_of2 (P:=fun w'=>Blk w' _ _ _∧Blk w' _ _ _∧Kp _ none _ w') w1 ⟨D,A,K⟩;try dsimp only at hS0
 have cD:=fun (x:Ev (S 0)) i=>((hS0 _).1 x.h).1.cell i;have cA:=fun (x:Ev (S 0)) i=>((hS0 _).1 x.h).2.1.cell i;replace D:=D.drew;replace A:=A.drew;replace K:=K.drew;replace R:=R.drew;have hevT:=ev_true;refine wro S [(0,0),(1,1),(2,0),(3,1),(6,0),(7,1),(8,0),(9,1),(4,2),(5,2),(10,2),(11,0),(12,3)] [12] ((hS0 _).2 ⟨D,A,K⟩) ?_;intro _hev;refine oX ?_;refine oL ?_;intro Kc hKc;go_step;refine mK (p1 _) fun w2 k=>?_;replace D:=D.kpN k;replace A:=A.kpN k;replace R:=R.kpN k;replace K:=K.tN k;clear k;refine hKc _ _ ((hS0 _).2 ⟨D,A,K⟩) ?_;clear hKc Kc;refine oL ?_;intro Kc hKc;go_step;refine mK (n1 _) fun w3 k=>?_;replace D:=D.kpN k;replace A:=A.kpN k;replace R:=R.kpN k;replace K:=K.tN k;clear k;refine hKc _ _ ((hS0 _).2 ⟨D,A,K⟩) ?_;clear hKc Kc;refine oL ?_;intro Kc hKc;go_step;refine mK (p2 _) fun w4 k=>?_;replace D:=D.kpN k;replace A:=A.kpN k;replace R:=R.kpN k;replace K:=K.tN k;clear k;refine hKc _ _ ((hS0 _).2 ⟨D,A,K⟩) ?_;clear hKc Kc;refine oX ?_;refine oA ?_;intro Kc hKc;have cR:=R.cell;have fR:=R.frozen;go_step;refine hKc _ _ ((hS1 _).2 trivial) ?_;clear hKc Kc cR fR;change wpOrd _ _ _ _ _ 1 _ _;refine wpOrd_nil ?_;clear hevT _hev;clear cD cA hS0 hS1 S;have BR:=((((R.set_ 0 (.int .i64 u1.lo)).set_ 1 (.int .i64 u1.hi)).set_ 2 (.int .i64 u2.lo)).set_ 3 (.int .i64 u2.hi));have cR:=BR.cell;go_wp2_with fail
 exact bodyPost_ret (by simp[results,Tryz.results156,go_sem,cR]) rfl ⟨rfl,((((K.setNew (by simp<;>omega) _).setNew (by simp<;>omega) _).setNew (by simp<;>omega) _).setNew (by simp<;>omega) _)⟩
end Go.Proofs.YtdhiappifnflpaaGreatDoor
