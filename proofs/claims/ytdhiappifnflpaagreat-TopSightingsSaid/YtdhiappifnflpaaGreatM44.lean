/- The reference's pulls, weakly: small steps on spans. The reference's pulls, weakly: to, distances. The reference's pulls, weakly: scaled. The reference's pulls, weakly: what is asked. -/
import Derived.Test.YtdhiappifnflpaaGreatM43
import Derived.Test.YtdhiappifnflpaaGreatM23
set_option maxRecDepth 100000
set_option maxHeartbeats 4000000
namespace Go.Proofs.YtdhiappifnflpaaGreat
open Go.RowKit
def S1P (w:World) (e:Ending) (w':World):Prop:=(∃ s:Sp,e=.returned s∧s.fit)∧Kp w.heap.size none w w'
theorem r3_product (a b:Sp) (ha:a.fit) (hb:b.fit) (w:World):Calls Tryz.prog 223 #[a,b] w (S1P w):=by
 obtain⟨w1,hw1,A,B,R,K,hz⟩:=box3 w 29 a 29 b 29 #[(0:Int),(0:Int)];go_enter Tryz.func223,Tryz.ntmps223
 go_wp2_with fail
 rw[← hw1];clear hw1;refine(r1_Mul a b ha hb _).mono ?_;rintro e w2 ⟨⟨s,v,rfl,hs⟩,k⟩;replace A:=A.kpN k;replace B:=B.kpN k;replace R:=R.kpN k;replace K:=K.thenN k oM;have hzk:=k.size;clear k;have O:=Blk.new w2 29 #[s.lo,s.hi];replace R:=R.alloc (.cells #[s.lo,s.hi] 29);replace K:=K.alloc oM (.cells #[s.lo,s.hi] 29);clear A B;go_upto_region 2 with(fail)
 generalize w2.alloc (.cells #[s.lo,s.hi] 29)=w3 at *;have cO:=O.cell;have cR:=R.cell;have fR:=R.frozen;go_wp2_with fail
 clear cR fR;have BR:=(R.set_ 0 (.int .i64 s.lo)).set_ 1 (.int .i64 s.hi);have cR:=BR.cell;exact bodyPost_ret (v:=.agg #[s.lo,s.hi]) (by simp[results,Tryz.results223,go_sem,cR]) rfl ⟨⟨s,rfl,hs⟩,(K.setNew (by simp<;>omega) _).setNew (by simp<;>omega) _⟩
theorem r3_quotient (a b:Sp) (ha:a.fit) (hb:b.fit) (w:World):Calls Tryz.prog 205 #[a,b] w (S1P w):=by
 obtain⟨w1,hw1,A,B,R,K,hz⟩:=box3 w 29 a 29 b 29 #[(0:Int),(0:Int)];go_enter Tryz.func205,Tryz.ntmps205
 go_wp2_with fail
 rw[← hw1];clear hw1;refine(r1_Quot a b ha hb _).mono ?_;rintro e w2 ⟨⟨s,v,rfl,hs⟩,k⟩;replace A:=A.kpN k;replace B:=B.kpN k;replace R:=R.kpN k;replace K:=K.thenN k oM;have hzk:=k.size;clear k;have O:=Blk.new w2 29 #[s.lo,s.hi];replace R:=R.alloc (.cells #[s.lo,s.hi] 29);replace K:=K.alloc oM (.cells #[s.lo,s.hi] 29);clear A B;go_upto_region 2 with(fail)
 generalize w2.alloc (.cells #[s.lo,s.hi] 29)=w3 at *;have cO:=O.cell;have cR:=R.cell;have fR:=R.frozen;go_wp2_with fail
 clear cR fR;have BR:=(R.set_ 0 (.int .i64 s.lo)).set_ 1 (.int .i64 s.hi);have cR:=BR.cell;exact bodyPost_ret (v:=.agg #[s.lo,s.hi]) (by simp[results,Tryz.results205,go_sem,cR]) rfl ⟨⟨s,rfl,hs⟩,(K.setNew (by simp<;>omega) _).setNew (by simp<;>omega) _⟩
theorem r3_sum (a b:Sp) (ha:a.fit) (hb:b.fit) (w:World):Calls Tryz.prog 183 #[a,b] w (S1P w):=by
 obtain⟨w1,hw1,A,B,R,K,hz⟩:=box3 w 29 a 29 b 29 #[(0:Int),(0:Int)];go_enter Tryz.func183,Tryz.ntmps183
 go_wp2_with fail
 rw[← hw1];clear hw1;refine(r1_Add a b ha hb _).mono ?_;rintro e w2 ⟨⟨s,v,rfl,hs⟩,k⟩;replace A:=A.kpN k;replace B:=B.kpN k;replace R:=R.kpN k;replace K:=K.thenN k oM;have hzk:=k.size;clear k;have O:=Blk.new w2 29 #[s.lo,s.hi];replace R:=R.alloc (.cells #[s.lo,s.hi] 29);replace K:=K.alloc oM (.cells #[s.lo,s.hi] 29);clear A B;go_upto_region 2 with(fail)
 generalize w2.alloc (.cells #[s.lo,s.hi] 29)=w3 at *;have cO:=O.cell;have cR:=R.cell;have fR:=R.frozen;go_wp2_with fail
 clear cR fR;have BR:=(R.set_ 0 (.int .i64 s.lo)).set_ 1 (.int .i64 s.hi);have cR:=BR.cell;exact bodyPost_ret (v:=.agg #[s.lo,s.hi]) (by simp[results,Tryz.results183,go_sem,cR]) rfl ⟨⟨s,rfl,hs⟩,(K.setNew (by simp<;>omega) _).setNew (by simp<;>omega) _⟩
theorem r3_squared (a:Sp) (ha:a.fit) (w:World):Calls Tryz.prog 225 #[a] w (S1P w):=by
 obtain⟨w1,hw1,A,R,K,hz⟩:=box2 w 29 a 29 #[(0:Int),(0:Int)];go_enter Tryz.func225,Tryz.ntmps225
 go_wp2_with fail
 rw[← hw1];clear hw1;refine(r1_Square a ha _).mono ?_;rintro e w2 ⟨⟨s,v,rfl,hs⟩,k⟩;replace A:=A.kpN k;replace R:=R.kpN k;replace K:=K.thenN k oM;have hzk:=k.size;clear k;have O:=Blk.new w2 29 #[s.lo,s.hi];replace R:=R.alloc (.cells #[s.lo,s.hi] 29);replace K:=K.alloc oM (.cells #[s.lo,s.hi] 29);clear A;go_upto_region 2 with(fail)
 generalize w2.alloc (.cells #[s.lo,s.hi] 29)=w3 at *;have cO:=O.cell;have cR:=R.cell;have fR:=R.frozen;go_wp2_with fail
 clear cR fR;have BR:=(R.set_ 0 (.int .i64 s.lo)).set_ 1 (.int .i64 s.hi);have cR:=BR.cell;exact bodyPost_ret (v:=.agg #[s.lo,s.hi]) (by simp[results,Tryz.results225,go_sem,cR]) rfl ⟨⟨s,rfl,hs⟩,(K.setNew (by simp<;>omega) _).setNew (by simp<;>omega) _⟩
theorem fit_neg {a:Sp} (h:a.fit):(⟨-a.hi,-a.lo⟩:Sp).fit:=by unfold Sp.fit at *;dsimp only;omega
theorem r3_minus (a:Sp) (ha:a.fit) (w:World):Calls Tryz.prog 200 #[a] w (S1P w):=by
 have hs:=fit_neg ha;obtain⟨f1,f2,f3⟩:=ha;have wa:wrap64 (-a.hi)=-a.hi:=by unfold wrap64;omega
 have wb:wrap64 (-a.lo)=-a.lo:=by unfold wrap64;omega
 clear f1 f2 f3;obtain⟨w1,hw1,A,R,K,hz⟩:=box2 w 29 a 29 #[(0:Int),(0:Int)];go_enter Tryz.func200,Tryz.ntmps200
 go_upto_region 1 with(fail)
 rw[← hw1];clear hw1;have cA:=A.cell;have cR:=R.cell;have fR:=R.frozen;go_wp2_with fail
 clear cR fR;have BR:=(R.set_ 0 (.int .i64 (-a.hi))).set_ 1 (.int .i64 (-a.lo));have cR:=BR.cell;exact bodyPost_ret (v:=.agg #[.int .i64 (-a.hi),.int .i64 (-a.lo)]) (by simp[results,Tryz.results200,go_sem,cR]) rfl ⟨⟨⟨-a.hi,-a.lo⟩,rfl,hs⟩,(K.setNew (by simp<;>omega) _).setNew (by simp<;>omega) _⟩
theorem span2_fin {Q:World→Prop} {w w4:World} {r:Nat} {T:TypeId} {cs:Array Value} {n:Nat} {x0 x1:Int} (R:Blk w4 r T cs) (K:Kp n none w w4) (hr:n≤r)
  (h:∀ (s:Sp) w5,s.lo=x0→s.hi=x1→Blk w5 r T ((cs.setIfInBounds 0 (.int .i64 s.lo)).setIfInBounds 1 (.int .i64 s.hi))→Kp n none w w5→Q w5):Q ((w4.setCell ⟨r,0,none⟩ (.int .i64 x0)).setCell ⟨r,1,none⟩ (.int .i64 x1)):=
 h ⟨x0,x1⟩ _ rfl rfl ((R.set_ 0 _).set_ 1 _) ((K.setNew hr _).setNew hr _)
theorem r3_bounded (a:Sp) (ha:a.fit) (w:World):Calls Tryz.prog 204 #[a] w (S1P w):=by
 obtain⟨f1,f2,f3⟩:=ha;obtain⟨w1,hw1,A,R,K,hz⟩:=box2 w 29 a 29 #[(0:Int),(0:Int)];replace f2:=Lib.hid f2;clear f1 f3;go_enter Tryz.func204,Tryz.ntmps204
 go_upto_region 1 with(fail)
 rw[← hw1];clear hw1;have cA:=A.cell;have cR:=R.cell;have fR:=R.frozen;go_wp2_with fail
 all_goals
  clear cR fR cA;refine span2_fin (Q:=fun W=>bodyPost _ _ _ _ _ W) R K oM fun s w5 e1 e2 B5 K5=>?_;have cR:=B5.cell;have hs:Hid s.fit:=Lib.hid (by have:=f2.out;unfold Sp.fit;omega);clear e1 e2;refine bodyPost_ret (v:=.agg #[s.lo,s.hi]) ?_ rfl ⟨⟨s,rfl,hs.out⟩,K5⟩;simp[results,Tryz.results204,go_sem,cR]
theorem fit_k:(⟨1000,1000⟩:Sp).fit:=by unfold Sp.fit;dsimp only;omega
theorem r3_thousandth (a b:Sp) (ha:a.fit) (hb:b.fit) (w:World):Calls Tryz.prog 201 #[a,b] w (S1P w):=by
 obtain⟨w1,hw1,A,B,R,K,hz⟩:=box3 w 29 a 29 b 29 #[(0:Int),(0:Int)];go_enter Tryz.func201,Tryz.ntmps201
 go_wp2_with fail
 rw[← hw1];clear hw1;refine(r3_product a b ha hb _).mono ?_;rintro e w2 ⟨⟨s,rfl,hs⟩,k⟩;replace A:=A.kpN k;replace B:=B.kpN k;replace R:=R.kpN k;replace K:=K.thenN k oM;have hzk:=k.size;clear k;have cA:=A.cell;have fA:=A.frozen;have cB:=B.cell;have fB:=B.frozen;have cR:=R.cell;have fR:=R.frozen;go_wp2_with fail
 refine(r3_quotient s ⟨1000,1000⟩ hs fit_k _).mono ?_;rintro e w3 ⟨⟨u,rfl,hu⟩,k⟩;clear cA fA cB fB cR fR;replace A:=A.kpN k;replace B:=B.kpN k;replace R:=R.kpN k;replace K:=K.thenN k oM;have hzk:=k.size;clear k;have cR:=R.cell;have fR:=R.frozen;go_wp2_with fail
 clear cR fR;have BR:=(R.set_ 0 (.int .i64 u.lo)).set_ 1 (.int .i64 u.hi);have cR:=BR.cell;exact bodyPost_ret (v:=.agg #[u.lo,u.hi]) (by simp[results,Tryz.results201,go_sem,cR]) rfl ⟨⟨u,rfl,hu⟩,(K.setNew (by simp<;>omega) _).setNew (by simp<;>omega) _⟩
def S2P (w:World) (e:Ending) (w':World):Prop:=(∃ s u:Sp,e=.returned (.tuple #[s,u])∧s.fit∧u.fit)∧Kp w.heap.size none w w'
def Fix (n:Int):Prop:=-1152921504606846976≤n∧n≤1152921504606846976
theorem fit_pt {n:Int} (h:Fix n):(⟨n,n⟩:Sp).fit:=⟨h.1,Int.le_refl _,h.2⟩
theorem span2_own {Q:World→Prop} {w w4:World} {r:Nat} {T:TypeId} {cs:Array Value} {n:Nat} {x0 x1:Int} (R:Blk w4 r T cs) (K:Kp n none w w4) (hr:n≤r)
  (h:∀ (s:Sp) w5,s.lo=x0→s.hi=x1→Blk w5 r T ((cs.setIfInBounds 0 (.int .i64 s.lo)).setIfInBounds 1 (.int .i64 s.hi))→Kp w4.heap.size (some r) w4 w5→w5.heap.size=w4.heap.size→Kp n none w w5→Q w5):Q ((w4.setCell ⟨r,0,none⟩ (.int .i64 x0)).setCell ⟨r,1,none⟩ (.int .i64 x1)):=
 h ⟨x0,x1⟩ _ rfl rfl ((R.set_ 0 _).set_ 1 _) (((Kp.refl _ (some r) w4).setRow (p:=⟨r,_,none⟩) rfl _).setRow (p:=⟨r,_,none⟩) rfl _) (by simp[World.setCell]) ((K.setNew hr _).setNew hr _)
theorem r3_distances (mu rad:Int) (V:Value) (a b:Sp) (hr:0≤rad∧rad≤1000) (ha:a.fit) (hb:b.fit) (w:World) :
  Calls Tryz.prog 203 #[.agg #[mu,rad,V],a,b] w (S2P w):=by
 have c1:=fun w=>r3_squared a ha w;have c2:=fun w=>r3_squared b hb w;obtain⟨z,hz⟩:∃ z:Int,z=rad * rad:=⟨_,rfl⟩
 have zb:0≤z∧z≤1000000:=by
  have h1:=Int.mul_nonneg hr.1 hr.1;have h2:=Int.mul_le_mul hr.2 hr.2 hr.1 (by omega:(0:Int)≤1000);omega
 have ez:wrap64 (rad * rad)=z:=by rw[← hz];unfold wrap64;omega
 clear hr ha hb hz;obtain⟨w1,hw1,P,A,B,R,U,K,hz⟩:=box5 w 77 #[mu,rad,V] 29 a 29 b 29 #[(0:Int),(0:Int)] 29 #[(0:Int),(0:Int)];go_enter Tryz.func203,Tryz.ntmps203
 go_wp2_with fail
 rw[← hw1];clear hw1;obtain⟨S,hS0,hS1⟩:=cls_of2 (P:=fun w'=>Blk w' _ _ _∧Blk w' _ _ _∧Kp _ _ _ w') w1 ⟨A,B,K⟩;try dsimp only at hS0
 have cA:=fun (x:Ev (S 0)) i=>((hS0 _).1 x.h).1.cell i;have cB:=fun (x:Ev (S 0)) i=>((hS0 _).1 x.h).2.1.cell i;replace A:=A.drew;replace B:=B.drew;replace K:=K.drew;replace R:=R.drew;replace P:=P.drew;replace U:=U.drew;have hevT:=ev_true;refine wro S [(0,1),(2,1),(1,2),(3,2),(4,2),(5,3)] [5] ((hS0 _).2 ⟨A,B,K⟩) ?_;intro _hev;refine oX ?_;refine oL ?_;intro Kc hKc;generalize w1.drew=wd9 at *;go_step;refine(c1 _).mono ?_;rintro e w2 ⟨⟨p,rfl,hp⟩,k⟩;replace A:=A.kpN k;replace B:=B.kpN k;replace R:=R.kpN k;replace P:=P.kpN k;replace U:=U.kpN k;replace K:=K.tN k;clear k;refine hKc _ _ ((hS0 _).2 ⟨A,B,K⟩) ?_;clear hKc Kc;refine oL ?_;intro Kc hKc;go_step;refine(c2 _).mono ?_;rintro e w3 ⟨⟨q,rfl,hq⟩,k⟩;replace A:=A.kpN k;replace B:=B.kpN k;replace R:=R.kpN k;replace P:=P.kpN k;replace U:=U.kpN k;replace K:=K.tN k;clear k;refine hKc _ _ ((hS0 _).2 ⟨A,B,K⟩) ?_;clear hKc Kc;refine oL ?_;intro Kc hKc;go_step;refine(r3_sum p q hp hq _).mono ?_;rintro e w4 ⟨⟨s,rfl,hs⟩,k⟩;replace A:=A.kpN k;replace B:=B.kpN k;replace R:=R.kpN k;replace P:=P.kpN k;replace U:=U.kpN k;replace K:=K.tN k;clear k;refine hKc _ _ ((hS0 _).2 ⟨A,B,K⟩) ?_;clear hKc Kc;refine oA ?_;intro Kc hKc;have cR:=R.cell;have fR:=R.frozen;go_step;obtain⟨w6,hwn,RB9,kst,hzst⟩:=R.st2 (.int .i64 s.lo) (.int .i64 s.hi);rw[← hwn];clear hwn cR fR;refine hKc _ _ ((hS1 _).2 trivial) ?_;clear hKc Kc;replace A:=A.kq kst;replace B:=B.kq kst;replace P:=P.kq kst;replace U:=U.kq kst;first|replace K:=K.thenOwn kst (Nat.le_refl _) oM|replace K:=K.then_ kst (Nat.le_refl _)
 replace R:=RB9;clear RB9 kst;simp only[sbt,sc0,scs] at R;change wpOrd _ _ _ _ _ 1 _ _;refine wpOrd_nil ?_;clear hevT _hev;clear cA cB hS0 hS1 S;have cP:=P.cell;go_upto_region 3 with(fail)
 obtain⟨m,hm⟩:∃ m,m=max 1 z:=⟨_,rfl⟩;rw[← hm];have hmb:1≤m∧m≤1000000:=by omega
 clear hm zb ez cP P;replace hmb:=Lib.hid hmb;have cR:=R.cell;have fR:=R.frozen;go_upto_region 4 with(fail)
 clear cR fR;refine span2_own (Q:=fun W=>Code.wp _ _ _ _ W) R K oM fun t w7 e1 e2 R7 kst hz7 K7=>?_
 have ht:t.fit:=by
  have:=hmb.out;unfold Sp.fit at hs ⊢;omega
 clear e1 e2;replace U:=U.kq kst;clear R K kst hs hmb hp hq;simp only[sbt,sc0,scs] at R7;have R:=R7;have K:=K7;have lU:=U.lt;clear R7 K7 A B;have cr:=fun w=>r1_Roots t ht w;have cR:=R.cell;have cU:=U.cell;have fU:=U.frozen;go_wp2_with fail
 refine(cr _).mono ?_;rintro e w8 ⟨⟨u,v,rfl,hu⟩,k⟩;clear cR cU fU cr;replace R:=R.kpN k;replace U:=U.kpN k;replace K:=K.tN k;clear k;have cU:=U.cell;have fU:=U.frozen;go_upto_region 5 with(fail)
 clear cU fU;refine span2_own (Q:=fun W=>Code.wp _ _ _ _ W) U K oM fun u' w9 e1 e2 U7 kst hz7 K7=>?_;obtain⟨⟩:u'=u:=by cases u';cases u;simp only at e1 e2;rw[e1,e2]
 clear e1 e2;replace R:=R.kq kst;simp only[sbt,sc0,scs] at U7;clear U K kst;have U:=U7;have K:=K7;clear U7 K7;obtain⟨S,hS0,hS1⟩:=cls_of2 (P:=fun w'=>Blk w' _ _ _∧Blk w' _ _ _∧Kp _ _ _ w') w9 ⟨R,U,K⟩;try dsimp only at hS0
 have cR:=fun (x:Ev (S 0)) i=>((hS0 _).1 x.h).1.cell i;have cU:=fun (x:Ev (S 0)) i=>((hS0 _).1 x.h).2.1.cell i;replace R:=R.drew;replace U:=U.drew;replace K:=K.drew;have hevT:=ev_true;refine wro S [(0,1),(1,1),(2,2),(3,3)] [3] ((hS0 _).2 ⟨R,U,K⟩) ?_;intro _hev;refine oX ?_;refine oL ?_;intro Kc hKc;generalize w9.drew=wd9 at *;have cS9:=R.cell;have fS9:=R.frozen;go_step;obtain⟨w11,hwn,RB9,kst,hzst⟩:=R.st2 (.int .i64 t.lo) (.int .i64 t.hi);rw[← hwn];clear hwn cS9 fS9;replace U:=U.kq kst;replace K:=K.thenOwn kst (Nat.le_refl _) oM;replace R:=RB9;clear RB9 kst hzst;simp only[sbt,sc0,scs] at R;refine hKc _ _ ((hS0 _).2 ⟨R,U,K⟩) ?_;clear hKc Kc;refine oA ?_;intro Kc hKc;have cR:=U.cell;have fR:=U.frozen;go_step;obtain⟨w12,hwn,RB9,kst,hzst⟩:=U.st2 (.int .i64 u.lo) (.int .i64 u.hi);rw[← hwn];clear hwn cR fR;refine hKc _ _ ((hS1 _).2 trivial) ?_;clear hKc Kc;replace R:=R.kq kst;first|replace K:=K.thenOwn kst (Nat.le_refl _) oM|replace K:=K.then_ kst (Nat.le_refl _)
 replace U:=RB9;clear RB9 kst;simp only[sbt,sc0,scs] at U;change wpOrd _ _ _ _ _ 1 _ _;refine wpOrd_nil ?_;clear hevT _hev;clear cR cU hS0 hS1 S;go_wp2_with fail
 have cR:=R.cell;have cU:=U.cell;exact bodyPost_ret (v:=.tuple #[.agg #[t.lo,t.hi],.agg #[u.lo,u.hi]]) (by simp[results,Tryz.results203,go_sem,cR,cU]) rfl ⟨⟨t,u,rfl,ht,hu⟩,K⟩
theorem r3_scaled (mu:Int) (a b:Sp) (w:World):Calls Tryz.prog 206 #[mu,a,b] w (S1P w):=by
 obtain⟨w1,hw1,A,B,R,O,K,hz⟩:=box4 w 29 a 29 b 29 #[(0:Int),(0:Int)] 29 #[(0:Int),(0:Int)];go_enter Tryz.func206,Tryz.ntmps206
 go_upto_region 3 with(fail)
 rw[← hw1];clear hw1;have cA:=A.cell;go_wp2_with fail
 clear cA;have X:=Blk.new w1 2 a;replace A:=A.alloc (.cells a 2);replace B:=B.alloc (.cells a 2);replace R:=R.alloc (.cells a 2);replace O:=O.alloc (.cells a 2);replace K:=K.alloc oM (.cells a 2);have hz2:(w1.alloc (.cells a 2)).heap.size=w.heap.size+5:=by simp[hz]
 rw[hz] at X;generalize w1.alloc (.cells a 2)=w2 at *;clear hz;go_loopw [8,22] (fun x y wr=>CoAt 29 (w.heap.size+3) w2 x y wr) (fun _ y _=>2-(intOf y).toNat)
 case atStart=>exact⟨true,0,⟨0,0⟩,rfl,rfl,by omega,fun _=>rfl,fun h=>by (cases h),O,Kp.refl _ _ _⟩
 case round=>
  clear O;obtain⟨f,i,o,rfl,rfl,hi,hf0,hf1,O,K2⟩:=hrel;replace B:=B.kp K2 oM oN;replace R:=R.kp K2 oM oN;replace X:=X.kp K2 oM oN;have hz3:=K2.size;by_cases hc:i<2
  ·
   obtain⟨x,hx⟩:∃ q9,q9=if i=0 then a.lo else a.hi:=⟨_,rfl⟩;have cX:wr.cell? ⟨w.heap.size+4,i,none⟩=some (.int .i64 x):=by rw[hx];exact(X.cell i).trans (pick2 _ _ i hc)
   clear hx;have cB:=B.cell;have hc2:(i:Int)<2:=by omega
   have hc3:¬ (i:Int)<0:=by omega
   replace hf0:=Lib.hid hf0;replace hf1:=Lib.hid hf1;go_wp2_with fail
   clear cX cB;have Y:=Blk.new wr 2 b;replace R:=R.alloc (.cells b 2);replace O:=O.alloc (.cells b 2);replace K2:=K2.alloc hz3 (.cells b 2);have hz4:(wr.alloc (.cells b 2)).heap.size=wr.heap.size+1:=by simp
   generalize wr.alloc (.cells b 2)=w3 at *;obtain⟨yb,hy⟩:∃ q9,q9=wr.heap.size:=⟨_,rfl⟩;rw[← hy] at Y hz4 hz3 ⊢;replace hy:=Lib.hid hy;clear B X;go_loopw [8,32] (fun x y wr=>CoAt 29 (w.heap.size+3) w3 x y wr) (fun _ y _=>2-(intOf y).toNat)
   case atStart=>exact⟨f,0,o,rfl,rfl,by omega,fun _=>rfl,hf1.out,O,Kp.refl _ _ _⟩
   case round=>
    clear O hf1;obtain⟨g,j,p,rfl,rfl,hj,hg0,hg1,O,K3⟩:=hrel;by_cases hd:j<2
    ·
     obtain⟨y,hy2⟩:∃ q9,q9=if j=0 then b.lo else b.hi:=⟨_,rfl⟩;have cY:=(K3.cell yb j oM oN).trans ((Y.cell j).trans (pick2 _ _ j hd));rw[← hy2] at cY;clear hy2;have hd2:(j:Int)<2:=by omega
     have hd3:¬ (j:Int)<0:=by omega
     replace hg0:=Lib.hid hg0;replace hg1:=Lib.hid hg1;replace hf0:=Lib.hid (fun _:Unit=>hf0);go_wp2_with fail
     clear cY;refine(r1_MulDiv mu x y _).mono ?_;rintro e w4 ⟨⟨lo,hi,v,rfl,hfit⟩,k⟩;unfold Sp.fit at hfit;dsimp only at hfit;replace hfit:=Lib.hid hfit;replace O:=O.kpN k;replace K3:=K3.tN k;clear k;by_cases hv:v=0
     ·
      subst hv;have cO:=O.cell;have fO:=O.frozen;cases g
      ·
       have hp:=hg1.out rfl;unfold Sp.fit at hp;replace hp:=Lib.hid hp;by_cases h1:lo<p.lo<;>by_cases h2:p.hi<hi
       ·
        go_wp2_with fail
        go_roundw
        case rel=>exact⟨false,j+1,⟨lo,hi⟩,rfl,by congr 1,by omega,fun h=>(by cases h),fun _=>(by have:=hp.out;have:=hfit.out;unfold Sp.fit;dsimp only;omega),(O.set_ 0 _).set_ 1 _,(K3.setRow (p:=⟨_,_,none⟩) rfl _).setRow (p:=⟨_,_,none⟩) rfl _⟩
        case measure=>simp[intOf];omega
       ·
        go_wp2_with fail
        go_roundw
        case rel=>exact⟨false,j+1,⟨lo,p.hi⟩,rfl,by congr 1,by omega,fun h=>(by cases h),fun _=>(by have:=hp.out;have:=hfit.out;unfold Sp.fit;dsimp only;omega),O.set_ 0 _,K3.setRow (p:=⟨_,_,none⟩) rfl _⟩
        case measure=>simp[intOf];omega
       ·
        go_wp2_with fail
        go_roundw
        case rel=>exact⟨false,j+1,⟨p.lo,hi⟩,rfl,by congr 1,by omega,fun h=>(by cases h),fun _=>(by have:=hp.out;have:=hfit.out;unfold Sp.fit;dsimp only;omega),O.set_ 1 _,K3.setRow (p:=⟨_,_,none⟩) rfl _⟩
        case measure=>simp[intOf];omega
       ·
        go_wp2_with fail
        go_roundw
        case rel=>exact⟨false,j+1,p,rfl,by congr 1,by omega,fun h=>(by cases h),fun _=>(by have:=hp.out;unfold Sp.fit;omega),O,K3⟩
        case measure=>simp[intOf];omega
      ·
       go_wp2_with fail
       go_roundw
       case rel=>exact⟨false,j+1,⟨lo,hi⟩,rfl,by congr 1,by omega,fun h=>(by cases h),fun _=>(by have:=hfit.out;unfold Sp.fit;dsimp only;omega),(O.set_ 0 _).set_ 1 _,(K3.setRow (p:=⟨_,_,none⟩) rfl _).setRow (p:=⟨_,_,none⟩) rfl _⟩
       case measure=>simp[intOf];omega
     ·
      by_cases hx0:x<0
      ·
       have cO:=O.cell;have fO:=O.frozen;cases g
       ·
        have hp:=hg1.out rfl;unfold Sp.fit at hp;replace hp:=Lib.hid hp;by_cases h1:(-1152921504606846976)<p.lo<;>by_cases h2:p.hi<(-1152921504606846976)
        ·
         go_wp2_with fail
         go_roundw
         case rel=>exact⟨false,j+1,⟨(-1152921504606846976),(-1152921504606846976)⟩,rfl,by congr 1,by omega,fun h=>(by cases h),fun _=>(by have:=hp.out;skip;unfold Sp.fit;dsimp only;omega),(O.set_ 0 _).set_ 1 _,(K3.setRow (p:=⟨_,_,none⟩) rfl _).setRow (p:=⟨_,_,none⟩) rfl _⟩
         case measure=>simp[intOf];omega
        ·
         go_wp2_with fail
         go_roundw
         case rel=>exact⟨false,j+1,⟨(-1152921504606846976),p.hi⟩,rfl,by congr 1,by omega,fun h=>(by cases h),fun _=>(by have:=hp.out;skip;unfold Sp.fit;dsimp only;omega),O.set_ 0 _,K3.setRow (p:=⟨_,_,none⟩) rfl _⟩
         case measure=>simp[intOf];omega
        ·
         go_wp2_with fail
         go_roundw
         case rel=>exact⟨false,j+1,⟨p.lo,(-1152921504606846976)⟩,rfl,by congr 1,by omega,fun h=>(by cases h),fun _=>(by have:=hp.out;skip;unfold Sp.fit;dsimp only;omega),O.set_ 1 _,K3.setRow (p:=⟨_,_,none⟩) rfl _⟩
         case measure=>simp[intOf];omega
        ·
         go_wp2_with fail
         go_roundw
         case rel=>exact⟨false,j+1,p,rfl,by congr 1,by omega,fun h=>(by cases h),fun _=>(by have:=hp.out;unfold Sp.fit;omega),O,K3⟩
         case measure=>simp[intOf];omega
       ·
        go_wp2_with fail
        go_roundw
        case rel=>exact⟨false,j+1,⟨(-1152921504606846976),(-1152921504606846976)⟩,rfl,by congr 1,by omega,fun h=>(by cases h),fun _=>(by skip;unfold Sp.fit;dsimp only;omega),(O.set_ 0 _).set_ 1 _,(K3.setRow (p:=⟨_,_,none⟩) rfl _).setRow (p:=⟨_,_,none⟩) rfl _⟩
        case measure=>simp[intOf];omega
      ·
       have cO:=O.cell;have fO:=O.frozen;cases g
       ·
        have hp:=hg1.out rfl;unfold Sp.fit at hp;replace hp:=Lib.hid hp;by_cases h1:1152921504606846976<p.lo<;>by_cases h2:p.hi<1152921504606846976
        ·
         go_wp2_with fail
         go_roundw
         case rel=>exact⟨false,j+1,⟨1152921504606846976,1152921504606846976⟩,rfl,by congr 1,by omega,fun h=>(by cases h),fun _=>(by have:=hp.out;skip;unfold Sp.fit;dsimp only;omega),(O.set_ 0 _).set_ 1 _,(K3.setRow (p:=⟨_,_,none⟩) rfl _).setRow (p:=⟨_,_,none⟩) rfl _⟩
         case measure=>simp[intOf];omega
        ·
         go_wp2_with fail
         go_roundw
         case rel=>exact⟨false,j+1,⟨1152921504606846976,p.hi⟩,rfl,by congr 1,by omega,fun h=>(by cases h),fun _=>(by have:=hp.out;skip;unfold Sp.fit;dsimp only;omega),O.set_ 0 _,K3.setRow (p:=⟨_,_,none⟩) rfl _⟩
         case measure=>simp[intOf];omega
        ·
         go_wp2_with fail
         go_roundw
         case rel=>exact⟨false,j+1,⟨p.lo,1152921504606846976⟩,rfl,by congr 1,by omega,fun h=>(by cases h),fun _=>(by have:=hp.out;skip;unfold Sp.fit;dsimp only;omega),O.set_ 1 _,K3.setRow (p:=⟨_,_,none⟩) rfl _⟩
         case measure=>simp[intOf];omega
        ·
         go_wp2_with fail
         go_roundw
         case rel=>exact⟨false,j+1,p,rfl,by congr 1,by omega,fun h=>(by cases h),fun _=>(by have:=hp.out;unfold Sp.fit;omega),O,K3⟩
         case measure=>simp[intOf];omega
       ·
        go_wp2_with fail
        go_roundw
        case rel=>exact⟨false,j+1,⟨1152921504606846976,1152921504606846976⟩,rfl,by congr 1,by omega,fun h=>(by cases h),fun _=>(by skip;unfold Sp.fit;dsimp only;omega),(O.set_ 0 _).set_ 1 _,(K3.setRow (p:=⟨_,_,none⟩) rfl _).setRow (p:=⟨_,_,none⟩) rfl _⟩
        case measure=>simp[intOf];omega
    ·
     obtain rfl:j=2:=by omega
     have:g=false:=by cases g;rfl;exact absurd (hg0 rfl) oM
     subst this;go_wp2_with fail
     go_roundw
     case rel=>exact⟨false,i+1,p,rfl,by congr 1,by omega,fun h=>(by cases h),fun _=>hg1 rfl,O,K2.trans ⟨K3.os,K3.tape,K3.output,K3.size,fun k hk hn=>K3.block k oM hn⟩⟩
     case measure=>simp[intOf];omega
  ·
   obtain rfl:i=2:=by omega
   have:f=false:=by cases f;rfl;exact absurd (hf0 rfl) oM
   subst this;have ho:=hf1 rfl;clear hf1 hf0;have cR:=R.cell;have fR:=R.frozen;have cO:=O.cell;go_wp2_with fail
   clear cR fR cO;have BR:=(R.set_ 0 (.int .i64 o.lo)).set_ 1 (.int .i64 o.hi);have cR:=BR.cell;replace K:=K.trans ⟨K2.os,K2.tape,K2.output,K2.size,fun k hk _=>K2.block k oM oN⟩;exact bodyPost_ret (v:=.agg #[o.lo,o.hi]) (by simp[results,Tryz.results206,go_sem,cR]) rfl ⟨⟨o,rfl,ho⟩,(K.setNew (by simp<;>omega) _).setNew (by simp<;>omega) _⟩
theorem r3_part (a:Sp) (x y:Int) (w:World):Calls Tryz.prog 220 #[a,x,y] w (ErrP w):=by
 obtain⟨w1,hw1,A,K,hz⟩:=box1 w 29 a;go_enter Tryz.func220,Tryz.ntmps220
 go_upto_region 1 with(fail)
 rw[← hw1];clear hw1;by_cases h1:a.hi<a.lo<;>by_cases h2:a.lo<x<;>by_cases h3:y<a.hi
 all_goals
  have cA:=A.cell;go_wp2_with fail
  go_ret
  exact⟨⟨_,rfl⟩,K⟩
theorem r3_limits (a:Sp) (w:World):Calls Tryz.prog 199 #[a] w (BoolP w):=by
 obtain⟨w1,hw1,A,K,hz⟩:=box1 w 29 a;go_enter Tryz.func199,Tryz.ntmps199
 go_upto_region 1 with(fail)
 rw[← hw1];clear hw1;by_cases h1:-33554432≤a.lo<;>by_cases h2:a.hi≤33554432
 all_goals
  have cA:=A.cell;go_wp2_with fail
  go_ret
  exact⟨⟨_,rfl⟩,K⟩
theorem r3_CheckDrift (d:Dr) (w:World):Calls Tryz.prog 196 #[d] w (ErrP w):=by
 obtain⟨w1,hw1,A,K,hz⟩:=box1 w 31 d;go_enter Tryz.func196,Tryz.ntmps196
 go_wp2_with fail
 rw[← hw1];clear hw1;refine(r3_part d.light _ _ _).mono ?_;rintro e w2 ⟨⟨v,rfl⟩,k⟩;replace A:=A.kpN k;replace K:=K.thenN k oM;have hzk:=k.size;clear k;by_cases h:v=0
 ·
  subst h;have cA:=A.cell;have fA:=A.frozen;go_wp2_with fail
  refine(r3_part d.heat _ _ _).mono ?_;rintro e w2 ⟨⟨v,rfl⟩,k⟩;clear cA fA;replace A:=A.kpN k;replace K:=K.thenN k oM;have hzk:=k.size;clear k;by_cases h:v=0
  ·
   subst h;have cA:=A.cell;have fA:=A.frozen;go_wp2_with fail
   refine mK (bolideref03_between_any d.gas _ _ _) fun w2 k=>?_;clear cA fA;replace A:=A.kpN k;replace K:=K.thenN k oM;have hzk:=k.size;clear k;generalize btw d.gas _ _=b;cases b
   all_goals
    go_wp2_with fail
    go_ret
    exact⟨⟨_,rfl⟩,K⟩
  ·
   go_wp2_with fail
   go_ret
   exact⟨⟨_,rfl⟩,K⟩
 ·
  have cA:=A.cell;have fA:=A.frozen;go_wp2_with fail
  clear cA fA;go_ret
  exact⟨⟨_,rfl⟩,K⟩
theorem r3_asked (A:Option Addr) (c:Nat) (W:Wd) (d:Dr) (t:Int) (a b:Sp) (w:World) (hW:W.ok) (hA:WdAt none w A W) :
  Calls Tryz.prog 179 #[.agg #[.slice A W.bs.length c,W.home],d,t,.agg #[a.lo,a.hi,b.lo,b.hi]] w (ErrP w):=by
 have cw:=fun w h=>r2_CheckWorld_any A c W w hW h;clear hW;obtain⟨w1,hw1,D,G,E,K,hz⟩:=box3 w 27 #[.slice A W.bs.length c,W.home] 31 d 167 #[a.lo,a.hi,b.lo,b.hi];go_enter Tryz.func179,Tryz.ntmps179
 go_wp2_with fail
 rw[← hw1];clear hw1;refine mK (cw _ (hA.kpN K)) fun w2 k=>?_;replace D:=D.kpN k;replace G:=G.kpN k;replace E:=E.kpN k;replace K:=K.thenN k oM;have hzk:=k.size;clear k;clear hA cw;have cG:=G.cell;have fG:=G.frozen;have cE:=E.cell;have fE:=E.frozen;go_wp2_with fail
 refine(r3_CheckDrift d _).mono ?_;rintro e w2 ⟨⟨v,rfl⟩,k⟩;clear cG fG cE fE;replace G:=G.kpN k;replace E:=E.kpN k;replace K:=K.thenN k oM;have hzk:=k.size;clear k;by_cases h:v=0
 ·
  subst h;have cE:=E.cell;have fE:=E.frozen;go_wp2_with fail
  refine mK (bolideref03_between_any t _ _ _) fun w2 k=>?_;clear cE fE;replace E:=E.kpN k;replace K:=K.thenN k oM;have hzk:=k.size;clear k;generalize btw t _ _=b1;cases b1
  ·
   go_wp2_with fail
   go_ret
   exact⟨⟨_,rfl⟩,K⟩
  ·
   have cE:=E.cell;have fE:=E.frozen;go_wp2_with fail
   refine(r1_CheckArea a b _).mono ?_;rintro e w2 ⟨⟨v,rfl⟩,k⟩;clear cE fE;replace E:=E.kpN k;replace K:=K.thenN k oM;have hzk:=k.size;clear k;by_cases h:v=0
   ·
    subst h;have cE:=E.cell;have fE:=E.frozen;go_wp2_with fail
    refine(r3_limits a _).mono ?_;rintro e w2 ⟨⟨b2,rfl⟩,k⟩;clear cE fE;replace E:=E.kpN k;replace K:=K.thenN k oM;have hzk:=k.size;clear k;cases b2
    ·
     go_wp2_with fail
     go_ret
     exact⟨⟨_,rfl⟩,K⟩
    ·
     have cE:=E.cell;have fE:=E.frozen;go_wp2_with fail
     refine(r3_limits b _).mono ?_;rintro e w2 ⟨⟨b2,rfl⟩,k⟩;clear cE fE;replace E:=E.kpN k;replace K:=K.thenN k oM;have hzk:=k.size;clear k;cases b2
     ·
      go_wp2_with fail
      go_ret
      exact⟨⟨_,rfl⟩,K⟩
     ·
      go_wp2_with fail
      go_ret
      exact⟨⟨_,rfl⟩,K⟩
   ·
    go_wp2_with fail
    go_ret
    exact⟨⟨_,rfl⟩,K⟩
 ·
  go_wp2_with fail
  go_ret
  exact⟨⟨_,rfl⟩,K⟩
end Go.Proofs.YtdhiappifnflpaaGreat
