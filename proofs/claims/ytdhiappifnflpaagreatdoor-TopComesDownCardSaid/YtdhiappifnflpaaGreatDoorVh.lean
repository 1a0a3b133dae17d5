/- What moves a small body: the walks of force, fourth part. -/
import Derived.Test.YtdhiappifnflpaaGreatDoorM17
import Derived.Deep.DeepCutAuto
namespace Go.Proofs.YtdhiappifnflpaaGreatDoor
open Go.RowKit
theorem span_MulDiv_any (a b c:Int) (ha:Fit1 a) (hb:Fit1 b) (hc:Fit1 c) (h0:c≠0) (hp:Fit1 (a * b)) (w:World) :
  Calls Tryz.prog 139 #[a,b,c] w fun e w'=>e=.returned (.tuple #[.int .i64 (Int.fdiv (a * b) c),.int .i64 (cdiv (a * b) c),(0:Int)])∧Kp w.heap.size none w w':=by
 have f1:=fun w=>span_fits_t a w ha.1 ha.2;have f2:=fun w=>span_fits_t b w hb.1 hb.2;have f3:=fun w=>span_fits_t c w hc.1 hc.2;have d1:=fun w=>span_product_any a b (by unfold Fit1 at ha;omega) (by unfold Fit1 at hb;omega) (by unfold Fit1 at hp;omega) w;have d2:=fun w=>span_divide_any (a * b) c _ h0 (by unfold Fit1 at hc;omega) (by unfold Fit1 at hp;omega) (sgn_prod a b) w;generalize Int.fdiv (a * b) c=u at *;generalize cdiv (a * b) c=v at *;generalize (!(decide (a<0)==decide (b<0)))=s at *;generalize (a * b).natAbs=N at *;have n0:(c==0)=false:=by simpa using h0
 clear ha hb hc hp;go_enter Tryz.func139,Tryz.ntmps139
 go_wp2_with fail
 refine mK (f1 _) fun w1 k1=>?_;go_wp2_with fail
 refine mK (f2 _) fun w2 k2=>?_;go_wp2_with fail
 refine mK (f3 _) fun w3 k3=>?_;go_wp2_with fail
 refine mK (d1 _) fun w4 k4=>?_;go_wp2_with fail
 refine mK (d2 _) fun w5 k5=>?_;go_wp2
 exact bodyPost_ret (by simp[results,Tryz.results139,go_sem]) rfl ⟨rfl,(((k1.thenN k2 (Nat.le_refl _)).thenN k3 (Nat.le_refl _)).thenN k4 (Nat.le_refl _)).thenN k5 (Nat.le_refl _)⟩
theorem cls_tr {P:World→Prop} (w:World) (_:P w):∃ S:World→Prop,∀ w',S w'↔P w':=⟨P,fun _=>Iff.rfl⟩
def quoC (a b c d e f g h:Int) (i:Nat):Array Value:=
 #[.int .i64 (if 0<i then a else 0),.int .i64 (if 0<i then b else 0),.int .i64 (if 1<i then c else 0),.int .i64 (if 1<i then d else 0),.int .i64 (if 2<i then e else 0),.int .i64 (if 2<i then f else 0),.int .i64 (if 3<i then g else 0),.int .i64 (if 3<i then h else 0)]
structure TwB (wh w:World) (h:Hv) (A:Option Addr) (n c:Nat) (x q r:Sp) (e9 d9:Nat):Prop where
 ge:wh.heap.size+4<e9
 gd:wh.heap.size+4<d9
 ne:e9≠d9
 H:Blk w wh.heap.size 254 #[h.mu,h.rad,.slice A n c,h.ax,h.ay]
 X:Blk w (wh.heap.size+1) 29 x
 Q:Blk w (wh.heap.size+2) 29 q
 R:Blk w (wh.heap.size+3) 29 r
 O:Blk w (wh.heap.size+4) 29 #[(0:Int),(0:Int)]
 E:Blk w e9 230 x
 D:Blk w d9 230 q
 K:Kp wh.heap.size none wh w
section
variable {wh w w':World} {h:Hv} {A:Option Addr} {n c:Nat} {x q r:Sp} {e9 d9:Nat} {row:Option Nat}
theorem TwB.kp (T:TwB wh w h A n c x q r e9 d9) (k:Kp w.heap.size row w w') (hr:∀ t,row=some t→wh.heap.size+4<t∧t≠e9∧t≠d9):TwB wh w' h A n c x q r e9 d9:=by
 have key:∀ b,(b≤wh.heap.size+4∨b=e9∨b=d9)→some b≠row:=fun b hb e=>by
  have:=hr b e.symm;omega
 exact⟨T.ge,T.gd,T.ne,T.H.kp k T.H.lt (key _ oM),T.X.kp k T.X.lt (key _ oM),T.Q.kp k T.Q.lt (key _ oM),T.R.kp k T.R.lt (key _ oM),T.O.kp k T.O.lt (key _ oM),T.E.kp k T.E.lt (key _ oM),T.D.kp k T.D.lt (key _ oM),
  T.K.trans ⟨k.os,k.tape,k.output,k.size,fun i hi _=>k.block i (by have:=T.K.size;omega) (key i oM)⟩⟩
theorem TwB.kpN (T:TwB wh w h A n c x q r e9 d9) (k:Kp w.heap.size none w w'):TwB wh w' h A n c x q r e9 d9:=T.kp k fun _ e=>by cases e
theorem TwB.set (T:TwB wh w h A n c x q r e9 d9) {t o:Nat} (h1:wh.heap.size+4<t) (h2:t≠e9) (h3:t≠d9) (u:Value):TwB wh (w.setCell ⟨t,o,none⟩ u) h A n c x q r e9 d9:=
 T.kp ((Kp.refl _ (some t) w).setRow (p:=⟨t,o,none⟩) rfl u) fun _ e=>by injection e with e;subst e;exact⟨h1,h2,h3⟩
end
theorem and01:bits .and .i64 0 1=0∧bits .and .i64 1 1=1∧bits .and .i64 2 1=0∧bits .and .i64 3 1=1:=by decide
def mnQ (f1 f2 f3 f4:Int):Nat→Int
 | 0=>f1
 | 1=>min f1 f2
 | 2=>min (min f1 f2) f3
 | _=>min (min (min f1 f2) f3) f4
def mxQ (f1 f2 f3 f4:Int):Nat→Int
 | 0=>f1
 | 1=>max f1 f2
 | 2=>max (max f1 f2) f3
 | _=>max (max (max f1 f2) f3) f4
def zeros8:Array Value:=#[(0:Int),(0:Int),(0:Int),(0:Int),(0:Int),(0:Int),(0:Int),(0:Int)]
set_option maxHeartbeats 4000000 in
theorem heavy_toward_any (h:Hv) (A:Option Addr) (n c:Nat) (x q r:Sp) (hh:h.ok) (hx:x.bd 67108864) (hq:1≤q.lo∧q.lo≤q.hi∧q.hi≤1152921504606846976) (hr:1≤r.lo∧r.lo≤r.hi∧r.hi≤1152921504606846976) (w:World) :
  Calls Tryz.prog 192 #[.agg #[h.mu,h.rad,.slice A n c,h.ax,h.ay],x,q,r] w fun e w'=>e=.returned (.agg #[(towardS h.mu mp x q r).lo,(towardS h.mu mp x q r).hi])∧Kp w.heap.size none w w':=by
 obtain⟨tt,htt⟩:∃ q9,Hid (q9=towardS h.mu mp x q r):=⟨_,Lib.hid rfl⟩;rw[← htt.out];obtain⟨w1,hw1,H,X,Q,R,O,K,hz⟩:=box5 w 254 #[h.mu,h.rad,.slice A n c,h.ax,h.ay] 29 x 29 q 29 r 29 #[(0:Int),(0:Int)];go_enter Tryz.func192,Tryz.ntmps192
 have hm:Fit1 h.mu:=by have:=hh.m0;have:=hh.m1;unfold Fit1;omega
 have hxl:Fit1 x.lo:=by unfold Sp.bd at hx;unfold Fit1;omega
 have hxh:Fit1 x.hi:=by unfold Sp.bd at hx;unfold Fit1;omega
 have hql:Fit1 q.lo:=by unfold Fit1;omega
 have hqh:Fit1 q.hi:=by unfold Fit1;omega
 have hq0:q.lo≠0:=by omega
 have hq1:q.hi≠0:=by omega
 have hml:Fit1 (h.mu * x.lo):=by
  have:=mul_bd (a:=h.mu) (b:=x.lo) (A:=60000) (B:=67108864) (by have:=hh.m0;have:=hh.m1;omega) (by unfold Sp.bd at hx;omega);unfold Fit1;generalize h.mu * x.lo=z at *;omega
 have hmh:Fit1 (h.mu * x.hi):=by
  have:=mul_bd (a:=h.mu) (b:=x.hi) (A:=60000) (B:=67108864) (by have:=hh.m0;have:=hh.m1;omega) (by unfold Sp.bd at hx;omega);unfold Fit1;generalize h.mu * x.hi=z at *;omega
 go_upto_region 1 with(fail)
 rw[← hw1];clear hw1;go_cut [9,10] (fun v9 v10 wx=>∃ e9 d9,v9=.pointer (some ⟨e9,0,none⟩)∧v10=.pointer (some ⟨d9,0,none⟩)∧TwB w wx h A n c x q r e9 d9)
 case first=>
  have KK:=K;clear K;obtain⟨S0,hS0⟩:=cls_tr (P:=fun w'=>Blk w' _ _ _∧Blk w' _ _ _∧Blk w' _ _ _∧Blk w' _ _ _∧Blk w' _ _ _∧Kp _ none _ w') w1 ⟨H,X,Q,R,O,KK⟩;try dsimp only at hS0
  have cX:=fun (q:Ev S0) i=>((hS0 _).1 q.h).2.1.cell i;have cQ:=fun (q:Ev S0) i=>((hS0 _).1 q.h).2.2.1.cell i;replace H:=H.drew;replace X:=X.drew;replace Q:=Q.drew;replace R:=R.drew;replace O:=O.drew;replace KK:=KK.drew;have hevT:=ev_true;refine wp_region_tr S0 (.st 0 0 (.st 1 1 (.st 2 0 (.st 3 1 (.st 4 0 (.st 5 0 (.st 6 1 (.st 7 0 (.st 8 1 (.st 9 0 (.b2 10 (.st 11 2 (.st 12 2 (.st 13 2 .nil))) 11 (.st 10 2 (.st 12 2 (.st 13 2 .nil)))))))))))))) (by kernel_rfl) (by kernel_rfl) ((hS0 _).2 ⟨H,X,Q,R,O,KK⟩) ?_;intro _hev;refine tX ?_;refine wpTr_b2 ?_ ?_
  ·
   refine wpOne_l rfl rfl ?_;intro K hK;generalize w1.drew=wz at *;go_step;have gOe9:=O.lt;obtain⟨wA,hwn⟩:∃ q9,q9=wz.alloc (.cells #[(0:Int),(0:Int)] 230):=⟨_,rfl⟩;have E:Blk wA wz.heap.size 230 #[(0:Int),(0:Int)]:=by rw[hwn];exact Blk.new _ _ _
   have kz:Kp wz.heap.size none wz wA:=by rw[hwn];exact Kp.new1 _ _
   rw[← hwn];clear hwn;obtain⟨e9,he9⟩:∃ q9,q9=wz.heap.size:=⟨_,rfl⟩;rw[← he9] at E gOe9 ⊢;replace H:=H.kpN kz;replace X:=X.kpN kz;replace Q:=Q.kpN kz;replace R:=R.kpN kz;replace O:=O.kpN kz;replace KK:=KK.tN kz;refine hK _ _ ((hS0 _).2 ⟨H,X,Q,R,O,KK⟩) ?_;clear hK K kz;first|replace he9:=Lib.hid he9|replace hd9:=Lib.hid hd9
   refine wpTr_l rfl rfl ?_;intro K hK;go_step;have gE:=E.lt;have gOd9:=O.lt;obtain⟨wB,hwn⟩:∃ q9,q9=wA.alloc (.cells #[(0:Int),(0:Int)] 230):=⟨_,rfl⟩;have D:Blk wB wA.heap.size 230 #[(0:Int),(0:Int)]:=by rw[hwn];exact Blk.new _ _ _
   have kz:Kp wA.heap.size none wA wB:=by rw[hwn];exact Kp.new1 _ _
   rw[← hwn];clear hwn;obtain⟨d9,hd9⟩:∃ q9,q9=wA.heap.size:=⟨_,rfl⟩;rw[← hd9] at D gOd9 ⊢;replace H:=H.kpN kz;replace X:=X.kpN kz;replace Q:=Q.kpN kz;replace R:=R.kpN kz;replace O:=O.kpN kz;replace KK:=KK.tN kz;replace E:=E.kpN kz;refine hK _ _ ((hS0 _).2 ⟨H,X,Q,R,O,KK⟩) ?_;clear hK K kz;rw[← hd9] at gE;replace hd9:=Lib.hid hd9;refine wpTr_l rfl rfl ?_;intro K hK;have cS9:=E.cell;have fS9:=E.frozen;go_step;obtain⟨wS,hwS,RB9,kst,hzst⟩:=E.st2 (.int .i64 x.lo) (.int .i64 x.hi);rw[← hwS];clear hwS cS9 fS9;replace H:=H.kq kst;replace X:=X.kq kst;replace Q:=Q.kq kst;replace R:=R.kq kst;replace O:=O.kq kst;replace D:=D.kq kst;replace KK:=KK.thenOwn kst (Nat.le_refl _) oM;replace E:=RB9;simp only[sbt,sc0,scs] at E;clear RB9 kst hzst;refine hK _ _ ((hS0 _).2 ⟨H,X,Q,R,O,KK⟩) ?_;clear hK K;refine wpTr_l rfl rfl ?_;intro K hK;have cS9:=D.cell;have fS9:=D.frozen;go_step;obtain⟨wS,hwS,RB9,kst,hzst⟩:=D.st2 (.int .i64 q.lo) (.int .i64 q.hi);rw[← hwS];clear hwS cS9 fS9;replace H:=H.kq kst;replace X:=X.kq kst;replace Q:=Q.kq kst;replace R:=R.kq kst;replace O:=O.kq kst;replace E:=E.kq kst;replace KK:=KK.thenOwn kst (Nat.le_refl _) oM;replace D:=RB9;simp only[sbt,sc0,scs] at D;clear RB9 kst hzst;refine hK _ _ ((hS0 _).2 ⟨H,X,Q,R,O,KK⟩) ?_;clear hK K;refine wpTr_nil ?_;clear hevT _hev;go_wp2_with fail
   go_meet
   case rel=>exact⟨e9,d9,rfl,rfl,by omega,by omega,by omega,H,X,Q,R,O,E,D,KK⟩
  ·
   refine wpOne_l rfl rfl ?_;intro K hK;generalize w1.drew=wz at *;go_step;have gOd9:=O.lt;obtain⟨wA,hwn⟩:∃ q9,q9=wz.alloc (.cells #[(0:Int),(0:Int)] 230):=⟨_,rfl⟩;have D:Blk wA wz.heap.size 230 #[(0:Int),(0:Int)]:=by rw[hwn];exact Blk.new _ _ _
   have kz:Kp wz.heap.size none wz wA:=by rw[hwn];exact Kp.new1 _ _
   rw[← hwn];clear hwn;obtain⟨d9,hd9⟩:∃ q9,q9=wz.heap.size:=⟨_,rfl⟩;rw[← hd9] at D gOd9 ⊢;replace H:=H.kpN kz;replace X:=X.kpN kz;replace Q:=Q.kpN kz;replace R:=R.kpN kz;replace O:=O.kpN kz;replace KK:=KK.tN kz;refine hK _ _ ((hS0 _).2 ⟨H,X,Q,R,O,KK⟩) ?_;clear hK K kz;first|replace he9:=Lib.hid he9|replace hd9:=Lib.hid hd9
   refine wpTr_l rfl rfl ?_;intro K hK;go_step;have gD:=D.lt;have gOe9:=O.lt;obtain⟨wB,hwn⟩:∃ q9,q9=wA.alloc (.cells #[(0:Int),(0:Int)] 230):=⟨_,rfl⟩;have E:Blk wB wA.heap.size 230 #[(0:Int),(0:Int)]:=by rw[hwn];exact Blk.new _ _ _
   have kz:Kp wA.heap.size none wA wB:=by rw[hwn];exact Kp.new1 _ _
   rw[← hwn];clear hwn;obtain⟨e9,he9⟩:∃ q9,q9=wA.heap.size:=⟨_,rfl⟩;rw[← he9] at E gOe9 ⊢;replace H:=H.kpN kz;replace X:=X.kpN kz;replace Q:=Q.kpN kz;replace R:=R.kpN kz;replace O:=O.kpN kz;replace KK:=KK.tN kz;replace D:=D.kpN kz;refine hK _ _ ((hS0 _).2 ⟨H,X,Q,R,O,KK⟩) ?_;clear hK K kz;rw[← he9] at gD;replace he9:=Lib.hid he9;refine wpTr_l rfl rfl ?_;intro K hK;have cS9:=E.cell;have fS9:=E.frozen;go_step;obtain⟨wS,hwS,RB9,kst,hzst⟩:=E.st2 (.int .i64 x.lo) (.int .i64 x.hi);rw[← hwS];clear hwS cS9 fS9;replace H:=H.kq kst;replace X:=X.kq kst;replace Q:=Q.kq kst;replace R:=R.kq kst;replace O:=O.kq kst;replace D:=D.kq kst;replace KK:=KK.thenOwn kst (Nat.le_refl _) oM;replace E:=RB9;simp only[sbt,sc0,scs] at E;clear RB9 kst hzst;refine hK _ _ ((hS0 _).2 ⟨H,X,Q,R,O,KK⟩) ?_;clear hK K;refine wpTr_l rfl rfl ?_;intro K hK;have cS9:=D.cell;have fS9:=D.frozen;go_step;obtain⟨wS,hwS,RB9,kst,hzst⟩:=D.st2 (.int .i64 q.lo) (.int .i64 q.hi);rw[← hwS];clear hwS cS9 fS9;replace H:=H.kq kst;replace X:=X.kq kst;replace Q:=Q.kq kst;replace R:=R.kq kst;replace O:=O.kq kst;replace E:=E.kq kst;replace KK:=KK.thenOwn kst (Nat.le_refl _) oM;replace D:=RB9;simp only[sbt,sc0,scs] at D;clear RB9 kst hzst;refine hK _ _ ((hS0 _).2 ⟨H,X,Q,R,O,KK⟩) ?_;clear hK K;refine wpTr_nil ?_;clear hevT _hev;go_wp2_with fail
   go_meet
   case rel=>exact⟨e9,d9,rfl,rfl,by omega,by omega,by omega,H,X,Q,R,O,E,D,KK⟩
 case rest=>
 rename World=>w4;clear H X Q R O K;obtain⟨e9,d9,rfl,rfl,T⟩:=hcut;have c1:=fun w=>span_MulDiv_any h.mu x.lo q.lo hm (hxl) hql hq0 hml w;have c2:=fun w=>span_MulDiv_any h.mu x.hi q.lo hm (hxh) hql hq0 hmh w;have c3:=fun w=>span_MulDiv_any h.mu x.lo q.hi hm (hxl) hqh hq1 hml w;have c4:=fun w=>span_MulDiv_any h.mu x.hi q.hi hm (hxh) hqh hq1 hmh w;obtain⟨f1,hf1⟩:∃ q9,Hid (q9=Int.fdiv (h.mu * x.lo) q.lo):=⟨_,Lib.hid rfl⟩;obtain⟨f2,hf2⟩:∃ q9,Hid (q9=Int.fdiv (h.mu * x.hi) q.lo):=⟨_,Lib.hid rfl⟩;obtain⟨f3,hf3⟩:∃ q9,Hid (q9=Int.fdiv (h.mu * x.lo) q.hi):=⟨_,Lib.hid rfl⟩;obtain⟨f4,hf4⟩:∃ q9,Hid (q9=Int.fdiv (h.mu * x.hi) q.hi):=⟨_,Lib.hid rfl⟩;obtain⟨k1,hk1⟩:∃ q9,Hid (q9=cdiv (h.mu * x.lo) q.lo):=⟨_,Lib.hid rfl⟩;obtain⟨k2,hk2⟩:∃ q9,Hid (q9=cdiv (h.mu * x.hi) q.lo):=⟨_,Lib.hid rfl⟩;obtain⟨k3,hk3⟩:∃ q9,Hid (q9=cdiv (h.mu * x.lo) q.hi):=⟨_,Lib.hid rfl⟩;obtain⟨k4,hk4⟩:∃ q9,Hid (q9=cdiv (h.mu * x.hi) q.hi):=⟨_,Lib.hid rfl⟩;rw[← hf1.out,← hk1.out] at c1;rw[← hf2.out,← hk2.out] at c2;rw[← hf3.out,← hk3.out] at c3;rw[← hf4.out,← hk4.out] at c4;obtain⟨nn,hnn⟩:∃ q9:Sp,Hid (q9=⟨minC (fun e d=>Int.fdiv (h.mu * e) d) x q,maxC (fun e d=>cdiv (h.mu * e) d) x q⟩):=⟨_,Lib.hid rfl⟩;have e1:mnQ f1 f2 f3 f4 3=nn.lo:=by rw[hnn.out,hf1.out,hf2.out,hf3.out,hf4.out];simp only[mnQ,minC];omega
 have e2:mxQ k1 k2 k3 k4 3=nn.hi:=by rw[hnn.out,hk1.out,hk2.out,hk3.out,hk4.out];simp only[mxQ,maxC];omega
 have g1:=fdiv_fit hml hq0;have g2:=fdiv_fit hmh hq0;have g3:=fdiv_fit hml hq1;have g4:=fdiv_fit hmh hq1;rw[← hf1.out,← hk1.out] at g1;rw[← hf2.out,← hk2.out] at g2;rw[← hf3.out,← hk3.out] at g3;rw[← hf4.out,← hk4.out] at g4;have le:f1≤k1:=by rw[hf1.out,hk1.out];exact fdiv_le_cdiv _ _
 have fn:nn.fit:=by unfold Sp.fit;rw[← e1,← e2];simp only[mnQ,mxQ];unfold Fit1 at g1 g2 g3 g4;omega
 have qu:=fun w=>force_quot_any nn r fn ⟨by omega,by omega,by omega⟩ oM w;have cl:=fun w=>force_clamp_any (quotS nn r) w;have et:clampS mp (quotS nn r)=tt:=by rw[htt.out,hnn.out];rfl
 rw[et] at cl;generalize quotS nn r=qq at *;have eqn:#[Value.int .i64 (mnQ f1 f2 f3 f4 3),Value.int .i64 (mxQ k1 k2 k3 k4 3)]=#[Value.int .i64 nn.lo,Value.int .i64 nn.hi]:=by rw[e1,e2]
 clear e1 e2 g1 g2 g3 g4 le fn et hnn;replace eqn:=Lib.hid eqn;clear hx hq hr hh hm hxl hxh hql hqh hml hmh hq0 hq1;have T0:=T.kpN (Kp.new1 w4 (.cells zeros8 179));have B0:=Blk.new w4 179 zeros8;have gt1:=T.O.lt;have gt2:=T.E.lt;have gt3:=T.D.lt;clear T;unfold zeros8 at T0 B0;go_wp2_with fail
 obtain⟨t9,ht9⟩:∃ q9,q9=w4.heap.size:=⟨_,rfl⟩;rw[← ht9] at B0 gt1 gt2 gt3 ⊢;generalize w4.alloc _=w6 at *;clear ht9;have b0:=and01.1;have b1:=and01.2.1;have b2:=and01.2.2.1;have b3:=and01.2.2.2;go_loopw [30] (fun v wr=>∃ i:Nat,v=.int .i64 i∧i≤4∧TwB w wr h A n c x q r e9 d9∧Blk wr t9 179 (quoC f1 k1 f2 k2 f3 k3 f4 k4 i)) (fun v _=>4-(intOf v).toNat)
 case atStart=>exact⟨0,rfl,by omega,T0,B0⟩
 case round=>
  obtain⟨i,rfl,hi,T,B⟩:=hrel;clear T0 B0;obtain rfl|rfl|rfl|rfl|rfl:i=0∨i=1∨i=2∨i=3∨i=4:=by omega
  ·
   simp only[quoC,Nat.reduceLT,if_true,if_false,Nat.lt_irrefl] at B;obtain⟨g1,g2,g3,H,X,Q,R,O,E,D,K⟩:=T;rw[show ((0:Nat):Int)=(0:Int) from rfl];have cE:=E.cell;go_wp2_with fail
   clear cE;obtain⟨S,hS0⟩:=cls_of (P:=fun w'=>Blk w' _ _ _∧Blk w' _ _ _∧Blk w' _ _ _∧Blk w' _ _ _∧Blk w' _ _ _∧Blk w' _ _ _∧Blk w' _ _ _∧Blk w' _ _ _∧Kp _ none _ w') wr ⟨H,X,Q,R,O,E,D,B,K⟩;try dsimp only at hS0
   have cH:=fun (x:Ev (S 0)) i=>((hS0 _).1 x.h).1.cell i;have cX:=fun (x:Ev (S 0)) i=>((hS0 _).1 x.h).2.1.cell i;have cQ:=fun (x:Ev (S 0)) i=>((hS0 _).1 x.h).2.2.1.cell i;have cR:=fun (x:Ev (S 0)) i=>((hS0 _).1 x.h).2.2.2.1.cell i;have cO:=fun (x:Ev (S 0)) i=>((hS0 _).1 x.h).2.2.2.2.1.cell i;have cE:=fun (x:Ev (S 0)) i=>((hS0 _).1 x.h).2.2.2.2.2.1.cell i;have cD:=fun (x:Ev (S 0)) i=>((hS0 _).1 x.h).2.2.2.2.2.2.1.cell i;have cB:=fun (x:Ev (S 0)) i=>((hS0 _).1 x.h).2.2.2.2.2.2.2.1.cell i;replace H:=H.drew;replace X:=X.drew;replace Q:=Q.drew;replace R:=R.drew;replace O:=O.drew;replace E:=E.drew;replace D:=D.drew;replace B:=B.drew;replace K:=K.drew;have hevT:=ev_true;refine wro S [(0,0),(1,0),(2,1),(3,0),(4,0),(5,0),(6,0),(7,1),(8,2),(9,0),(10,0),(11,0),(12,0),(13,0),(14,0),(15,0)] [] ((hS0 _).2 ⟨H,X,Q,R,O,E,D,B,K⟩) ?_;intro _hev;refine oX ?_;refine oL ?_;intro Kc hKc;go_step;refine mK (c1 _) fun w5 k=>?_;replace H:=H.kpN k;replace X:=X.kpN k;replace Q:=Q.kpN k;replace R:=R.kpN k;replace O:=O.kpN k;replace E:=E.kpN k;replace D:=D.kpN k;replace B:=B.kpN k;replace K:=K.tN k;clear k;refine hKc _ _ ((hS0 _).2 ⟨H,X,Q,R,O,E,D,B,K⟩) ?_;clear hKc Kc;refine oX ?_;refine wpOrd_nil ?_;clear hevT _hev;clear cH cX cQ cR cO cE cD cB hS0 S;have cB:=B.cell;have fB:=B.frozen;go_wp2_with fail
   clear cB fB;have T:TwB w w5 h A n c x q r e9 d9:=⟨g1,g2,g3,H,X,Q,R,O,E,D,K⟩;have B':=(B.set_ 0 (.int .i64 f1)).set_ (0+1) (.int .i64 k1);simp only[sbt,sc0,scs,Nat.reduceAdd] at B';go_roundw
   case rel=>exact⟨1,rfl,by omega,(T.set oM oM oM _).set oM oM oM _,by simp only[quoC,Nat.reduceLT,if_true,if_false,Nat.lt_irrefl];exact B'⟩
   case measure=>simp[intOf]
  ·
   simp only[quoC,Nat.reduceLT,if_true,if_false,Nat.lt_irrefl] at B;obtain⟨g1,g2,g3,H,X,Q,R,O,E,D,K⟩:=T;rw[show ((1:Nat):Int)=(1:Int) from rfl];have cE:=E.cell;go_wp2_with fail
   clear cE;obtain⟨S,hS0⟩:=cls_of (P:=fun w'=>Blk w' _ _ _∧Blk w' _ _ _∧Blk w' _ _ _∧Blk w' _ _ _∧Blk w' _ _ _∧Blk w' _ _ _∧Blk w' _ _ _∧Blk w' _ _ _∧Kp _ none _ w') wr ⟨H,X,Q,R,O,E,D,B,K⟩;try dsimp only at hS0
   have cH:=fun (x:Ev (S 0)) i=>((hS0 _).1 x.h).1.cell i;have cX:=fun (x:Ev (S 0)) i=>((hS0 _).1 x.h).2.1.cell i;have cQ:=fun (x:Ev (S 0)) i=>((hS0 _).1 x.h).2.2.1.cell i;have cR:=fun (x:Ev (S 0)) i=>((hS0 _).1 x.h).2.2.2.1.cell i;have cO:=fun (x:Ev (S 0)) i=>((hS0 _).1 x.h).2.2.2.2.1.cell i;have cE:=fun (x:Ev (S 0)) i=>((hS0 _).1 x.h).2.2.2.2.2.1.cell i;have cD:=fun (x:Ev (S 0)) i=>((hS0 _).1 x.h).2.2.2.2.2.2.1.cell i;have cB:=fun (x:Ev (S 0)) i=>((hS0 _).1 x.h).2.2.2.2.2.2.2.1.cell i;replace H:=H.drew;replace X:=X.drew;replace Q:=Q.drew;replace R:=R.drew;replace O:=O.drew;replace E:=E.drew;replace D:=D.drew;replace B:=B.drew;replace K:=K.drew;have hevT:=ev_true;refine wro S [(0,0),(1,0),(2,1),(3,0),(4,0),(5,0),(6,0),(7,1),(8,2),(9,0),(10,0),(11,0),(12,0),(13,0),(14,0),(15,0)] [] ((hS0 _).2 ⟨H,X,Q,R,O,E,D,B,K⟩) ?_;intro _hev;refine oX ?_;refine oL ?_;intro Kc hKc;go_step;refine mK (c2 _) fun w5 k=>?_;replace H:=H.kpN k;replace X:=X.kpN k;replace Q:=Q.kpN k;replace R:=R.kpN k;replace O:=O.kpN k;replace E:=E.kpN k;replace D:=D.kpN k;replace B:=B.kpN k;replace K:=K.tN k;clear k;refine hKc _ _ ((hS0 _).2 ⟨H,X,Q,R,O,E,D,B,K⟩) ?_;clear hKc Kc;refine oX ?_;refine wpOrd_nil ?_;clear hevT _hev;clear cH cX cQ cR cO cE cD cB hS0 S;have cB:=B.cell;have fB:=B.frozen;go_wp2_with fail
   clear cB fB;have T:TwB w w5 h A n c x q r e9 d9:=⟨g1,g2,g3,H,X,Q,R,O,E,D,K⟩;have B':=(B.set_ 2 (.int .i64 f2)).set_ (2+1) (.int .i64 k2);simp only[sbt,sc0,scs,Nat.reduceAdd] at B';go_roundw
   case rel=>exact⟨2,rfl,by omega,(T.set oM oM oM _).set oM oM oM _,by simp only[quoC,Nat.reduceLT,if_true,if_false,Nat.lt_irrefl];exact B'⟩
   case measure=>simp[intOf]
  ·
   simp only[quoC,Nat.reduceLT,if_true,if_false,Nat.lt_irrefl] at B;obtain⟨g1,g2,g3,H,X,Q,R,O,E,D,K⟩:=T;rw[show ((2:Nat):Int)=(2:Int) from rfl];have cE:=E.cell;go_wp2_with fail
   clear cE;obtain⟨S,hS0⟩:=cls_of (P:=fun w'=>Blk w' _ _ _∧Blk w' _ _ _∧Blk w' _ _ _∧Blk w' _ _ _∧Blk w' _ _ _∧Blk w' _ _ _∧Blk w' _ _ _∧Blk w' _ _ _∧Kp _ none _ w') wr ⟨H,X,Q,R,O,E,D,B,K⟩;try dsimp only at hS0
   have cH:=fun (x:Ev (S 0)) i=>((hS0 _).1 x.h).1.cell i;have cX:=fun (x:Ev (S 0)) i=>((hS0 _).1 x.h).2.1.cell i;have cQ:=fun (x:Ev (S 0)) i=>((hS0 _).1 x.h).2.2.1.cell i;have cR:=fun (x:Ev (S 0)) i=>((hS0 _).1 x.h).2.2.2.1.cell i;have cO:=fun (x:Ev (S 0)) i=>((hS0 _).1 x.h).2.2.2.2.1.cell i;have cE:=fun (x:Ev (S 0)) i=>((hS0 _).1 x.h).2.2.2.2.2.1.cell i;have cD:=fun (x:Ev (S 0)) i=>((hS0 _).1 x.h).2.2.2.2.2.2.1.cell i;have cB:=fun (x:Ev (S 0)) i=>((hS0 _).1 x.h).2.2.2.2.2.2.2.1.cell i;replace H:=H.drew;replace X:=X.drew;replace Q:=Q.drew;replace R:=R.drew;replace O:=O.drew;replace E:=E.drew;replace D:=D.drew;replace B:=B.drew;replace K:=K.drew;have hevT:=ev_true;refine wro S [(0,0),(1,0),(2,1),(3,0),(4,0),(5,0),(6,0),(7,1),(8,2),(9,0),(10,0),(11,0),(12,0),(13,0),(14,0),(15,0)] [] ((hS0 _).2 ⟨H,X,Q,R,O,E,D,B,K⟩) ?_;intro _hev;refine oX ?_;refine oL ?_;intro Kc hKc;go_step;refine mK (c3 _) fun w5 k=>?_;replace H:=H.kpN k;replace X:=X.kpN k;replace Q:=Q.kpN k;replace R:=R.kpN k;replace O:=O.kpN k;replace E:=E.kpN k;replace D:=D.kpN k;replace B:=B.kpN k;replace K:=K.tN k;clear k;refine hKc _ _ ((hS0 _).2 ⟨H,X,Q,R,O,E,D,B,K⟩) ?_;clear hKc Kc;refine oX ?_;refine wpOrd_nil ?_;clear hevT _hev;clear cH cX cQ cR cO cE cD cB hS0 S;have cB:=B.cell;have fB:=B.frozen;go_wp2_with fail
   clear cB fB;have T:TwB w w5 h A n c x q r e9 d9:=⟨g1,g2,g3,H,X,Q,R,O,E,D,K⟩;have B':=(B.set_ 4 (.int .i64 f3)).set_ (4+1) (.int .i64 k3);simp only[sbt,sc0,scs,Nat.reduceAdd] at B';go_roundw
   case rel=>exact⟨3,rfl,by omega,(T.set oM oM oM _).set oM oM oM _,by simp only[quoC,Nat.reduceLT,if_true,if_false,Nat.lt_irrefl];exact B'⟩
   case measure=>simp[intOf]
  ·
   simp only[quoC,Nat.reduceLT,if_true,if_false,Nat.lt_irrefl] at B;obtain⟨g1,g2,g3,H,X,Q,R,O,E,D,K⟩:=T;rw[show ((3:Nat):Int)=(3:Int) from rfl];have cE:=E.cell;go_wp2_with fail
   clear cE;obtain⟨S,hS0⟩:=cls_of (P:=fun w'=>Blk w' _ _ _∧Blk w' _ _ _∧Blk w' _ _ _∧Blk w' _ _ _∧Blk w' _ _ _∧Blk w' _ _ _∧Blk w' _ _ _∧Blk w' _ _ _∧Kp _ none _ w') wr ⟨H,X,Q,R,O,E,D,B,K⟩;try dsimp only at hS0
   have cH:=fun (x:Ev (S 0)) i=>((hS0 _).1 x.h).1.cell i;have cX:=fun (x:Ev (S 0)) i=>((hS0 _).1 x.h).2.1.cell i;have cQ:=fun (x:Ev (S 0)) i=>((hS0 _).1 x.h).2.2.1.cell i;have cR:=fun (x:Ev (S 0)) i=>((hS0 _).1 x.h).2.2.2.1.cell i;have cO:=fun (x:Ev (S 0)) i=>((hS0 _).1 x.h).2.2.2.2.1.cell i;have cE:=fun (x:Ev (S 0)) i=>((hS0 _).1 x.h).2.2.2.2.2.1.cell i;have cD:=fun (x:Ev (S 0)) i=>((hS0 _).1 x.h).2.2.2.2.2.2.1.cell i;have cB:=fun (x:Ev (S 0)) i=>((hS0 _).1 x.h).2.2.2.2.2.2.2.1.cell i;replace H:=H.drew;replace X:=X.drew;replace Q:=Q.drew;replace R:=R.drew;replace O:=O.drew;replace E:=E.drew;replace D:=D.drew;replace B:=B.drew;replace K:=K.drew;have hevT:=ev_true;refine wro S [(0,0),(1,0),(2,1),(3,0),(4,0),(5,0),(6,0),(7,1),(8,2),(9,0),(10,0),(11,0),(12,0),(13,0),(14,0),(15,0)] [] ((hS0 _).2 ⟨H,X,Q,R,O,E,D,B,K⟩) ?_;intro _hev;refine oX ?_;refine oL ?_;intro Kc hKc;go_step;refine mK (c4 _) fun w5 k=>?_;replace H:=H.kpN k;replace X:=X.kpN k;replace Q:=Q.kpN k;replace R:=R.kpN k;replace O:=O.kpN k;replace E:=E.kpN k;replace D:=D.kpN k;replace B:=B.kpN k;replace K:=K.tN k;clear k;refine hKc _ _ ((hS0 _).2 ⟨H,X,Q,R,O,E,D,B,K⟩) ?_;clear hKc Kc;refine oX ?_;refine wpOrd_nil ?_;clear hevT _hev;clear cH cX cQ cR cO cE cD cB hS0 S;have cB:=B.cell;have fB:=B.frozen;go_wp2_with fail
   clear cB fB;have T:TwB w w5 h A n c x q r e9 d9:=⟨g1,g2,g3,H,X,Q,R,O,E,D,K⟩;have B':=(B.set_ 6 (.int .i64 f4)).set_ (6+1) (.int .i64 k4);simp only[sbt,sc0,scs,Nat.reduceAdd] at B';go_roundw
   case rel=>exact⟨4,rfl,by omega,(T.set oM oM oM _).set oM oM oM _,by simp only[quoC,Nat.reduceLT,if_true,if_false,Nat.lt_irrefl];exact B'⟩
   case measure=>simp[intOf]
  ·
   simp only[quoC,Nat.reduceLT,if_true,if_false] at B;clear c1 c2 c3 c4 b0 b1 b2 b3;have hB:=B.cell;have T1:=T.kpN (Kp.new1 wr (.cells #[f1,k1] 29));have B1:=B.alloc (.cells #[f1,k1] 29);have N1:=Blk.new wr 29 #[f1,k1];have gn1:=T.O.lt;have gn2:=T.E.lt;have gn3:=T.D.lt;have gn4:=B.lt;go_wp2_with fail
   obtain⟨n9,hn9⟩:∃ q9,q9=wr.heap.size:=⟨_,rfl⟩;rw[← hn9] at N1 gn1 gn2 gn3 gn4 ⊢;clear hB T B;generalize wr.alloc _=w7 at *;clear hn9
   go_loopw [65] (fun v wr=>∃ j:Nat,v=.int .i64 j∧j≤3∧TwB w wr h A n c x q r e9 d9∧Blk wr t9 179 #[f1,k1,f2,k2,f3,k3,f4,k4] ∧
    Blk wr n9 29 #[(mnQ f1 f2 f3 f4 j),(mxQ k1 k2 k3 k4 j)]) (fun v _=>3-(intOf v).toNat)
   case atStart=>exact⟨0,rfl,by omega,T1,B1,N1⟩
   case round=>
    obtain⟨j,rfl,hj,T,B,N⟩:=hrel;clear T1 B1 N1;obtain rfl|rfl|rfl|rfl:j=0∨j=1∨j=2∨j=3:=by omega
    ·
     rw[show ((0:Nat):Int)=(0:Int) from rfl];obtain⟨m9,hm9⟩:∃ q9,Hid (q9=mnQ f1 f2 f3 f4 0):=⟨_,Lib.hid rfl⟩;obtain⟨x9,hx9⟩:∃ q9,Hid (q9=mxQ k1 k2 k3 k4 0):=⟨_,Lib.hid rfl⟩;rw[← hm9.out,← hx9.out] at N;have T1:=T.kpN (Kp.new1 wr (.cells #[f2,k2] 29));have B1:=B.alloc (.cells #[f2,k2] 29);have N1:=N.alloc (.cells #[f2,k2] 29);have cB:=B.cell;have cN:=N1.cell;have fN:=N1.frozen;go_wp2_with fail
     clear cB cN fN;have N2:=(N1.set_ 0 (.int .i64 (min m9 f2))).set_ 1 (.int .i64 (max x9 k2));simp only[sbt,sc0,scs] at N2;go_roundw
     case rel=>exact⟨1,rfl,by omega,(T1.set oM oM oM _).set oM oM oM _,(B1.far (by simp;omega) _).far (by simp;omega) _,by rw[show mnQ f1 f2 f3 f4 1=min m9 f2 from by rw[hm9.out];rfl,show mxQ k1 k2 k3 k4 1=max x9 k2 from by rw[hx9.out];rfl];exact N2⟩
     case measure=>simp[intOf]
    ·
     rw[show ((1:Nat):Int)=(1:Int) from rfl];obtain⟨m9,hm9⟩:∃ q9,Hid (q9=mnQ f1 f2 f3 f4 1):=⟨_,Lib.hid rfl⟩;obtain⟨x9,hx9⟩:∃ q9,Hid (q9=mxQ k1 k2 k3 k4 1):=⟨_,Lib.hid rfl⟩;rw[← hm9.out,← hx9.out] at N;have T1:=T.kpN (Kp.new1 wr (.cells #[f3,k3] 29));have B1:=B.alloc (.cells #[f3,k3] 29);have N1:=N.alloc (.cells #[f3,k3] 29);have cB:=B.cell;have cN:=N1.cell;have fN:=N1.frozen;go_wp2_with fail
     clear cB cN fN;have N2:=(N1.set_ 0 (.int .i64 (min m9 f3))).set_ 1 (.int .i64 (max x9 k3));simp only[sbt,sc0,scs] at N2;go_roundw
     case rel=>exact⟨2,rfl,by omega,(T1.set oM oM oM _).set oM oM oM _,(B1.far (by simp;omega) _).far (by simp;omega) _,by rw[show mnQ f1 f2 f3 f4 2=min m9 f3 from by rw[hm9.out];rfl,show mxQ k1 k2 k3 k4 2=max x9 k3 from by rw[hx9.out];rfl];exact N2⟩
     case measure=>simp[intOf]
    ·
     rw[show ((2:Nat):Int)=(2:Int) from rfl];obtain⟨m9,hm9⟩:∃ q9,Hid (q9=mnQ f1 f2 f3 f4 2):=⟨_,Lib.hid rfl⟩;obtain⟨x9,hx9⟩:∃ q9,Hid (q9=mxQ k1 k2 k3 k4 2):=⟨_,Lib.hid rfl⟩;rw[← hm9.out,← hx9.out] at N;have T1:=T.kpN (Kp.new1 wr (.cells #[f4,k4] 29));have B1:=B.alloc (.cells #[f4,k4] 29);have N1:=N.alloc (.cells #[f4,k4] 29);have cB:=B.cell;have cN:=N1.cell;have fN:=N1.frozen;go_wp2_with fail
     clear cB cN fN;have N2:=(N1.set_ 0 (.int .i64 (min m9 f4))).set_ 1 (.int .i64 (max x9 k4));simp only[sbt,sc0,scs] at N2;go_roundw
     case rel=>exact⟨3,rfl,by omega,(T1.set oM oM oM _).set oM oM oM _,(B1.far (by simp;omega) _).far (by simp;omega) _,by rw[show mnQ f1 f2 f3 f4 3=min m9 f4 from by rw[hm9.out];rfl,show mxQ k1 k2 k3 k4 3=max x9 k4 from by rw[hx9.out];rfl];exact N2⟩
     case measure=>simp[intOf]
    ·
     obtain⟨g1,g2,g3,H,X,Q,R,O,E,D,K⟩:=T;rw[eqn.out] at N;clear B H X Q E D hf1 hf2 hf3 hf4 hk1 hk2 hk3 hk4;have cR:=R.cell;have fR:=R.frozen;have cO:=O.cell;have fO:=O.frozen;have cN:=N.cell;have fN:=N.frozen;go_wp2_with fail
     refine mK (qu _) fun w8 k=>?_;clear cR fR cO fO cN fN;replace R:=R.kpN k;replace O:=O.kpN k;replace N:=N.kpN k;replace K:=K.thenN k oM;have hzk:=k.size;clear k;have cO:=O.cell;have fO:=O.frozen;go_wp2_with fail
     refine mK (cl _) fun w9 k=>?_;clear cO fO;replace O:=O.kpN k;replace K:=K.thenN k oM;have hzk:=k.size;clear k;have cO:=O.cell;have fO:=O.frozen;go_wp2_with fail
     clear cO fO;have BR:=((O.set_ 0 (.int .i64 tt.lo)).set_ 1 (.int .i64 tt.hi));have cR:=BR.cell;exact bodyPost_ret (by simp[results,Tryz.results192,go_sem,cR]) rfl ⟨rfl,((K.setNew (by simp<;>omega) _).setNew (by simp<;>omega) _)⟩
end Go.Proofs.YtdhiappifnflpaaGreatDoor
