/- What moves a small body: the walks of force, third part. Stores of whole blocks, more sizes. The reference's spans, weakly: corners. Fourth part. -/
import Derived.Test.YtdhiappifnflpaaGreatDoorM16
import Derived.Test.YtdhiappifnflpaaGreatDoorM15
import Derived.Deep.DeepCutAuto
set_option maxRecDepth 100000
set_option maxHeartbeats 4000000
namespace Go.Proofs.YtdhiappifnflpaaGreatDoor
open Go.RowKit
theorem Blk.st1 {w:World} {r:Nat} {T:TypeId} {cs:Array Value} (h:Blk w r T cs) (x0:Value):∃ w',w'=(w.setCell ⟨r,0,none⟩ x0)∧Blk w' r T (cs.setIfInBounds 0 x0)∧Kp w.heap.size (some r) w w'∧w'.heap.size=w.heap.size:=
 ⟨_,rfl,(h.set_ 0 x0),(Kp.refl _ (some r) w).setRow (p:=⟨r,0,none⟩) rfl x0,by simp[World.setCell]⟩
theorem Blk.st2 {w:World} {r:Nat} {T:TypeId} {cs:Array Value} (h:Blk w r T cs) (x0 x1:Value):∃ w',w'=((w.setCell ⟨r,0,none⟩ x0).setCell ⟨r,1,none⟩ x1)∧Blk w' r T ((cs.setIfInBounds 0 x0).setIfInBounds 1 x1)∧Kp w.heap.size (some r) w w'∧w'.heap.size=w.heap.size:=
 ⟨_,rfl,((h.set_ 0 x0).set_ 1 x1),((Kp.refl _ (some r) w).setRow (p:=⟨r,0,none⟩) rfl x0).setRow (p:=⟨r,1,none⟩) rfl x1,by simp[World.setCell]⟩
theorem Blk.st4 {w:World} {r:Nat} {T:TypeId} {cs:Array Value} (h:Blk w r T cs) (x0 x1 x2 x3:Value):∃ w',w'=((((w.setCell ⟨r,0,none⟩ x0).setCell ⟨r,1,none⟩ x1).setCell ⟨r,2,none⟩ x2).setCell ⟨r,3,none⟩ x3)∧Blk w' r T ((((cs.setIfInBounds 0 x0).setIfInBounds 1 x1).setIfInBounds 2 x2).setIfInBounds 3 x3)∧Kp w.heap.size (some r) w w'∧w'.heap.size=w.heap.size:=
 ⟨_,rfl,((((h.set_ 0 x0).set_ 1 x1).set_ 2 x2).set_ 3 x3),((((Kp.refl _ (some r) w).setRow (p:=⟨r,0,none⟩) rfl x0).setRow (p:=⟨r,1,none⟩) rfl x1).setRow (p:=⟨r,2,none⟩) rfl x2).setRow (p:=⟨r,3,none⟩) rfl x3,by simp[World.setCell]⟩
theorem Blk.st5 {w:World} {r:Nat} {T:TypeId} {cs:Array Value} (h:Blk w r T cs) (x0 x1 x2 x3 x4:Value):∃ w',w'=(((((w.setCell ⟨r,0,none⟩ x0).setCell ⟨r,1,none⟩ x1).setCell ⟨r,2,none⟩ x2).setCell ⟨r,3,none⟩ x3).setCell ⟨r,4,none⟩ x4)∧Blk w' r T (((((cs.setIfInBounds 0 x0).setIfInBounds 1 x1).setIfInBounds 2 x2).setIfInBounds 3 x3).setIfInBounds 4 x4)∧Kp w.heap.size (some r) w w'∧w'.heap.size=w.heap.size:=
 ⟨_,rfl,(((((h.set_ 0 x0).set_ 1 x1).set_ 2 x2).set_ 3 x3).set_ 4 x4),(((((Kp.refl _ (some r) w).setRow (p:=⟨r,0,none⟩) rfl x0).setRow (p:=⟨r,1,none⟩) rfl x1).setRow (p:=⟨r,2,none⟩) rfl x2).setRow (p:=⟨r,3,none⟩) rfl x3).setRow (p:=⟨r,4,none⟩) rfl x4,by simp[World.setCell]⟩
theorem Blk.st8 {w:World} {r:Nat} {T:TypeId} {cs:Array Value} (h:Blk w r T cs) (x0 x1 x2 x3 x4 x5 x6 x7:Value):∃ w',w'=((((((((w.setCell ⟨r,0,none⟩ x0).setCell ⟨r,1,none⟩ x1).setCell ⟨r,2,none⟩ x2).setCell ⟨r,3,none⟩ x3).setCell ⟨r,4,none⟩ x4).setCell ⟨r,5,none⟩ x5).setCell ⟨r,6,none⟩ x6).setCell ⟨r,7,none⟩ x7)∧Blk w' r T ((((((((cs.setIfInBounds 0 x0).setIfInBounds 1 x1).setIfInBounds 2 x2).setIfInBounds 3 x3).setIfInBounds 4 x4).setIfInBounds 5 x5).setIfInBounds 6 x6).setIfInBounds 7 x7)∧Kp w.heap.size (some r) w w'∧w'.heap.size=w.heap.size:=
 ⟨_,rfl,((((((((h.set_ 0 x0).set_ 1 x1).set_ 2 x2).set_ 3 x3).set_ 4 x4).set_ 5 x5).set_ 6 x6).set_ 7 x7),((((((((Kp.refl _ (some r) w).setRow (p:=⟨r,0,none⟩) rfl x0).setRow (p:=⟨r,1,none⟩) rfl x1).setRow (p:=⟨r,2,none⟩) rfl x2).setRow (p:=⟨r,3,none⟩) rfl x3).setRow (p:=⟨r,4,none⟩) rfl x4).setRow (p:=⟨r,5,none⟩) rfl x5).setRow (p:=⟨r,6,none⟩) rfl x6).setRow (p:=⟨r,7,none⟩) rfl x7,by simp[World.setCell]⟩
structure Hv.ok (h:Hv):Prop where
 m0:0≤h.mu
 m1:h.mu≤60000
 r0:0≤h.rad
 r1:h.rad≤60
 x0:-4000≤h.ax
 x1:h.ax≤4000
 y0:-4000≤h.ay
 y1:h.ay≤4000
theorem edge_bd {h:Hv} (hh:h.ok):1≤h.edge∧h.edge≤3600:=by
 have:=Int.mul_le_mul hh.r1 hh.r1 hh.r0 oM;unfold Hv.edge;omega
theorem heavy_edge_any (h:Hv) (A:Option Addr) (n c:Nat) (hh:h.ok) (w:World) :
  Calls Tryz.prog 206 #[.agg #[h.mu,h.rad,.slice A n c,h.ax,h.ay]] w fun e w'=>e=.returned (.int .i64 h.edge)∧Kp w.heap.size none w w':=by
 have h1:=Int.mul_le_mul hh.r1 hh.r1 hh.r0 oM;have h2:=Int.mul_nonneg hh.r0 hh.r0;have e1:wrap64 (h.rad * h.rad)=h.rad * h.rad:=by generalize h.rad * h.rad=z at *;unfold wrap64;omega
 clear h1 h2 hh;go_enter Tryz.func206,Tryz.ntmps206
 go_wp2
 go_ret
 exact⟨rfl,Kp.new1 _ _⟩
theorem toA_bd {h:Hv} {a:Ar} (hh:h.ok) (ha:a.bd 33554432):(h.toA a).bd 33558432:=by
 obtain⟨⟨a1,a2,a3⟩,a4,a5,a6⟩:=ha;have:=hh.x0;have:=hh.x1;have:=hh.y0;have:=hh.y1;unfold Ar.bd Sp.bd Hv.toA subS oneS;simp only;omega
theorem heavy_to_any (h:Hv) (A:Option Addr) (n c:Nat) (a:Ar) (hh:h.ok) (ha:a.bd 33554432) (w:World) :
  Calls Tryz.prog 191 #[.agg #[h.mu,h.rad,.slice A n c,h.ax,h.ay],a] w fun e w'=>e=.returned (.agg #[(h.toA a).x.lo,(h.toA a).x.hi,(h.toA a).y.lo,(h.toA a).y.hi])∧Kp w.heap.size none w w':=by
 have hb:=toA_bd hh ha;have f1:(oneS h.ax).fit:=by have:=hh.x0;have:=hh.x1;unfold Sp.fit oneS;simp only;omega
 have f2:(oneS h.ay).fit:=by have:=hh.y0;have:=hh.y1;unfold Sp.fit oneS;simp only;omega
 have s1:=fun w=>force_sub_any (oneS h.ax) a.x f1 (ha.1.fit (by decide)) (hb.1.fit (by decide)) w;have s2:=fun w=>force_sub_any (oneS h.ay) a.y f2 (ha.2.fit (by decide)) (hb.2.fit (by decide)) w;have e:h.toA a=⟨subS (oneS h.ax) a.x,subS (oneS h.ay) a.y⟩:=rfl;rw[e];simp only;clear e hb f1 f2;generalize subS (oneS h.ax) a.x=u1 at *;generalize subS (oneS h.ay) a.y=u2 at *;obtain⟨w1,hw1,H,B,R,K,hz⟩:=box3 w 254 #[h.mu,h.rad,.slice A n c,h.ax,h.ay] 53 a 53 #[(0:Int),(0:Int),(0:Int),(0:Int)];go_enter Tryz.func191,Tryz.ntmps191
 go_wp2_with fail
 rw[← hw1];clear hw1;obtain⟨S,hS0,hS1⟩:=cls_of2 (P:=fun w'=>Blk w' _ _ _∧Blk w' _ _ _∧Kp _ _ _ w') w1 ⟨H,B,K⟩;try dsimp only at hS0
 have cH:=fun (x:Ev (S 0)) i=>((hS0 _).1 x.h).1.cell i;have cB:=fun (x:Ev (S 0)) i=>((hS0 _).1 x.h).2.1.cell i;replace H:=H.drew;replace B:=B.drew;replace K:=K.drew;replace R:=R.drew;have hevT:=ev_true;refine wro S [(0,0),(1,0),(2,1),(4,0),(5,1),(7,0),(8,0),(9,1),(11,0),(12,1),(3,2),(6,2),(10,2),(13,2),(14,0),(15,3)] [15] ((hS0 _).2 ⟨H,B,K⟩) ?_;intro _hev;refine oX ?_;refine oL ?_;intro Kc hKc;generalize w1.drew=wd9 at *;go_step;refine mK (force_one_any h.ax _) fun w2 k=>?_;replace H:=H.kpN k;replace B:=B.kpN k;replace R:=R.kpN k;replace K:=K.tN k;clear k;refine hKc _ _ ((hS0 _).2 ⟨H,B,K⟩) ?_;clear hKc Kc;refine oL ?_;intro Kc hKc;go_step;refine mK (s1 _) fun w3 k=>?_;replace H:=H.kpN k;replace B:=B.kpN k;replace R:=R.kpN k;replace K:=K.tN k;clear k;refine hKc _ _ ((hS0 _).2 ⟨H,B,K⟩) ?_;clear hKc Kc;refine oL ?_;intro Kc hKc;go_step;refine mK (force_one_any h.ay _) fun w4 k=>?_;replace H:=H.kpN k;replace B:=B.kpN k;replace R:=R.kpN k;replace K:=K.tN k;clear k;refine hKc _ _ ((hS0 _).2 ⟨H,B,K⟩) ?_;clear hKc Kc;refine oL ?_;intro Kc hKc;go_step;refine mK (s2 _) fun w5 k=>?_;replace H:=H.kpN k;replace B:=B.kpN k;replace R:=R.kpN k;replace K:=K.tN k;clear k;refine hKc _ _ ((hS0 _).2 ⟨H,B,K⟩) ?_;clear hKc Kc;refine oX ?_;refine oA ?_;intro Kc hKc;have cR:=R.cell;have fR:=R.frozen;go_step;obtain⟨w9,hwn,RB9,kst,hzst⟩:=R.st4 (.int .i64 u1.lo) (.int .i64 u1.hi) (.int .i64 u2.lo) (.int .i64 u2.hi);rw[← hwn];clear hwn cR fR;refine hKc _ _ ((hS1 _).2 trivial) ?_;clear hKc Kc;replace H:=H.kq kst;replace B:=B.kq kst;first|replace K:=K.thenOwn kst (Nat.le_refl _) oM|replace K:=K.then_ kst (Nat.le_refl _)
 replace R:=RB9;clear RB9 kst;simp only[sbt,sc0,scs] at R;change wpOrd _ _ _ _ _ 1 _ _;refine wpOrd_nil ?_;clear hevT _hev;clear cH cB hS0 hS1 S;have cR:=R.cell;go_wp2_with fail
 exact bodyPost_ret (by simp[results,Tryz.results191,go_sem,cR]) rfl ⟨rfl,K⟩
theorem squareS_nonneg' (a:Sp):0≤(squareS a).lo:=by
 unfold squareS;simp only;exact Int.mul_nonneg oM oM
theorem squareS_bd {s:Sp} {M:Int} (h:s.bd M):0≤(squareS s).lo∧(squareS s).lo≤(squareS s).hi∧(squareS s).hi≤M * M:=by
 have h1:=squareS_nonneg' s;have h2:=squareS_ok s h.2.1;refine⟨h1,h2,?_⟩;unfold Sp.bd at h;unfold squareS;simp only;exact Int.mul_le_mul oM oM oM oM
def distQ (h:Hv) (a:Ar):Sp:=addS (squareS (h.toA a).x) (squareS (h.toA a).y)
theorem heavy_distances_any (h:Hv) (A:Option Addr) (n c:Nat) (a:Ar) (hh:h.ok) (ha:a.bd 33554432) (w:World) :
  Calls Tryz.prog 190 #[.agg #[h.mu,h.rad,.slice A n c,h.ax,h.ay],a] w fun e w'=>e=.returned (.tuple #[.agg #[(distS h a).lo,(distS h a).hi],.agg #[(rootsS (distS h a)).lo,(rootsS (distS h a)).hi]])∧Kp w.heap.size none w w':=by
 have ht:=fun w=>heavy_to_any h A n c a hh ha w;have hb:=toA_bd hh ha;have e1:=edge_bd hh;have q1:=squareS_bd hb.1;have q2:=squareS_bd hb.2;have s1:=fun w=>force_square_any (h.toA a).x (hb.1.fit (by decide)) (by have:=hb.1.1;omega) (by have:=hb.1.2.2;omega) w;have s2:=fun w=>force_square_any (h.toA a).y (hb.2.fit (by decide)) (by have:=hb.2.1;omega) (by have:=hb.2.2.2;omega) w
 have ad:=fun w b (hB:Blk w b 29 #[(squareS (h.toA a).x).lo,(squareS (h.toA a).x).hi,(squareS (h.toA a).y).lo,(squareS (h.toA a).y).hi])=>
  force_add2 b (squareS (h.toA a).x) (squareS (h.toA a).y) 1126168358298624 w _ hB (by unfold Sp.bd;omega) (by unfold Sp.bd;omega) (by decide)
 have ed:=fun w=>heavy_edge_any h A n c hh w;have eq:distS h a=⟨max (distQ h a).lo h.edge,max (distQ h a).hi h.edge⟩:=rfl;have qb:0≤(distQ h a).lo∧(distQ h a).lo≤(distQ h a).hi∧(distQ h a).hi≤2252336716597248:=by unfold distQ addS;simp only;omega
 have er:addS (squareS (h.toA a).x) (squareS (h.toA a).y)=distQ h a:=rfl;rw[er] at ad;have rt:=fun w=>span_Roots_any (distS h a) (by rw[eq];unfold Sp.fit;simp only;omega) (by rw[eq];simp only;omega) w;generalize rootsS (distS h a)=r at *;have m1:max (distQ h a).lo h.edge=(distS h a).lo:=by rw[eq]
 have m2:max (distQ h a).hi h.edge=(distS h a).hi:=by rw[eq]
 generalize distS h a=q at *;generalize distQ h a=q0 at *;generalize squareS (h.toA a).x=u1 at *;generalize squareS (h.toA a).y=u2 at *;generalize h.toA a=v at *;clear e1 q1 q2 hb hh ha eq qb er;obtain⟨w1,hw1,H,B,Q,R,K,hz⟩:=box4 w 254 #[h.mu,h.rad,.slice A n c,h.ax,h.ay] 53 a 29 #[(0:Int),(0:Int)] 29 #[(0:Int),(0:Int)];go_enter Tryz.func190,Tryz.ntmps190
 go_wp2_with fail
 rw[← hw1];clear hw1;refine mK (ht _) fun w2 k=>?_;replace H:=H.kpN k;replace B:=B.kpN k;replace Q:=Q.kpN k;replace R:=R.kpN k;replace K:=K.thenN k oM;have hzk:=k.size;clear k;have pH:=H.cell;have pB:=B.cell;have pQ:=Q.cell;have pR:=R.cell;obtain⟨w9_,rfl,V,k9_,hzn⟩:=box1 w2 53 #[v.x.lo,v.x.hi,v.y.lo,v.y.hi];replace H:=H.kpN k9_;replace B:=B.kpN k9_;replace Q:=Q.kpN k9_;replace R:=R.kpN k9_;replace K:=K.thenN k9_ oU;clear k9_;have cH:=H.cell;have fH:=H.frozen;have cB:=B.cell;have fB:=B.frozen;have cQ:=Q.cell;have fQ:=Q.frozen;have cR:=R.cell;have fR:=R.frozen;go_wp2_with fail
 clear cH fH pH cB fB pB cQ fQ pQ cR fR pR;generalize (w2.alloc (.cells #[v.x.lo,v.x.hi,v.y.lo,v.y.hi] 53))=w3 at *;obtain⟨x,hx⟩:∃ q9,q9=w2.heap.size:=⟨_,rfl⟩;rw[← hx] at V ⊢;replace hx:=Lib.hid hx;have hxn:w.heap.size+4≤x:=by have:=hx.out;omega
 clear hx hzn hzk hz;obtain⟨S,hS0,hS1⟩:=cls_of2 (P:=fun w'=>Blk w' _ _ _∧Blk w' _ _ _∧Blk w' _ _ _∧Blk w' _ _ _∧Kp _ _ _ w') w3 ⟨H,B,R,V,K⟩;try dsimp only at hS0
 have cH:=fun (x:Ev (S 0)) i=>((hS0 _).1 x.h).1.cell i;have cB:=fun (x:Ev (S 0)) i=>((hS0 _).1 x.h).2.1.cell i;have cR:=fun (x:Ev (S 0)) i=>((hS0 _).1 x.h).2.2.1.cell i;have cV:=fun (x:Ev (S 0)) i=>((hS0 _).1 x.h).2.2.2.1.cell i;replace H:=H.drew;replace B:=B.drew;replace R:=R.drew;replace V:=V.drew;replace K:=K.drew;replace Q:=Q.drew;have hevT:=ev_true;refine wro S [(0,0),(1,1),(3,0),(4,1),(2,2),(5,2),(6,2),(7,2),(8,3)] [8] ((hS0 _).2 ⟨H,B,R,V,K⟩) ?_;intro _hev;refine oX ?_;refine oL ?_;intro Kc hKc;generalize w3.drew=wd9 at *;go_step;refine mK (s1 _) fun w4 k=>?_;replace H:=H.kpN k;replace B:=B.kpN k;replace R:=R.kpN k;replace V:=V.kpN k;replace Q:=Q.kpN k;replace K:=K.tN k;clear k;refine hKc _ _ ((hS0 _).2 ⟨H,B,R,V,K⟩) ?_;clear hKc Kc;refine oL ?_;intro Kc hKc;go_step;refine mK (s2 _) fun w5 k=>?_;replace H:=H.kpN k;replace B:=B.kpN k;replace R:=R.kpN k;replace V:=V.kpN k;replace Q:=Q.kpN k;replace K:=K.tN k;clear k;refine hKc _ _ ((hS0 _).2 ⟨H,B,R,V,K⟩) ?_;clear hKc Kc;refine oL ?_;intro Kc hKc;go_step;have N:=Blk.new w5 29 #[u1.lo,u1.hi,u2.lo,u2.hi];have gy0:=H.lt;have gy1:=B.lt;have gy2:=R.lt;have gy3:=V.lt;have gy4:=Q.lt;have gyK:=K.size;replace H:=H.alloc (.cells #[u1.lo,u1.hi,u2.lo,u2.hi] 29);replace B:=B.alloc (.cells #[u1.lo,u1.hi,u2.lo,u2.hi] 29);replace R:=R.alloc (.cells #[u1.lo,u1.hi,u2.lo,u2.hi] 29);replace V:=V.alloc (.cells #[u1.lo,u1.hi,u2.lo,u2.hi] 29);replace Q:=Q.alloc (.cells #[u1.lo,u1.hi,u2.lo,u2.hi] 29);replace K:=K.alloc (by have:=K.size;omega) (.cells #[u1.lo,u1.hi,u2.lo,u2.hi] 29);refine hKc _ _ ((hS0 _).2 ⟨H,B,R,V,K⟩) ?_;clear hKc Kc;obtain⟨y,hy⟩:∃ q9,q9=w5.heap.size:=⟨_,rfl⟩;generalize w5.alloc (.cells #[u1.lo,u1.hi,u2.lo,u2.hi] 29)=w6 at *;rw[← hy] at N gy0 gy1 gy2 gy3 gy4 gyK ⊢;replace hy:=Lib.hid hy;refine oL ?_;intro Kc hKc;go_step;refine mK (ad _ _ N) fun w7 k=>?_;replace H:=H.kpN k;replace B:=B.kpN k;replace R:=R.kpN k;replace V:=V.kpN k;replace Q:=Q.kpN k;replace N:=N.kpN k;replace K:=K.tN k;clear k;refine hKc _ _ ((hS0 _).2 ⟨H,B,R,V,K⟩) ?_;clear hKc Kc;refine oA ?_;intro Kc hKc;have cR:=Q.cell;have fR:=Q.frozen;go_step;obtain⟨w9,hwn,RB9,kst,hzst⟩:=Q.st2 (.int .i64 q0.lo) (.int .i64 q0.hi);rw[← hwn];clear hwn cR fR;refine hKc _ _ ((hS1 _).2 trivial) ?_;clear hKc Kc;replace H:=H.kq kst;replace B:=B.kq kst;replace R:=R.kq kst;replace V:=V.kq kst;replace N:=N.kq kst;first|replace K:=K.thenOwn kst (Nat.le_refl _) oM|replace K:=K.then_ kst (Nat.le_refl _)
 replace Q:=RB9;clear RB9 kst;simp only[sbt,sc0,scs] at Q;change wpOrd _ _ _ _ _ 1 _ _;refine wpOrd_nil ?_;clear hevT _hev;clear cH cB cR cV hS0 hS1 S;go_wp2_with fail
 obtain⟨S,hS0,hS1⟩:=cls_of2 (P:=fun w'=>Blk w' _ _ _∧Blk w' _ _ _∧Blk w' _ _ _∧Blk w' _ _ _∧Blk w' _ _ _∧Kp _ _ _ w') w9 ⟨H,B,R,V,Q,K⟩;try dsimp only at hS0
 have cH:=fun (x:Ev (S 0)) i=>((hS0 _).1 x.h).1.cell i;have cB:=fun (x:Ev (S 0)) i=>((hS0 _).1 x.h).2.1.cell i;have cR:=fun (x:Ev (S 0)) i=>((hS0 _).1 x.h).2.2.1.cell i;have cV:=fun (x:Ev (S 0)) i=>((hS0 _).1 x.h).2.2.2.1.cell i;have cQ:=fun (x:Ev (S 0)) i=>((hS0 _).1 x.h).2.2.2.2.1.cell i;replace H:=H.drew;replace B:=B.drew;replace R:=R.drew;replace V:=V.drew;replace Q:=Q.drew;replace K:=K.drew;have hevT:=ev_true;refine wro S [(0,0),(1,1),(2,1),(5,0),(6,1),(7,1),(3,2),(4,0),(8,2),(9,0),(10,0),(11,3)] [11] ((hS0 _).2 ⟨H,B,R,V,Q,K⟩) ?_;intro _hev;refine oX ?_;refine oL ?_;intro Kc hKc;generalize w9.drew=wd9 at *;go_step;refine mK (ed _) fun w4 k=>?_;replace H:=H.kpN k;replace B:=B.kpN k;replace R:=R.kpN k;replace V:=V.kpN k;replace Q:=Q.kpN k;replace K:=K.tN k;clear k;refine hKc _ _ ((hS0 _).2 ⟨H,B,R,V,Q,K⟩) ?_;clear hKc Kc;refine oX ?_;refine oL ?_;intro Kc hKc;go_step;refine mK (ed _) fun w5 k=>?_;replace H:=H.kpN k;replace B:=B.kpN k;replace R:=R.kpN k;replace V:=V.kpN k;replace Q:=Q.kpN k;replace K:=K.tN k;clear k;refine hKc _ _ ((hS0 _).2 ⟨H,B,R,V,Q,K⟩) ?_;clear hKc Kc;refine oX ?_;refine oA ?_;intro Kc hKc;have cR:=Q.cell;have fR:=Q.frozen;go_step;obtain⟨w10,hwn,RB9,kst,hzst⟩:=Q.st2 (.int .i64 q.lo) (.int .i64 q.hi);rw[← hwn];clear hwn cR fR;refine hKc _ _ ((hS1 _).2 trivial) ?_;clear hKc Kc;replace H:=H.kq kst;replace B:=B.kq kst;replace R:=R.kq kst;replace V:=V.kq kst;first|replace K:=K.thenOwn kst (Nat.le_refl _) oM|replace K:=K.then_ kst (Nat.le_refl _)
 replace Q:=RB9;clear RB9 kst;simp only[sbt,sc0,scs] at Q;change wpOrd _ _ _ _ _ 1 _ _;refine wpOrd_nil ?_;clear hevT _hev;clear cH cB cR cV cQ hS0 hS1 S;clear m1 m2;have cQ:=Q.cell;have fQ:=Q.frozen;have cR:=R.cell;have fR:=R.frozen;go_wp2_with fail
 refine mK (rt _) fun w11 k=>?_;clear cQ fQ cR fR;replace Q:=Q.kpN k;replace R:=R.kpN k;replace K:=K.thenN k oM;have hzk:=k.size;clear k;have cQ:=Q.cell;have cR:=R.cell;have fR:=R.frozen;go_wp2_with fail
 clear cQ cR fR;obtain⟨w12,hw12,R9,kst,hzst⟩:=R.st2 (.int .i64 r.lo) (.int .i64 r.hi);rw[← hw12];clear hw12;replace Q:=Q.kq kst;replace K:=K.thenOwn kst (Nat.le_refl _) oM;replace R:=R9;simp only[sbt,sc0,scs] at R;clear R9 kst hzst H B V;obtain⟨S,hS0,hS1⟩:=cls_of2 (P:=fun w'=>Blk w' _ _ _∧Blk w' _ _ _∧Kp _ none _ w') w12 ⟨Q,R,K⟩;try dsimp only at hS0
 have cQ:=fun (x:Ev (S 0)) i=>((hS0 _).1 x.h).1.cell i;have cR:=fun (x:Ev (S 0)) i=>((hS0 _).1 x.h).2.1.cell i;replace Q:=Q.drew;replace R:=R.drew;replace K:=K.drew;have hevT:=ev_true;refine wro S [(0,1),(1,1),(2,2),(3,3)] [3] ((hS0 _).2 ⟨Q,R,K⟩) ?_;intro _hev;refine oX ?_;refine oL ?_;intro Kc hKc;generalize w12.drew=wd9 at *;have cQ':=fun i=>Q.cell i;have fQ':=fun i=>Q.frozen i;go_step;obtain⟨w13,hw13,Q9,kst,hzst⟩:=Q.st2 (.int .i64 q.lo) (.int .i64 q.hi);rw[← hw13];clear hw13 cQ' fQ';replace R:=R.kq kst;replace K:=K.thenOwn kst (Nat.le_refl _) oM;replace Q:=Q9;simp only[sbt,sc0,scs] at Q;clear Q9 kst hzst;refine hKc _ _ ((hS0 _).2 ⟨Q,R,K⟩) ?_;clear hKc Kc;refine oA ?_;intro Kc hKc;have cR':=fun i=>R.cell i;have fR':=fun i=>R.frozen i;go_step;obtain⟨w14,hw14,R9,kst,hzst⟩:=R.st2 (.int .i64 r.lo) (.int .i64 r.hi);rw[← hw14];clear hw14 cR' fR';refine hKc _ _ ((hS1 _).2 trivial) ?_;clear hKc Kc;replace Q:=Q.kq kst;replace K:=K.thenOwn kst (Nat.le_refl _) oM;replace R:=R9;simp only[sbt,sc0,scs] at R;clear R9 kst hzst;change wpOrd _ _ _ _ _ 1 _ _;refine wpOrd_nil ?_;clear hevT _hev;clear cQ cR hS0 hS1 S;have cQ:=Q.cell;have cR:=R.cell;go_wp2_with fail
 exact bodyPost_ret (v:=.tuple #[.agg #[q.lo,q.hi],.agg #[r.lo,r.hi]]) (by simp[results,Tryz.results190,go_sem,cQ,cR]) rfl ⟨rfl,K⟩
theorem Blk.st3 {w:World} {r:Nat} {T:TypeId} {cs:Array Value} (h:Blk w r T cs) (x0 x1 x2:Value):∃ w',w'=(((w.setCell ⟨r,0,none⟩ x0).setCell ⟨r,1,none⟩ x1).setCell ⟨r,2,none⟩ x2)∧Blk w' r T ((((cs.setIfInBounds 0 x0).setIfInBounds 1 x1).setIfInBounds 2 x2))∧Kp w.heap.size (some r) w w'∧w'.heap.size=w.heap.size:=
 ⟨_,rfl,(((h.set_ 0 _).set_ 1 _).set_ 2 _),((((Kp.refl _ (some r) w).setRow (p:=⟨r,0,none⟩) rfl _).setRow (p:=⟨r,1,none⟩) rfl _).setRow (p:=⟨r,2,none⟩) rfl _),by simp[World.setCell]⟩
def CoAt (T:TypeId) (ob:Nat) (w1:World) (a b:Value) (wr:World):Prop:=
 ∃ (f:Bool) (i:Nat) (o:Sp),a=.bool f∧b=.int .i64 i∧i≤2∧(f=true→i=0)∧(f=false→o.fit)∧Blk wr ob T o∧Kp w1.heap.size (some ob) w1 wr
theorem pick2 (x y:Int) (j:Nat) (h:j<2):(#[Value.int .i64 x,y]:Array Value)[j]?=some (.int .i64 (if j=0 then x else y)):=by
 rcases (show j=0∨j=1 by omega) with rfl|rfl<;>rfl
theorem pick2_fit {s:Sp} (h:s.fit) (j:Nat):-9223372036854775808<(if j=0 then s.lo else s.hi)∧(if j=0 then s.lo else s.hi)<9223372036854775808:=by
 unfold Sp.fit at h;split<;>omega
theorem r1_corners (a b:Sp) (dv:Bool) (ha:a.fit) (hb:b.fit) (w:World):Calls Tryz.prog 215 #[a,b,.bool dv] w (SpP w):=by
 have fa:=fun j=>pick2_fit ha j;have fb:=fun j=>pick2_fit hb j;clear ha hb;obtain⟨w1,hw1,A,B,R,O,K,hz⟩:=box4 w 29 a 29 b 29 #[(0:Int),(0:Int)] 29 #[(0:Int),(0:Int)];go_enter Tryz.func215,Tryz.ntmps215
 go_wp2_with fail
 rw[← hw1];clear hw1;have cA:=A.cell;go_wp2_with fail
 clear cA;have X:=Blk.new w1 2 a;replace A:=A.alloc (.cells a 2);replace B:=B.alloc (.cells a 2);replace R:=R.alloc (.cells a 2);replace O:=O.alloc (.cells a 2);replace K:=K.alloc oM (.cells a 2);have hz2:(w1.alloc (.cells a 2)).heap.size=w.heap.size+5:=by simp[hz]
 rw[hz] at X;generalize w1.alloc (.cells a 2)=w2 at *;clear hz;go_loopw [9,25] (fun x y wr=>CoAt 29 (w.heap.size+3) w2 x y wr) (fun _ y _=>2-(intOf y).toNat)
 case atStart=>exact⟨true,0,⟨0,0⟩,rfl,rfl,by omega,fun _=>rfl,fun h=>by (cases h),O,Kp.refl _ _ _⟩
 case round=>
  clear O;obtain⟨f,i,o,rfl,rfl,hi,hf0,hf1,O,K2⟩:=hrel;replace B:=B.kp K2 oM oN;replace R:=R.kp K2 oM oN;replace X:=X.kp K2 oM oN;have hz3:=K2.size;by_cases hc:i<2
  ·
   have cX:∀ w9,Kp w2.heap.size (some (w.heap.size+3)) w2 w9→True:=fun _ _=>trivial;clear cX;obtain⟨x,hx⟩:∃ q9,q9=if i=0 then a.lo else a.hi:=⟨_,rfl⟩;have fx:=fa i;have cX:wr.cell? ⟨w.heap.size+4,i,none⟩=some (.int .i64 x):=by rw[hx];exact(X.cell i).trans (pick2 _ _ i hc)
   rw[← hx] at fx;clear hx;have cB:=B.cell;have hc2:(i:Int)<2:=by omega
   have hc3:¬ (i:Int)<0:=by omega
   replace hf0:=Lib.hid hf0;replace hf1:=Lib.hid hf1;replace fx:=Lib.hid fx;go_wp2_with fail
   clear cX cB;have Y:=Blk.new wr 2 b;replace R:=R.alloc (.cells b 2);replace O:=O.alloc (.cells b 2);replace K2:=K2.alloc hz3 (.cells b 2);have hz4:(wr.alloc (.cells b 2)).heap.size=wr.heap.size+1:=by simp
   generalize wr.alloc (.cells b 2)=w3 at *;obtain⟨yb,hy⟩:∃ q9,q9=wr.heap.size:=⟨_,rfl⟩;rw[← hy] at Y hz4 hz3 ⊢;replace hy:=Lib.hid hy;clear B X;go_loopw [9,35] (fun x y wr=>CoAt 29 (w.heap.size+3) w3 x y wr) (fun _ y _=>2-(intOf y).toNat)
   case atStart=>exact⟨f,0,o,rfl,rfl,by omega,fun _=>rfl,hf1.out,O,Kp.refl _ _ _⟩
   case round=>
    clear O hf1;obtain⟨g,j,p,rfl,rfl,hj,hg0,hg1,O,K3⟩:=hrel;by_cases hd:j<2
    ·
     obtain⟨y,hy2⟩:∃ q9,q9=if j=0 then b.lo else b.hi:=⟨_,rfl⟩;have fy:=fb j;have cY:=(K3.cell yb j oM oN).trans ((Y.cell j).trans (pick2 _ _ j hd));rw[← hy2] at fy cY;clear hy2;have hd2:(j:Int)<2:=by omega
     have hd3:¬ (j:Int)<0:=by omega
     replace hg0:=Lib.hid hg0;replace hg1:=Lib.hid hg1;replace fy:=Lib.hid fy;replace hf0:=Lib.hid (fun _:Unit=>hf0);go_wp2_with fail
     clear cY;refine(r1_wideOf x y fx.out fy.out _).mono ?_;rintro e w4 ⟨⟨s,H,L,rfl,hH,hL⟩,k⟩;replace O:=O.kpN k;replace K3:=K3.tN k;clear k;replace hL:=Lib.hid hL;clear hH;have hz5:=K3.size;have V:=Blk.new w4 272 #[.bool s,.int .u64 H,.int .u64 L];have lO:=O.lt;replace O:=O.alloc (.cells #[.bool s,.int .u64 H,.int .u64 L] 272);replace K3:=K3.alloc oM (.cells #[.bool s,.int .u64 H,.int .u64 L] 272);obtain⟨vb,hvb⟩:∃ q9,q9=w4.heap.size:=⟨_,rfl⟩;have hz6:(w4.alloc (.cells #[.bool s,.int .u64 H,.int .u64 L] 272)).heap.size=w4.heap.size+1:=by simp
     cases dv
     ·
      have cV:=V.cell;go_wp2_with fail
      clear cV;generalize w4.alloc (.cells #[.bool s,.int .u64 H,.int .u64 L] 272)=w5 at *;refine(r1_quotient 1 s H L oM hL.out _).mono ?_;rintro e w6 ⟨⟨lo,hi,is,rfl,hfit⟩,k⟩;replace O:=O.kpN k;replace K3:=K3.tN k;clear k V;cases is
      ·
       have BR:=(R.kp K3 oM oN);have cR:=BR.cell;have fR:=BR.frozen;go_wp2_with fail
       clear cR fR;replace BR:=(BR.set_ 0 (.int .i64 0)).set_ 1 (.int .i64 0);have cR:=BR.cell;have KK:=K.trans ((K2.trans ⟨K3.os,K3.tape,K3.output,K3.size,fun k hk hn=>K3.block k oM hn⟩:Kp w2.heap.size (some (w.heap.size+3)) w2 w6) |> fun q=>(⟨q.os,q.tape,q.output,q.size,fun k hk _=>q.block k oM oN⟩:Kp w.heap.size none w2 w6));exact bodyPost_ret (v:=.tuple #[.agg #[(0:Int),(0:Int)],(14:Int)]) (by simp[results,Tryz.results215,go_sem,cR]) rfl ⟨⟨⟨0,0⟩,_,rfl,fit0⟩,(KK.setNew (by simp<;>omega) _).setNew (by simp<;>omega) _⟩
      ·
       replace hfit:=hfit rfl;have cO:=O.cell;have fO:=O.frozen;cases g
       ·
        have hp:=hg1.out rfl;unfold Sp.fit at hp hfit;dsimp only at hfit;replace hp:=Lib.hid hp;replace hfit:=Lib.hid hfit;by_cases h1:lo<p.lo<;>by_cases h2:p.hi<hi
        ·
         go_wp2_with fail
         go_roundw
         case rel=>exact⟨false,j+1,⟨lo,hi⟩,rfl,by congr 1,by omega,fun h=>(by cases h),fun _=>(by have:=hp.out;have:=hfit.out;unfold Sp.fit;dsimp only;omega),(O.set_ 0 _).set_ 1 _,(K3.setRow (p:=⟨_,_,none⟩) rfl _).setRow (p:=⟨_,_,none⟩) rfl _⟩
         case measure=>simp[intOf];omega
        ·
         go_wp2_with fail
         go_roundw
         case rel=>exact⟨false,j+1,⟨lo,p.hi⟩,rfl,by congr 1,by omega,fun h=>(by cases h),fun _=>(by have:=hp.out;have:=hfit.out;unfold Sp.fit;dsimp only;omega),O.set_ 0 _,K3.setRow (p:=⟨_,_,none⟩) rfl _⟩
         case measure=>simp[intOf];omega
        ·
         go_wp2_with fail
         go_roundw
         case rel=>exact⟨false,j+1,⟨p.lo,hi⟩,rfl,by congr 1,by omega,fun h=>(by cases h),fun _=>(by have:=hp.out;have:=hfit.out;unfold Sp.fit;dsimp only;omega),O.set_ 1 _,K3.setRow (p:=⟨_,_,none⟩) rfl _⟩
         case measure=>simp[intOf];omega
        ·
         go_wp2_with fail
         go_roundw
         case rel=>exact⟨false,j+1,p,rfl,by congr 1,by omega,fun h=>(by cases h),fun _=>(by have:=hp.out;unfold Sp.fit;omega),O,K3⟩
         case measure=>simp[intOf];omega
       ·
        go_wp2_with fail
        go_roundw
        case rel=>exact⟨false,j+1,⟨lo,hi⟩,rfl,by congr 1,by omega,fun h=>(by cases h),fun _=>hfit,(O.set_ 0 _).set_ 1 _,(K3.setRow (p:=⟨_,_,none⟩) rfl _).setRow (p:=⟨_,_,none⟩) rfl _⟩
        case measure=>simp[intOf];omega
     ·
      have cV:=V.cell;have fV:=V.frozen;go_wp2_with fail
      clear cV fV;generalize w4.alloc (.cells #[.bool s,.int .u64 H,.int .u64 L] 272)=w5 at *;refine(r1_wideOf x 1 fx.out oM _).mono ?_;rintro e w6 ⟨⟨s',H',L',rfl,hH',hL'⟩,k⟩;replace hL:=Lib.hid hL';clear hL' hH';replace O:=O.kpN k;replace V:=V.kpN k;replace K3:=K3.tN k;have hz7:=k.size;clear k;have cV:=V.cell;have fV:=V.frozen;obtain⟨w7,hw7,V7,kst,hz8⟩:=V.st3 (.bool s') (.int .u64 H') (.int .u64 L');simp only[sbt,sc0,scs] at V7;go_upto_region 13 with(fail)
      rw[← hw7];clear hw7 cV fV V;replace O:=O.kq kst;replace K3:=K3.thenOwn kst (Nat.le_refl _) oM;have cV:=V7.cell;go_wp2_with fail
      clear cV V7 kst;refine(r1_quotient y s' H' L' fy.out hL.out _).mono ?_;rintro e w9 ⟨⟨lo,hi,is,rfl,hfit⟩,k⟩;replace O:=O.kpN k;replace K3:=K3.tN k;clear k;cases is
      ·
       have BR:=(R.kp K3 oM oN);have cR:=BR.cell;have fR:=BR.frozen;go_wp2_with fail
       clear cR fR;replace BR:=(BR.set_ 0 (.int .i64 0)).set_ 1 (.int .i64 0);have cR:=BR.cell;have KK:=K.trans ((K2.trans ⟨K3.os,K3.tape,K3.output,K3.size,fun k hk hn=>K3.block k oM hn⟩:Kp w2.heap.size (some (w.heap.size+3)) w2 w9) |> fun q=>(⟨q.os,q.tape,q.output,q.size,fun k hk _=>q.block k oM oN⟩:Kp w.heap.size none w2 w9));exact bodyPost_ret (v:=.tuple #[.agg #[(0:Int),(0:Int)],(14:Int)]) (by simp[results,Tryz.results215,go_sem,cR]) rfl ⟨⟨⟨0,0⟩,_,rfl,fit0⟩,(KK.setNew (by simp<;>omega) _).setNew (by simp<;>omega) _⟩
      ·
       replace hfit:=hfit rfl;have cO:=O.cell;have fO:=O.frozen;cases g
       ·
        have hp:=hg1.out rfl;unfold Sp.fit at hp hfit;dsimp only at hfit;replace hp:=Lib.hid hp;replace hfit:=Lib.hid hfit;by_cases h1:lo<p.lo<;>by_cases h2:p.hi<hi
        ·
         go_wp2_with fail
         go_roundw
         case rel=>exact⟨false,j+1,⟨lo,hi⟩,rfl,by congr 1,by omega,fun h=>(by cases h),fun _=>(by have:=hp.out;have:=hfit.out;unfold Sp.fit;dsimp only;omega),(O.set_ 0 _).set_ 1 _,(K3.setRow (p:=⟨_,_,none⟩) rfl _).setRow (p:=⟨_,_,none⟩) rfl _⟩
         case measure=>simp[intOf];omega
        ·
         go_wp2_with fail
         go_roundw
         case rel=>exact⟨false,j+1,⟨lo,p.hi⟩,rfl,by congr 1,by omega,fun h=>(by cases h),fun _=>(by have:=hp.out;have:=hfit.out;unfold Sp.fit;dsimp only;omega),O.set_ 0 _,K3.setRow (p:=⟨_,_,none⟩) rfl _⟩
         case measure=>simp[intOf];omega
        ·
         go_wp2_with fail
         go_roundw
         case rel=>exact⟨false,j+1,⟨p.lo,hi⟩,rfl,by congr 1,by omega,fun h=>(by cases h),fun _=>(by have:=hp.out;have:=hfit.out;unfold Sp.fit;dsimp only;omega),O.set_ 1 _,K3.setRow (p:=⟨_,_,none⟩) rfl _⟩
         case measure=>simp[intOf];omega
        ·
         go_wp2_with fail
         go_roundw
         case rel=>exact⟨false,j+1,p,rfl,by congr 1,by omega,fun h=>(by cases h),fun _=>(by have:=hp.out;unfold Sp.fit;omega),O,K3⟩
         case measure=>simp[intOf];omega
       ·
        go_wp2_with fail
        go_roundw
        case rel=>exact⟨false,j+1,⟨lo,hi⟩,rfl,by congr 1,by omega,fun h=>(by cases h),fun _=>hfit,(O.set_ 0 _).set_ 1 _,(K3.setRow (p:=⟨_,_,none⟩) rfl _).setRow (p:=⟨_,_,none⟩) rfl _⟩
        case measure=>simp[intOf];omega
    ·
     obtain rfl:j=2:=by omega
     have:g=false:=by cases g;rfl;exact absurd (hg0 rfl) oM
     subst this;go_wp2_with fail
     go_roundw
     case rel=>exact⟨false,i+1,p,rfl,by congr 1,by omega,fun h=>(by cases h),fun _=>hg1 rfl,O,K2.trans ⟨K3.os,K3.tape,K3.output,K3.size,fun k hk hn=>K3.block k oM hn⟩⟩
     case measure=>simp[intOf];omega
  ·
   obtain rfl:i=2:=by omega
   have:f=false:=by cases f;rfl;exact absurd (hf0 rfl) oM
   subst this;have ho:=hf1 rfl;clear hf1 hf0;have cR:=R.cell;have fR:=R.frozen;have cO:=O.cell;go_wp2_with fail
   clear cR fR cO;have BR:=(R.set_ 0 (.int .i64 o.lo)).set_ 1 (.int .i64 o.hi);have cR:=BR.cell;replace K:=K.trans ⟨K2.os,K2.tape,K2.output,K2.size,fun k hk _=>K2.block k oM oN⟩;exact bodyPost_ret (v:=.tuple #[.agg #[o.lo,o.hi],(0:Int)]) (by simp[results,Tryz.results215,go_sem,cR]) rfl ⟨⟨o,_,rfl,ho⟩,(K.setNew (by simp<;>omega) _).setNew (by simp<;>omega) _⟩
end Go.Proofs.YtdhiappifnflpaaGreatDoor
