/- Passages: the walks of span and meet, first part. -/
import Derived.Test.YtdhiappifnflpaaGreatM17
import Derived.Test.YtdhiappifnflpaaGreatM27
set_option maxRecDepth 100000
set_option maxHeartbeats 1000000
namespace Go.Proofs.YtdhiappifnflpaaGreat
open Go.RowKit
theorem span_right_any (a b:Ar) (r:Int) (ha:a.bd 268435456) (hb:b.bd 268435456) (h0:0≤r) (h1:r≤268435456) (w:World) :
  Calls Tryz.prog 192 #[a,b,r] w fun e w'=>e=.returned (.bool true)∧Kp w.heap.size none w w':=by
 obtain⟨w1,hw1,A,B,K,hz⟩:=box2 w 167 a 167 b;go_enter Tryz.func192,Tryz.ntmps192
 go_wp2_with fail
 rw[← hw1];clear hw1;refine mK (span_CheckArea_any a ha _) fun w2 k=>?_;replace A:=A.kpN k;replace B:=B.kpN k;replace K:=K.thenN k oM;have hzk:=k.size;clear k;have cA:=A.cell;have fA:=A.frozen;have cB:=B.cell;have fB:=B.frozen;go_wp2_with fail
 refine mK (span_CheckArea_any b hb _) fun w3 k=>?_;clear cA fA cB fB;replace A:=A.kpN k;replace B:=B.kpN k;replace K:=K.thenN k oM;have hzk:=k.size;clear k;have cA:=A.cell;have fA:=A.frozen;have cB:=B.cell;have fB:=B.frozen;go_wp2_with fail
 refine mK (within_t h0 h1 _) fun w4 k=>?_;clear cA fA cB fB;replace A:=A.kpN k;replace B:=B.kpN k;replace K:=K.thenN k oM;have hzk:=k.size;clear k;go_wp2
 go_ret
 exact⟨rfl,K⟩
theorem btw_wrap {a b i:Int} (ha:-268435456≤a∧a≤268435456) (hb:-268435456≤b∧b≤268435456) (hi:0≤i∧i≤8):wrap64 (wrap64 ((8-i) * a)+wrap64 (i * b))=btwI a b i∧(btwI a b i).natAbs≤4294967296:=by
 have m1:=mul_bd (a:=8-i) (b:=a) (A:=8) (B:=268435456) oM oM;have m2:=mul_bd (a:=i) (b:=b) (A:=8) (B:=268435456) oM oM;simp only[Nat.reduceMul] at m1 m2;unfold btwI;generalize (8-i) * a=u at *;generalize i * b=v at *;rw[show wrap64 u=u by unfold wrap64;omega,show wrap64 v=v by unfold wrap64;omega];refine⟨by unfold wrap64;omega,by omega⟩
theorem span_between_any (a b:Sp) (i:Int) (ha:a.bd 268435456) (hb:b.bd 268435456) (hi:0≤i∧i≤8) (w:World) :
  Calls Tryz.prog 218 #[a,b,i] w fun e w'=>e=.returned (.agg #[(btwS a b i).lo,(btwS a b i).hi])∧Kp w.heap.size none w w':=by
 unfold Sp.bd at ha hb;have e0:wrap64 (8-i)=8-i:=by unfold wrap64;omega
 have e1:=(btw_wrap (a:=a.lo) (b:=b.lo) (i:=i) oM oM hi).1;have e2:=(btw_wrap (a:=a.hi) (b:=b.hi) (i:=i) oM oM hi).1;have u1:(btwS a b i).lo=btwI a.lo b.lo i:=rfl;have u2:(btwS a b i).hi=btwI a.hi b.hi i:=rfl;rw[u1,u2];clear u1 u2 ha hb hi;generalize btwI a.lo b.lo i=x at *;generalize btwI a.hi b.hi i=y at *;go_enter Tryz.func218,Tryz.ntmps218
 go_wp2_with fail
 rw[e1,e2];exact bodyPost_ret (by simp[results,Tryz.results218,go_sem,e1,e2]) rfl ⟨rfl,(Kp.new2 _ _ _).alloc (by simp;omega) _⟩
theorem span_alone_any (a:Ar) (w:World) :
  Calls Tryz.prog 219 #[a] w fun e w'=>e=.returned (.tuple #[.agg #[a.x.lo,a.y.lo],.bool a.single])∧Kp w.heap.size none w w':=by
 obtain⟨s,hs⟩:∃ q9,Hid (q9=a.single):=⟨_,Lib.hid rfl⟩;rw[← hs.out];have hd:s=decide (a.x.lo=a.x.hi∧a.y.lo=a.y.hi):=hs.out;clear hs;obtain⟨w1,hw1,A,R,K,hz⟩:=box2 w 167 a 73 #[(0:Int),(0:Int)];go_enter Tryz.func219,Tryz.ntmps219
 go_wp2_with fail
 rw[← hw1];clear hw1;by_cases h:a.x.lo=a.x.hi
 ·
  by_cases h2:a.y.lo=a.y.hi
  ·
   have hs:Hid (s=true):=Lib.hid (by rw[hd];simp[h,h2]);have n1:(a.x.lo==a.x.hi)=true:=by simp[h]
   have n2:(a.y.lo==a.y.hi)=true:=by simp[h2]
   clear hd h h2;obtain⟨S,hS0,hS1⟩:=cls_of2 (P:=fun w'=>Blk w' _ _ _∧Kp _ _ _ w') w1 ⟨A,K⟩;try dsimp only at hS0
   have cA:=fun (x:Ev (S 0)) i=>((hS0 _).1 x.h).1.cell i;replace A:=A.drew;replace K:=K.drew;replace R:=R.drew;have hevT:=ev_true;refine wro S [(0,0),(1,0),(2,1),(3,0),(4,0),(5,1),(6,0),(7,0),(8,0),(9,1),(10,0),(11,0),(12,1),(13,0),(14,0),(15,0),(16,0),(17,1),(18,0),(19,0),(20,1),(21,0),(22,0),(23,2),(24,0)] [] ((hS0 _).2 ⟨A,K⟩) ?_;intro _hev;refine oX ?_;refine oL ?_;intro Kc hKc;generalize w1.drew=wd9 at *;have cR:=R.cell;have fR:=R.frozen;go_step;obtain⟨w9,hwn,RB9,kst,hzst⟩:=R.st2 (.int .i64 a.x.lo) (.int .i64 a.y.lo);rw[← hwn];clear hwn cR fR;replace A:=A.kq kst;first|replace K:=K.thenOwn kst (Nat.le_refl _) oM|replace K:=K.then_ kst (Nat.le_refl _)
   replace R:=RB9;clear RB9 kst;simp only[sbt,sc0,scs] at R;refine hKc _ _ ((hS0 _).2 ⟨A,K⟩) ?_;clear hKc Kc;refine oX ?_;refine wpOrd_nil ?_;clear hevT _hev;clear cA hS0 hS1 S;have cR:=R.cell;go_wp2_with fail
   exact bodyPost_ret (v:=.tuple #[.agg #[a.x.lo,a.y.lo],.bool true]) (by simp[results,Tryz.results219,go_sem,cR]) rfl ⟨by rw[hs.out],K⟩
  ·
   have hs:Hid (s=false):=Lib.hid (by rw[hd];simp[h2]);have n1:(a.x.lo==a.x.hi)=true:=by simp[h]
   have n2:(a.y.lo==a.y.hi)=false:=by simp[h2]
   clear hd h h2;obtain⟨S,hS0,hS1⟩:=cls_of2 (P:=fun w'=>Blk w' _ _ _∧Kp _ _ _ w') w1 ⟨A,K⟩;try dsimp only at hS0
   have cA:=fun (x:Ev (S 0)) i=>((hS0 _).1 x.h).1.cell i;replace A:=A.drew;replace K:=K.drew;replace R:=R.drew;have hevT:=ev_true;refine wro S [(0,0),(1,0),(2,1),(3,0),(4,0),(5,1),(6,0),(7,0),(8,0),(9,1),(10,0),(11,0),(12,1),(13,0),(14,0),(15,0),(16,0),(17,1),(18,0),(19,0),(20,1),(21,0),(22,0),(23,2),(24,0)] [] ((hS0 _).2 ⟨A,K⟩) ?_;intro _hev;refine oX ?_;refine oL ?_;intro Kc hKc;generalize w1.drew=wd9 at *;have cR:=R.cell;have fR:=R.frozen;go_step;obtain⟨w9,hwn,RB9,kst,hzst⟩:=R.st2 (.int .i64 a.x.lo) (.int .i64 a.y.lo);rw[← hwn];clear hwn cR fR;replace A:=A.kq kst;first|replace K:=K.thenOwn kst (Nat.le_refl _) oM|replace K:=K.then_ kst (Nat.le_refl _)
   replace R:=RB9;clear RB9 kst;simp only[sbt,sc0,scs] at R;refine hKc _ _ ((hS0 _).2 ⟨A,K⟩) ?_;clear hKc Kc;refine oX ?_;refine wpOrd_nil ?_;clear hevT _hev;clear cA hS0 hS1 S;have cR:=R.cell;go_wp2_with fail
   exact bodyPost_ret (v:=.tuple #[.agg #[a.x.lo,a.y.lo],.bool false]) (by simp[results,Tryz.results219,go_sem,cR]) rfl ⟨by rw[hs.out],K⟩
 ·
  have hs:Hid (s=false):=Lib.hid (by rw[hd];simp[h]);have n1:(a.x.lo==a.x.hi)=false:=by simp[h]
  clear hd h;obtain⟨S,hS0,hS1⟩:=cls_of2 (P:=fun w'=>Blk w' _ _ _∧Kp _ _ _ w') w1 ⟨A,K⟩;try dsimp only at hS0
  have cA:=fun (x:Ev (S 0)) i=>((hS0 _).1 x.h).1.cell i;replace A:=A.drew;replace K:=K.drew;replace R:=R.drew;have hevT:=ev_true;refine wro S [(0,0),(1,0),(2,1),(3,0),(4,0),(5,1),(6,0),(7,0),(8,0),(9,1),(10,0),(11,0),(12,1),(13,0),(14,0),(15,0),(16,0),(17,1),(18,0),(19,0),(20,1),(21,0),(22,0),(23,2),(24,0)] [] ((hS0 _).2 ⟨A,K⟩) ?_;intro _hev;refine oY ?_;iterate 7 (refine oZ ?_)
  refine oY ?_;refine oL ?_;intro Kc hKc;generalize w1.drew=wd9 at *;have cR:=R.cell;have fR:=R.frozen;go_step;obtain⟨w9,hwn,RB9,kst,hzst⟩:=R.st2 (.int .i64 a.x.lo) (.int .i64 a.y.lo);rw[← hwn];clear hwn cR fR;replace A:=A.kq kst;first|replace K:=K.thenOwn kst (Nat.le_refl _) oM|replace K:=K.then_ kst (Nat.le_refl _)
  replace R:=RB9;clear RB9 kst;simp only[sbt,sc0,scs] at R;refine hKc _ _ ((hS0 _).2 ⟨A,K⟩) ?_;clear hKc Kc;refine oX ?_;refine wpOrd_nil ?_;clear hevT _hev;clear cA hS0 hS1 S;have cR:=R.cell;go_wp2_with fail
  exact bodyPost_ret (v:=.tuple #[.agg #[a.x.lo,a.y.lo],.bool false]) (by simp[results,Tryz.results219,go_sem,cR]) rfl ⟨by rw[hs.out],K⟩
theorem span_Within_any (p q:Pt) (r:Int) (hp:Fr p) (hq:Fr q) (h0:0≤r) (h1:r≤268435456) (w:World) :
  Calls Tryz.prog 98 #[.agg #[p.x,p.y],.agg #[q.x,q.y],r] w fun e w'=>e=.returned (.bool (decide (comesP p q r)))∧Kp w.heap.size none w w':=by
 have cc:=fun w=>span_comes_any p q r hp hq h0 h1 w;have ca:∀ b T w,Blk w b T #[p.x,p.y,q.x,q.y]→Calls Tryz.prog 73 #[r,.slice (some ⟨b,0,none⟩) 2 2] w fun e w'=>e=.returned (.bool true)∧Kp w.heap.size none w w':=fun b T w h=>span_asks_any (some ⟨b,0,none⟩) 2 r [p,q] w (rd_pt2 h) (by simp) (by simp[hp,hq]) h0 h1;generalize decide (comesP p q r)=x at *;clear hp hq h0 h1;obtain⟨w1,hw1,P,Q,K,hz⟩:=box2 w 73 #[p.x,p.y] 73 #[q.x,q.y];go_enter Tryz.func98,Tryz.ntmps98
 go_wp2_with fail
 rw[← hw1];clear hw1;have k1:=Kp.new1 w1 (.cells (#[.int .i64 p.x,.int .i64 p.y]++#[.int .i64 q.x,.int .i64 q.y]) 73);refine mK (ca _ 73 _ (Blk.newAt w1 _ _ oM)) fun w2 k=>?_;replace P:=(P.kpN k1).kpN k;replace Q:=(Q.kpN k1).kpN k;replace K:=(K.thenN k1 oM).thenN k (by simp);clear k k1;have cP:=P.cell;have fP:=P.frozen;have cQ:=Q.cell;have fQ:=Q.frozen;go_wp2_with fail
 refine mK (cc _) fun w4 k=>?_;clear cP fP cQ fQ;replace P:=P.kpN k;replace Q:=Q.kpN k;replace K:=K.thenN k oM;have hzk:=k.size;clear k;go_wp2
 go_ret
 exact⟨rfl,K⟩
theorem meet_valid_any (A:Option Addr) (c:Nat) (W:Wd) (t:Int) (w:World) (hW:W.ok) (hA:WdAt none w A W) (ht:0≤t∧t≤1073741823) :
  Calls Tryz.prog 97 #[.agg #[.slice A W.bs.length c,W.home],t] w fun e w'=>e=.returned (.bool true)∧Kp w.heap.size none w w':=by
 have cw:=fun w h=>sky_CheckWorld_any A c W w hW h;have ct:=fun w=>meet_within_any t 0 1073741823 w;rw[btw_t ht.1 ht.2] at ct;obtain⟨w1,hw1,D,K,hz⟩:=box1 w 27 #[.slice A W.bs.length c,W.home];go_enter Tryz.func97,Tryz.ntmps97
 go_wp2_with fail
 rw[← hw1];clear hw1;refine mK (cw _ (hA.kpN K)) fun w2 k=>?_;replace D:=D.kpN k;replace K:=K.thenN k oM;have hzk:=k.size;clear k;have cD:=D.cell;have fD:=D.frozen;go_wp2_with fail
 refine mK (ct _) fun w3 k=>?_;clear cD fD;replace D:=D.kpN k;replace K:=K.thenN k oM;have hzk:=k.size;clear k;go_wp2
 go_ret
 exact⟨rfl,K⟩
theorem meet_place_any (s:St) (w:World) :
  Calls Tryz.prog 100 #[s] w fun e w'=>e=.returned (.agg #[s.x,s.y])∧Kp w.heap.size none w w':=by
 go_enter Tryz.func100,Tryz.ntmps100
 go_wp2_with fail
 exact bodyPost_ret (by simp[results,Tryz.results100,go_sem]) rfl ⟨rfl,Kp.new2 _ _ _⟩
theorem meet_less_any (s:Sp) (n:Int) (e1:wrap64 (s.lo-n)=s.lo-n) (e2:wrap64 (s.hi-n)=s.hi-n) (w:World) :
  Calls Tryz.prog 175 #[s,n] w fun e w'=>e=.returned (.agg #[.int .i64 (s.lo-n),.int .i64 (s.hi-n)])∧Kp w.heap.size none w w':=by
 go_enter Tryz.func175,Tryz.ntmps175
 go_wp2_with fail
 exact bodyPost_ret (by simp[results,Tryz.results175,go_sem,e1,e2]) rfl ⟨rfl,Kp.new2 _ _ _⟩
theorem Wd.hp_eq {W:Wd} (h:W.home<W.bs.length) (t:Int):W.bs[W.home].at t=W.hp t:=by unfold Wd.hp;rw[Wd.hb_eq h]
theorem meet_from_any (A:Option Addr) (c:Nat) (W:Wd) (t:Int) (x y:Int) (w:World) (hW:W.ok) (hA:WdAt none w A W) (ht:0≤t∧t≤1073741824) (hx:-33554432≤x∧x≤33554432) (hy:-33554432≤y∧y≤33554432) :
  Calls Tryz.prog 99 #[.agg #[.slice A W.bs.length c,W.home],t,.agg #[x,y]] w fun e w'=>e=.returned (.agg #[.int .i64 (x-(W.hp t).x),.int .i64 (y-(W.hp t).y)])∧Kp w.heap.size none w w':=by
 have ca:=fun w h=>sky_At_any A c W W.home t w hW h hW.home ht;rw[Wd.hp_eq hW.home] at ca;have hb:=hW.hp t;generalize W.hp t=h at *;have e1:wrap64 (x-h.x)=x-h.x:=by unfold wrap64;omega
 have e2:wrap64 (y-h.y)=y-h.y:=by unfold wrap64;omega
 clear hW ht hb hx hy;obtain⟨w1,hw1,D,P,R,K,hz⟩:=box3 w 27 #[.slice A W.bs.length c,W.home] 73 #[x,y] 73 #[(0:Int),(0:Int)];go_enter Tryz.func99,Tryz.ntmps99
 go_wp2_with fail
 rw[← hw1];clear hw1;refine mK (ca _ (hA.kpN K)) fun w2 k=>?_;replace D:=D.kpN k;replace P:=P.kpN k;replace R:=R.kpN k;replace K:=K.thenN k oM;have hzk:=k.size;clear k;have pP:=P.cell;have pR:=R.cell;obtain⟨w9_,rfl,H,k9_,hzn⟩:=box1 w2 73 #[h.x,h.y];replace P:=P.kpN k9_;replace R:=R.kpN k9_;replace K:=K.thenN k9_ oU;clear k9_;have cP:=P.cell;have fP:=P.frozen;have cR:=R.cell;have fR:=R.frozen;go_wp2_with fail
 clear cP fP pP cR fR pR;generalize (w2.alloc (.cells #[h.x,h.y] 73))=w3 at *;obtain⟨q,hx⟩:∃ q9,q9=w2.heap.size:=⟨_,rfl⟩;rw[← hx] at H ⊢;replace hx:=Lib.hid hx;have BR:=((R.set_ 0 (.int .i64 (x-h.x))).set_ 1 (.int .i64 (y-h.y)));have cR:=BR.cell;exact bodyPost_ret (by simp[results,Tryz.results99,go_sem,cR]) rfl ⟨rfl,((K.setNew (by simp<;>omega) _).setNew (by simp<;>omega) _)⟩
theorem meet_radius_any (A:Option Addr) (c:Nat) (W:Wd) (w:World) (hW:W.ok) (hA:WdAt none w A W) :
  Calls Tryz.prog 51 #[.agg #[.slice A W.bs.length c,W.home]] w fun e w'=>e=.returned (.int .i64 W.rad)∧Kp w.heap.size none w w':=by
 have hh:=hW.home;have er:W.rad=W.bs[W.home].rad:=by unfold Wd.rad;rw[Wd.hb_eq hh]
 rw[er];have h0:(0:Int)≤(W.home:Int):=by omega
 have h1:(W.home:Int)<(W.bs.length:Int):=by omega
 obtain⟨w1,hw1,D,K,hz⟩:=box1 w 27 #[.slice A W.bs.length c,W.home];obtain⟨b,o,B,cc,rfl,hlt,e0,e1,e2,hr⟩:=hA.body W.home hh;generalize W.bs[W.home]=x at *;clear hr e0 e2 hh hA hW hw1 D K;have e3:=(Kp.new1 w (.cells #[.slice (some ⟨b,o,none⟩) W.bs.length c,W.home] 27)).cell b (o+W.home * 3+1) hlt (by simp);have e3:=e3.trans e1;go_enter Tryz.func51,Tryz.ntmps51
 go_wp2
 go_ret
 exact⟨rfl,Kp.new1 _ _⟩
theorem meet_area_any (A:Option Addr) (c:Nat) (W:Wd) (t:Int) (b:Bx) (w:World) (hW:W.ok) (hA:WdAt none w A W) (ht:0≤t∧t≤1073741824) (hb:okBx b=true) :
  Calls Tryz.prog 147 #[.agg #[.slice A W.bs.length c,W.home],t,b] w fun e w'=>e=.returned (.agg #[(relA W t b).x.lo,(relA W t b).x.hi,(relA W t b).y.lo,(relA W t b).y.hi])∧Kp w.heap.size none w w':=by
 have ca:=fun w h=>sky_At_any A c W W.home t w hW h hW.home ht;rw[Wd.hp_eq hW.home] at ca;have hbd:=hW.hp t;obtain⟨⟨o1,o2,o3,o4⟩,b1,b2,b3,b4,b5,b6,b7,b8⟩:=(okBx_iff b).1 hb;have er:relA W t b=⟨⟨b.x.lo-(W.hp t).x,b.x.hi-(W.hp t).x⟩,⟨b.y.lo-(W.hp t).y,b.y.hi-(W.hp t).y⟩⟩:=rfl;rw[er];clear er;generalize W.hp t=h at *;have c1:=fun w=>meet_less_any b.x h.x (by unfold wrap64;omega) (by unfold wrap64;omega) w;have c2:=fun w=>meet_less_any b.y h.y (by unfold wrap64;omega) (by unfold wrap64;omega) w;clear hW ht hb hbd o1 o2 o3 o4 b1 b2 b3 b4 b5 b6 b7 b8;obtain⟨w1,hw1,D,B,R,K,hz⟩:=box3 w 27 #[.slice A W.bs.length c,W.home] 33 b 167 #[(0:Int),(0:Int),(0:Int),(0:Int)];go_enter Tryz.func147,Tryz.ntmps147
 go_wp2_with fail
 rw[← hw1];clear hw1;refine mK (ca _ (hA.kpN K)) fun w2 k=>?_;replace D:=D.kpN k;replace B:=B.kpN k;replace R:=R.kpN k;replace K:=K.thenN k oM;have hzk:=k.size;clear k;have pB:=B.cell;have pR:=R.cell;obtain⟨w9_,rfl,H,k9_,hzn⟩:=box1 w2 73 #[h.x,h.y];replace B:=B.kpN k9_;replace R:=R.kpN k9_;replace K:=K.thenN k9_ oU;clear k9_;have cB:=B.cell;have fB:=B.frozen;have cR:=R.cell;have fR:=R.frozen;go_wp2_with fail
 clear cB fB pB cR fR pR;generalize (w2.alloc (.cells #[h.x,h.y] 73))=w3 at *;obtain⟨q,hx⟩:∃ q9,q9=w2.heap.size:=⟨_,rfl⟩;rw[← hx] at H ⊢;replace hx:=Lib.hid hx;have hxw:w.heap.size+3≤q:=by have:=hx.out;omega
 clear hx hzn hzk hz;obtain⟨S,hS0,hS1⟩:=cls_of2 (P:=fun w'=>Blk w' _ _ _∧Blk w' _ _ _∧Kp _ _ _ w') w3 ⟨B,H,K⟩;try dsimp only at hS0
 have cB:=fun (x:Ev (S 0)) i=>((hS0 _).1 x.h).1.cell i;have cH:=fun (x:Ev (S 0)) i=>((hS0 _).1 x.h).2.1.cell i;replace B:=B.drew;replace H:=H.drew;replace K:=K.drew;replace R:=R.drew;have hevT:=ev_true;refine wro S [(0,0),(1,1),(2,0),(3,1),(5,0),(6,1),(7,0),(8,1),(4,2),(9,2),(10,0),(11,3)] [11] ((hS0 _).2 ⟨B,H,K⟩) ?_;intro _hev;refine oX ?_;refine oL ?_;intro Kc hKc;generalize w3.drew=wd9 at *;go_step;refine mK (c1 _) fun w4 k=>?_;replace B:=B.kpN k;replace H:=H.kpN k;replace R:=R.kpN k;replace K:=K.tN k;clear k;refine hKc _ _ ((hS0 _).2 ⟨B,H,K⟩) ?_;clear hKc Kc;refine oL ?_;intro Kc hKc;go_step;refine mK (c2 _) fun w5 k=>?_;replace B:=B.kpN k;replace H:=H.kpN k;replace R:=R.kpN k;replace K:=K.tN k;clear k;refine hKc _ _ ((hS0 _).2 ⟨B,H,K⟩) ?_;clear hKc Kc;refine oX ?_;refine oA ?_;intro Kc hKc;have cR:=R.cell;have fR:=R.frozen;go_step;obtain⟨w9,hwn,RB9,kst,hzst⟩:=R.st4 (.int .i64 (b.x.lo-h.x)) (.int .i64 (b.x.hi-h.x)) (.int .i64 (b.y.lo-h.y)) (.int .i64 (b.y.hi-h.y));rw[← hwn];clear hwn cR fR;refine hKc _ _ ((hS1 _).2 trivial) ?_;clear hKc Kc;replace B:=B.kq kst;replace H:=H.kq kst;first|replace K:=K.thenOwn kst (Nat.le_refl _) oM|replace K:=K.then_ kst (Nat.le_refl _)
 replace R:=RB9;clear RB9 kst;simp only[sbt,sc0,scs] at R;change wpOrd _ _ _ _ _ 1 _ _;refine wpOrd_nil ?_;clear hevT _hev;clear cB cH hS0 hS1 S;have cR:=R.cell;go_wp2_with fail
 exact bodyPost_ret (by simp[results,Tryz.results147,go_sem,cR]) rfl ⟨rfl,K⟩
theorem relA_bd {W:Wd} {t:Int} {b:Bx} (hW:W.ok) (hb:okBx b=true):(relA W t b).bd 33558432:=by
 have hbd:=hW.hp t;obtain⟨⟨o1,o2,o3,o4⟩,b1,b2,b3,b4,b5,b6,b7,b8⟩:=(okBx_iff b).1 hb;unfold relA Ar.bd Sp.bd;simp only;omega
theorem relP_fr {W:Wd} {t:Int} {s:St} (hW:W.ok) (hs:okSt s=true):Fr (relP W t s):=by
 have hbd:=hW.hp t;have:=okSt_near hs;unfold NearS at this;unfold Fr Fr1 relP;simp only;omega
theorem Wd.ok.rad_bd {W:Wd} (h:W.ok):0≤W.rad∧W.rad≤60:=⟨(h.body _ h.hb).rad0,(h.body _ h.hb).rad1⟩
theorem meet_Within_any (A:Option Addr) (c:Nat) (W:Wd) (t:Int) (s m:St) (r:Int) (w:World) (hW:W.ok) (hA:WdAt none w A W) (ht:0≤t∧t≤1073741823) (hs:okSt s=true) (hm:okSt m=true) (h0:0≤r) (h1:r≤268435456) :
  Calls Tryz.prog 50 #[.agg #[.slice A W.bs.length c,W.home],t,s,m,r] w fun e w'=>e=.returned (.bool (decide (comesP (relP W t s) (relP W (t+1) m) r)))∧Kp w.heap.size none w w':=by
 have n1:=okSt_near hs;have n2:=okSt_near hm;have f1:=relP_fr (t:=t) hW hs;have f2:=relP_fr (t:=t+1) hW hm;have cv:=fun w h=>meet_valid_any A c W t w hW h ht;have cs:=fun w=>orbit_CheckState_any s w;have cm:=fun w=>orbit_CheckState_any m w;rw[errSt_eq hs] at cs;rw[errSt_eq hm] at cm;have p1:=fun w=>meet_place_any s w;have p2:=fun w=>meet_place_any m w;unfold NearS at n1 n2;have q1:=fun w h=>meet_from_any A c W t s.x s.y w hW h ⟨ht.1,by omega⟩ oM oM;have q2:=fun w h=>meet_from_any A c W (t+1) m.x m.y w hW h ⟨by omega,by omega⟩ oM oM;have cW:=fun w=>span_Within_any (relP W t s) (relP W (t+1) m) r f1 f2 h0 h1 w;have et:wrap64 (t+1)=t+1:=by unfold wrap64;omega
 generalize decide (comesP (relP W t s) (relP W (t+1) m) r)=x at *;simp only[relP] at cW;clear hW ht hs hm h0 h1 n1 n2 f1 f2;generalize W.hp t=g1 at *;generalize W.hp (t+1)=g2 at *;obtain⟨w1,hw1,D,Y,Z,K,hz⟩:=box3 w 27 #[.slice A W.bs.length c,W.home] 55 s 55 m;go_enter Tryz.func50,Tryz.ntmps50
 go_wp2_with fail
 rw[← hw1];clear hw1;refine mK (cv _ (hA.kpN K)) fun w2 k=>?_;replace D:=D.kpN k;replace Y:=Y.kpN k;replace Z:=Z.kpN k;replace K:=K.thenN k oM;have hzk:=k.size;clear k;have cD:=D.cell;have fD:=D.frozen;have cY:=Y.cell;have fY:=Y.frozen;have cZ:=Z.cell;have fZ:=Z.frozen;go_wp2_with fail
 refine mK (cs _) fun w3 k=>?_;clear cD fD cY fY cZ fZ;replace D:=D.kpN k;replace Y:=Y.kpN k;replace Z:=Z.kpN k;replace K:=K.thenN k oM;have hzk:=k.size;clear k;have cD:=D.cell;have fD:=D.frozen;have cY:=Y.cell;have fY:=Y.frozen;have cZ:=Z.cell;have fZ:=Z.frozen;go_wp2_with fail
 refine mK (cm _) fun w4 k=>?_;clear cD fD cY fY cZ fZ;replace D:=D.kpN k;replace Y:=Y.kpN k;replace Z:=Z.kpN k;replace K:=K.thenN k oM;have hzk:=k.size;clear k;have cD:=D.cell;have fD:=D.frozen;have cY:=Y.cell;have fY:=Y.frozen;have cZ:=Z.cell;have fZ:=Z.frozen;go_wp2_with fail
 clear cD fD cY fY cZ fZ;obtain⟨S,hS0,hS1⟩:=cls_of2 (P:=fun w'=>Blk w' _ _ _∧Blk w' _ _ _∧Blk w' _ _ _∧Kp _ _ _ w') w4 ⟨D,Y,Z,K⟩;try dsimp only at hS0
 have cD:=fun (x:Ev (S 0)) i=>((hS0 _).1 x.h).1.cell i;have cY:=fun (x:Ev (S 0)) i=>((hS0 _).1 x.h).2.1.cell i;have cZ:=fun (x:Ev (S 0)) i=>((hS0 _).1 x.h).2.2.1.cell i;replace D:=D.drew;replace Y:=Y.drew;replace Z:=Z.drew;replace K:=K.drew;have hevT:=ev_true;refine wro S [(0,1),(1,0),(2,1),(5,1),(6,0),(7,0),(8,1),(11,0),(3,2),(4,2),(9,2),(10,2),(12,2),(13,0)] [] ((hS0 _).2 ⟨D,Y,Z,K⟩) ?_;intro _hev;refine oX ?_;refine oL ?_;intro Kc hKc;generalize w4.drew=wd9 at *;go_step;refine mK (p1 _) fun w5 k=>?_;replace D:=D.kpN k;replace Y:=Y.kpN k;replace Z:=Z.kpN k;replace K:=K.tN k;clear k;refine hKc _ _ ((hS0 _).2 ⟨D,Y,Z,K⟩) ?_;clear hKc Kc;refine oL ?_;intro Kc hKc;go_step;refine mK (q1 _ (hA.kpN K)) fun w6 k=>?_;replace D:=D.kpN k;replace Y:=Y.kpN k;replace Z:=Z.kpN k;replace K:=K.tN k;clear k;refine hKc _ _ ((hS0 _).2 ⟨D,Y,Z,K⟩) ?_;clear hKc Kc;refine oL ?_;intro Kc hKc;go_step;refine mK (p2 _) fun w7 k=>?_;replace D:=D.kpN k;replace Y:=Y.kpN k;replace Z:=Z.kpN k;replace K:=K.tN k;clear k;refine hKc _ _ ((hS0 _).2 ⟨D,Y,Z,K⟩) ?_;clear hKc Kc;refine oL ?_;intro Kc hKc;go_step;refine mK (q2 _ (hA.kpN K)) fun w8 k=>?_;replace D:=D.kpN k;replace Y:=Y.kpN k;replace Z:=Z.kpN k;replace K:=K.tN k;clear k;refine hKc _ _ ((hS0 _).2 ⟨D,Y,Z,K⟩) ?_;clear hKc Kc;refine oL ?_;intro Kc hKc;go_step;refine mK (cW _) fun w10 k=>?_;replace D:=D.kpN k;replace Y:=Y.kpN k;replace Z:=Z.kpN k;replace K:=K.tN k;clear k;refine hKc _ _ ((hS0 _).2 ⟨D,Y,Z,K⟩) ?_;clear hKc Kc;refine oX ?_;refine wpOrd_nil ?_;clear hevT _hev;clear cD cY cZ hS0 hS1 S;go_wp2
 go_ret
 exact⟨rfl,K⟩
end Go.Proofs.YtdhiappifnflpaaGreat
