/- A place and the areas of a passage: the walks of meet, eighth part: Relative, Areas, May. A body that comes down, in plain Lean: what steps leave, the aim, the cells. No program here. Orbits: the walks of orbit, Propagate. The statement's own means: cellOf, sole, InsideSpan. Hit of any list of states: the walks of meet, ninth part. -/
import Derived.Test.YtdhiappifnflpaaGreatDoorM28
import Derived.Test.YtdhiappifnflpaaGreatDoorM31
import Derived.Test.YtdhiappifnflpaaGreatDoorM24
import Derived.Test.YtdhiappifnflpaaGreatDoorM35
import Derived.Test.YtdhiappifnflpaaGreatDoorM25
import Derived.Test.YtdhiappifnflpaaGreatDoorM27
import Derived.Test.YtdhiappifnflpaaGreatDoorM33
set_option maxRecDepth 100000
set_option maxHeartbeats 4000000
namespace Go.Proofs.YtdhiappifnflpaaGreatDoor
open Go.RowKit
theorem okBx_err {b:Bx} (h:okBx b=true):errBx b=0:=by unfold errBx;rw[if_pos h]
theorem meet_Relative_any (A:Option Addr) (c:Nat) (W:Wd) (t:Int) (s:St) (w:World) (hW:W.ok) (hA:WdAt none w A W) (ht:0≤t∧t≤1073741824) (hs:okSt s=true) :
  Calls Tryz.prog 9 #[.agg #[.slice A W.bs.length c,W.home],t,.agg #[s.x,s.y]] w fun e w'=>e=.returned (.tuple #[.agg #[(relP W t s).x,(relP W t s).y],.bool true])∧Kp w.heap.size none w w':=by
 have cw:=fun w h=>sky_CheckWorld_any A c W w hW h;have ct:=fun w=>meet_within_any t 0 1073741824 w;rw[btw_t oM oM] at ct;have hn:=okSt_near hs;unfold NearS at hn;have cs:=fun w=>orbit_CheckState_any ⟨s.x,s.y,0,0⟩ w;rw[errSt_eq (s:=⟨s.x,s.y,0,0⟩) (by unfold okSt;simp only[decide_eq_true_eq];omega)] at cs;dsimp only at cs;have cf:=fun w h=>meet_from_any A c W t s.x s.y w hW h ht oM oM;have ep:Hid (relP W t s=⟨s.x-(W.hp t).x,s.y-(W.hp t).y⟩):=Lib.hid rfl;rw[ep.out];clear hn hs hW ht;generalize s.x-(W.hp t).x=rx at *;generalize s.y-(W.hp t).y=ry at *;obtain⟨w1,hw1,D,P,R,K,hz⟩:=box3 w 27 #[.slice A W.bs.length c,W.home] 45 #[s.x,s.y] 45 #[(0:Int),(0:Int)];go_enter Tryz.func9,Tryz.ntmps9
 go_wp2_with fail
 rw[← hw1];clear hw1;refine mK (cw _ (hA.kpN K)) fun w2 k=>?_;replace D:=D.kpN k;replace P:=P.kpN k;replace R:=R.kpN k;replace K:=K.thenN k oM;have hzk:=k.size;clear k;have cD:=D.cell;have fD:=D.frozen;have cP:=P.cell;have fP:=P.frozen;have cR:=R.cell;have fR:=R.frozen;go_wp2_with fail
 refine mK (ct _) fun w3 k=>?_;clear cD fD cP fP cR fR;replace D:=D.kpN k;replace P:=P.kpN k;replace R:=R.kpN k;replace K:=K.thenN k oM;have hzk:=k.size;clear k;have cD:=D.cell;have fD:=D.frozen;have cP:=P.cell;have fP:=P.frozen;have cR:=R.cell;have fR:=R.frozen;go_wp2_with fail
 refine mK (cs _) fun w4 k=>?_;clear cD fD cP fP cR fR;replace D:=D.kpN k;replace P:=P.kpN k;replace R:=R.kpN k;replace K:=K.thenN k oM;have hzk:=k.size;clear k;have cD:=D.cell;have fD:=D.frozen;have cP:=P.cell;have fP:=P.frozen;have cR:=R.cell;have fR:=R.frozen;go_wp2_with fail
 refine mK (cf _ (hA.kpN K)) fun w5 k=>?_;clear cD fD cP fP cR fR;replace D:=D.kpN k;replace P:=P.kpN k;replace R:=R.kpN k;replace K:=K.thenN k oM;have hzk:=k.size;clear k;have cR:=R.cell;have fR:=R.frozen;go_wp2_with fail
 clear cR fR;have BR:=((R.set_ 0 (.int .i64 rx)).set_ 1 (.int .i64 ry));have cR:=BR.cell;exact bodyPost_ret (by simp[results,Tryz.results9,go_sem,cR]) rfl ⟨rfl,((K.setNew (by simp<;>omega) _).setNew (by simp<;>omega) _)⟩
theorem meet_Areas_any (A:Option Addr) (c:Nat) (W:Wd) (t:Int) (x y:Bx) (w:World) (hW:W.ok) (hA:WdAt none w A W) (ht:0≤t∧t≤1073741823) (hx:okBx x=true) (hy:okBx y=true) :
  Calls Tryz.prog 13 #[.agg #[.slice A W.bs.length c,W.home],t,x,y] w fun e w'=>e=.returned (.tuple #[.agg #[(relA W t x).x.lo,(relA W t x).x.hi,(relA W t x).y.lo,(relA W t x).y.hi],.agg #[.int .i64 (relA W (t+1) y).x.lo,.int .i64 (relA W (t+1) y).x.hi,.int .i64 (relA W (t+1) y).y.lo,.int .i64 (relA W (t+1) y).y.hi],.bool true])∧Kp w.heap.size none w w':=by
 have cv:=fun w h=>meet_valid_any A c W t w hW h ht;have c1:=fun w=>orbit_Check_any x w;have c2:=fun w=>orbit_Check_any y w;rw[okBx_err hx] at c1;rw[okBx_err hy] at c2;have a1:=fun w h=>meet_area_any A c W t x w hW h oM hx;have a2:=fun w h=>meet_area_any A c W (t+1) y w hW h oM hy;have e1:wrap64 (t+1)=t+1:=by unfold wrap64;omega
 generalize relA W t x=u at *;generalize relA W (t+1) y=v at *;clear hx hy hW ht;obtain⟨w1,hw1,D,X,Y,R,Q,K,hz⟩:=box5 w 27 #[.slice A W.bs.length c,W.home] 33 x 33 y 53 #[(0:Int),(0:Int),(0:Int),(0:Int)] 53 #[(0:Int),(0:Int),(0:Int),(0:Int)];go_enter Tryz.func13,Tryz.ntmps13
 go_wp2_with fail
 rw[← hw1];clear hw1;refine mK (cv _ (hA.kpN K)) fun w2 k=>?_;replace D:=D.kpN k;replace X:=X.kpN k;replace Y:=Y.kpN k;replace R:=R.kpN k;replace Q:=Q.kpN k;replace K:=K.thenN k oM;have hzk:=k.size;clear k;have cD:=D.cell;have fD:=D.frozen;have cX:=X.cell;have fX:=X.frozen;have cY:=Y.cell;have fY:=Y.frozen;have cR:=R.cell;have fR:=R.frozen;have cQ:=Q.cell;have fQ:=Q.frozen;go_wp2_with fail
 refine mK (c1 _) fun w3 k=>?_;clear cD fD cX fX cY fY cR fR cQ fQ;replace D:=D.kpN k;replace X:=X.kpN k;replace Y:=Y.kpN k;replace R:=R.kpN k;replace Q:=Q.kpN k;replace K:=K.thenN k oM;have hzk:=k.size;clear k;have cD:=D.cell;have fD:=D.frozen;have cX:=X.cell;have fX:=X.frozen;have cY:=Y.cell;have fY:=Y.frozen;have cR:=R.cell;have fR:=R.frozen;have cQ:=Q.cell;have fQ:=Q.frozen;go_wp2_with fail
 refine mK (c2 _) fun w4 k=>?_;clear cD fD cX fX cY fY cR fR cQ fQ;replace D:=D.kpN k;replace X:=X.kpN k;replace Y:=Y.kpN k;replace R:=R.kpN k;replace Q:=Q.kpN k;replace K:=K.thenN k oM;have hzk:=k.size;clear k;clear cv c1 c2 hzk;go_wp2_with fail
 obtain⟨S,hS0,hS1⟩:=cls_of2 (P:=fun w'=>Blk w' _ _ _∧Blk w' _ _ _∧Blk w' _ _ _∧Kp _ _ _ w') w4 ⟨D,X,Y,K⟩;try dsimp only at hS0
 have cD:=fun (x:Ev (S 0)) i=>((hS0 _).1 x.h).1.cell i;have cX:=fun (x:Ev (S 0)) i=>((hS0 _).1 x.h).2.1.cell i;have cY:=fun (x:Ev (S 0)) i=>((hS0 _).1 x.h).2.2.1.cell i;replace D:=D.drew;replace X:=X.drew;replace Y:=Y.drew;replace K:=K.drew;replace Q:=Q.drew;replace R:=R.drew;have hevT:=ev_true;refine wro S [(0,1),(1,0),(2,1),(4,1),(5,0),(6,0),(7,1),(3,2),(8,2),(9,2),(10,2),(11,0)] [] ((hS0 _).2 ⟨D,X,Y,K⟩) ?_;intro _hev;refine oX ?_;refine oL ?_;intro Kc hKc;generalize w4.drew=wd9 at *;go_step;refine mK (a1 _ (hA.kpN K)) fun w5 k=>?_;replace D:=D.kpN k;replace X:=X.kpN k;replace Y:=Y.kpN k;replace Q:=Q.kpN k;replace R:=R.kpN k;replace K:=K.tN k;clear k;refine hKc _ _ ((hS0 _).2 ⟨D,X,Y,K⟩) ?_;clear hKc Kc;refine oL ?_;intro Kc hKc;go_step;refine mK (a2 _ (hA.kpN K)) fun w6 k=>?_;replace D:=D.kpN k;replace X:=X.kpN k;replace Y:=Y.kpN k;replace Q:=Q.kpN k;replace R:=R.kpN k;replace K:=K.tN k;clear k;refine hKc _ _ ((hS0 _).2 ⟨D,X,Y,K⟩) ?_;clear hKc Kc;refine oL ?_;intro Kc hKc;have cS9:=R.cell;have fS9:=R.frozen;go_step;obtain⟨w7,hwn,RB9,kst,hzst⟩:=R.st4 (.int .i64 u.x.lo) (.int .i64 u.x.hi) (.int .i64 u.y.lo) (.int .i64 u.y.hi);rw[← hwn];clear hwn cS9 fS9;replace D:=D.kq kst;replace X:=X.kq kst;replace Y:=Y.kq kst;replace Q:=Q.kq kst;replace K:=K.thenOwn kst (Nat.le_refl _) oM;replace R:=RB9;clear RB9 kst hzst;simp only[sbt,sc0,scs] at R;refine hKc _ _ ((hS0 _).2 ⟨D,X,Y,K⟩) ?_;clear hKc Kc;refine oL ?_;intro Kc hKc;have cR:=Q.cell;have fR:=Q.frozen;go_step;obtain⟨w9,hwn,RB9,kst,hzst⟩:=Q.st4 (.int .i64 v.x.lo) (.int .i64 v.x.hi) (.int .i64 v.y.lo) (.int .i64 v.y.hi);rw[← hwn];clear hwn cR fR;replace D:=D.kq kst;replace X:=X.kq kst;replace Y:=Y.kq kst;replace R:=R.kq kst;first|replace K:=K.thenOwn kst (Nat.le_refl _) oM|replace K:=K.then_ kst (Nat.le_refl _)
 replace Q:=RB9;clear RB9 kst;simp only[sbt,sc0,scs] at Q;refine hKc _ _ ((hS0 _).2 ⟨D,X,Y,K⟩) ?_;clear hKc Kc;refine oX ?_;refine wpOrd_nil ?_;clear hevT _hev;clear cD cX cY hS0 hS1 S;have cR:=R.cell;have cQ:=Q.cell;go_wp2_with fail
 exact bodyPost_ret (by simp[results,Tryz.results13,go_sem,cR,cQ]) rfl ⟨rfl,K⟩
theorem meet_May_any (A:Option Addr) (c:Nat) (W:Wd) (t r:Int) (x y:Bx) (w:World) (hW:W.ok) (hA:WdAt none w A W) (ht:0≤t∧t≤1073741823) (hx:okBx x=true) (hy:okBx y=true) (hr:0≤r∧r≤1000) :
  Calls Tryz.prog 14 #[.agg #[.slice A W.bs.length c,W.home],t,x,y,r] w fun e w'=>e=.returned (.bool (!clearA (relA W t x) (relA W (t+1) y) r))∧Kp w.heap.size none w w':=by
 have ca:=fun w h=>meet_Areas_any A c W t x y w hW h ht hx hy;have cc:=fun w=>span_Clear_any (relA W t x) (relA W (t+1) y) r w ((relA_bd hW hx).mono (by decide)) ((relA_bd hW hy).mono (by decide)) hr.1 oM;generalize relA W t x=u at *;generalize relA W (t+1) y=v at *;clear hx hy hW ht hr;generalize clearA u v r=b at *;obtain⟨w1,hw1,D,X,Y,K,hz⟩:=box3 w 27 #[.slice A W.bs.length c,W.home] 33 x 33 y;go_enter Tryz.func14,Tryz.ntmps14
 go_wp2_with fail
 rw[← hw1];clear hw1;refine mK (ca _ (hA.kpN K)) fun w2 k=>?_;replace D:=D.kpN k;replace X:=X.kpN k;replace Y:=Y.kpN k;replace K:=K.thenN k oM;have hzk:=k.size;clear k;clear D X Y;obtain⟨w9_,rfl,U,V,k9_,hzn⟩:=box2 w2 53 #[u.x.lo,u.x.hi,u.y.lo,u.y.hi] 53 #[v.x.lo,v.x.hi,v.y.lo,v.y.hi];replace K:=K.thenN k9_ oU;clear k9_;go_wp2_with fail
 generalize ((w2.alloc (.cells #[u.x.lo,u.x.hi,u.y.lo,u.y.hi] 53)).alloc (.cells #[v.x.lo,v.x.hi,v.y.lo,v.y.hi] 53))=w3 at *;obtain⟨z,hx⟩:∃ q9,q9=w2.heap.size:=⟨_,rfl⟩;rw[← hx] at U V ⊢;replace hx:=Lib.hid hx;have cU:=U.cell;have fU:=U.frozen;have cV:=V.cell;have fV:=V.frozen;go_wp2_with fail
 refine mK (cc _) fun w4 k=>?_;clear cU fU cV fV;replace U:=U.kpN k;replace V:=V.kpN k;replace K:=K.thenN k oM;have hzk:=k.size;clear k;go_wp2_with fail
 go_ret
 exact⟨rfl,K⟩
end Go.Proofs.YtdhiappifnflpaaGreatDoor
namespace Go.Proofs.YtdhiappifnflpaaGreatDoor
def propW (W:Wd) (d:Dr) (t:Int) (l:List Bx):Nat→Option (List Bx)
 | 0=>some l
 | n+1=>match propW W d t l n with
  | some m=>stepAll W d (t+n) m
  | none=>none
section
variable {W:Wd} {d:Dr} {t:Int} {b:Bx} {l:List St}
theorem propW_has (hW:W.ok) (hd:d.ok) (hT:TruthW W d t l) (hb:b.has (nth l 0)) (ob:okBx b=true) :
  ∀ (n:Nat) {m:List Bx},n<l.length→propW W d t [b] n=some m→∃ c,m=[c]∧c.has (nth l n)∧okBx c=true
 | 0,m,_,h=>by
  simp only[propW,Option.some.injEq] at h;exact⟨b,h.symm,hb,ob⟩
 | n+1,m,hn,h=>by
  unfold propW at h;cases q:propW W d t [b] n with
  | none=>rw[q] at h;cases h
  | some m'=>
   rw[q] at h;obtain⟨c,rfl,hc,oc⟩:=propW_has hW hd hT hb ob n (by omega) q;simp only[stepAll] at h;cases e:stepW W d (t+n) c with
   | none=>rw[e] at h;cases h
   | some x=>
    rw[e] at h;simp only[Option.some.injEq] at h;exact⟨x,h.symm,stepW_has hW hd hc (hT.fol hn) e,stepW_ok e⟩
def soleA (p:Pt):Ar:=⟨⟨p.x,p.x⟩,⟨p.y,p.y⟩⟩
theorem soleA_sub {p:Pt} {a:Ar} (h:a.hasP p):(soleA p).sub a:=⟨⟨h.1.1,h.1.2⟩,h.2.1,h.2.2⟩
theorem soleA_ok (p:Pt):(soleA p).ok:=⟨Int.le_refl _,Int.le_refl _⟩
theorem aim_in {W:Wd} {t:Int} {s m:St} {b c:Bx} (hb:b.has s) (hc:c.has m) (h0:(longS (relA W t b) (relA W (t+1) c)).lo≠0) :
  (aimS (soleA (relP W t s)) (soleA (relP W (t+1) m))).sub (aimS (relA W t b) (relA W (t+1) c)):=by
 refine aim_mono (soleA_sub (relA_has hb)) (soleA_sub (relA_has hc)) (soleA_ok _) (soleA_ok _) ?_;have n1:=squareS_nonneg (subS (relA W (t+1) c).x (relA W t b).x);have n2:=squareS_nonneg (subS (relA W (t+1) c).y (relA W t b).y)
 have:0≤(longS (relA W t b) (relA W (t+1) c)).lo:=by
  unfold longS rootsS;simp only;exact(isq_root (show 0≤(addS _ _).lo by unfold addS;simp only;omega)).1
 omega
theorem not_clear {W:Wd} {t:Int} {s m:St} {b c:Bx} (hb:b.has s) (hc:c.has m) (h:hitW W t s m):clearW W t b c=false:=by
 cases q:clearW W t b c with
 | false=>rfl
 | true=>exact absurd h (clearA_sound q (relA_has hb) (relA_has hc))
end
end Go.Proofs.YtdhiappifnflpaaGreatDoor
namespace Go.Proofs.YtdhiappifnflpaaGreatDoor
open Go.RowKit
theorem propW_none {W:Wd} {d:Dr} {t:Int} {l:List Bx} {i:Nat} (h:propW W d t l i=none):∀ {n:Nat},i≤n→propW W d t l n=none
 | 0,hn=>by
  obtain rfl:i=0:=by omega
  exact h
 | n+1,hn=>by
  rcases Nat.lt_or_eq_of_le hn with k|k
  ·
   unfold propW;rw[propW_none h oM]
  · subst k;exact h
def PropPost (W:Wd) (d:Dr) (t:Int) (l:List Bx) (n:Nat) (w:World) (e:Ending) (w':World):Prop:=
 (match propW W d t l n with
  | some m=>∃ A c,e=.returned (.tuple #[.slice A m.length c,(0:Int)])∧Rd none w' 8 encBx A m.length m
  | none=>e=.returned (.tuple #[.slice none 0 0,(14:Int)]))∧Kp w.heap.size none w w'
def PropAt (W:Wd) (d:Dr) (t:Int) (l:List Bx) (n:Nat) (A:Option Addr) (c:Nat) (w:World) (v k:Value) (wr:World):Prop:=
 ∃ (i:Nat) (m:List Bx) (B:Option Addr) (cb:Nat),k=.int .i64 i∧v=.slice B m.length cb∧i≤n∧propW W d t l i=some m∧m.length≤512∧(∀ b∈m,okBx b=true)∧Rd none wr 8 encBx B m.length m ∧
  Blk wr w.heap.size 27 #[.slice A W.bs.length c,W.home]∧Blk wr (w.heap.size+1) 31 d∧Kp w.heap.size none w wr
theorem orbit_Propagate_any (A:Option Addr) (c:Nat) (W:Wd) (d:Dr) (t:Int) (B:Option Addr) (cb:Nat) (l:List Bx) (n:Nat) (w:World) (hW:W.ok) (hA:WdAt none w A W) (hd:d.ok) (ht:0≤t∧t≤1000000) (hr:Rd none w 8 encBx B l.length l) (hl:l.length≤512) (hb:∀ b∈l,okBx b=true) (hn:n≤400) :
  Calls Tryz.prog 12 #[.agg #[.slice A W.bs.length c,W.home],d,t,.slice B l.length cb,n] w (PropPost W d t l n w):=by
 have c1:=fun w h=>orbit_checkWorld_any A c W d w hW h hd;have c2:=fun w h=>orbit_checkWay_any B cb l t n w ht oM h hl hb;have c3:=fun w h=>cloneBox_any B cb l w h oM;have c4:=fun (i:Nat) B cb m w h hr hl hb (hi:i≤400)=>orbit_all_any A c W d (t+i) B cb m w hW h hd oM hr hl hb;obtain⟨w1,hw1,D,F,K,hz⟩:=box2 w 27 #[.slice A W.bs.length c,W.home] 31 d;go_enter Tryz.func12,Tryz.ntmps12
 go_wp2_with fail
 rw[← hw1];clear hw1;refine mK (c1 _ (hA.kpN K)) fun w2 k=>?_;replace D:=D.kpN k;replace F:=F.kpN k;replace K:=K.thenN k oM;have hzk:=k.size;clear k;have cD:=D.cell;have fD:=D.frozen;have cF:=F.cell;have fF:=F.frozen;go_wp2_with fail
 refine mK (c2 _ (hr.kpN K)) fun w3 k=>?_;clear cD fD cF fF;replace D:=D.kpN k;replace F:=F.kpN k;replace K:=K.thenN k oM;have hzk:=k.size;clear k;have hr3:=hr.kpN K;replace hzk:=Lib.hid hzk;go_wp2_with fail
 refine(c3 _ hr3).mono ?_;rintro e w4 ⟨v,rfl,ow,k⟩;replace D:=D.kpN k;replace F:=F.kpN k;replace K:=K.thenN k oM;clear k hr3 hr c1 c2 c3;obtain⟨B2,cb2,rfl,hr2,-⟩:=ow.rd (row:=none) (fun _=>rfl) (fun b hb=>by simp);clear ow;go_wp2_with fail
 go_loopw [14,34] (fun v k wr=>PropAt W d t l n A c w v k wr) (fun _ k _=>n-(intOf k).toNat)
 case atStart=>exact⟨0,l,B2,cb2,rfl,rfl,Nat.zero_le _,rfl,hl,hb,hr2,D,F,K⟩
 case round=>
  clear D F K hr2 hl hb hzk;obtain⟨i,m,B3,cb3,rfl,rfl,hi,hp,hl,hb,hr,D,F,K⟩:=hrel;have e1:wrap64 (t+(i:Int))=t+(i:Int):=by unfold wrap64;omega
  by_cases h:i<n
  ·
   have h1:(i:Int)<(n:Int):=by omega
   have hs:propW W d t l (i+1)=stepAll W d (t+i) m:=by unfold propW;rw[hp]
   replace hs:=Lib.hid hs;replace hp:=Lib.hid hp;have ca:=c4 i B3 cb3 m;have hh:=Lib.hid (And.intro hl hb);have hi4:i≤400:=by omega
   clear c4 hb hl;replace hi:=Lib.hid hi;replace h:=Lib.hid h;have cD:=D.cell;have fD:=D.frozen;have cF:=F.cell;have fF:=F.frozen;go_wp2_with fail
   clear cD fD cF fF;refine(ca _ (hA.kpN K) hr hh.out.1 hh.out.2 hi4).mono ?_;rintro e w5 ⟨hq,k⟩;clear ca;replace D:=D.kpN k;replace F:=F.kpN k;replace K:=K.thenN k oM;clear k hr;cases q:stepAll W d (t+(i:Int)) m with
   | none=>
    rw[q] at hq;dsimp only at hq;subst hq;have hno:propW W d t l n=none:=propW_none (hs.out.trans q) (by have:=h.out;omega);replace hno:=Lib.hid hno;clear q hs;go_wp2_with fail
    exact bodyPost_ret (v:=.tuple #[.slice none 0 0,(14:Int)]) (by simp[results,Tryz.results12,go_sem]) rfl ⟨by rw[hno.out],K⟩
   | some m2=>
    rw[q] at hq;obtain⟨A5,c5,rfl,hr5⟩:=hq;have hm2:=stepAll_mem q;replace hs:=Lib.hid (hs.out.trans q);replace hm2:=Lib.hid hm2;clear q;go_wp2_with fail
    go_roundw
    case rel=>exact⟨i+1,m2,A5,c5,by congr 1,rfl,by have:=h.out;omega,hs.out,by rw[hm2.out.2.2];exact hh.out.1,hm2.out.2.1,hr5,D,F,K⟩
    case measure=>have:=h.out;simp[intOf];omega
  ·
   have h1:¬ (i:Int)<(n:Int):=by omega
   obtain rfl:i=n:=by omega
   replace hp:=Lib.hid hp;clear c4 hb hl hi h e1;go_wp2_with fail
   exact bodyPost_ret (v:=.tuple #[.slice B3 m.length cb3,(0:Int)]) (by simp[results,Tryz.results12,go_sem]) rfl ⟨by rw[hp.out];exact⟨_,_,rfl,hr⟩,K⟩
theorem cellOf_any (aim r:Int) (c:Nat) (w:World) (hr:0≤r∧r≤60) (hc:1≤c∧c≤16) :
  Calls Tryz.prog 16 #[aim,r,c] w fun e w'=>e=.returned (.int .i64 (cellI aim r c))∧Kp w.heap.size none w w':=by
 obtain⟨q,hq⟩:∃ q,Hid (q=cellI aim r c):=⟨_,Lib.hid rfl⟩;rw[← hq.out];have hq2:Hid (q=(max (-r) (min r aim)+r) * ((c:Int)-1) / (2 * r+1)):=Lib.hid hq.out;clear hq;have e0:wrap64 (-r)=-r:=by unfold wrap64;omega
 go_enter Tryz.func16,Tryz.ntmps16
 go_upto_region 2 with(fail)
 have hm:0≤max (-r) (min r aim)+r∧max (-r) (min r aim)+r≤120:=by omega
 have e1:wrap64 (max (-r) (min r aim)+r)=max (-r) (min r aim)+r:=by unfold wrap64;omega
 generalize max (-r) (min r aim)=m at *;have e2:wrap64 ((c:Int)-1)=(c:Int)-1:=by unfold wrap64;omega
 have h1:=Int.mul_le_mul hm.2 (show (c:Int)-1≤15 by omega) oM oM;have h0:=Int.mul_nonneg hm.1 (show 0≤(c:Int)-1 by omega);have e3:wrap64 ((m+r) * ((c:Int)-1))=(m+r) * ((c:Int)-1):=by unfold wrap64;omega
 have e4:wrap64 (2 * r)=2 * r:=by unfold wrap64;omega
 have e5:wrap64 (2 * r+1)=2 * r+1:=by unfold wrap64;omega
 have n0:¬ (2 * r+1=0):=by omega
 have ed:((m+r) * ((c:Int)-1)).tdiv (2 * r+1)=(m+r) * ((c:Int)-1) / (2 * r+1):=Int.tdiv_eq_ediv_of_nonneg h0;have hd0:=Int.ediv_nonneg h0 (show 0≤2 * r+1 by omega);have hd1:=Int.ediv_le_self (2 * r+1) h0;rw[← hq2.out] at ed hd0 hd1;have e6:wrap64 q=q:=by unfold wrap64;omega
 clear hd0 hd1 h0 h1 hm e0 hq2 hr hc;go_wp2_with fail
 go_ret
 exact⟨ret_int e6,Kp.refl _ _ _⟩
theorem sole_any (p:Pt) (w:World) :
  Calls Tryz.prog 11 #[.agg #[p.x,p.y]] w fun e w'=>e=.returned (.agg #[(soleA p).x.lo,(soleA p).x.hi,(soleA p).y.lo,(soleA p).y.hi])∧Kp w.heap.size none w w':=by
 go_enter Tryz.func11,Tryz.ntmps11
 go_wp2_with fail
 exact bodyPost_ret (by simp[results,Tryz.results11,go_sem,soleA]) rfl ⟨rfl,Kp.new2 _ _ _⟩
theorem insideSpan_any (a b:Sp) (h0:a.lo≤a.hi) (h:a.sub b) (w:World) :
  Calls Tryz.prog 17 #[a,b] w fun e w'=>e=.returned (.bool true)∧Kp w.heap.size none w w':=by
 obtain⟨h1,h2⟩:=h;obtain⟨w1,hw1,P,Q,K,hz⟩:=box2 w 29 a 29 b;go_enter Tryz.func17,Tryz.ntmps17
 go_wp2_with fail
 go_ret
 exact⟨rfl,by rw[← hw1];exact K⟩
theorem Rd.rowOf {α:Type} {w:World} {sz n N g:Nat} {enc:α→List Value} {A:Option Addr} {xs:List α} (h:Rd none w sz enc A n xs) (hf:∀ ad,A=some ad→N≤ad.block) (hg:g<N):Rd (some g) w sz enc A n xs:=by
 refine⟨h.1,fun hn=>?_⟩;obtain⟨b,o,rfl,hb,-,hc⟩:=h.2 hn;exact⟨b,o,rfl,hb,sne (by have:=hf _ rfl;simp only at this;omega),hc⟩
theorem Kp.narrow {B g:Nat} {w w':World} (h:Kp B (some g) w w') (hg:B≤g):Kp B none w w':=⟨h.os,h.tape,h.output,h.size,fun k hk _=>h.block k hk oN⟩
theorem errSt_two {s:St} (h:okSt s=false):errSt s=2:=by unfold errSt;rw[h];rfl
theorem meet_WithinG_any (A:Option Addr) (c:Nat) (W:Wd) (t:Int) (s m:St) (r:Int) (w:World) (hW:W.ok) (hA:WdAt none w A W) (ht:0≤t∧t≤1073741823) (h0:0≤r) (h1:r≤268435456) :
  Calls Tryz.prog 35 #[.agg #[.slice A W.bs.length c,W.home],t,s,m,r] w fun e w'=>(∃ x:Bool,e=.returned (.bool x)∧(okSt s=true→okSt m=true→x=decide (comesP (relP W t s) (relP W (t+1) m) r)))∧Kp w.heap.size none w w':=by
 have cv:=fun w h=>meet_valid_any A c W t w hW h ht;have cs:=fun w=>orbit_CheckState_any s w;have cm:=fun w=>orbit_CheckState_any m w;by_cases hs:okSt s=true
 ·
  by_cases hm:okSt m=true
  · exact(meet_Within_any A c W t s m r w hW hA ht hs hm h0 h1).mono fun e w' ⟨h,k⟩=>⟨⟨_,h,fun _ _=>rfl⟩,k⟩
  ·
   rw[errSt_eq hs] at cs;rw[errSt_two (by simpa using hm)] at cm;replace hm:=Lib.hid hm;clear hs h0 h1 ht;obtain⟨w1,hw1,D,Y,Z,K,hz⟩:=box3 w 27 #[.slice A W.bs.length c,W.home] 49 s 49 m;go_enter Tryz.func35,Tryz.ntmps35
   go_wp2_with fail
   rw[← hw1];clear hw1;refine mK (cv _ (hA.kpN K)) fun w2 k=>?_;replace D:=D.kpN k;replace Y:=Y.kpN k;replace Z:=Z.kpN k;replace K:=K.thenN k oM;have hzk:=k.size;clear k;have cD:=D.cell;have fD:=D.frozen;have cY:=Y.cell;have fY:=Y.frozen;have cZ:=Z.cell;have fZ:=Z.frozen;go_wp2_with fail
   refine mK (cs _) fun w3 k=>?_;clear cD fD cY fY cZ fZ;replace D:=D.kpN k;replace Y:=Y.kpN k;replace Z:=Z.kpN k;replace K:=K.thenN k oM;have hzk:=k.size;clear k;have cD:=D.cell;have fD:=D.frozen;have cY:=Y.cell;have fY:=Y.frozen;have cZ:=Z.cell;have fZ:=Z.frozen;go_wp2_with fail
   refine mK (cm _) fun w4 k=>?_;clear cD fD cY fY cZ fZ;replace D:=D.kpN k;replace Y:=Y.kpN k;replace Z:=Z.kpN k;replace K:=K.thenN k oM;have hzk:=k.size;clear k;go_wp2_with fail
   go_ret
   exact⟨⟨_,rfl,fun _ q=>absurd q hm.out⟩,K⟩
 ·
  rw[errSt_two (by simpa using hs)] at cs;replace hs:=Lib.hid hs;clear h0 h1 ht cm;obtain⟨w1,hw1,D,Y,Z,K,hz⟩:=box3 w 27 #[.slice A W.bs.length c,W.home] 49 s 49 m;go_enter Tryz.func35,Tryz.ntmps35
  go_wp2_with fail
  rw[← hw1];clear hw1;refine mK (cv _ (hA.kpN K)) fun w2 k=>?_;replace D:=D.kpN k;replace Y:=Y.kpN k;replace Z:=Z.kpN k;replace K:=K.thenN k oM;have hzk:=k.size;clear k;have cD:=D.cell;have fD:=D.frozen;have cY:=Y.cell;have fY:=Y.frozen;have cZ:=Z.cell;have fZ:=Z.frozen;go_wp2_with fail
  refine mK (cs _) fun w3 k=>?_;clear cD fD cY fY cZ fZ;replace D:=D.kpN k;replace Y:=Y.kpN k;replace Z:=Z.kpN k;replace K:=K.thenN k oM;have hzk:=k.size;clear k;go_wp2_with fail
  go_ret
  exact⟨⟨_,rfl,fun q _=>absurd q hs.out⟩,K⟩
def HgAt (W:Wd) (t:Int) (l:List St) (A:Option Addr) (c:Nat) (w:World) (v:Value) (wr:World):Prop:=
 ∃ i:Nat,v=.int .i64 i∧1≤i∧(i≤l.length∨i=1)∧((∀ s∈l,okSt s=true)→NoHit W t l i)∧Blk wr w.heap.size 27 #[.slice A W.bs.length c,W.home]∧Kp w.heap.size none w wr
theorem meet_HitG_any (A:Option Addr) (c:Nat) (W:Wd) (t:Int) (B:Option Addr) (m:Nat) (l:List St) (w:World) (hW:W.ok) (hA:WdAt none w A W) (ht:0≤t∧t≤1000000) (hr:Rd none w 4 encSt B l.length l) (hl:l.length≤1000) :
  Calls Tryz.prog 7 #[.agg #[.slice A W.bs.length c,W.home],t,.slice B l.length m] w fun e w'=>(∃ v:Int,e=.returned (.int .i64 v)∧((∀ s∈l,okSt s=true)→HitV W t l v))∧Kp w.heap.size none w w':=by
 have cw:=fun w h=>sky_CheckWorld_any A c W w hW h;have cr:=fun w h=>meet_radius_any A c W w hW h;have n1:¬ t<0:=by omega
 obtain⟨w1,hw1,D,K,hz⟩:=box1 w 27 #[.slice A W.bs.length c,W.home];go_enter Tryz.func7,Tryz.ntmps7
 go_wp2_with fail
 rw[← hw1];clear hw1;refine mK (cw _ (hA.kpN K)) fun w2 k=>?_;replace D:=D.kpN k;replace K:=K.thenN k oM;have hzk:=k.size;clear k;clear cw;have cD:=D.cell;have fD:=D.frozen;go_wp2_with fail
 clear cD fD;clear n1;go_loopw [7] (fun v wr=>HgAt W t l A c w v wr) (fun v _=>(l.length:Int).toNat-(intOf v).toNat)
 case atStart=>exact⟨1,rfl,Nat.le_refl _,.inr rfl,fun _ i _ h=>by omega,D,K⟩
 case round=>
  obtain⟨i,rfl,h1,hi,hN,D1,K1⟩:=hrel;clear D K hzk;have D:=D1;have K:=K1;clear D1 K1;have hz0:=K.size;by_cases h:i<l.length
  ·
   obtain⟨b,o,rfl,hb,-,-⟩:=hr.at_ oM;obtain⟨k,hk⟩:∃ k,Hid (i=k+1):=⟨i-1,Lib.hid oM⟩;have hkl:k<l.length:=by have:=hk.out;omega
   obtain⟨c00,c01,c02,c03⟩:=hr.sts h rfl;obtain⟨c10,c11,c12,c13⟩:=hr.sts hkl rfl;have hii:(i:Int)<(l.length:Int):=by omega
   have hi0:(0:Int)≤(i:Int):=by omega
   have hkk:(k:Int)<(l.length:Int):=by omega
   have hk0:(0:Int)≤(k:Int):=by omega
   have g0:wrap64 ((i:Int)-1)=(k:Int):=by have:=hk.out;unfold wrap64;omega
   have g1:wrap64 (t+(i:Int))=t+(i:Int):=by have:=hk.out;unfold wrap64;omega
   have g2:wrap64 (t+(i:Int)-1)=t+(k:Int):=by have:=hk.out;unfold wrap64;omega
   have g3:(i:Int)-1=(k:Int):=by have:=hk.out;omega
   have g4:t+(i:Int)-1=t+(k:Int):=by have:=hk.out;omega
   have hm:(l.length:Int).toNat-((i+1:Nat):Int).toNat<(l.length:Int).toNat-(i:Int).toNat:=by omega
   replace hm:=Lib.hid hm;have hrb:=hW.rad_bd;have cc:=fun w hA=>meet_WithinG_any A c W (t+(k:Int)) l[k] l[i] W.rad w hW hA (by have:=hk.out;omega) oM oM
   have hst:∀ r,(okSt l[k]=true→okSt l[i]=true→r=decide (comesP (relP W (t+(k:Int)) l[k]) (relP W (t+(k:Int)+1) l[i]) W.rad))→(∀ s∈l,okSt s=true)→(r=true→HitV W t l k)∧(r=false→NoHit W t l (i+1)):=by
    have e:=hk.out;subst e;intro r hr' hok
    have ex:hitW W (t+(k:Int)) (nth l k) (nth l (k+1))↔r=true:=by
     rw[hr' (hok _ (List.getElem_mem hkl)) (hok _ (List.getElem_mem h)),nth_eq hkl,nth_eq h];unfold hitW;simp
    refine⟨fun q=>.inr ⟨k,rfl,h,ex.2 q⟩,fun q j hj hjk=>?_⟩;by_cases e:j=k
    · subst e;rw[ex,q];simp
    · exact hN hok j hj oM
   replace hst:=Lib.hid hst;obtain⟨P,hP⟩:∃ P:Bool→Prop,Hid (P=fun r=>okSt l[k]=true→okSt l[i]=true→r=decide (comesP (relP W (t+(k:Int)) l[k]) (relP W (t+(k:Int)+1) l[i]) W.rad)):=⟨_,Lib.hid rfl⟩;have cc:∀ w,WdAt none w A W→Calls Tryz.prog 35 #[.agg #[.slice A W.bs.length c,W.home],.int .i64 (t+(k:Int)),.agg #[.int .i64 l[k].x,.int .i64 l[k].y,.int .i64 l[k].u,.int .i64 l[k].v],.agg #[.int .i64 l[i].x,.int .i64 l[i].y,.int .i64 l[i].u,.int .i64 l[i].v],W.rad] w fun e w'=>(∃ x:Bool,e=.returned (.bool x)∧P x)∧Kp w.heap.size none w w':=fun w h=>by have:=cc w h;rwa [hP.out]
   have hst:Hid (∀ r,P r→(∀ s∈l,okSt s=true)→(r=true→HitV W t l k)∧(r=false→NoHit W t l (i+1))):=Lib.hid (by rw[hP.out];exact hst.out);obtain⟨p,hp⟩:∃ q9,Hid (q9=l[k]):=⟨_,Lib.hid rfl⟩;rw[← hp.out] at cc c10 c11 c12 c13;obtain⟨s,hs⟩:∃ q9,Hid (q9=l[i]):=⟨_,Lib.hid rfl⟩;rw[← hs.out] at cc c00 c01 c02 c03;obtain⟨rd,hrd⟩:∃ q9,Hid (q9=W.rad):=⟨_,Lib.hid rfl⟩;rw[← hrd.out] at cc cr;replace hN:=Lib.hid hN;replace hi:=Lib.hid hi;clear hrb hp hs hrd hP;replace h:=Lib.hid h;replace h1:=Lib.hid h1;go_wp2_with fail
   obtain⟨S,hS0,hS1⟩:=cls_of2 (P:=fun w'=>Blk w' _ _ _∧Kp _ _ _ w') wr ⟨D,K⟩;try dsimp only at hS0
   have cD:=fun (x:Ev (S 0)) i=>((hS0 _).1 x.h).1.cell i;have c00:=fun (x:Ev (S 0))=>((((hS0 _).1 x.h).2).cell _ _ hb oW).trans c00;have c01:=fun (x:Ev (S 0))=>((((hS0 _).1 x.h).2).cell _ _ hb oW).trans c01;have c02:=fun (x:Ev (S 0))=>((((hS0 _).1 x.h).2).cell _ _ hb oW).trans c02;have c03:=fun (x:Ev (S 0))=>((((hS0 _).1 x.h).2).cell _ _ hb oW).trans c03;have c10:=fun (x:Ev (S 0))=>((((hS0 _).1 x.h).2).cell _ _ hb oW).trans c10;have c11:=fun (x:Ev (S 0))=>((((hS0 _).1 x.h).2).cell _ _ hb oW).trans c11;have c12:=fun (x:Ev (S 0))=>((((hS0 _).1 x.h).2).cell _ _ hb oW).trans c12;have c13:=fun (x:Ev (S 0))=>((((hS0 _).1 x.h).2).cell _ _ hb oW).trans c13;replace D:=D.drew;replace K:=K.drew;have hevT:=ev_true;refine wro S [(0,1),(1,0),(2,0),(3,0),(4,0),(5,0),(6,0),(7,0),(8,0),(9,1),(10,0),(11,0),(12,0),(13,1),(14,1),(15,2),(16,2)] [] ((hS0 _).2 ⟨D,K⟩) ?_;intro _hev;refine oX ?_;refine oL ?_;intro Kc hKc;generalize wr.drew=wd9 at *;go_step;refine mK (cr _ (hA.kpN K)) fun w3 k=>?_;replace D:=D.kpN k;replace K:=K.tN k;clear k;refine hKc _ _ ((hS0 _).2 ⟨D,K⟩) ?_;clear hKc Kc;refine oL ?_;intro Kc hKc;go_step;refine(cc _ (hA.kpN K)).mono ?_;rintro e w4 ⟨⟨r,rfl,hP⟩,k⟩;replace D:=D.kpN k;replace K:=K.tN k;clear k;refine hKc _ _ ((hS0 _).2 ⟨D,K⟩) ?_;clear hKc Kc;refine wpOrd_nil ?_;clear hevT _hev;clear c00 c01 c02 c03 c10 c11 c12 c13;clear cD hS0 hS1 S;replace hst:=Lib.hid (hst.out r hP);clear hP;cases r
   ·
    go_wp2
    go_roundw
    case rel=>exact⟨i+1,by congr 1,by omega,.inl h.out,fun q=>(hst.out q).2 (by simp),D,K⟩
    case measure=>exact hm.out
   ·
    go_wp2
    go_ret
    exact⟨⟨_,rfl,fun q=>(hst.out q).1 (by simp)⟩,K⟩
  ·
   have hno:Hid ((∀ s∈l,okSt s=true)→HitV W t l (-1)):=Lib.hid (fun q=>.inl ⟨rfl,fun ⟨j,hj,hh⟩=>hN q j hj oM hh⟩);clear hr hA hN;have hii:¬ (i:Int)<(l.length:Int):=by omega
   have cD:=D.cell;have fD:=D.frozen;go_wp2_with fail
   clear cD fD;go_ret
   exact⟨⟨_,rfl,hno.out⟩,K⟩
end Go.Proofs.YtdhiappifnflpaaGreatDoor
