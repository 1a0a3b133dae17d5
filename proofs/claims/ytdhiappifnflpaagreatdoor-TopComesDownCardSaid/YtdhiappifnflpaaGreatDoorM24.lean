/- Orbits: the walks of orbit, first part: Pull, states, successors. Orbits: the walks of orbit, second part: Truth. Orbits: the walks of orbit, third part: boxes. -/
import Derived.Test.YtdhiappifnflpaaGreatDoorM23
set_option maxRecDepth 100000
set_option maxHeartbeats 4000000
namespace Go.Proofs.YtdhiappifnflpaaGreatDoor
open Go.RowKit
def NearS (s:St):Prop:=-33554432≤s.x∧s.x≤33554432∧-33554432≤s.y∧s.y≤33554432∧-1048576≤s.u∧s.u≤1048576∧-1048576≤s.v∧s.v≤1048576
theorem okSt_near {s:St} (h:okSt s=true):NearS s:=by unfold okSt at h;unfold NearS;exact of_decide_eq_true h
theorem force_Pull_any (A:Option Addr) (c:Nat) (W:Wd) (d:Dr) (t:Int) (s:St) (w:World) (hW:W.ok) (hA:WdAt none w A W) (hd:d.ok) (ht:0≤t∧t≤1073741824) (hs:NearS s) :
  Calls Tryz.prog 119 #[.agg #[.slice A W.bs.length c,W.home],d,t,.agg #[s.x,s.y]] w fun e w'=>e=.returned (.tuple #[.agg #[(overA mp d (aloneA s) (W.hvs t)).x.lo,(overA mp d (aloneA s) (W.hvs t)).x.hi,(overA mp d (aloneA s) (W.hvs t)).y.lo,(overA mp d (aloneA s) (W.hvs t)).y.hi],(0:Int)])∧Kp w.heap.size none w w':=by
 have c1:=fun w=>force_alone_any ⟨s.x,s.y⟩ w;have c2:=fun w h=>force_Over_any A c W d t (aloneA s) w hW h hd ht (by obtain⟨h1,h2,h3,h4,-⟩:=hs;unfold Ar.bd Sp.bd aloneA oneS;simp only;omega);generalize overA mp d (aloneA s) (W.hvs t)=u at *;simp only[aloneA,oneS] at c1 c2;obtain⟨w1,hw1,D,F,P,R,K,hz⟩:=box4 w 27 #[.slice A W.bs.length c,W.home] 31 d 45 #[s.x,s.y] 53 #[(0:Int),(0:Int),(0:Int),(0:Int)];go_enter Tryz.func119,Tryz.ntmps119
 go_wp2_with fail
 rw[← hw1];clear hw1;obtain⟨S,hS0,hS1⟩:=cls_of2 (P:=fun w'=>Blk w' _ _ _∧Blk w' _ _ _∧Blk w' _ _ _∧Kp _ _ _ w') w1 ⟨D,F,P,K⟩;try dsimp only at hS0
 have cD:=fun (x:Ev (S 0)) i=>((hS0 _).1 x.h).1.cell i;have cF:=fun (x:Ev (S 0)) i=>((hS0 _).1 x.h).2.1.cell i;have cP:=fun (x:Ev (S 0)) i=>((hS0 _).1 x.h).2.2.1.cell i;replace D:=D.drew;replace F:=F.drew;replace P:=P.drew;replace K:=K.drew;replace R:=R.drew;have hevT:=ev_true;refine wro S [(0,1),(1,1),(2,0),(3,1),(4,2),(5,2),(6,0),(7,0),(8,3),(9,0)] [8] ((hS0 _).2 ⟨D,F,P,K⟩) ?_;intro _hev;refine oX ?_;refine oL ?_;intro Kc hKc;generalize w1.drew=wd9 at *;go_step;refine mK (c1 _) fun w2 k=>?_;replace D:=D.kpN k;replace F:=F.kpN k;replace P:=P.kpN k;replace R:=R.kpN k;replace K:=K.tN k;clear k;refine hKc _ _ ((hS0 _).2 ⟨D,F,P,K⟩) ?_;clear hKc Kc;refine oL ?_;intro Kc hKc;go_step;refine mK (c2 _ (hA.kpN K)) fun w3 k=>?_;replace D:=D.kpN k;replace F:=F.kpN k;replace P:=P.kpN k;replace R:=R.kpN k;replace K:=K.tN k;clear k;refine hKc _ _ ((hS0 _).2 ⟨D,F,P,K⟩) ?_;clear hKc Kc;refine oX ?_;refine oA ?_;intro Kc hKc;have cR:=R.cell;have fR:=R.frozen;go_step;obtain⟨w9,hwn,RB9,kst,hzst⟩:=R.st4 (.int .i64 u.x.lo) (.int .i64 u.x.hi) (.int .i64 u.y.lo) (.int .i64 u.y.hi);rw[← hwn];clear hwn cR fR;refine hKc _ _ ((hS1 _).2 trivial) ?_;clear hKc Kc;replace D:=D.kq kst;replace F:=F.kq kst;replace P:=P.kq kst;first|replace K:=K.thenOwn kst (Nat.le_refl _) oM|replace K:=K.then_ kst (Nat.le_refl _)
 replace R:=RB9;clear RB9 kst;simp only[sbt,sc0,scs] at R;change wpOrd _ _ _ _ _ 1 _ _;refine oX ?_;refine wpOrd_nil ?_;clear hevT _hev;clear cD cF cP hS0 hS1 S;have cR:=R.cell;go_wp2_with fail
 exact bodyPost_ret (v:=.tuple #[.agg #[u.x.lo,u.x.hi,u.y.lo,u.y.hi],(0:Int)]) (by simp[results,Tryz.results119,go_sem,cR]) rfl ⟨rfl,K⟩
def errSt (s:St):Int:=if okSt s=true then 0 else 2
theorem orbit_CheckState_any (s:St) (w:World) :
  Calls Tryz.prog 41 #[s] w fun e w'=>e=.returned (.int .i64 (errSt s))∧Kp w.heap.size none w w':=by
 have c1:=fun w=>orbit_within_any s.x (-33554432) 33554432 w;have c2:=fun w=>orbit_within_any s.y (-33554432) 33554432 w;have c3:=fun w=>orbit_within_any s.u (-1048576) 1048576 w;have c4:=fun w=>orbit_within_any s.v (-1048576) 1048576 w
 have e:okSt s=(btw s.x (-33554432) 33554432&&btw s.y (-33554432) 33554432&&btw s.u (-1048576) 1048576&&btw s.v (-1048576) 1048576):=by
  rw[Bool.eq_iff_iff];simp only[okSt,btw,Bool.and_eq_true,decide_eq_true_eq];omega
 unfold errSt;rw[e];clear e;generalize btw s.x (-33554432) 33554432=x1 at *;generalize btw s.y (-33554432) 33554432=x2 at *;generalize btw s.u (-1048576) 1048576=x3 at *;generalize btw s.v (-1048576) 1048576=x4 at *;obtain⟨w1,hw1,B,K,hz⟩:=box1 w 49 s;go_enter Tryz.func41,Tryz.ntmps41
 go_wp2_with fail
 rw[← hw1];clear hw1;refine mK (c1 _) fun w2 k=>?_;replace B:=B.kpN k;replace K:=K.thenN k oM;have hzk:=k.size;clear k;cases x1
 ·
  have cB:=B.cell;have fB:=B.frozen;go_wp2_with fail
  clear cB fB;go_ret
  exact⟨rfl,K⟩
 ·
  have cB:=B.cell;have fB:=B.frozen;go_wp2_with fail
  refine mK (c2 _) fun w3 k=>?_;clear cB fB;replace B:=B.kpN k;replace K:=K.thenN k oM;have hzk:=k.size;clear k;cases x2
  ·
   have cB:=B.cell;have fB:=B.frozen;go_wp2_with fail
   clear cB fB;go_ret
   exact⟨rfl,K⟩
  ·
   have cB:=B.cell;have fB:=B.frozen;go_wp2_with fail
   refine mK (c3 _) fun w4 k=>?_;clear cB fB;replace B:=B.kpN k;replace K:=K.thenN k oM;have hzk:=k.size;clear k;cases x3
   ·
    have cB:=B.cell;have fB:=B.frozen;go_wp2_with fail
    clear cB fB;go_ret
    exact⟨rfl,K⟩
   ·
    have cB:=B.cell;have fB:=B.frozen;go_wp2_with fail
    refine mK (c4 _) fun w5 k=>?_;clear cB fB;replace B:=B.kpN k;replace K:=K.thenN k oM;have hzk:=k.size;clear k;cases x4
    ·
     have cB:=B.cell;have fB:=B.frozen;go_wp2_with fail
     clear cB fB;go_ret
     exact⟨rfl,K⟩
    ·
     have cB:=B.cell;have fB:=B.frozen;go_wp2_with fail
     clear cB fB;go_ret
     exact⟨rfl,K⟩
theorem orbit_checkWorld_any (A:Option Addr) (c:Nat) (W:Wd) (d:Dr) (w:World) (hW:W.ok) (hA:WdAt none w A W) (hd:d.ok) :
  Calls Tryz.prog 50 #[.agg #[.slice A W.bs.length c,W.home],d] w fun e w'=>e=.returned (.int .i64 0)∧Kp w.heap.size none w w':=by
 have cw:=fun w h=>sky_CheckWorld_any A c W w hW h;have cd:=fun w=>force_CheckDrift_any d hd w;clear hW hd;obtain⟨w1,hw1,D,F,K,hz⟩:=box2 w 27 #[.slice A W.bs.length c,W.home] 31 d;go_enter Tryz.func50,Tryz.ntmps50
 go_wp2_with fail
 rw[← hw1];clear hw1;refine mK (cw _ (hA.kpN K)) fun w2 k=>?_;replace D:=D.kpN k;replace F:=F.kpN k;replace K:=K.thenN k oM;have hzk:=k.size;clear k;have cD:=D.cell;have fD:=D.frozen;have cF:=F.cell;have fF:=F.frozen;go_wp2_with fail
 refine mK (cd _) fun w3 k=>?_;clear cD fD cF fF;replace D:=D.kpN k;replace F:=F.kpN k;replace K:=K.thenN k oM;have hzk:=k.size;clear k;have cD:=D.cell;have fD:=D.frozen;have cF:=F.cell;have fF:=F.frozen;go_wp2_with fail
 clear cD fD cF fF;go_ret
 exact⟨rfl,K⟩
def folB (W:Wd) (d:Dr) (t:Int) (s n:St):Bool:=
 btw (n.u-s.u) (overA mp d (aloneA s) (W.hvs t)).x.lo (overA mp d (aloneA s) (W.hvs t)).x.hi&&(btw (n.v-s.v) (overA mp d (aloneA s) (W.hvs t)).y.lo (overA mp d (aloneA s) (W.hvs t)).y.hi&&(n.x==s.x+n.u&&n.y==s.y+n.v))
theorem folB_iff {W:Wd} {d:Dr} {t:Int} {s n:St}:folB W d t s n=true↔Follows mp d (W.hvs t) s n:=by
 simp only[folB,btw,Follows,Sp.has,Bool.and_eq_true,decide_eq_true_eq,beq_iff_eq]
theorem orbit_follows_any (A:Option Addr) (c:Nat) (W:Wd) (d:Dr) (t:Int) (s n:St) (w:World) (hW:W.ok) (hA:WdAt none w A W) (hd:d.ok) (ht:0≤t∧t≤1073741824) (hs:NearS s) (hn:NearS n) :
  Calls Tryz.prog 77 #[.agg #[.slice A W.bs.length c,W.home],d,t,s,n] w fun e w'=>e=.returned (.bool (folB W d t s n))∧Kp w.heap.size none w w':=by
 have cp:=fun w h=>force_Pull_any A c W d t s w hW h hd ht hs;unfold folB;generalize overA mp d (aloneA s) (W.hvs t)=u at *;have e1:wrap64 (n.u-s.u)=n.u-s.u:=by unfold NearS at hs hn;unfold wrap64;omega
 have e2:wrap64 (n.v-s.v)=n.v-s.v:=by unfold NearS at hs hn;unfold wrap64;omega
 have e3:wrap64 (s.x+n.u)=s.x+n.u:=by unfold NearS at hs hn;unfold wrap64;omega
 have e4:wrap64 (s.y+n.v)=s.y+n.v:=by unfold NearS at hs hn;unfold wrap64;omega
 have c1:=fun w=>orbit_within_any (n.u-s.u) u.x.lo u.x.hi w;have c2:=fun w=>orbit_within_any (n.v-s.v) u.y.lo u.y.hi w;generalize btw (n.u-s.u) u.x.lo u.x.hi=x1 at *;generalize btw (n.v-s.v) u.y.lo u.y.hi=x2 at *;clear hW hd hs hn ht;obtain⟨w1,hw1,D,F,B,C,K,hz⟩:=box4 w 27 #[.slice A W.bs.length c,W.home] 31 d 49 s 49 n;go_enter Tryz.func77,Tryz.ntmps77
 go_wp2_with fail
 rw[← hw1];clear hw1;refine mK (cp _ (hA.kpN K)) fun w2 k=>?_;replace D:=D.kpN k;replace F:=F.kpN k;replace B:=B.kpN k;replace C:=C.kpN k;replace K:=K.thenN k oM;have hzk:=k.size;clear k;have pD:=D.cell;have pF:=F.cell;have pB:=B.cell;have pC:=C.cell;obtain⟨w9_,rfl,U,k9_,hzn⟩:=box1 w2 53 #[u.x.lo,u.x.hi,u.y.lo,u.y.hi];replace D:=D.kpN k9_;replace F:=F.kpN k9_;replace B:=B.kpN k9_;replace C:=C.kpN k9_;replace K:=K.thenN k9_ oU;clear k9_;have cD:=D.cell;have fD:=D.frozen;have cF:=F.cell;have fF:=F.frozen;have cB:=B.cell;have fB:=B.frozen;have cC:=C.cell;have fC:=C.frozen;go_wp2_with fail
 clear cD fD pD cF fF pF cB fB pB cC fC pC;generalize (w2.alloc (.cells #[u.x.lo,u.x.hi,u.y.lo,u.y.hi] 53))=w3 at *;obtain⟨x,hx⟩:∃ q9,q9=w2.heap.size:=⟨_,rfl⟩;rw[← hx] at U ⊢;replace hx:=Lib.hid hx;clear hx hzn hzk hz;have cU:=U.cell;have fU:=U.frozen;have cB:=B.cell;have fB:=B.frozen;have cC:=C.cell;have fC:=C.frozen;go_wp2_with fail
 refine mK (c1 _) fun w4 k=>?_;clear cU fU cB fB cC fC;replace U:=U.kpN k;replace B:=B.kpN k;replace C:=C.kpN k;replace K:=K.thenN k oM;have hzk:=k.size;clear k;cases x1
 ·
  have cB:=B.cell;have fB:=B.frozen;go_wp2_with fail
  clear cB fB;go_ret
  exact⟨rfl,K⟩
 ·
  have cU:=U.cell;have fU:=U.frozen;have cB:=B.cell;have fB:=B.frozen;have cC:=C.cell;have fC:=C.frozen;go_wp2_with fail
  refine mK (c2 _) fun w5 k=>?_;clear cU fU cB fB cC fC;replace U:=U.kpN k;replace B:=B.kpN k;replace C:=C.kpN k;replace K:=K.thenN k oM;have hzk:=k.size;clear k;cases x2
  ·
   have cB:=B.cell;have fB:=B.frozen;go_wp2_with fail
   clear cB fB;go_ret
   exact⟨rfl,K⟩
  ·
   cases h1:n.x==s.x+n.u
   ·
    have cB:=B.cell;have fB:=B.frozen;have cC:=C.cell;have fC:=C.frozen;go_wp2_with fail
    clear cB fB cC fC;go_ret
    exact⟨by simp_all,K⟩
   ·
    cases h2:n.y==s.y+n.v
    ·
     have cB:=B.cell;have fB:=B.frozen;have cC:=C.cell;have fC:=C.frozen;go_wp2_with fail
     clear cB fB cC fC;go_ret
     exact⟨by simp_all,K⟩
    ·
     have cB:=B.cell;have fB:=B.frozen;have cC:=C.cell;have fC:=C.frozen;go_wp2_with fail
     clear cB fB cC fC;go_ret
     exact⟨by simp_all,K⟩
def encSt (s:St):List Value:=[.int .i64 s.x,.int .i64 s.y,.int .i64 s.u,.int .i64 s.v]
def OkT (W:Wd) (d:Dr) (t:Int) (l:List St) (i:Nat):Prop:=(∀ j (h:j<l.length),j<i→okSt l[j]=true)∧∀ j (h:j+1<l.length),j+1<i→Follows mp d (W.hvs (t+j)) l[j] l[j+1]
theorem OkT.all {W:Wd} {d:Dr} {t:Int} {l:List St} (h:OkT W d t l l.length):TruthW W d t l:=
 ⟨fun s hs=>by obtain⟨j,hj,rfl⟩:=List.getElem_of_mem hs;exact h.1 j hj hj,fun j hj=>h.2 j hj hj⟩
theorem OkT.next0 {W:Wd} {d:Dr} {t:Int} {l:List St} (hl:0<l.length) (o:okSt l[0]=true):OkT W d t l 1:=
 ⟨fun j _ hj=>by (obtain rfl:j=0:=oM);exact o,fun j _ hj=>by omega⟩
theorem OkT.next {W:Wd} {d:Dr} {t:Int} {l:List St} {k:Nat} (h:OkT W d t l (k+1)) (hk:k+1<l.length) (o:okSt l[k+1]=true) (f:folB W d (t+k) l[k] l[k+1]=true):OkT W d t l (k+2):=by
 refine⟨fun j hj hji=>?_,fun j hj hji=>?_⟩
 ·
  by_cases e:j=k+1
  · subst e;exact o
  · exact h.1 j hj oM
 ·
  by_cases e:j=k
  · subst e;exact folB_iff.1 f
  · exact h.2 j hj oM
theorem errSt_ne {s:St} (h:okSt s=false):errSt s=2:=by unfold errSt;simp[h]
theorem errSt_eq {s:St} (h:okSt s=true):errSt s=0:=by unfold errSt;simp[h]
def TrAt (W:Wd) (d:Dr) (t:Int) (l:List St) (A:Option Addr) (c:Nat) (w:World) (v:Value) (wr:World):Prop:=
 ∃ i:Nat,v=.int .i64 i∧i≤l.length∧OkT W d t l i∧Blk wr w.heap.size 27 #[.slice A W.bs.length c,W.home]∧Blk wr (w.heap.size+1) 31 d∧Kp w.heap.size none w wr
theorem orbit_Truth_any (A:Option Addr) (c:Nat) (W:Wd) (d:Dr) (t:Int) (B:Option Addr) (m:Nat) (l:List St) (w:World) (hW:W.ok) (hA:WdAt none w A W) (hd:d.ok) (ht:0≤t∧t≤1000000) (hr:Rd none w 4 encSt B l.length l) (hl:l.length≤1000) :
  Calls Tryz.prog 33 #[.agg #[.slice A W.bs.length c,W.home],d,t,.slice B l.length m] w fun e w'=>(∃ v:Int,e=.returned (.int .i64 v)∧(v=-1→TruthW W d t l))∧Kp w.heap.size none w w':=by
 have cw:=fun w h=>orbit_checkWorld_any A c W d w hW h hd;have ct:=fun w=>orbit_within_any t 0 1073741824 w;rw[btw_t oM oM] at ct;have e1:wrap64 (t+(l.length:Int))=t+(l.length:Int):=by unfold wrap64;omega
 have e2:wrap64 (t+(l.length:Int)-1)=t+(l.length:Int)-1:=by unfold wrap64;omega
 have n1:¬ 1073741824<t+(l.length:Int)-1:=by omega
 obtain⟨w1,hw1,D,F,K,hz⟩:=box2 w 27 #[.slice A W.bs.length c,W.home] 31 d;go_enter Tryz.func33,Tryz.ntmps33
 go_wp2_with fail
 rw[← hw1];clear hw1;refine mK (cw _ (hA.kpN K)) fun w2 k=>?_;replace D:=D.kpN k;replace F:=F.kpN k;replace K:=K.thenN k oM;have hzk:=k.size;clear k;have cD:=D.cell;have fD:=D.frozen;have cF:=F.cell;have fF:=F.frozen;go_wp2_with fail
 refine mK (ct _) fun w3 k=>?_;clear cD fD cF fF;replace D:=D.kpN k;replace F:=F.kpN k;replace K:=K.thenN k oM;have hzk:=k.size;clear k;clear cw ct;have cD:=D.cell;have fD:=D.frozen;have cF:=F.cell;have fF:=F.frozen;go_wp2_with fail
 clear cD fD cF fF;go_loopw [30] (fun v wr=>TrAt W d t l A c w v wr) (fun v _=>(l.length:Int).toNat-(intOf v).toNat)
 case atStart=>exact⟨0,rfl,Nat.zero_le _,⟨fun j _ h=>by omega,fun j _ h=>by omega⟩,D,F,K⟩
 case round=>
  obtain⟨i,rfl,hi,hT,D1,F1,K1⟩:=hrel;clear D F K e1 e2 n1;have D:=D1;have F:=F1;have K:=K1;clear D1 F1 K1;have hz0:=K.size;by_cases h:i<l.length
  ·
   obtain⟨b,o,rfl,hb,-,hc⟩:=hr.at_ oM;have c0:=hc i h 0 _ rfl;have c1:=hc i h 1 _ rfl;have c2:=hc i h 2 _ rfl;have c3:=hc i h 3 _ rfl;rw[Nat.add_zero] at c0;rw[← Nat.add_assoc] at c1 c2 c3;have d0:=(K.cell b _ hb (by simp)).trans c0;have d1:=(K.cell b _ hb (by simp)).trans c1;have d2:=(K.cell b _ hb (by simp)).trans c2;have d3:=(K.cell b _ hb (by simp)).trans c3;have hii:(i:Int)<(l.length:Int):=by omega
   have hi0:(0:Int)≤(i:Int):=by omega
   have hm:(l.length:Int).toNat-((i+1:Nat):Int).toNat<(l.length:Int).toNat-(i:Int).toNat:=by omega
   replace hm:=Lib.hid hm;have cs:=fun w=>orbit_CheckState_any l[i] w;have pD:=D.cell;have pF:=F.cell;obtain⟨w9_,rfl,X,k9_,hzn⟩:=box1 wr 49 #[.int .i64 l[i].x,.int .i64 l[i].y,.int .i64 l[i].u,.int .i64 l[i].v];replace D:=D.kpN k9_;replace F:=F.kpN k9_;replace K:=K.thenN k9_ oU;clear k9_;have cD:=D.cell;have fD:=D.frozen;have cF:=F.cell;have fF:=F.frozen;go_wp2_with fail
   clear cD fD pD cF fF pF;generalize (wr.alloc (.cells #[.int .i64 l[i].x,.int .i64 l[i].y,.int .i64 l[i].u,.int .i64 l[i].v] 49))=w2 at *;obtain⟨x,hx⟩:∃ q9,q9=wr.heap.size:=⟨_,rfl⟩;rw[← hx] at X ⊢;replace hx:=Lib.hid hx;have hxw:w.heap.size<x:=by have:=hx.out;have:=F.lt;omega
   clear hx hzn hzk hz d0 d1 d2 d3;obtain⟨s,hs⟩:∃ q9,Hid (q9=l[i]):=⟨_,Lib.hid rfl⟩;rw[← hs.out] at X cs;cases ho:okSt s
   ·
    rw[errSt_ne ho] at cs;have hb2:(!((2:Int)==0))=true:=rfl;obtain⟨S,hS0,hS1⟩:=cls_of2 (P:=fun w'=>Blk w' _ _ _∧Blk w' _ _ _∧Blk w' _ _ _∧Kp _ _ _ w') w2 ⟨D,F,X,K⟩;try dsimp only at hS0
    have cD:=fun (x:Ev (S 0)) i=>((hS0 _).1 x.h).1.cell i;have cF:=fun (x:Ev (S 0)) i=>((hS0 _).1 x.h).2.1.cell i;have cX:=fun (x:Ev (S 0)) i=>((hS0 _).1 x.h).2.2.1.cell i;replace D:=D.drew;replace F:=F.drew;replace X:=X.drew;replace K:=K.drew;have hevT:=ev_true;refine wro S [(0,1),(1,2),(2,0),(3,0),(4,0),(5,0),(6,0),(7,1),(8,1),(9,0),(10,0),(11,0),(12,0),(13,0),(14,0),(15,0),(16,0),(17,1),(18,1),(19,2),(20,0),(21,0),(22,0)] [] ((hS0 _).2 ⟨D,F,X,K⟩) ?_;intro _hev;refine oX ?_;refine oL ?_;intro Kc hKc;generalize w2.drew=wd9 at *;go_step;refine mK (cs _) fun w3 k=>?_;replace D:=D.kpN k;replace F:=F.kpN k;replace X:=X.kpN k;replace K:=K.tN k;clear k;refine hKc _ _ ((hS0 _).2 ⟨D,F,X,K⟩) ?_;clear hKc Kc;refine oY ?_;iterate 15 (refine oZ ?_)
    refine wpOrd_s2 (by decide) rfl rfl rfl ?_;intro Kc hKc;go_big_quiet_op
    go_big_quiet_on
    iterate 2 (refine oZ ?_)
    refine oY ?_;refine wpOrd_nil ?_;clear hevT _hev;clear cD cF cX hS0 hS1 S;go_wp2
    go_ret
    exact⟨⟨_,rfl,fun e=>by omega⟩,K⟩
   ·
    rw[errSt_eq ho] at cs;by_cases h0:i=0
    ·
     subst h0;obtain⟨S,hS0,hS1⟩:=cls_of2 (P:=fun w'=>Blk w' _ _ _∧Blk w' _ _ _∧Blk w' _ _ _∧Kp _ _ _ w') w2 ⟨D,F,X,K⟩;try dsimp only at hS0
     have cD:=fun (x:Ev (S 0)) i=>((hS0 _).1 x.h).1.cell i;have cF:=fun (x:Ev (S 0)) i=>((hS0 _).1 x.h).2.1.cell i;have cX:=fun (x:Ev (S 0)) i=>((hS0 _).1 x.h).2.2.1.cell i;replace D:=D.drew;replace F:=F.drew;replace X:=X.drew;replace K:=K.drew;have hevT:=ev_true;refine wro S [(0,1),(1,2),(2,0),(3,0),(4,0),(5,0),(6,0),(7,1),(8,1),(9,0),(10,0),(11,0),(12,0),(13,0),(14,0),(15,0),(16,0),(17,1),(18,1),(19,2),(20,0),(21,0),(22,0)] [] ((hS0 _).2 ⟨D,F,X,K⟩) ?_;intro _hev;refine oX ?_;refine oL ?_;intro Kc hKc;generalize w2.drew=wd9 at *;go_step;refine mK (cs _) fun w3 k=>?_;replace D:=D.kpN k;replace F:=F.kpN k;replace X:=X.kpN k;replace K:=K.tN k;clear k;refine hKc _ _ ((hS0 _).2 ⟨D,F,X,K⟩) ?_;clear hKc Kc;refine oY ?_;iterate 12 (refine oZ ?_)
     refine wpOrd_s2 (by decide) rfl rfl rfl ?_;intro Kc hKc;go_big_quiet_op
     go_big_quiet_on
     refine oZ ?_;refine oY ?_;refine wpOrd_nil ?_;clear hevT _hev;clear cD cF cX hS0 hS1 S;replace h:=Lib.hid h;go_wp2
     go_roundw
     case rel=>exact⟨1,rfl,h.out,OkT.next0 h.out (hs.out ▸ ho),D,F,K⟩
     case measure=>exact hm.out
    ·
     obtain⟨k,hk⟩:∃ k,Hid (i=k+1):=⟨i-1,Lib.hid oM⟩;have hkl:k<l.length:=by have:=hk.out;omega
     have c10:=hc k hkl 0 _ rfl;have c11:=hc k hkl 1 _ rfl;have c12:=hc k hkl 2 _ rfl;have c13:=hc k hkl 3 _ rfl;rw[Nat.add_zero] at c10;rw[← Nat.add_assoc] at c11 c12 c13;have hkk:(k:Int)<(l.length:Int):=by omega
     have hk0:(0:Int)≤(k:Int):=by omega
     have g0:wrap64 ((i:Int)-1)=(k:Int):=by have:=hk.out;unfold wrap64;omega
     have g1:wrap64 (t+(i:Int))=t+(i:Int):=by have:=hk.out;unfold wrap64;omega
     have g2:wrap64 (t+(i:Int)-1)=t+(k:Int):=by have:=hk.out;unfold wrap64;omega
     have gp:0<i:=by omega
     have g3:(i:Int)-1=(k:Int):=by have:=hk.out;omega
     have g4:t+(i:Int)-1=t+(k:Int):=by have:=hk.out;omega
     have hok:=hT.1 k hkl (by have:=hk.out;omega);have cf:=fun w hA=>orbit_follows_any A c W d (t+(k:Int)) l[k] s w hW hA hd oM (okSt_near hok) (okSt_near ho);obtain⟨p,hp⟩:∃ q9,Hid (q9=l[k]):=⟨_,Lib.hid rfl⟩;rw[← hp.out] at cf c10 c11 c12 c13;obtain⟨fb,hfb⟩:∃ q9,Hid (q9=folB W d (t+(k:Int)) p s):=⟨_,Lib.hid rfl⟩;rw[← hfb.out] at cf;replace hok:=Lib.hid hok;replace hT:=Lib.hid hT;clear hc;replace h0:=Lib.hid h0;replace hi:=Lib.hid hi;obtain⟨S,hS0,hS1⟩:=cls_of2 (P:=fun w'=>Blk w' _ _ _∧Blk w' _ _ _∧Blk w' _ _ _∧Kp _ _ _ w') w2 ⟨D,F,X,K⟩;try dsimp only at hS0
     have cD:=fun (x:Ev (S 0)) i=>((hS0 _).1 x.h).1.cell i;have cF:=fun (x:Ev (S 0)) i=>((hS0 _).1 x.h).2.1.cell i;have cX:=fun (x:Ev (S 0)) i=>((hS0 _).1 x.h).2.2.1.cell i;have c10:=fun (x:Ev (S 0))=>((((hS0 _).1 x.h).2.2.2).cell _ _ hb oW).trans c10;have c11:=fun (x:Ev (S 0))=>((((hS0 _).1 x.h).2.2.2).cell _ _ hb oW).trans c11;have c12:=fun (x:Ev (S 0))=>((((hS0 _).1 x.h).2.2.2).cell _ _ hb oW).trans c12;have c13:=fun (x:Ev (S 0))=>((((hS0 _).1 x.h).2.2.2).cell _ _ hb oW).trans c13;replace D:=D.drew;replace F:=F.drew;replace X:=X.drew;replace K:=K.drew;have hevT:=ev_true;refine wro S [(0,1),(1,2),(2,0),(3,0),(4,0),(5,0),(6,0),(7,1),(8,1),(9,0),(10,0),(11,0),(12,0),(13,0),(14,0),(15,0),(16,0),(17,1),(18,1),(19,2),(20,0),(21,0),(22,0)] [] ((hS0 _).2 ⟨D,F,X,K⟩) ?_;intro _hev;refine oX ?_;refine oL ?_;intro Kc hKc;generalize w2.drew=wd9 at *;go_step;refine mK (cs _) fun w3 k=>?_;replace D:=D.kpN k;replace F:=F.kpN k;replace X:=X.kpN k;replace K:=K.tN k;clear k;refine hKc _ _ ((hS0 _).2 ⟨D,F,X,K⟩) ?_;clear hKc Kc;refine oX ?_;refine oL ?_;intro Kc hKc;go_step;refine mK (cf _ (hA.kpN K)) fun w4 k=>?_;replace D:=D.kpN k;replace F:=F.kpN k;replace X:=X.kpN k;replace K:=K.tN k;clear k;refine hKc _ _ ((hS0 _).2 ⟨D,F,X,K⟩) ?_;clear hKc Kc;refine oX ?_;refine wpOrd_nil ?_;clear hevT _hev;clear c10 c11 c12 c13;clear cD cF cX hS0 hS1 S;cases fb
     ·
      go_wp2
      go_ret
      exact⟨⟨_,rfl,fun e=>by omega⟩,K⟩
     ·
      replace h:=Lib.hid h;go_wp2
      go_roundw
      case rel=>
       have hk':=hk.out;have hT':=hT.out;subst hk';exact⟨k+2,by congr 1,h.out,hT'.next h.out (hs.out ▸ ho) (by rw[← hp.out,← hs.out];exact hfb.out.symm),D,F,K⟩
      case measure=>exact hm.out
  ·
   obtain rfl:i=l.length:=by omega
   clear hr hA;have cD:=D.cell;have fD:=D.frozen;go_wp2_with fail
   clear cD fD;go_ret
   exact⟨⟨_,rfl,fun _=>hT.all⟩,K⟩
def spansC (b:Bx):Array Value:=b
theorem orbit_of_any (b:Bx) (w:World) :
  Calls Tryz.prog 100 #[b] w fun e w'=>e=.returned (.agg (spansC b))∧Kp w.heap.size none w w':=by
 go_enter Tryz.func100,Tryz.ntmps100
 go_wp2_with fail
 exact bodyPost_ret (by simp[results,Tryz.results100,go_sem];rfl) rfl ⟨rfl,Kp.new2 _ _ _⟩
theorem index4s_0 (a0 a1 a2 a3 a4 a5 a6 a7:Int) (w:World):(Instr.index 180 (.agg #[a0,a1,a2,a3,a4,a5,a6,a7]) (.int .i64 0)).run Tryz.prog w=.ok (.agg #[a0,a1]) w:=by kernel_rfl
theorem index4s_1 (a0 a1 a2 a3 a4 a5 a6 a7:Int) (w:World):(Instr.index 180 (.agg #[a0,a1,a2,a3,a4,a5,a6,a7]) (.int .i64 1)).run Tryz.prog w=.ok (.agg #[a2,a3]) w:=by kernel_rfl
theorem index4s_2 (a0 a1 a2 a3 a4 a5 a6 a7:Int) (w:World):(Instr.index 180 (.agg #[a0,a1,a2,a3,a4,a5,a6,a7]) (.int .i64 2)).run Tryz.prog w=.ok (.agg #[a4,a5]) w:=by kernel_rfl
theorem index4s_3 (a0 a1 a2 a3 a4 a5 a6 a7:Int) (w:World):(Instr.index 180 (.agg #[a0,a1,a2,a3,a4,a5,a6,a7]) (.int .i64 3)).run Tryz.prog w=.ok (.agg #[a6,a7]) w:=by kernel_rfl
def errBx (b:Bx):Int:=if okBx b=true then 0 else 2
def ordN (b:Bx) (i:Nat):Prop:=(0<i→b.x.lo≤b.x.hi)∧(1<i→b.y.lo≤b.y.hi)∧(2<i→b.u.lo≤b.u.hi)∧(3<i→b.v.lo≤b.v.hi)
theorem errBx_two {b:Bx} (h:¬ (b.x.lo≤b.x.hi∧b.y.lo≤b.y.hi∧b.u.lo≤b.u.hi∧b.v.lo≤b.v.hi)):errBx b=2:=by
 unfold errBx okBx Bx.ord;rw[decide_eq_false h];rfl
theorem errBx_ord {b:Bx} (h:ordN b 4):errBx b=if (okSt b.los&&okSt b.his)=true then 0 else 2:=by
 unfold errBx okBx Bx.ord;rw[decide_eq_true ⟨h.1 oM,h.2.1 oM,h.2.2.1 oM,h.2.2.2 oM⟩];rfl
theorem orbit_Check_any (b:Bx) (w:World) :
  Calls Tryz.prog 55 #[b] w fun e w'=>e=.returned (.int .i64 (errBx b))∧Kp w.heap.size none w w':=by
 have co:=fun w=>orbit_of_any b w;unfold spansC at co;have i0:=index4s_0;have i1:=index4s_1;have i2:=index4s_2;have i3:=index4s_3;obtain⟨r,hr⟩:∃ q9,Hid (q9=errBx b):=⟨_,Lib.hid rfl⟩;rw[← hr.out];obtain⟨w1,hw1,B,K,hz⟩:=box1 w 33 b;go_enter Tryz.func55,Tryz.ntmps55
 go_wp2_with fail
 rw[← hw1];clear hw1;refine mK (co _) fun w2 k=>?_;replace B:=B.kpN k;replace K:=K.thenN k oM;have hzk:=k.size;clear k;have cB:=B.cell;have fB:=B.frozen;go_wp2_with fail
 clear cB fB;go_loopw [7] (fun v wr=>∃ i:Nat,v=.int .i64 i∧i≤4∧ordN b i∧Blk wr w.heap.size 33 b∧Kp w.heap.size none w wr) (fun v _=>4-(intOf v).toNat)
 case atStart=>exact⟨0,rfl,by omega,⟨fun h=>by omega,fun h=>by omega,fun h=>by omega,fun h=>by omega⟩,B,K⟩
 case round=>
  obtain⟨i,rfl,hi,ho,B1,KK⟩:=hrel;clear K B co;unfold ordN at ho;have hi':i=0∨i=1∨i=2∨i=3∨i=4:=by omega
  rcases hi' with rfl|hi'
  ·
   rw[show ((0:Nat):Int)=(0:Int) from rfl];by_cases h:b.x.hi<b.x.lo
   ·
    have hr2:r=2:=by rw[hr.out];exact errBx_two oM
    clear ho hi hr;subst hr2;go_wp2
    go_ret
    exact⟨rfl,KK.thenN (Kp.new1 _ _) (Nat.le_refl _)⟩
   ·
    have hn:ordN b (0+1):=by unfold ordN;omega
    clear ho hi;have hn:=Lib.hid hn;go_wp2
    go_roundw
    case rel=>exact⟨0+1,rfl,by omega,hn.out,B1.kpN (Kp.new1 _ _),KK.thenN (Kp.new1 _ _) (Nat.le_refl _)⟩
    case measure=>simp[intOf]
  rcases hi' with rfl|hi'
  ·
   rw[show ((1:Nat):Int)=(1:Int) from rfl];by_cases h:b.y.hi<b.y.lo
   ·
    have hr2:r=2:=by rw[hr.out];exact errBx_two oM
    clear ho hi hr;subst hr2;go_wp2
    go_ret
    exact⟨rfl,KK.thenN (Kp.new1 _ _) (Nat.le_refl _)⟩
   ·
    have hn:ordN b (1+1):=by unfold ordN;omega
    clear ho hi;have hn:=Lib.hid hn;go_wp2
    go_roundw
    case rel=>exact⟨1+1,rfl,by omega,hn.out,B1.kpN (Kp.new1 _ _),KK.thenN (Kp.new1 _ _) (Nat.le_refl _)⟩
    case measure=>simp[intOf]
  rcases hi' with rfl|hi'
  ·
   rw[show ((2:Nat):Int)=(2:Int) from rfl];by_cases h:b.u.hi<b.u.lo
   ·
    have hr2:r=2:=by rw[hr.out];exact errBx_two oM
    clear ho hi hr;subst hr2;go_wp2
    go_ret
    exact⟨rfl,KK.thenN (Kp.new1 _ _) (Nat.le_refl _)⟩
   ·
    have hn:ordN b (2+1):=by unfold ordN;omega
    clear ho hi;have hn:=Lib.hid hn;go_wp2
    go_roundw
    case rel=>exact⟨2+1,rfl,by omega,hn.out,B1.kpN (Kp.new1 _ _),KK.thenN (Kp.new1 _ _) (Nat.le_refl _)⟩
    case measure=>simp[intOf]
  rcases hi' with rfl|hi'
  ·
   rw[show ((3:Nat):Int)=(3:Int) from rfl];by_cases h:b.v.hi<b.v.lo
   ·
    have hr2:r=2:=by rw[hr.out];exact errBx_two oM
    clear ho hi hr;subst hr2;go_wp2
    go_ret
    exact⟨rfl,KK.thenN (Kp.new1 _ _) (Nat.le_refl _)⟩
   ·
    have hn:ordN b (3+1):=by unfold ordN;omega
    clear ho hi;have hn:=Lib.hid hn;go_wp2
    go_roundw
    case rel=>exact⟨3+1,rfl,by omega,hn.out,B1.kpN (Kp.new1 _ _),KK.thenN (Kp.new1 _ _) (Nat.le_refl _)⟩
    case measure=>simp[intOf]
  subst hi';have hr2:r=if (okSt b.los&&okSt b.his)=true then 0 else 2:=by rw[hr.out];exact errBx_ord ho
  clear hr ho hi i0 i1 i2 i3;have c1:=fun w=>orbit_CheckState_any b.los w;have c2:=fun w=>orbit_CheckState_any b.his w;unfold errSt at c1 c2;generalize okSt b.los=x1 at *;generalize okSt b.his=x2 at *;simp only[Bx.los,Bx.his] at c1 c2;have B:=B1;have K:=KK;clear B1 KK;have m1:r=max (if x1=true then (0:Int) else 2) (if x2=true then (0:Int) else 2):=by rw[hr2];cases x1<;>cases x2<;>rfl
  clear hr2;generalize (if x1=true then (0:Int) else 2)=r1 at *;generalize (if x2=true then (0:Int) else 2)=r2 at *;replace m1:=Lib.hid m1;go_wp2_with fail
  obtain⟨S,hS0,hS1⟩:=cls_of2 (P:=fun w'=>Blk w' _ _ _∧Kp _ _ _ w') wr ⟨B,K⟩;try dsimp only at hS0
  have cB:=fun (x:Ev (S 0)) i=>((hS0 _).1 x.h).1.cell i;replace B:=B.drew;replace K:=K.drew;have hevT:=ev_true;refine wro S [(0,0),(1,0),(2,1),(3,0),(4,0),(5,1),(6,0),(7,0),(8,1),(9,0),(10,0),(11,1),(12,0),(14,0),(15,0),(16,1),(17,0),(18,0),(19,1),(20,0),(21,0),(22,1),(23,0),(24,0),(25,1),(26,0),(13,2),(27,2),(28,0),(29,0)] [] ((hS0 _).2 ⟨B,K⟩) ?_;intro _hev;refine oX ?_;refine oL ?_;intro Kc hKc;generalize wr.drew=wd9 at *;go_step;refine mK (c1 _) fun w3 k=>?_;replace B:=B.kpN k;replace K:=K.tN k;clear k;refine hKc _ _ ((hS0 _).2 ⟨B,K⟩) ?_;clear hKc Kc;refine oL ?_;intro Kc hKc;go_step;refine mK (c2 _) fun w4 k=>?_;replace B:=B.kpN k;replace K:=K.tN k;clear k;refine hKc _ _ ((hS0 _).2 ⟨B,K⟩) ?_;clear hKc Kc;refine oX ?_;refine wpOrd_nil ?_;clear hevT _hev;clear cB hS0 hS1 S;go_wp2
  rw[m1.out];go_ret
  exact⟨rfl,K⟩
theorem orbit_add_any (a b:Sp) (h1:wrap64 (a.lo+b.lo)=a.lo+b.lo) (h2:wrap64 (a.hi+b.hi)=a.hi+b.hi) (w:World) :
  Calls Tryz.prog 136 #[a,b] w fun e w'=>e=.returned (.agg #[(addS a b).lo,(addS a b).hi])∧Kp w.heap.size none w w':=by
 go_enter Tryz.func136,Tryz.ntmps136
 go_wp2_with fail
 exact bodyPost_ret (by simp[results,Tryz.results136,go_sem];exact⟨rfl,rfl⟩) rfl ⟨rfl,(Kp.new2 _ _ _).alloc (by simp;omega) _⟩
end Go.Proofs.YtdhiappifnflpaaGreatDoor
