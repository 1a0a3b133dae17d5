/- Orbits: the walks of orbit, first part: Pull, states, successors. Orbits: the walks of orbit, second part: Truth. Parts of a box, sets, weights and sights in plain Lean: the laws of TopNarrows and TopSightings. No program here. -/
import Derived.Test.YtdhiappifnflpaaGreatM18
import Derived.Test.YtdhiappifnflpaaGreatM06
set_option maxRecDepth 100000
set_option maxHeartbeats 4000000
namespace Go.Proofs.YtdhiappifnflpaaGreat
open Go.RowKit
def NearS (s:St):Prop:=-33554432≤s.x∧s.x≤33554432∧-33554432≤s.y∧s.y≤33554432∧-1048576≤s.u∧s.u≤1048576∧-1048576≤s.v∧s.v≤1048576
theorem okSt_near {s:St} (h:okSt s=true):NearS s:=by unfold okSt at h;unfold NearS;exact of_decide_eq_true h
theorem force_Pull_any (A:Option Addr) (c:Nat) (W:Wd) (d:Dr) (t:Int) (s:St) (w:World) (hW:W.ok) (hA:WdAt none w A W) (hd:d.ok) (ht:0≤t∧t≤1073741824) (hs:NearS s) :
  Calls Tryz.prog 111 #[.agg #[.slice A W.bs.length c,W.home],d,t,.agg #[s.x,s.y]] w fun e w'=>e=.returned (.tuple #[.agg #[(overA mp d (aloneA s) (W.hvs t)).x.lo,(overA mp d (aloneA s) (W.hvs t)).x.hi,(overA mp d (aloneA s) (W.hvs t)).y.lo,(overA mp d (aloneA s) (W.hvs t)).y.hi],(0:Int)])∧Kp w.heap.size none w w':=by
 have c1:=fun w=>force_alone_any ⟨s.x,s.y⟩ w;have c2:=fun w h=>force_Over_any A c W d t (aloneA s) w hW h hd ht (by obtain⟨h1,h2,h3,h4,-⟩:=hs;unfold Ar.bd Sp.bd aloneA oneS;simp only;omega);generalize overA mp d (aloneA s) (W.hvs t)=u at *;simp only[aloneA,oneS] at c1 c2;obtain⟨w1,hw1,D,F,P,R,K,hz⟩:=box4 w 27 #[.slice A W.bs.length c,W.home] 31 d 73 #[s.x,s.y] 167 #[(0:Int),(0:Int),(0:Int),(0:Int)];go_enter Tryz.func111,Tryz.ntmps111
 go_wp2_with fail
 rw[← hw1];clear hw1;obtain⟨S,hS0,hS1⟩:=cls_of2 (P:=fun w'=>Blk w' _ _ _∧Blk w' _ _ _∧Blk w' _ _ _∧Kp _ _ _ w') w1 ⟨D,F,P,K⟩;try dsimp only at hS0
 have cD:=fun (x:Ev (S 0)) i=>((hS0 _).1 x.h).1.cell i;have cF:=fun (x:Ev (S 0)) i=>((hS0 _).1 x.h).2.1.cell i;have cP:=fun (x:Ev (S 0)) i=>((hS0 _).1 x.h).2.2.1.cell i;replace D:=D.drew;replace F:=F.drew;replace P:=P.drew;replace K:=K.drew;replace R:=R.drew;have hevT:=ev_true;refine wro S [(0,1),(1,1),(2,0),(3,1),(4,2),(5,2),(6,0),(7,0),(8,3),(9,0)] [8] ((hS0 _).2 ⟨D,F,P,K⟩) ?_;intro _hev;refine oX ?_;refine oL ?_;intro Kc hKc;generalize w1.drew=wd9 at *;go_step;refine mK (c1 _) fun w2 k=>?_;replace D:=D.kpN k;replace F:=F.kpN k;replace P:=P.kpN k;replace R:=R.kpN k;replace K:=K.tN k;clear k;refine hKc _ _ ((hS0 _).2 ⟨D,F,P,K⟩) ?_;clear hKc Kc;refine oL ?_;intro Kc hKc;go_step;refine mK (c2 _ (hA.kpN K)) fun w3 k=>?_;replace D:=D.kpN k;replace F:=F.kpN k;replace P:=P.kpN k;replace R:=R.kpN k;replace K:=K.tN k;clear k;refine hKc _ _ ((hS0 _).2 ⟨D,F,P,K⟩) ?_;clear hKc Kc;refine oX ?_;refine oA ?_;intro Kc hKc;have cR:=R.cell;have fR:=R.frozen;go_step;obtain⟨w9,hwn,RB9,kst,hzst⟩:=R.st4 (.int .i64 u.x.lo) (.int .i64 u.x.hi) (.int .i64 u.y.lo) (.int .i64 u.y.hi);rw[← hwn];clear hwn cR fR;refine hKc _ _ ((hS1 _).2 trivial) ?_;clear hKc Kc;replace D:=D.kq kst;replace F:=F.kq kst;replace P:=P.kq kst;first|replace K:=K.thenOwn kst (Nat.le_refl _) oM|replace K:=K.then_ kst (Nat.le_refl _)
 replace R:=RB9;clear RB9 kst;simp only[sbt,sc0,scs] at R;change wpOrd _ _ _ _ _ 1 _ _;refine oX ?_;refine wpOrd_nil ?_;clear hevT _hev;clear cD cF cP hS0 hS1 S;have cR:=R.cell;go_wp2_with fail
 exact bodyPost_ret (v:=.tuple #[.agg #[u.x.lo,u.x.hi,u.y.lo,u.y.hi],(0:Int)]) (by simp[results,Tryz.results111,go_sem,cR]) rfl ⟨rfl,K⟩
def errSt (s:St):Int:=if okSt s=true then 0 else 2
theorem orbit_CheckState_any (s:St) (w:World) :
  Calls Tryz.prog 66 #[s] w fun e w'=>e=.returned (.int .i64 (errSt s))∧Kp w.heap.size none w w':=by
 have c1:=fun w=>orbit_within_any s.x (-33554432) 33554432 w;have c2:=fun w=>orbit_within_any s.y (-33554432) 33554432 w;have c3:=fun w=>orbit_within_any s.u (-1048576) 1048576 w;have c4:=fun w=>orbit_within_any s.v (-1048576) 1048576 w
 have e:okSt s=(btw s.x (-33554432) 33554432&&btw s.y (-33554432) 33554432&&btw s.u (-1048576) 1048576&&btw s.v (-1048576) 1048576):=by
  rw[Bool.eq_iff_iff];simp only[okSt,btw,Bool.and_eq_true,decide_eq_true_eq];omega
 unfold errSt;rw[e];clear e;generalize btw s.x (-33554432) 33554432=x1 at *;generalize btw s.y (-33554432) 33554432=x2 at *;generalize btw s.u (-1048576) 1048576=x3 at *;generalize btw s.v (-1048576) 1048576=x4 at *;obtain⟨w1,hw1,B,K,hz⟩:=box1 w 55 s;go_enter Tryz.func66,Tryz.ntmps66
 go_wp2_with fail
 rw[← hw1];clear hw1;refine mK (c1 _) fun w2 k=>?_;replace B:=B.kpN k;replace K:=K.thenN k oM;have hzk:=k.size;clear k;cases x1
 ·
  have cB:=B.cell;have fB:=B.frozen;go_wp2_with fail
  clear cB fB;go_ret
  exact⟨rfl,K⟩
 ·
  have cB:=B.cell;have fB:=B.frozen;go_wp2_with fail
  refine mK (c2 _) fun w3 k=>?_;clear cB fB;replace B:=B.kpN k;replace K:=K.thenN k oM;have hzk:=k.size;clear k;cases x2
  ·
   have cB:=B.cell;have fB:=B.frozen;go_wp2_with fail
   clear cB fB;go_ret
   exact⟨rfl,K⟩
  ·
   have cB:=B.cell;have fB:=B.frozen;go_wp2_with fail
   refine mK (c3 _) fun w4 k=>?_;clear cB fB;replace B:=B.kpN k;replace K:=K.thenN k oM;have hzk:=k.size;clear k;cases x3
   ·
    have cB:=B.cell;have fB:=B.frozen;go_wp2_with fail
    clear cB fB;go_ret
    exact⟨rfl,K⟩
   ·
    have cB:=B.cell;have fB:=B.frozen;go_wp2_with fail
    refine mK (c4 _) fun w5 k=>?_;clear cB fB;replace B:=B.kpN k;replace K:=K.thenN k oM;have hzk:=k.size;clear k;cases x4
    ·
     have cB:=B.cell;have fB:=B.frozen;go_wp2_with fail
     clear cB fB;go_ret
     exact⟨rfl,K⟩
    ·
     have cB:=B.cell;have fB:=B.frozen;go_wp2_with fail
     clear cB fB;go_ret
     exact⟨rfl,K⟩
theorem orbit_checkWorld_any (A:Option Addr) (c:Nat) (W:Wd) (d:Dr) (w:World) (hW:W.ok) (hA:WdAt none w A W) (hd:d.ok) :
  Calls Tryz.prog 65 #[.agg #[.slice A W.bs.length c,W.home],d] w fun e w'=>e=.returned (.int .i64 0)∧Kp w.heap.size none w w':=by
 have cw:=fun w h=>sky_CheckWorld_any A c W w hW h;have cd:=fun w=>force_CheckDrift_any d hd w;clear hW hd;obtain⟨w1,hw1,D,F,K,hz⟩:=box2 w 27 #[.slice A W.bs.length c,W.home] 31 d;go_enter Tryz.func65,Tryz.ntmps65
 go_wp2_with fail
 rw[← hw1];clear hw1;refine mK (cw _ (hA.kpN K)) fun w2 k=>?_;replace D:=D.kpN k;replace F:=F.kpN k;replace K:=K.thenN k oM;have hzk:=k.size;clear k;have cD:=D.cell;have fD:=D.frozen;have cF:=F.cell;have fF:=F.frozen;go_wp2_with fail
 refine mK (cd _) fun w3 k=>?_;clear cD fD cF fF;replace D:=D.kpN k;replace F:=F.kpN k;replace K:=K.thenN k oM;have hzk:=k.size;clear k;have cD:=D.cell;have fD:=D.frozen;have cF:=F.cell;have fF:=F.frozen;go_wp2_with fail
 clear cD fD cF fF;go_ret
 exact⟨rfl,K⟩
def folB (W:Wd) (d:Dr) (t:Int) (s n:St):Bool:=
 btw (n.u-s.u) (overA mp d (aloneA s) (W.hvs t)).x.lo (overA mp d (aloneA s) (W.hvs t)).x.hi&&(btw (n.v-s.v) (overA mp d (aloneA s) (W.hvs t)).y.lo (overA mp d (aloneA s) (W.hvs t)).y.hi&&(n.x==s.x+n.u&&n.y==s.y+n.v))
theorem folB_iff {W:Wd} {d:Dr} {t:Int} {s n:St}:folB W d t s n=true↔Follows mp d (W.hvs t) s n:=by
 simp only[folB,btw,Follows,Sp.has,Bool.and_eq_true,decide_eq_true_eq,beq_iff_eq]
theorem orbit_follows_any (A:Option Addr) (c:Nat) (W:Wd) (d:Dr) (t:Int) (s n:St) (w:World) (hW:W.ok) (hA:WdAt none w A W) (hd:d.ok) (ht:0≤t∧t≤1073741824) (hs:NearS s) (hn:NearS n) :
  Calls Tryz.prog 67 #[.agg #[.slice A W.bs.length c,W.home],d,t,s,n] w fun e w'=>e=.returned (.bool (folB W d t s n))∧Kp w.heap.size none w w':=by
 have cp:=fun w h=>force_Pull_any A c W d t s w hW h hd ht hs;unfold folB;generalize overA mp d (aloneA s) (W.hvs t)=u at *;have e1:wrap64 (n.u-s.u)=n.u-s.u:=by unfold NearS at hs hn;unfold wrap64;omega
 have e2:wrap64 (n.v-s.v)=n.v-s.v:=by unfold NearS at hs hn;unfold wrap64;omega
 have e3:wrap64 (s.x+n.u)=s.x+n.u:=by unfold NearS at hs hn;unfold wrap64;omega
 have e4:wrap64 (s.y+n.v)=s.y+n.v:=by unfold NearS at hs hn;unfold wrap64;omega
 have c1:=fun w=>orbit_within_any (n.u-s.u) u.x.lo u.x.hi w;have c2:=fun w=>orbit_within_any (n.v-s.v) u.y.lo u.y.hi w;generalize btw (n.u-s.u) u.x.lo u.x.hi=x1 at *;generalize btw (n.v-s.v) u.y.lo u.y.hi=x2 at *;clear hW hd hs hn ht;obtain⟨w1,hw1,D,F,B,C,K,hz⟩:=box4 w 27 #[.slice A W.bs.length c,W.home] 31 d 55 s 55 n;go_enter Tryz.func67,Tryz.ntmps67
 go_wp2_with fail
 rw[← hw1];clear hw1;refine mK (cp _ (hA.kpN K)) fun w2 k=>?_;replace D:=D.kpN k;replace F:=F.kpN k;replace B:=B.kpN k;replace C:=C.kpN k;replace K:=K.thenN k oM;have hzk:=k.size;clear k;have pD:=D.cell;have pF:=F.cell;have pB:=B.cell;have pC:=C.cell;obtain⟨w9_,rfl,U,k9_,hzn⟩:=box1 w2 167 #[u.x.lo,u.x.hi,u.y.lo,u.y.hi];replace D:=D.kpN k9_;replace F:=F.kpN k9_;replace B:=B.kpN k9_;replace C:=C.kpN k9_;replace K:=K.thenN k9_ oU;clear k9_;have cD:=D.cell;have fD:=D.frozen;have cF:=F.cell;have fF:=F.frozen;have cB:=B.cell;have fB:=B.frozen;have cC:=C.cell;have fC:=C.frozen;go_wp2_with fail
 clear cD fD pD cF fF pF cB fB pB cC fC pC;generalize (w2.alloc (.cells #[u.x.lo,u.x.hi,u.y.lo,u.y.hi] 167))=w3 at *;obtain⟨x,hx⟩:∃ q9,q9=w2.heap.size:=⟨_,rfl⟩;rw[← hx] at U ⊢;replace hx:=Lib.hid hx;clear hx hzn hzk hz;have cU:=U.cell;have fU:=U.frozen;have cB:=B.cell;have fB:=B.frozen;have cC:=C.cell;have fC:=C.frozen;go_wp2_with fail
 refine mK (c1 _) fun w4 k=>?_;clear cU fU cB fB cC fC;replace U:=U.kpN k;replace B:=B.kpN k;replace C:=C.kpN k;replace K:=K.thenN k oM;have hzk:=k.size;clear k;cases x1
 ·
  have cB:=B.cell;have fB:=B.frozen;go_wp2_with fail
  clear cB fB;go_ret
  exact⟨rfl,K⟩
 ·
  have cU:=U.cell;have fU:=U.frozen;have cB:=B.cell;have fB:=B.frozen;have cC:=C.cell;have fC:=C.frozen;go_wp2_with fail
  refine mK (c2 _) fun w5 k=>?_;clear cU fU cB fB cC fC;replace U:=U.kpN k;replace B:=B.kpN k;replace C:=C.kpN k;replace K:=K.thenN k oM;have hzk:=k.size;clear k;cases x2
  ·
   have cB:=B.cell;have fB:=B.frozen;go_wp2_with fail
   clear cB fB;go_ret
   exact⟨rfl,K⟩
  ·
   cases h1:n.x==s.x+n.u
   ·
    have cB:=B.cell;have fB:=B.frozen;have cC:=C.cell;have fC:=C.frozen;go_wp2_with fail
    clear cB fB cC fC;go_ret
    exact⟨by simp_all,K⟩
   ·
    cases h2:n.y==s.y+n.v
    ·
     have cB:=B.cell;have fB:=B.frozen;have cC:=C.cell;have fC:=C.frozen;go_wp2_with fail
     clear cB fB cC fC;go_ret
     exact⟨by simp_all,K⟩
    ·
     have cB:=B.cell;have fB:=B.frozen;have cC:=C.cell;have fC:=C.frozen;go_wp2_with fail
     clear cB fB cC fC;go_ret
     exact⟨by simp_all,K⟩
def encSt (s:St):List Value:=[.int .i64 s.x,.int .i64 s.y,.int .i64 s.u,.int .i64 s.v]
def OkT (W:Wd) (d:Dr) (t:Int) (l:List St) (i:Nat):Prop:=(∀ j (h:j<l.length),j<i→okSt l[j]=true)∧∀ j (h:j+1<l.length),j+1<i→Follows mp d (W.hvs (t+j)) l[j] l[j+1]
theorem OkT.all {W:Wd} {d:Dr} {t:Int} {l:List St} (h:OkT W d t l l.length):TruthW W d t l:=
 ⟨fun s hs=>by obtain⟨j,hj,rfl⟩:=List.getElem_of_mem hs;exact h.1 j hj hj,fun j hj=>h.2 j hj hj⟩
theorem OkT.next0 {W:Wd} {d:Dr} {t:Int} {l:List St} (hl:0<l.length) (o:okSt l[0]=true):OkT W d t l 1:=
 ⟨fun j _ hj=>by (obtain rfl:j=0:=oM);exact o,fun j _ hj=>by omega⟩
theorem OkT.next {W:Wd} {d:Dr} {t:Int} {l:List St} {k:Nat} (h:OkT W d t l (k+1)) (hk:k+1<l.length) (o:okSt l[k+1]=true) (f:folB W d (t+k) l[k] l[k+1]=true):OkT W d t l (k+2):=by
 refine⟨fun j hj hji=>?_,fun j hj hji=>?_⟩
 ·
  by_cases e:j=k+1
  · subst e;exact o
  · exact h.1 j hj oM
 ·
  by_cases e:j=k
  · subst e;exact folB_iff.1 f
  · exact h.2 j hj oM
theorem errSt_ne {s:St} (h:okSt s=false):errSt s=2:=by unfold errSt;simp[h]
theorem errSt_eq {s:St} (h:okSt s=true):errSt s=0:=by unfold errSt;simp[h]
def TrAt (W:Wd) (d:Dr) (t:Int) (l:List St) (A:Option Addr) (c:Nat) (w:World) (v:Value) (wr:World):Prop:=
 ∃ i:Nat,v=.int .i64 i∧i≤l.length∧OkT W d t l i∧Blk wr w.heap.size 27 #[.slice A W.bs.length c,W.home]∧Blk wr (w.heap.size+1) 31 d∧Kp w.heap.size none w wr
theorem orbit_Truth_any (A:Option Addr) (c:Nat) (W:Wd) (d:Dr) (t:Int) (B:Option Addr) (m:Nat) (l:List St) (w:World) (hW:W.ok) (hA:WdAt none w A W) (hd:d.ok) (ht:0≤t∧t≤1000000) (hr:Rd none w 4 encSt B l.length l) (hl:l.length≤1000) :
  Calls Tryz.prog 27 #[.agg #[.slice A W.bs.length c,W.home],d,t,.slice B l.length m] w fun e w'=>(∃ v:Int,e=.returned (.int .i64 v)∧(v=-1→TruthW W d t l))∧Kp w.heap.size none w w':=by
 have cw:=fun w h=>orbit_checkWorld_any A c W d w hW h hd;have ct:=fun w=>orbit_within_any t 0 1073741824 w;rw[btw_t oM oM] at ct;have e1:wrap64 (t+(l.length:Int))=t+(l.length:Int):=by unfold wrap64;omega
 have e2:wrap64 (t+(l.length:Int)-1)=t+(l.length:Int)-1:=by unfold wrap64;omega
 have n1:¬ 1073741824<t+(l.length:Int)-1:=by omega
 obtain⟨w1,hw1,D,F,K,hz⟩:=box2 w 27 #[.slice A W.bs.length c,W.home] 31 d;go_enter Tryz.func27,Tryz.ntmps27
 go_wp2_with fail
 rw[← hw1];clear hw1;refine mK (cw _ (hA.kpN K)) fun w2 k=>?_;replace D:=D.kpN k;replace F:=F.kpN k;replace K:=K.thenN k oM;have hzk:=k.size;clear k;have cD:=D.cell;have fD:=D.frozen;have cF:=F.cell;have fF:=F.frozen;go_wp2_with fail
 refine mK (ct _) fun w3 k=>?_;clear cD fD cF fF;replace D:=D.kpN k;replace F:=F.kpN k;replace K:=K.thenN k oM;have hzk:=k.size;clear k;clear cw ct;have cD:=D.cell;have fD:=D.frozen;have cF:=F.cell;have fF:=F.frozen;go_wp2_with fail
 clear cD fD cF fF;go_loopw [30] (fun v wr=>TrAt W d t l A c w v wr) (fun v _=>(l.length:Int).toNat-(intOf v).toNat)
 case atStart=>exact⟨0,rfl,Nat.zero_le _,⟨fun j _ h=>by omega,fun j _ h=>by omega⟩,D,F,K⟩
 case round=>
  obtain⟨i,rfl,hi,hT,D1,F1,K1⟩:=hrel;clear D F K e1 e2 n1;have D:=D1;have F:=F1;have K:=K1;clear D1 F1 K1;have hz0:=K.size;by_cases h:i<l.length
  ·
   obtain⟨b,o,rfl,hb,-,hc⟩:=hr.at_ oM;have c0:=hc i h 0 _ rfl;have c1:=hc i h 1 _ rfl;have c2:=hc i h 2 _ rfl;have c3:=hc i h 3 _ rfl;rw[Nat.add_zero] at c0;rw[← Nat.add_assoc] at c1 c2 c3;have d0:=(K.cell b _ hb (by simp)).trans c0;have d1:=(K.cell b _ hb (by simp)).trans c1;have d2:=(K.cell b _ hb (by simp)).trans c2;have d3:=(K.cell b _ hb (by simp)).trans c3;have hii:(i:Int)<(l.length:Int):=by omega
   have hi0:(0:Int)≤(i:Int):=by omega
   have hm:(l.length:Int).toNat-((i+1:Nat):Int).toNat<(l.length:Int).toNat-(i:Int).toNat:=by omega
   replace hm:=Lib.hid hm;have cs:=fun w=>orbit_CheckState_any l[i] w;have pD:=D.cell;have pF:=F.cell;obtain⟨w9_,rfl,X,k9_,hzn⟩:=box1 wr 55 #[.int .i64 l[i].x,.int .i64 l[i].y,.int .i64 l[i].u,.int .i64 l[i].v];replace D:=D.kpN k9_;replace F:=F.kpN k9_;replace K:=K.thenN k9_ oU;clear k9_;have cD:=D.cell;have fD:=D.frozen;have cF:=F.cell;have fF:=F.frozen;go_wp2_with fail
   clear cD fD pD cF fF pF;generalize (wr.alloc (.cells #[.int .i64 l[i].x,.int .i64 l[i].y,.int .i64 l[i].u,.int .i64 l[i].v] 55))=w2 at *;obtain⟨x,hx⟩:∃ q9,q9=wr.heap.size:=⟨_,rfl⟩;rw[← hx] at X ⊢;replace hx:=Lib.hid hx;have hxw:w.heap.size<x:=by have:=hx.out;have:=F.lt;omega
   clear hx hzn hzk hz d0 d1 d2 d3;obtain⟨s,hs⟩:∃ q9,Hid (q9=l[i]):=⟨_,Lib.hid rfl⟩;rw[← hs.out] at X cs;cases ho:okSt s
   ·
    rw[errSt_ne ho] at cs;have hb2:(!((2:Int)==0))=true:=rfl;obtain⟨S,hS0,hS1⟩:=cls_of2 (P:=fun w'=>Blk w' _ _ _∧Blk w' _ _ _∧Blk w' _ _ _∧Kp _ _ _ w') w2 ⟨D,F,X,K⟩;try dsimp only at hS0
    have cD:=fun (x:Ev (S 0)) i=>((hS0 _).1 x.h).1.cell i;have cF:=fun (x:Ev (S 0)) i=>((hS0 _).1 x.h).2.1.cell i;have cX:=fun (x:Ev (S 0)) i=>((hS0 _).1 x.h).2.2.1.cell i;replace D:=D.drew;replace F:=F.drew;replace X:=X.drew;replace K:=K.drew;have hevT:=ev_true;refine wro S [(0,1),(1,2),(2,0),(3,0),(4,0),(5,0),(6,0),(7,1),(8,1),(9,0),(10,0),(11,0),(12,0),(13,0),(14,0),(15,0),(16,0),(17,1),(18,1),(19,2),(20,0),(21,0),(22,0)] [] ((hS0 _).2 ⟨D,F,X,K⟩) ?_;intro _hev;refine oX ?_;refine oL ?_;intro Kc hKc;generalize w2.drew=wd9 at *;go_step;refine mK (cs _) fun w3 k=>?_;replace D:=D.kpN k;replace F:=F.kpN k;replace X:=X.kpN k;replace K:=K.tN k;clear k;refine hKc _ _ ((hS0 _).2 ⟨D,F,X,K⟩) ?_;clear hKc Kc;refine oY ?_;iterate 15 (refine oZ ?_)
    refine wpOrd_s2 (by decide) rfl rfl rfl ?_;intro Kc hKc;go_big_quiet_op
    go_big_quiet_on
    iterate 2 (refine oZ ?_)
    refine oY ?_;refine wpOrd_nil ?_;clear hevT _hev;clear cD cF cX hS0 hS1 S;go_wp2
    go_ret
    exact⟨⟨_,rfl,fun e=>by omega⟩,K⟩
   ·
    rw[errSt_eq ho] at cs;by_cases h0:i=0
    ·
     subst h0;obtain⟨S,hS0,hS1⟩:=cls_of2 (P:=fun w'=>Blk w' _ _ _∧Blk w' _ _ _∧Blk w' _ _ _∧Kp _ _ _ w') w2 ⟨D,F,X,K⟩;try dsimp only at hS0
     have cD:=fun (x:Ev (S 0)) i=>((hS0 _).1 x.h).1.cell i;have cF:=fun (x:Ev (S 0)) i=>((hS0 _).1 x.h).2.1.cell i;have cX:=fun (x:Ev (S 0)) i=>((hS0 _).1 x.h).2.2.1.cell i;replace D:=D.drew;replace F:=F.drew;replace X:=X.drew;replace K:=K.drew;have hevT:=ev_true;refine wro S [(0,1),(1,2),(2,0),(3,0),(4,0),(5,0),(6,0),(7,1),(8,1),(9,0),(10,0),(11,0),(12,0),(13,0),(14,0),(15,0),(16,0),(17,1),(18,1),(19,2),(20,0),(21,0),(22,0)] [] ((hS0 _).2 ⟨D,F,X,K⟩) ?_;intro _hev;refine oX ?_;refine oL ?_;intro Kc hKc;generalize w2.drew=wd9 at *;go_step;refine mK (cs _) fun w3 k=>?_;replace D:=D.kpN k;replace F:=F.kpN k;replace X:=X.kpN k;replace K:=K.tN k;clear k;refine hKc _ _ ((hS0 _).2 ⟨D,F,X,K⟩) ?_;clear hKc Kc;refine oY ?_;iterate 12 (refine oZ ?_)
     refine wpOrd_s2 (by decide) rfl rfl rfl ?_;intro Kc hKc;go_big_quiet_op
     go_big_quiet_on
     refine oZ ?_;refine oY ?_;refine wpOrd_nil ?_;clear hevT _hev;clear cD cF cX hS0 hS1 S;replace h:=Lib.hid h;go_wp2
     go_roundw
     case rel=>exact⟨1,rfl,h.out,OkT.next0 h.out (hs.out ▸ ho),D,F,K⟩
     case measure=>exact hm.out
    ·
     obtain⟨k,hk⟩:∃ k,Hid (i=k+1):=⟨i-1,Lib.hid oM⟩;have hkl:k<l.length:=by have:=hk.out;omega
     have c10:=hc k hkl 0 _ rfl;have c11:=hc k hkl 1 _ rfl;have c12:=hc k hkl 2 _ rfl;have c13:=hc k hkl 3 _ rfl;rw[Nat.add_zero] at c10;rw[← Nat.add_assoc] at c11 c12 c13;have hkk:(k:Int)<(l.length:Int):=by omega
     have hk0:(0:Int)≤(k:Int):=by omega
     have g0:wrap64 ((i:Int)-1)=(k:Int):=by have:=hk.out;unfold wrap64;omega
     have g1:wrap64 (t+(i:Int))=t+(i:Int):=by have:=hk.out;unfold wrap64;omega
     have g2:wrap64 (t+(i:Int)-1)=t+(k:Int):=by have:=hk.out;unfold wrap64;omega
     have gp:0<i:=by omega
     have g3:(i:Int)-1=(k:Int):=by have:=hk.out;omega
     have g4:t+(i:Int)-1=t+(k:Int):=by have:=hk.out;omega
     have hok:=hT.1 k hkl (by have:=hk.out;omega);have cf:=fun w hA=>orbit_follows_any A c W d (t+(k:Int)) l[k] s w hW hA hd oM (okSt_near hok) (okSt_near ho);obtain⟨p,hp⟩:∃ q9,Hid (q9=l[k]):=⟨_,Lib.hid rfl⟩;rw[← hp.out] at cf c10 c11 c12 c13;obtain⟨fb,hfb⟩:∃ q9,Hid (q9=folB W d (t+(k:Int)) p s):=⟨_,Lib.hid rfl⟩;rw[← hfb.out] at cf;replace hok:=Lib.hid hok;replace hT:=Lib.hid hT;clear hc;replace h0:=Lib.hid h0;replace hi:=Lib.hid hi;obtain⟨S,hS0,hS1⟩:=cls_of2 (P:=fun w'=>Blk w' _ _ _∧Blk w' _ _ _∧Blk w' _ _ _∧Kp _ _ _ w') w2 ⟨D,F,X,K⟩;try dsimp only at hS0
     have cD:=fun (x:Ev (S 0)) i=>((hS0 _).1 x.h).1.cell i;have cF:=fun (x:Ev (S 0)) i=>((hS0 _).1 x.h).2.1.cell i;have cX:=fun (x:Ev (S 0)) i=>((hS0 _).1 x.h).2.2.1.cell i;have c10:=fun (x:Ev (S 0))=>((((hS0 _).1 x.h).2.2.2).cell _ _ hb oW).trans c10;have c11:=fun (x:Ev (S 0))=>((((hS0 _).1 x.h).2.2.2).cell _ _ hb oW).trans c11;have c12:=fun (x:Ev (S 0))=>((((hS0 _).1 x.h).2.2.2).cell _ _ hb oW).trans c12;have c13:=fun (x:Ev (S 0))=>((((hS0 _).1 x.h).2.2.2).cell _ _ hb oW).trans c13;replace D:=D.drew;replace F:=F.drew;replace X:=X.drew;replace K:=K.drew;have hevT:=ev_true;refine wro S [(0,1),(1,2),(2,0),(3,0),(4,0),(5,0),(6,0),(7,1),(8,1),(9,0),(10,0),(11,0),(12,0),(13,0),(14,0),(15,0),(16,0),(17,1),(18,1),(19,2),(20,0),(21,0),(22,0)] [] ((hS0 _).2 ⟨D,F,X,K⟩) ?_;intro _hev;refine oX ?_;refine oL ?_;intro Kc hKc;generalize w2.drew=wd9 at *;go_step;refine mK (cs _) fun w3 k=>?_;replace D:=D.kpN k;replace F:=F.kpN k;replace X:=X.kpN k;replace K:=K.tN k;clear k;refine hKc _ _ ((hS0 _).2 ⟨D,F,X,K⟩) ?_;clear hKc Kc;refine oX ?_;refine oL ?_;intro Kc hKc;go_step;refine mK (cf _ (hA.kpN K)) fun w4 k=>?_;replace D:=D.kpN k;replace F:=F.kpN k;replace X:=X.kpN k;replace K:=K.tN k;clear k;refine hKc _ _ ((hS0 _).2 ⟨D,F,X,K⟩) ?_;clear hKc Kc;refine oX ?_;refine wpOrd_nil ?_;clear hevT _hev;clear c10 c11 c12 c13;clear cD cF cX hS0 hS1 S;cases fb
     ·
      go_wp2
      go_ret
      exact⟨⟨_,rfl,fun e=>by omega⟩,K⟩
     ·
      replace h:=Lib.hid h;go_wp2
      go_roundw
      case rel=>
       have hk':=hk.out;have hT':=hT.out;subst hk';exact⟨k+2,by congr 1,h.out,hT'.next h.out (hs.out ▸ ho) (by rw[← hp.out,← hs.out];exact hfb.out.symm),D,F,K⟩
      case measure=>exact hm.out
  ·
   obtain rfl:i=l.length:=by omega
   clear hr hA;have cD:=D.cell;have fD:=D.frozen;go_wp2_with fail
   clear cD fD;go_ret
   exact⟨⟨_,rfl,fun _=>hT.all⟩,K⟩
end Go.Proofs.YtdhiappifnflpaaGreat
namespace Go.Proofs.YtdhiappifnflpaaGreat
def getS (b:Bx):Nat→Sp
 | 0=>b.x
 | 1=>b.y
 | 2=>b.u
 | _=>b.v
def setS (b:Bx) (i:Nat) (s:Sp):Bx:=match i with
 | 0=>⟨s,b.y,b.u,b.v⟩
 | 1=>⟨b.x,s,b.u,b.v⟩
 | 2=>⟨b.x,b.y,s,b.v⟩
 | _=>⟨b.x,b.y,b.u,s⟩
def Halves (c x y:Bx):Prop:=∃ (i:Nat) (m:Int),i<4∧(getS c i).lo≤m∧m<(getS c i).hi∧x=setS c i ⟨(getS c i).lo,m⟩∧y=setS c i ⟨m+1,(getS c i).hi⟩
section
variable {c x y:Bx} {s:St}
theorem Halves.cover (h:Halves c x y) (hs:c.has s):x.has s∨y.has s:=by
 obtain⟨i,m,hi,h1,h2,rfl,rfl⟩:=h;match i,hi with
 | 0,_|1,_|2,_|3,_=>simp only[getS,setS,Bx.has,Sp.has] at *;omega
theorem Halves.sub (h:Halves c x y) (hs:x.has s∨y.has s):c.has s:=by
 obtain⟨i,m,hi,h1,h2,rfl,rfl⟩:=h;match i,hi with
 | 0,_|1,_|2,_|3,_=>simp only[getS,setS,Bx.has,Sp.has] at *;omega
theorem Halves.disj (h:Halves c x y) (hx:x.has s) (hy:y.has s):False:=by
 obtain⟨i,m,hi,h1,h2,rfl,rfl⟩:=h;match i,hi with
 | 0,_|1,_|2,_|3,_=>simp only[getS,setS,Bx.has,Sp.has] at *;omega
theorem okBx_iff (b:Bx):okBx b=true↔(b.x.lo≤b.x.hi∧b.y.lo≤b.y.hi∧b.u.lo≤b.u.hi∧b.v.lo≤b.v.hi)∧(-33554432≤b.x.lo∧b.x.hi≤33554432∧-33554432≤b.y.lo∧b.y.hi≤33554432∧-1048576≤b.u.lo∧b.u.hi≤1048576∧-1048576≤b.v.lo∧b.v.hi≤1048576):=by
 simp only[okBx,Bx.ord,okSt,Bool.and_eq_true,decide_eq_true_eq];simp only[Bx.los,Bx.his];constructor
 ·
  rintro ⟨⟨a1,a2,a3,a4⟩,⟨b1,b2,b3,b4,b5,b6,b7,b8⟩,c1,c2,c3,c4,c5,c6,c7,c8⟩;exact⟨⟨a1,a2,a3,a4⟩,b1,c2,b3,c4,b5,c6,b7,c8⟩
 ·
  rintro ⟨⟨a1,a2,a3,a4⟩,b1,c2,b3,c4,b5,c6,b7,c8⟩;refine⟨⟨a1,a2,a3,a4⟩,⟨?_,?_,?_,?_,?_,?_,?_,?_⟩,?_,?_,?_,?_,?_,?_,?_,?_⟩<;>omega
theorem Halves.ok (h:Halves c x y) (hc:okBx c=true):okBx x=true∧okBx y=true:=by
 rw[okBx_iff] at *;rw[okBx_iff];obtain⟨i,m,hi,h1,h2,rfl,rfl⟩:=h;match i,hi with
 | 0,_|1,_|2,_|3,_=>simp only[getS,setS] at *;omega
end
inductive Part (b:Bx):List Bx→Prop
 | one:Part b [b]
 | cut {p q:List Bx} {c x y:Bx}:Part b (p++c::q)→Halves c x y→Part b (p++x::y::q)
def Apart (c d:Bx):Prop:=∀ s,c.has s→d.has s→False
theorem Part.cover {b:Bx} {l:List Bx} (h:Part b l) {s:St} (hs:b.has s):∃ c∈l,c.has s:=by
 induction h with
 | one=>exact⟨b,by simp,hs⟩
 | cut _ hh ih=>
  obtain⟨c,hc,hcs⟩:=ih;simp only[List.mem_append,List.mem_cons] at hc;rcases hc with h|rfl|h
  · exact⟨c,by simp[h],hcs⟩
  ·
   rcases hh.cover hcs with q|q
   · exact⟨_,by simp,q⟩
   · exact⟨_,by simp,q⟩
  · exact⟨c,by simp[h],hcs⟩
theorem Part.ok {b:Bx} {l:List Bx} (h:Part b l) (hb:okBx b=true):∀ c∈l,okBx c=true:=by
 induction h with
 | one=>intro c hc;simp at hc;rw[hc];exact hb
 | cut _ hh ih=>
  intro c hc;have k:=hh.ok (ih _ (by simp));simp only[List.mem_append,List.mem_cons] at hc;rcases hc with h|rfl|rfl|h
  · exact ih c (by simp[h])
  · exact k.1
  · exact k.2
  · exact ih c (by simp[h])
theorem Part.apart {b:Bx} {l:List Bx} (h:Part b l):l.Pairwise Apart:=by
 induction h with
 | one=>simp
 | cut _ hh ih=>
  rw[List.pairwise_append,List.pairwise_cons] at ih;obtain⟨h1,⟨h2,h3⟩,h4⟩:=ih;rw[List.pairwise_append,List.pairwise_cons,List.pairwise_cons];refine⟨h1,⟨?_,fun d hd s a e=>h2 d hd s (hh.sub (.inr a)) e,h3⟩,?_⟩
  ·
   intro d hd;simp only[List.mem_cons] at hd;rcases hd with rfl|hd
   · exact fun s a e=>hh.disj a e
   · exact fun s a e=>h2 d hd s (hh.sub (.inl a)) e
  ·
   intro a ha d hd;simp only[List.mem_cons] at hd;rcases hd with rfl|rfl|hd
   · exact fun s e f=>h4 a ha _ (by simp) s e (hh.sub (.inl f))
   · exact fun s e f=>h4 a ha _ (by simp) s e (hh.sub (.inr f))
   · exact h4 a ha d (by simp[hd])
def sumIf (f:Bx→Bool):List (Bx × Int)→Int
 | []=>0
 | p::r=>(if f p.1 then p.2 else 0)+sumIf f r
def isHit (W:Wd) (d:Dr) (n:Nat) (t:Int) (c:Bx):Bool:=decide (fateW W d n t c=.hit)
def notMiss (W:Wd) (d:Dr) (n:Nat) (t:Int) (c:Bx):Bool:=decide (fateW W d n t c≠.miss)
def anyB (_:Bx):Bool:=true
def afterL (left:List Bx) (l:List (Bx × Int)):List Int:=l.flatMap fun p=>(left.filter fun c=>decide (c=p.1)).map fun _=>p.2
theorem filter_eq_self {g:Bx→Bool} {c:Bx}:∀ {l:List Bx},l.Nodup→c∈l→((l.filter g).filter fun e=>decide (e=c))=if g c then [c] else []
 | [],_,h=>by simp at h
 | a::r,hn,h=>by
  rw[List.nodup_cons] at hn
  have none:∀ {m:List Bx},c ∉ m→((m.filter g).filter fun e=>decide (e=c))=[]:=fun {m} hm=>by
   rw[List.filter_eq_nil_iff];intro e he;simp only[decide_eq_true_eq];rintro rfl;exact hm (List.mem_filter.1 he).1
  by_cases e:a=c
  ·
   subst e;rw[List.filter_cons];by_cases q:g a=true
   · rw[if_pos q,if_pos q,List.filter_cons,if_pos (by simp),none hn.1]
   · rw[if_neg q,if_neg q,none hn.1]
  ·
   have hc:c∈r:=by simpa [Ne.symm e] using h
   have ih:=filter_eq_self (g:=g) hn.2 hc;rw[List.filter_cons];by_cases q:g a=true
   · rw[if_pos q,List.filter_cons,if_neg (by simpa using e),ih]
   · rw[if_neg q,ih]
def exclW (W:Wd) (d:Dr) (n:Nat) (t:Int) (b:Bx) (hv:Option (Bx × Bx)):Bool:=
 match fateW W d n t b,hv with
 | .open,some (x,y)=>decide (fateW W d n t x=.miss)&&decide (fateW W d n t y=.miss)
 | k,_=>decide (k=.miss)
theorem exclW_sound {W:Wd} {d:Dr} {n:Nat} {t:Int} {b:Bx} {hv:Option (Bx × Bx)} {l:List St} (hW:W.ok) (hd:d.ok) (h:TruthW W d t l) (hn:l.length=n+1) (hb:b.has (nth l 0)) (hh:∀ x y,hv=some (x,y)→Halves b x y)
  (e:exclW W d n t b hv=true):¬ ∃ i:Nat,i<n∧hitW W (t+i) (nth l i) (nth l (i+1)):=by
 intro hi;have key:=fun (c:Bx) (hc:c.has (nth l 0))=>fateW_hit hW hd h hn hc hi;have kb:=key b hb;unfold exclW at e;split at e
 ·
  rename_i x y _;simp only[Bool.and_eq_true,decide_eq_true_eq] at e;rcases (hh x y rfl).cover hb with q|q
  · exact key x q e.1
  · exact key y q e.2
 ·
  simp only[decide_eq_true_eq] at e;exact kb e
def stepAll (W:Wd) (d:Dr) (t:Int):List Bx→Option (List Bx)
 | []=>some []
 | b::r=>match stepW W d t b,stepAll W d t r with
  | some x,some m=>some (x::m)
  | _,_=>none
theorem stepAll_mem {W:Wd} {d:Dr} {t:Int}:∀ {l m:List Bx},stepAll W d t l=some m→(∀ b∈l,∃ x∈m,stepW W d t b=some x)∧(∀ x∈m,okBx x=true)∧m.length=l.length
 | [],m,h=>by
  simp only[stepAll,Option.some.injEq] at h;subst h;simp
 | b::r,m,h=>by
  unfold stepAll at h;split at h
  ·
   rename_i x m' hx hm;injection h with h
   subst h;obtain⟨a1,a2,a3⟩:=stepAll_mem hm;refine⟨?_,?_,by simp[a3]⟩
   ·
    intro c hc;simp only[List.mem_cons] at hc;rcases hc with rfl|hc
    · exact⟨x,by simp,hx⟩
    ·
     obtain⟨y,hy,e⟩:=a1 c hc;exact⟨y,by simp[hy],e⟩
   ·
    intro c hc;simp only[List.mem_cons] at hc;rcases hc with rfl|hc
    · exact stepW_ok hx
    · exact a2 c hc
  · cases h
def updW (W:Wd) (d:Dr) (ex:Int→Bx→Bool):Nat→Int→List Bx→Option (List Bx)
 | 0,t,l=>some (l.filter fun b=>!ex t b)
 | n+1,t,l=>match stepAll W d t (l.filter fun b=>!ex t b) with
  | none=>none
  | some m=>updW W d ex n (t+1) m
theorem updW_has {W:Wd} {d:Dr} {ex:Int→Bx→Bool} (hW:W.ok) (hd:d.ok):∀ (n:Nat) (t:Int) (l:List Bx) (s:List St) (out:List Bx),TruthW W d t s→n<s.length→(∃ b∈l,b.has (nth s 0)) →
  (∀ (i:Nat) (b:Bx),i≤n→b.has (nth s i)→ex (t+i) b=false)→updW W d ex n t l=some out→∃ b∈out,b.has (nth s n)
 | 0,t,l,s,out,_,_,⟨b,hb,hs⟩,hx,h=>by
  simp only[updW,Option.some.injEq] at h;subst h;have:=hx 0 b (by omega) hs;rw[show t+((0:Nat):Int)=t from by simp] at this;exact⟨b,by simp[hb,this],hs⟩
 | n+1,t,l,s,out,ht,hl,⟨b,hb,hs⟩,hx,h=>by
  unfold updW at h;split at h
  · cases h
  ·
   rename_i m hm;have e0:=hx 0 b (by omega) hs;rw[show t+((0:Nat):Int)=t from by simp] at e0;obtain⟨x,hx',ex'⟩:=(stepAll_mem hm).1 b (by simp[hb,e0]);have f:=ht.fol (i:=0) (by omega);rw[show t+((0:Nat):Int)=t from by simp] at f;have d1:∀ i,nth (s.drop 1) i=nth s (1+i):=fun i=>by unfold nth;rw[List.getD_eq_getElem?_getD,List.getElem?_drop,List.getD_eq_getElem?_getD]
   have td:=ht.drop 1;rw[show t+((1:Nat):Int)=t+1 from by simp] at td
   have:=updW_has hW hd n (t+1) m (s.drop 1) out td (by rw[List.length_drop];omega) ⟨x,hx',by rw[d1];exact stepW_has hW hd hs f ex'⟩
    (fun i c hi hc=>by
     rw[d1] at hc;have:=hx (1+i) c (by omega) hc;rw[show t+1+(i:Int)=t+((1+i:Nat):Int) from by push_cast;omega];exact this) h
   rw[d1,Nat.add_comm] at this;exact this
theorem updW_ok {W:Wd} {d:Dr} {ex:Int→Bx→Bool}:∀ (n:Nat) (t:Int) (l out:List Bx),(∀ b∈l,okBx b=true)→updW W d ex n t l=some out→(∀ b∈out,okBx b=true)∧out.length≤l.length
 | 0,t,l,out,hl,h=>by
  simp only[updW,Option.some.injEq] at h;subst h;exact⟨fun b hb=>hl b (List.mem_filter.1 hb).1,List.length_filter_le _ _⟩
 | n+1,t,l,out,hl,h=>by
  unfold updW at h;split at h
  · cases h
  ·
   rename_i m hm;obtain⟨-,a2,a3⟩:=stepAll_mem hm;obtain⟨b1,b2⟩:=updW_ok n (t+1) m out a2 h;have:=List.length_filter_le (fun b=>!ex t b) l;exact⟨b1,by omega⟩
end Go.Proofs.YtdhiappifnflpaaGreat
