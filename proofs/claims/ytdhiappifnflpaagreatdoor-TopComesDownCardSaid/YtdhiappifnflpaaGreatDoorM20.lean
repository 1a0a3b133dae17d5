/- The reference's skies: where a body is. The reference's pulls, weakly: what is asked. The reference's differences of spans, exactly (a drawn region that allocates freely wants a value known ahead). -/
import Derived.Test.YtdhiappifnflpaaGreatDoorM19
import Derived.Deep.DeepCutAuto
set_option maxRecDepth 100000
set_option maxHeartbeats 2000000
namespace Go.Proofs.YtdhiappifnflpaaGreatDoor
open Go.RowKit
theorem r2_between_t {n lo hi:Int} (h1:lo≤n) (h2:n≤hi) (w:World):Calls Tryz.prog 71 #[n,lo,hi] w fun e w'=>e=.returned (.bool true)∧Kp w.heap.size none w w':=by
 have:=bolideref02_between_any n lo hi w;rwa [btw_t h1 h2] at this
theorem r2_Near_t (p:Pt) (h:NearP p) (w:World):Calls Tryz.prog 144 #[.agg #[p.x,p.y]] w fun e w'=>e=.returned (.bool true)∧Kp w.heap.size none w w':=by
 have c1:=fun w=>r2_between_t h.1 h.2.1 w;have c2:=fun w=>r2_between_t h.2.2.1 h.2.2.2 w;clear h;obtain⟨w1,hw1,B,K,hz⟩:=box1 w 45 #[p.x,p.y];go_enter Tryz.func144,Tryz.ntmps144
 go_wp2_with fail
 rw[← hw1];clear hw1;refine mK (c1 _) fun w2 k=>?_;replace B:=B.kpN k;replace K:=K.thenN k oM;have hzk:=k.size;clear k;have cB:=B.cell;have fB:=B.frozen;go_wp2_with fail
 refine mK (c2 _) fun w3 k=>?_;clear cB fB;replace B:=B.kpN k;replace K:=K.thenN k oM;have hzk:=k.size;clear k;have cB:=B.cell;have fB:=B.frozen;go_wp2_with fail
 clear cB fB;go_ret
 exact⟨rfl,K⟩
theorem r2_body_any (b:Bd) (B:Option Addr) (c:Nat) (w:World) (hb:b.ok) (hr:Rd none w 2 encPt B b.tr.length b.tr) :
  Calls Tryz.prog 116 #[.agg #[b.mu,b.rad,.slice B b.tr.length c]] w fun e w'=>e=.returned (.int .i64 0)∧Kp w.heap.size none w w':=by
 have c1:=fun w=>r2_between_t (n:=b.mu) (lo:=0) (hi:=1125899906842624) hb.mu0 (by have:=hb.mu1;omega) w;have c2:=fun w=>r2_between_t (n:=b.rad) (lo:=0) (hi:=1048576) hb.rad0 (by have:=hb.rad1;omega) w;have hn:=hb.near;have h0:=hb.tr0;have h1:=hb.tr1;have n0:((b.tr.length:Int)==0)=false:=by simp;intro e;rw[e] at h0;simp at h0
 have n1:¬ (4096:Int)<(b.tr.length:Int):=by omega
 have n2:¬ (b.tr.length:Int)=0:=by omega
 clear hb;obtain⟨w1,hw1,D,K,hz⟩:=box1 w 43 #[b.mu,b.rad,.slice B b.tr.length c];go_enter Tryz.func116,Tryz.ntmps116
 go_wp2_with fail
 rw[← hw1];clear hw1;refine mK (c1 _) fun w2 k=>?_;replace D:=D.kpN k;replace K:=K.thenN k oM;have hzk:=k.size;clear k;have cD:=D.cell;have fD:=D.frozen;go_wp2_with fail
 refine mK (c2 _) fun w3 k=>?_;clear cD fD;replace D:=D.kpN k;replace K:=K.thenN k oM;have hzk:=k.size;clear k;replace hz:=Lib.hid hz;have cD:=D.cell;have fD:=D.frozen;go_wp2_with fail
 clear cD fD;go_loopw [3] (fun v wr=>∃ i:Nat,v=.int .i64 i∧i≤b.tr.length∧Blk wr w.heap.size 43 #[b.mu,b.rad,.slice B b.tr.length c]∧Kp w.heap.size none w wr) (fun v _=>(b.tr.length:Int).toNat-(intOf v).toNat)
 case atStart=>exact⟨0,rfl,Nat.zero_le _,D,K⟩
 case round=>
  obtain⟨i,rfl,hi,D,K⟩:=hrel;have cD:=D.cell;by_cases h:i<b.tr.length
  ·
   obtain⟨bb,o,rfl,hlt,-,hc⟩:=(hr.kpN K).at_ oM;have c0:=hc i h 0 _ rfl;have c1:=hc i h 1 _ rfl;rw[Nat.add_zero] at c0;rw[← Nat.add_assoc] at c1;have hp:=hn _ (List.getElem_mem h);generalize b.tr[i]=p at *;have hii:(i:Int)<(b.tr.length:Int):=by omega
   have hi0:(0:Int)≤(i:Int):=by omega
   have hm:(b.tr.length:Int).toNat-((i+1:Nat):Int).toNat<(b.tr.length:Int).toNat-(i:Int).toNat:=by omega
   replace hm:=Lib.hid hm;clear hc hn hr h0 h1 hlt;go_wp2_with fail
   refine mK (r2_Near_t p hp _) fun w2 k=>?_;replace D:=D.kpN k;replace K:=K.tN k;clear k c0 c1 cD hp;replace h:=Lib.hid h;go_wp2
   go_roundw
   case rel=>exact⟨i+1,by congr 1,h.out,D,K⟩
   case measure=>exact hm.out
  ·
   obtain rfl:i=b.tr.length:=by omega
   clear hn hr;go_wp2_with fail
   go_ret
   exact⟨rfl,K⟩
theorem r2_CheckWorld_any (A:Option Addr) (c:Nat) (W:Wd) (w:World) (hW:W.ok) (hA:WdAt none w A W) :
  Calls Tryz.prog 70 #[.agg #[.slice A W.bs.length c,W.home]] w fun e w'=>e=.returned (.int .i64 0)∧Kp w.heap.size none w w':=by
 have h0:=hW.n0;have h1:=hW.n1;have h2:=hW.home;have hb:=hW.body;have n0:((W.bs.length:Int)==0)=false:=by simp;intro e;rw[e] at h0;simp at h0
 have n1:¬ (8:Int)<(W.bs.length:Int):=by omega
 have n2:¬ (W.bs.length:Int)=0:=by omega
 have n3:¬ (W.home:Int)<0:=by omega
 have n4:¬ (W.bs.length:Int)≤(W.home:Int):=by omega
 clear h0 h2 hW;obtain⟨w1,hw1,D,K,hz⟩:=box1 w 27 #[.slice A W.bs.length c,W.home];go_enter Tryz.func70,Tryz.ntmps70
 go_upto_region 1 with(fail)
 rw[← hw1];clear hw1;have cD:=D.cell;go_wp2_with fail
 clear cD;go_loopw [3] (fun v wr=>∃ i:Nat,v=.int .i64 i∧i≤W.bs.length∧Blk wr w.heap.size 27 #[.slice A W.bs.length c,W.home]∧Kp w.heap.size none w wr) (fun v _=>(W.bs.length:Int).toNat-(intOf v).toNat)
 case atStart=>exact⟨0,rfl,Nat.zero_le _,D,K⟩
 case round=>
  obtain⟨i,rfl,hi,D,K⟩:=hrel;have cD:=D.cell;by_cases h:i<W.bs.length
  ·
   obtain⟨b,o,B,cc,rfl,hlt,e0,e1,e2,hr⟩:=(hA.kpN K).body i h;have hbi:=hb _ (List.getElem_mem h);generalize W.bs[i]=x at *;have hii:(i:Int)<(W.bs.length:Int):=by omega
   have hi0:(0:Int)≤(i:Int):=by omega
   have hm:(W.bs.length:Int).toNat-((i+1:Nat):Int).toNat<(W.bs.length:Int).toNat-(i:Int).toNat:=by omega
   replace hm:=Lib.hid hm;clear hb hA;go_wp2_with fail
   refine mK (r2_body_any x B cc _ hbi hr) fun w2 k=>?_;replace D:=D.kpN k;replace K:=K.tN k;clear k hbi e0 e1 e2 hr cD;replace h:=Lib.hid h;go_wp2
   go_roundw
   case rel=>exact⟨i+1,by congr 1,h.out,D,K⟩
   case measure=>exact hm.out
  ·
   obtain rfl:i=W.bs.length:=by omega
   clear hb hA;go_wp2_with fail
   go_ret
   exact⟨rfl,K⟩
theorem r2_at_any (A:Option Addr) (c:Nat) (W:Wd) (i:Nat) (t:Int) (w:World) (hW:W.ok) (hA:WdAt none w A W) (hi:i<W.bs.length) (ht:0≤t∧t≤1073741824) :
  Calls Tryz.prog 72 #[.agg #[.slice A W.bs.length c,W.home],i,t] w fun e w'=>e=.returned (.agg #[(W.bs[i].at t).x,(W.bs[i].at t).y])∧Kp w.heap.size none w w':=by
 obtain⟨w1,hw1,D,R,K,hz⟩:=box2 w 27 #[.slice A W.bs.length c,W.home] 45 #[(0:Int),(0:Int)];have hb:=hW.body _ (List.getElem_mem hi);obtain⟨b,o,B,cc,rfl,hlt,e0,e1,e2,hr⟩:=(hA.kpN K).body i hi;have i0:(0:Int)≤(i:Int):=by omega
 have i1:(i:Int)<(W.bs.length:Int):=by omega
 generalize W.bs[i]=x at *;have h0:=hb.tr0;obtain⟨g1,g2⟩:=emod_idx t x.tr.length h0 ht.1;obtain⟨k,hk⟩:=Int.eq_ofNat_of_zero_le g1;have hkl:k<x.tr.length:=by omega
 obtain⟨bb,o2,rfl,hlt2,-,hc⟩:=hr.at_ h0;have c0:=hc k hkl 0 _ rfl;have c1:=hc k hkl 1 _ rfl;rw[Nat.add_zero] at c0;rw[← Nat.add_assoc] at c1
 have ea:x.at t=x.tr[k]:=by
  unfold Bd.at;rw[hk,Int.toNat_natCast,List.getD_eq_getElem?_getD,List.getElem?_eq_getElem hkl,Option.getD_some]
 rw[ea];generalize x.tr[k]=p at *;have et:t.tmod (x.tr.length:Int)=(k:Int):=by rw[Int.tmod_eq_emod_of_nonneg ht.1];exact hk
 have nz:((x.tr.length:Int)==0)=false:=by simp;intro e;rw[e] at h0;simp at h0
 have nz2:¬ (x.tr.length:Int)=0:=by omega
 have hi0:(0:Int)≤(k:Int):=by omega
 have hii:(k:Int)<(x.tr.length:Int):=by omega
 have wk:wrap64 (k:Int)=(k:Int):=by have:=hb.tr1;unfold wrap64;omega
 clear hc hr hb ea g1 g2 hk hkl hA hW e0 e1;go_enter Tryz.func72,Tryz.ntmps72
 go_upto_region 1 with(fail)
 rw[← hw1];clear hw1;have cD:=D.cell;have fD:=D.frozen;have cR:=R.cell;have fR:=R.frozen;go_wp2_with fail
 clear cD fD cR fR;have BR:=((R.set_ 0 (.int .i64 p.x)).set_ 1 (.int .i64 p.y));have cR:=BR.cell;exact bodyPost_ret (by simp[results,Tryz.results72,go_sem,cR]) rfl ⟨rfl,((K.setNew (by simp<;>omega) _).setNew (by simp<;>omega) _)⟩
theorem r2_At_any (A:Option Addr) (c:Nat) (W:Wd) (i:Nat) (t:Int) (w:World) (hW:W.ok) (hA:WdAt none w A W) (hi:i<W.bs.length) (ht:0≤t∧t≤1073741824) :
  Calls Tryz.prog 29 #[.agg #[.slice A W.bs.length c,W.home],i,t] w fun e w'=>e=.returned (.agg #[(W.bs[i].at t).x,(W.bs[i].at t).y])∧Kp w.heap.size none w w':=by
 have cw:=fun w h=>r2_CheckWorld_any A c W w hW h;have ca:=fun w h=>r2_at_any A c W i t w hW h hi ht;have ct:=fun w=>r2_between_t ht.1 ht.2 w;have n3:¬ (i:Int)<0:=by omega
 have n4:¬ (W.bs.length:Int)≤(i:Int):=by omega
 have n5:¬ W.bs.length≤i:=by omega
 obtain⟨p,hp⟩:∃ q9,Hid (q9=W.bs[i].at t):=⟨_,Lib.hid rfl⟩;rw[← hp.out] at ca ⊢;clear hW;obtain⟨w1,hw1,D,R,K,hz⟩:=box2 w 27 #[.slice A W.bs.length c,W.home] 45 #[(0:Int),(0:Int)];go_enter Tryz.func29,Tryz.ntmps29
 go_wp2_with fail
 rw[← hw1];clear hw1;refine mK (cw _ (hA.kpN K)) fun w2 k=>?_;replace D:=D.kpN k;replace R:=R.kpN k;replace K:=K.thenN k oM;have hzk:=k.size;clear k;have cD:=D.cell;have fD:=D.frozen;have cR:=R.cell;have fR:=R.frozen;go_wp2_with fail
 refine mK (ct _) fun w3 k=>?_;clear cD fD cR fR;replace D:=D.kpN k;replace R:=R.kpN k;replace K:=K.thenN k oM;have hzk:=k.size;clear k;have cD:=D.cell;have fD:=D.frozen;have cR:=R.cell;have fR:=R.frozen;go_wp2_with fail
 refine mK (ca _ (hA.kpN K)) fun w4 k=>?_;clear cD fD cR fR;replace D:=D.kpN k;replace R:=R.kpN k;replace K:=K.thenN k oM;have hzk:=k.size;clear k;have cD:=D.cell;have fD:=D.frozen;have cR:=R.cell;have fR:=R.frozen;go_wp2_with fail
 clear cD fD cR fR;have BR:=((R.set_ 0 (.int .i64 p.x)).set_ 1 (.int .i64 p.y));have cR:=BR.cell;exact bodyPost_ret (by simp[results,Tryz.results29,go_sem,cR]) rfl ⟨rfl,((K.setNew (by simp<;>omega) _).setNew (by simp<;>omega) _)⟩
theorem r3_part (a:Sp) (x y:Int) (w:World):Calls Tryz.prog 195 #[a,x,y] w (ErrP w):=by
 obtain⟨w1,hw1,A,K,hz⟩:=box1 w 29 a;go_enter Tryz.func195,Tryz.ntmps195
 go_upto_region 1 with(fail)
 rw[← hw1];clear hw1;by_cases h1:a.hi<a.lo<;>by_cases h2:a.lo<x<;>by_cases h3:y<a.hi
 all_goals
  have cA:=A.cell;go_wp2_with fail
  go_ret
  exact⟨⟨_,rfl⟩,K⟩
theorem r3_limits (a:Sp) (w:World):Calls Tryz.prog 181 #[a] w (BoolP w):=by
 obtain⟨w1,hw1,A,K,hz⟩:=box1 w 29 a;go_enter Tryz.func181,Tryz.ntmps181
 go_upto_region 1 with(fail)
 rw[← hw1];clear hw1;by_cases h1:-33554432≤a.lo<;>by_cases h2:a.hi≤33554432
 all_goals
  have cA:=A.cell;go_wp2_with fail
  go_ret
  exact⟨⟨_,rfl⟩,K⟩
theorem r3_CheckDrift (d:Dr) (w:World):Calls Tryz.prog 178 #[d] w (ErrP w):=by
 obtain⟨w1,hw1,A,K,hz⟩:=box1 w 31 d;go_enter Tryz.func178,Tryz.ntmps178
 go_wp2_with fail
 rw[← hw1];clear hw1;refine(r3_part d.light _ _ _).mono ?_;rintro e w2 ⟨⟨v,rfl⟩,k⟩;replace A:=A.kpN k;replace K:=K.thenN k oM;have hzk:=k.size;clear k;by_cases h:v=0
 ·
  subst h;have cA:=A.cell;have fA:=A.frozen;go_wp2_with fail
  refine(r3_part d.heat _ _ _).mono ?_;rintro e w2 ⟨⟨v,rfl⟩,k⟩;clear cA fA;replace A:=A.kpN k;replace K:=K.thenN k oM;have hzk:=k.size;clear k;by_cases h:v=0
  ·
   subst h;have cA:=A.cell;have fA:=A.frozen;go_wp2_with fail
   refine mK (bolideref03_between_any d.gas _ _ _) fun w2 k=>?_;clear cA fA;replace A:=A.kpN k;replace K:=K.thenN k oM;have hzk:=k.size;clear k;generalize btw d.gas _ _=b;cases b
   all_goals
    go_wp2_with fail
    go_ret
    exact⟨⟨_,rfl⟩,K⟩
  ·
   go_wp2_with fail
   go_ret
   exact⟨⟨_,rfl⟩,K⟩
 ·
  have cA:=A.cell;have fA:=A.frozen;go_wp2_with fail
  clear cA fA;go_ret
  exact⟨⟨_,rfl⟩,K⟩
theorem r3_asked (A:Option Addr) (c:Nat) (W:Wd) (d:Dr) (t:Int) (a b:Sp) (w:World) (hW:W.ok) (hA:WdAt none w A W) :
  Calls Tryz.prog 164 #[.agg #[.slice A W.bs.length c,W.home],d,t,.agg #[a.lo,a.hi,b.lo,b.hi]] w (ErrP w):=by
 have cw:=fun w h=>r2_CheckWorld_any A c W w hW h;clear hW;obtain⟨w1,hw1,D,G,E,K,hz⟩:=box3 w 27 #[.slice A W.bs.length c,W.home] 31 d 53 #[a.lo,a.hi,b.lo,b.hi];go_enter Tryz.func164,Tryz.ntmps164
 go_wp2_with fail
 rw[← hw1];clear hw1;refine mK (cw _ (hA.kpN K)) fun w2 k=>?_;replace D:=D.kpN k;replace G:=G.kpN k;replace E:=E.kpN k;replace K:=K.thenN k oM;have hzk:=k.size;clear k;clear hA cw;have cG:=G.cell;have fG:=G.frozen;have cE:=E.cell;have fE:=E.frozen;go_wp2_with fail
 refine(r3_CheckDrift d _).mono ?_;rintro e w2 ⟨⟨v,rfl⟩,k⟩;clear cG fG cE fE;replace G:=G.kpN k;replace E:=E.kpN k;replace K:=K.thenN k oM;have hzk:=k.size;clear k;by_cases h:v=0
 ·
  subst h;have cE:=E.cell;have fE:=E.frozen;go_wp2_with fail
  refine mK (bolideref03_between_any t _ _ _) fun w2 k=>?_;clear cE fE;replace E:=E.kpN k;replace K:=K.thenN k oM;have hzk:=k.size;clear k;generalize btw t _ _=b1;cases b1
  ·
   go_wp2_with fail
   go_ret
   exact⟨⟨_,rfl⟩,K⟩
  ·
   have cE:=E.cell;have fE:=E.frozen;go_wp2_with fail
   refine(r1_CheckArea a b _).mono ?_;rintro e w2 ⟨⟨v,rfl⟩,k⟩;clear cE fE;replace E:=E.kpN k;replace K:=K.thenN k oM;have hzk:=k.size;clear k;by_cases h:v=0
   ·
    subst h;have cE:=E.cell;have fE:=E.frozen;go_wp2_with fail
    refine(r3_limits a _).mono ?_;rintro e w2 ⟨⟨b2,rfl⟩,k⟩;clear cE fE;replace E:=E.kpN k;replace K:=K.thenN k oM;have hzk:=k.size;clear k;cases b2
    ·
     go_wp2_with fail
     go_ret
     exact⟨⟨_,rfl⟩,K⟩
    ·
     have cE:=E.cell;have fE:=E.frozen;go_wp2_with fail
     refine(r3_limits b _).mono ?_;rintro e w2 ⟨⟨b2,rfl⟩,k⟩;clear cE fE;replace E:=E.kpN k;replace K:=K.thenN k oM;have hzk:=k.size;clear k;cases b2
     ·
      go_wp2_with fail
      go_ret
      exact⟨⟨_,rfl⟩,K⟩
     ·
      go_wp2_with fail
      go_ret
      exact⟨⟨_,rfl⟩,K⟩
   ·
    go_wp2_with fail
    go_ret
    exact⟨⟨_,rfl⟩,K⟩
 ·
  go_wp2_with fail
  go_ret
  exact⟨⟨_,rfl⟩,K⟩
def resS (x y:Int):Sp:=if (btw x (-1152921504606846976) 1152921504606846976&&btw y (-1152921504606846976) 1152921504606846976)=true then ⟨x,y⟩ else ⟨0,0⟩
theorem resS_fit {x y:Int} (h:x≤y):(resS x y).fit:=by
 unfold resS;split
 ·
  rename_i k;rw[Bool.and_eq_true] at k;have h1:=btw_of k.1;have h2:=btw_of k.2;exact⟨h1.1,h,h2.2⟩
 · exact fit0
def lessS (a b:Sp):Sp:=resS (a.lo-b.hi) (a.hi-b.lo)
theorem lessS_fit {a b:Sp} (ha:a.fit) (hb:b.fit):(lessS a b).fit:=resS_fit (by unfold Sp.fit at ha hb;omega)
def ResX (s:Sp) (w:World) (e:Ending) (w':World):Prop:=(∃ v:Int,e=.returned (.tuple #[s,v]))∧Kp w.heap.size none w w'
theorem r1_Check_t (s:Sp) (h:s.fit) (w:World):Calls Tryz.prog 209 #[s] w fun e w'=>e=.returned (.int .i64 0)∧Kp w.heap.size none w w':=by
 have c1:=fun w=>bolideref01_fits_any s.lo w;have c2:=fun w=>bolideref01_fits_any s.hi w;rw[btw_t h.1 (Int.le_trans h.2.1 h.2.2)] at c1;rw[btw_t (Int.le_trans h.1 h.2.1) h.2.2] at c2;have h4:¬ s.hi<s.lo:=by have:=h.2.1;omega
 clear h;obtain⟨w1,hw1,B,K,hz⟩:=box1 w 29 s;go_enter Tryz.func209,Tryz.ntmps209
 go_wp2_with fail
 rw[← hw1];clear hw1;refine mK (c1 _) fun w2 k=>?_;replace B:=B.kpN k;replace K:=K.thenN k oM;have hzk:=k.size;clear k;have cB:=B.cell;have fB:=B.frozen;go_wp2_with fail
 refine mK (c2 _) fun w3 k=>?_;clear cB fB;replace B:=B.kpN k;replace K:=K.thenN k oM;have hzk:=k.size;clear k;have cB:=B.cell;have fB:=B.frozen;go_wp2_with fail
 clear cB fB;go_ret
 exact⟨rfl,K⟩
theorem r1_both_t (a b:Sp) (ha:a.fit) (hb:b.fit) (w:World):Calls Tryz.prog 196 #[a,b] w fun e w'=>e=.returned (.int .i64 0)∧Kp w.heap.size none w w':=by
 obtain⟨w1,hw1,A,B,K,hz⟩:=box2 w 29 a 29 b;go_enter Tryz.func196,Tryz.ntmps196
 go_wp2_with fail
 rw[← hw1];clear hw1;refine mK (r1_Check_t a ha _) fun w2 k=>?_;replace A:=A.kpN k;replace B:=B.kpN k;replace K:=K.thenN k oM;have hzk:=k.size;clear k;have cA:=A.cell;have fA:=A.frozen;have cB:=B.cell;have fB:=B.frozen;go_wp2_with fail
 refine mK (r1_Check_t b hb _) fun w3 k=>?_;clear cA fA cB fB;replace A:=A.kpN k;replace B:=B.kpN k;replace K:=K.thenN k oM;have hzk:=k.size;clear k;go_wp2
 go_ret
 exact⟨rfl,K⟩
theorem r1_result_x (a b:Int) (w:World):Calls Tryz.prog 204 #[a,b] w (ResX (resS a b) w):=by
 obtain⟨s,hs⟩:∃ s,s=resS a b:=⟨_,rfl⟩;rw[← hs];unfold resS at hs;have ca:=fun w=>bolideref01_fits_any a w;have cb:=fun w=>bolideref01_fits_any b w;generalize btw a (-1152921504606846976) 1152921504606846976=x at *;generalize btw b (-1152921504606846976) 1152921504606846976=y at *;cases x
 ·
  simp only[Bool.false_and,Bool.false_eq_true,if_false] at hs;subst hs;clear cb;obtain⟨w1,hw1,R,K,hz⟩:=box1 w 29 #[(0:Int),(0:Int)];go_enter Tryz.func204,Tryz.ntmps204
  go_wp2_with fail
  rw[← hw1];clear hw1;refine mK (ca _) fun w2 k=>?_;replace R:=R.kpN k;replace K:=K.thenN k oM;have hzk:=k.size;clear k;have cR:=R.cell;have fR:=R.frozen;go_wp2_with fail
  clear cR fR;have BR:=(R.set_ 0 (.int .i64 0)).set_ 1 (.int .i64 0);have cR:=BR.cell;exact bodyPost_ret (v:=.tuple #[.agg #[(0:Int),(0:Int)],(14:Int)]) (by simp[results,Tryz.results204,go_sem,cR]) rfl ⟨⟨_,rfl⟩,(K.setNew (by simp<;>omega) _).setNew (by simp<;>omega) _⟩
 ·
  cases y
  ·
   simp only[Bool.and_false,Bool.false_eq_true,if_false] at hs;subst hs;obtain⟨w1,hw1,R,K,hz⟩:=box1 w 29 #[(0:Int),(0:Int)];go_enter Tryz.func204,Tryz.ntmps204
   go_wp2_with fail
   rw[← hw1];clear hw1;refine mK (ca _) fun w2 k=>?_;replace R:=R.kpN k;replace K:=K.thenN k oM;have hzk:=k.size;clear k;have cR:=R.cell;have fR:=R.frozen;go_wp2_with fail
   refine mK (cb _) fun w3 k=>?_;clear cR fR;replace R:=R.kpN k;replace K:=K.thenN k oM;have hzk:=k.size;clear k;have cR:=R.cell;have fR:=R.frozen;go_wp2_with fail
   clear cR fR;have BR:=(R.set_ 0 (.int .i64 0)).set_ 1 (.int .i64 0);have cR:=BR.cell;exact bodyPost_ret (v:=.tuple #[.agg #[(0:Int),(0:Int)],(14:Int)]) (by simp[results,Tryz.results204,go_sem,cR]) rfl ⟨⟨_,rfl⟩,(K.setNew (by simp<;>omega) _).setNew (by simp<;>omega) _⟩
  ·
   simp only[Bool.and_self,if_true] at hs;subst hs;obtain⟨w1,hw1,R,K,hz⟩:=box1 w 29 #[(0:Int),(0:Int)];go_enter Tryz.func204,Tryz.ntmps204
   go_wp2_with fail
   rw[← hw1];clear hw1;refine mK (ca _) fun w2 k=>?_;replace R:=R.kpN k;replace K:=K.thenN k oM;have hzk:=k.size;clear k;have cR:=R.cell;have fR:=R.frozen;go_wp2_with fail
   refine mK (cb _) fun w3 k=>?_;clear cR fR;replace R:=R.kpN k;replace K:=K.thenN k oM;have hzk:=k.size;clear k;have cR:=R.cell;have fR:=R.frozen;go_wp2_with fail
   clear cR fR;have BR:=(R.set_ 0 (.int .i64 a)).set_ 1 (.int .i64 b);have cR:=BR.cell;exact bodyPost_ret (v:=.tuple #[.agg #[a,b],(0:Int)]) (by simp[results,Tryz.results204,go_sem,cR]) rfl ⟨⟨_,rfl⟩,(K.setNew (by simp<;>omega) _).setNew (by simp<;>omega) _⟩
theorem r1_Sub_x (a b:Sp) (ha:a.fit) (hb:b.fit) (w:World):Calls Tryz.prog 212 #[a,b] w (ResX (lessS a b) w):=by
 have c1:=fun w=>r1_both_t a b ha hb w;have cc:=fun w=>r1_result_x (a.lo-b.hi) (a.hi-b.lo) w;unfold Sp.fit at ha hb;have e1:wrap64 (a.lo-b.hi)=a.lo-b.hi:=by unfold wrap64;omega
 have e2:wrap64 (a.hi-b.lo)=a.hi-b.lo:=by unfold wrap64;omega
 clear ha hb;change ∀ w,Calls _ _ _ w (ResX (lessS a b) w) at cc;generalize lessS a b=s at *;obtain⟨w1,hw1,A,B,R,K,hz⟩:=box3 w 29 a 29 b 29 #[(0:Int),(0:Int)];go_enter Tryz.func212,Tryz.ntmps212
 go_wp2_with fail
 rw[← hw1];clear hw1;refine mK (c1 _) fun w2 k=>?_;replace A:=A.kpN k;replace B:=B.kpN k;replace R:=R.kpN k;replace K:=K.thenN k oM;have hzk:=k.size;clear k;have cA:=A.cell;have cB:=B.cell;go_wp2_with fail
 rw[e1,e2];refine(cc _).mono ?_;rintro e w3 ⟨⟨v2,rfl⟩,k⟩;replace R:=R.kpN k;replace K:=K.thenN k oM;have hz3:=k.size;clear k cA cB cc e1 e2;have cR:=R.cell;have fR:=R.frozen;go_wp2_with fail
 clear cR fR;have BR:=(R.set_ 0 (.int .i64 s.lo)).set_ 1 (.int .i64 s.hi);have cR:=BR.cell;exact bodyPost_ret (v:=.tuple #[.agg #[s.lo,s.hi],v2]) (by simp[results,Tryz.results212,go_sem,cR]) rfl ⟨⟨_,rfl⟩,(K.setNew (by simp<;>omega) _).setNew (by simp<;>omega) _⟩
theorem r3_less_x (a b:Sp) (ha:a.fit) (hb:b.fit) (w:World):Calls Tryz.prog 199 #[a,b] w fun e w'=>e=.returned (.agg #[(lessS a b).lo,(lessS a b).hi])∧Kp w.heap.size none w w':=by
 have c1:=fun w=>r1_Sub_x a b ha hb w;generalize lessS a b=s at *;clear ha hb;obtain⟨w1,hw1,A,B,R,K,hz⟩:=box3 w 29 a 29 b 29 #[(0:Int),(0:Int)];go_enter Tryz.func199,Tryz.ntmps199
 go_wp2_with fail
 rw[← hw1];clear hw1;refine(c1 _).mono ?_;rintro e w2 ⟨⟨v,rfl⟩,k⟩;replace A:=A.kpN k;replace B:=B.kpN k;replace R:=R.kpN k;replace K:=K.thenN k oM;have hzk:=k.size;clear k;have O:=Blk.new w2 29 #[s.lo,s.hi];replace R:=R.alloc (.cells #[s.lo,s.hi] 29);replace K:=K.alloc oM (.cells #[s.lo,s.hi] 29);clear A B;go_upto_region 2 with(fail)
 generalize w2.alloc (.cells #[s.lo,s.hi] 29)=w3 at *;have cO:=O.cell;have cR:=R.cell;have fR:=R.frozen;go_wp2_with fail
 clear cR fR;have BR:=((R.set_ 0 (.int .i64 s.lo)).set_ 1 (.int .i64 s.hi));have cR:=BR.cell;exact bodyPost_ret (by simp[results,Tryz.results199,go_sem,cR]) rfl ⟨rfl,((K.setNew (by simp<;>omega) _).setNew (by simp<;>omega) _)⟩
theorem r3_to_x (x y:Int) (a b:Sp) (hx:Fix x) (hy:Fix y) (ha:a.fit) (hb:b.fit) (w:World) :
  Calls Tryz.prog 184 #[.agg #[x,y],.agg #[a.lo,a.hi,b.lo,b.hi]] w fun e w'=>e=.returned (.tuple #[.agg #[(lessS ⟨x,x⟩ a).lo,(lessS ⟨x,x⟩ a).hi],.agg #[(lessS ⟨y,y⟩ b).lo,(lessS ⟨y,y⟩ b).hi]])∧Kp w.heap.size none w w':=by
 have c1:=fun w=>r3_less_x ⟨x,x⟩ a (fit_pt hx) ha w;have c2:=fun w=>r3_less_x ⟨y,y⟩ b (fit_pt hy) hb w;dsimp only at c1 c2;generalize lessS ⟨x,x⟩ a=s at *;generalize lessS ⟨y,y⟩ b=u at *;clear hx hy ha hb;obtain⟨w1,hw1,P,A,R,U,K,hz⟩:=box4 w 45 #[x,y] 53 #[a.lo,a.hi,b.lo,b.hi] 29 #[(0:Int),(0:Int)] 29 #[(0:Int),(0:Int)];go_enter Tryz.func184,Tryz.ntmps184
 go_wp2_with fail
 rw[← hw1];clear hw1;obtain⟨S,hS0,hS1⟩:=cls_of2 (P:=fun w'=>Blk w' _ _ _∧Blk w' _ _ _∧Kp _ _ _ w') w1 ⟨P,A,K⟩;try dsimp only at hS0
 have cP:=fun (x:Ev (S 0)) i=>((hS0 _).1 x.h).1.cell i;have cA:=fun (x:Ev (S 0)) i=>((hS0 _).1 x.h).2.1.cell i;replace P:=P.drew;replace A:=A.drew;replace K:=K.drew;replace U:=U.drew;replace R:=R.drew;have hevT:=ev_true;refine wro S [(0,0),(1,1),(2,0),(3,1),(4,0),(5,0),(6,1),(8,0),(9,1),(10,0),(11,1),(12,0),(13,0),(14,1),(7,2),(15,2),(16,2),(17,3)] [17] ((hS0 _).2 ⟨P,A,K⟩) ?_;intro _hev;refine oX ?_;refine oL ?_;intro Kc hKc;generalize w1.drew=wd9 at *;go_step;refine mK (c1 _) fun w2 k=>?_;replace P:=P.kpN k;replace A:=A.kpN k;replace U:=U.kpN k;replace R:=R.kpN k;replace K:=K.tN k;clear k;refine hKc _ _ ((hS0 _).2 ⟨P,A,K⟩) ?_;clear hKc Kc;refine oL ?_;intro Kc hKc;go_step;refine mK (c2 _) fun w3 k=>?_;replace P:=P.kpN k;replace A:=A.kpN k;replace U:=U.kpN k;replace R:=R.kpN k;replace K:=K.tN k;clear k;refine hKc _ _ ((hS0 _).2 ⟨P,A,K⟩) ?_;clear hKc Kc;refine oL ?_;intro Kc hKc;have cS9:=R.cell;have fS9:=R.frozen;go_step;obtain⟨w4,hwn,RB9,kst,hzst⟩:=R.st2 (.int .i64 s.lo) (.int .i64 s.hi);rw[← hwn];clear hwn cS9 fS9;replace P:=P.kq kst;replace A:=A.kq kst;replace U:=U.kq kst;replace K:=K.thenOwn kst (Nat.le_refl _) oM;replace R:=RB9;clear RB9 kst hzst;simp only[sbt,sc0,scs] at R;refine hKc _ _ ((hS0 _).2 ⟨P,A,K⟩) ?_;clear hKc Kc;refine oA ?_;intro Kc hKc;have cR:=U.cell;have fR:=U.frozen;go_step;obtain⟨w6,hwn,RB9,kst,hzst⟩:=U.st2 (.int .i64 u.lo) (.int .i64 u.hi);rw[← hwn];clear hwn cR fR;refine hKc _ _ ((hS1 _).2 trivial) ?_;clear hKc Kc;replace P:=P.kq kst;replace A:=A.kq kst;replace R:=R.kq kst;first|replace K:=K.thenOwn kst (Nat.le_refl _) oM|replace K:=K.then_ kst (Nat.le_refl _)
 replace U:=RB9;clear RB9 kst;simp only[sbt,sc0,scs] at U;change wpOrd _ _ _ _ _ 1 _ _;refine wpOrd_nil ?_;clear hevT _hev;clear cP cA hS0 hS1 S;go_wp2_with fail
 have cR:=R.cell;have cU:=U.cell;exact bodyPost_ret (v:=.tuple #[.agg #[s.lo,s.hi],.agg #[u.lo,u.hi]]) (by simp[results,Tryz.results184,go_sem,cR,cU]) rfl ⟨rfl,K⟩
end Go.Proofs.YtdhiappifnflpaaGreatDoor
