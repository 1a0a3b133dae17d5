/- The reference's skies: where a body is. The reference's boxes: low, high, full. Stores of whole blocks, more sizes. The reference's boxes: half, cut. Orbits: the walks of orbit, tenth part: widest, cut, Split. -/
import Derived.Test.YtdhiappifnflpaaGreatM16
import Derived.Deep.DeepCutAuto
import Derived.Test.YtdhiappifnflpaaGreatVg
import Derived.Test.YtdhiappifnflpaaGreatM22
set_option maxHeartbeats 2000000
namespace Go.Proofs.YtdhiappifnflpaaGreat
open Go.RowKit
theorem r2_between_t {n lo hi:Int} (h1:lo≤n) (h2:n≤hi) (w:World):Calls Tryz.prog 60 #[n,lo,hi] w fun e w'=>e=.returned (.bool true)∧Kp w.heap.size none w w':=by
 have:=bolideref02_between_any n lo hi w;rwa [btw_t h1 h2] at this
theorem r2_Near_t (p:Pt) (h:NearP p) (w:World):Calls Tryz.prog 154 #[.agg #[p.x,p.y]] w fun e w'=>e=.returned (.bool true)∧Kp w.heap.size none w w':=by
 have c1:=fun w=>r2_between_t h.1 h.2.1 w;have c2:=fun w=>r2_between_t h.2.2.1 h.2.2.2 w;clear h;obtain⟨w1,hw1,B,K,hz⟩:=box1 w 73 #[p.x,p.y];go_enter Tryz.func154,Tryz.ntmps154
 go_wp2_with fail
 rw[← hw1];clear hw1;refine mK (c1 _) fun w2 k=>?_;replace B:=B.kpN k;replace K:=K.thenN k oM;have hzk:=k.size;clear k;have cB:=B.cell;have fB:=B.frozen;go_wp2_with fail
 refine mK (c2 _) fun w3 k=>?_;clear cB fB;replace B:=B.kpN k;replace K:=K.thenN k oM;have hzk:=k.size;clear k;have cB:=B.cell;have fB:=B.frozen;go_wp2_with fail
 clear cB fB;go_ret
 exact⟨rfl,K⟩
theorem r2_body_any (b:Bd) (B:Option Addr) (c:Nat) (w:World) (hb:b.ok) (hr:Rd none w 2 encPt B b.tr.length b.tr) :
  Calls Tryz.prog 108 #[.agg #[b.mu,b.rad,.slice B b.tr.length c]] w fun e w'=>e=.returned (.int .i64 0)∧Kp w.heap.size none w w':=by
 have c1:=fun w=>r2_between_t (n:=b.mu) (lo:=0) (hi:=1125899906842624) hb.mu0 (by have:=hb.mu1;omega) w;have c2:=fun w=>r2_between_t (n:=b.rad) (lo:=0) (hi:=1048576) hb.rad0 (by have:=hb.rad1;omega) w;have hn:=hb.near;have h0:=hb.tr0;have h1:=hb.tr1;have n0:((b.tr.length:Int)==0)=false:=by simp;intro e;rw[e] at h0;simp at h0
 have n1:¬ (4096:Int)<(b.tr.length:Int):=by omega
 have n2:¬ (b.tr.length:Int)=0:=by omega
 clear hb;obtain⟨w1,hw1,D,K,hz⟩:=box1 w 77 #[b.mu,b.rad,.slice B b.tr.length c];go_enter Tryz.func108,Tryz.ntmps108
 go_wp2_with fail
 rw[← hw1];clear hw1;refine mK (c1 _) fun w2 k=>?_;replace D:=D.kpN k;replace K:=K.thenN k oM;have hzk:=k.size;clear k;have cD:=D.cell;have fD:=D.frozen;go_wp2_with fail
 refine mK (c2 _) fun w3 k=>?_;clear cD fD;replace D:=D.kpN k;replace K:=K.thenN k oM;have hzk:=k.size;clear k;replace hz:=Lib.hid hz;have cD:=D.cell;have fD:=D.frozen;go_wp2_with fail
 clear cD fD;go_loopw [3] (fun v wr=>∃ i:Nat,v=.int .i64 i∧i≤b.tr.length∧Blk wr w.heap.size 77 #[b.mu,b.rad,.slice B b.tr.length c]∧Kp w.heap.size none w wr) (fun v _=>(b.tr.length:Int).toNat-(intOf v).toNat)
 case atStart=>exact⟨0,rfl,Nat.zero_le _,D,K⟩
 case round=>
  obtain⟨i,rfl,hi,D,K⟩:=hrel;have cD:=D.cell;by_cases h:i<b.tr.length
  ·
   obtain⟨bb,o,rfl,hlt,-,hc⟩:=(hr.kpN K).at_ oM;have c0:=hc i h 0 _ rfl;have c1:=hc i h 1 _ rfl;rw[Nat.add_zero] at c0;rw[← Nat.add_assoc] at c1;have hp:=hn _ (List.getElem_mem h);generalize b.tr[i]=p at *;have hii:(i:Int)<(b.tr.length:Int):=by omega
   have hi0:(0:Int)≤(i:Int):=by omega
   have hm:(b.tr.length:Int).toNat-((i+1:Nat):Int).toNat<(b.tr.length:Int).toNat-(i:Int).toNat:=by omega
   replace hm:=Lib.hid hm;clear hc hn hr h0 h1 hlt;go_wp2_with fail
   refine mK (r2_Near_t p hp _) fun w2 k=>?_;replace D:=D.kpN k;replace K:=K.tN k;clear k c0 c1 cD hp;replace h:=Lib.hid h;go_wp2
   go_roundw
   case rel=>exact⟨i+1,by congr 1,h.out,D,K⟩
   case measure=>exact hm.out
  ·
   obtain rfl:i=b.tr.length:=by omega
   clear hn hr;go_wp2_with fail
   go_ret
   exact⟨rfl,K⟩
theorem r2_CheckWorld_any (A:Option Addr) (c:Nat) (W:Wd) (w:World) (hW:W.ok) (hA:WdAt none w A W) :
  Calls Tryz.prog 59 #[.agg #[.slice A W.bs.length c,W.home]] w fun e w'=>e=.returned (.int .i64 0)∧Kp w.heap.size none w w':=by
 have h0:=hW.n0;have h1:=hW.n1;have h2:=hW.home;have hb:=hW.body;have n0:((W.bs.length:Int)==0)=false:=by simp;intro e;rw[e] at h0;simp at h0
 have n1:¬ (8:Int)<(W.bs.length:Int):=by omega
 have n2:¬ (W.bs.length:Int)=0:=by omega
 have n3:¬ (W.home:Int)<0:=by omega
 have n4:¬ (W.bs.length:Int)≤(W.home:Int):=by omega
 clear h0 h2 hW;obtain⟨w1,hw1,D,K,hz⟩:=box1 w 27 #[.slice A W.bs.length c,W.home];go_enter Tryz.func59,Tryz.ntmps59
 go_upto_region 1 with(fail)
 rw[← hw1];clear hw1;have cD:=D.cell;go_wp2_with fail
 clear cD;go_loopw [3] (fun v wr=>∃ i:Nat,v=.int .i64 i∧i≤W.bs.length∧Blk wr w.heap.size 27 #[.slice A W.bs.length c,W.home]∧Kp w.heap.size none w wr) (fun v _=>(W.bs.length:Int).toNat-(intOf v).toNat)
 case atStart=>exact⟨0,rfl,Nat.zero_le _,D,K⟩
 case round=>
  obtain⟨i,rfl,hi,D,K⟩:=hrel;have cD:=D.cell;by_cases h:i<W.bs.length
  ·
   obtain⟨b,o,B,cc,rfl,hlt,e0,e1,e2,hr⟩:=(hA.kpN K).body i h;have hbi:=hb _ (List.getElem_mem h);generalize W.bs[i]=x at *;have hii:(i:Int)<(W.bs.length:Int):=by omega
   have hi0:(0:Int)≤(i:Int):=by omega
   have hm:(W.bs.length:Int).toNat-((i+1:Nat):Int).toNat<(W.bs.length:Int).toNat-(i:Int).toNat:=by omega
   replace hm:=Lib.hid hm;clear hb hA;go_wp2_with fail
   refine mK (r2_body_any x B cc _ hbi hr) fun w2 k=>?_;replace D:=D.kpN k;replace K:=K.tN k;clear k hbi e0 e1 e2 hr cD;replace h:=Lib.hid h;go_wp2
   go_roundw
   case rel=>exact⟨i+1,by congr 1,h.out,D,K⟩
   case measure=>exact hm.out
  ·
   obtain rfl:i=W.bs.length:=by omega
   clear hb hA;go_wp2_with fail
   go_ret
   exact⟨rfl,K⟩
theorem r2_at_any (A:Option Addr) (c:Nat) (W:Wd) (i:Nat) (t:Int) (w:World) (hW:W.ok) (hA:WdAt none w A W) (hi:i<W.bs.length) (ht:0≤t∧t≤1073741824) :
  Calls Tryz.prog 61 #[.agg #[.slice A W.bs.length c,W.home],i,t] w fun e w'=>e=.returned (.agg #[(W.bs[i].at t).x,(W.bs[i].at t).y])∧Kp w.heap.size none w w':=by
 obtain⟨w1,hw1,D,R,K,hz⟩:=box2 w 27 #[.slice A W.bs.length c,W.home] 73 #[(0:Int),(0:Int)];have hb:=hW.body _ (List.getElem_mem hi);obtain⟨b,o,B,cc,rfl,hlt,e0,e1,e2,hr⟩:=(hA.kpN K).body i hi;have i0:(0:Int)≤(i:Int):=by omega
 have i1:(i:Int)<(W.bs.length:Int):=by omega
 generalize W.bs[i]=x at *;have h0:=hb.tr0;obtain⟨g1,g2⟩:=emod_idx t x.tr.length h0 ht.1;obtain⟨k,hk⟩:=Int.eq_ofNat_of_zero_le g1;have hkl:k<x.tr.length:=by omega
 obtain⟨bb,o2,rfl,hlt2,-,hc⟩:=hr.at_ h0;have c0:=hc k hkl 0 _ rfl;have c1:=hc k hkl 1 _ rfl;rw[Nat.add_zero] at c0;rw[← Nat.add_assoc] at c1
 have ea:x.at t=x.tr[k]:=by
  unfold Bd.at;rw[hk,Int.toNat_natCast,List.getD_eq_getElem?_getD,List.getElem?_eq_getElem hkl,Option.getD_some]
 rw[ea];generalize x.tr[k]=p at *;have et:t.tmod (x.tr.length:Int)=(k:Int):=by rw[Int.tmod_eq_emod_of_nonneg ht.1];exact hk
 have nz:((x.tr.length:Int)==0)=false:=by simp;intro e;rw[e] at h0;simp at h0
 have nz2:¬ (x.tr.length:Int)=0:=by omega
 have hi0:(0:Int)≤(k:Int):=by omega
 have hii:(k:Int)<(x.tr.length:Int):=by omega
 have wk:wrap64 (k:Int)=(k:Int):=by have:=hb.tr1;unfold wrap64;omega
 clear hc hr hb ea g1 g2 hk hkl hA hW e0 e1;go_enter Tryz.func61,Tryz.ntmps61
 go_upto_region 1 with(fail)
 rw[← hw1];clear hw1;have cD:=D.cell;have fD:=D.frozen;have cR:=R.cell;have fR:=R.frozen;go_wp2_with fail
 clear cD fD cR fR;have BR:=((R.set_ 0 (.int .i64 p.x)).set_ 1 (.int .i64 p.y));have cR:=BR.cell;exact bodyPost_ret (by simp[results,Tryz.results61,go_sem,cR]) rfl ⟨rfl,((K.setNew (by simp<;>omega) _).setNew (by simp<;>omega) _)⟩
theorem r2_At_any (A:Option Addr) (c:Nat) (W:Wd) (i:Nat) (t:Int) (w:World) (hW:W.ok) (hA:WdAt none w A W) (hi:i<W.bs.length) (ht:0≤t∧t≤1073741824) :
  Calls Tryz.prog 23 #[.agg #[.slice A W.bs.length c,W.home],i,t] w fun e w'=>e=.returned (.agg #[(W.bs[i].at t).x,(W.bs[i].at t).y])∧Kp w.heap.size none w w':=by
 have cw:=fun w h=>r2_CheckWorld_any A c W w hW h;have ca:=fun w h=>r2_at_any A c W i t w hW h hi ht;have ct:=fun w=>r2_between_t ht.1 ht.2 w;have n3:¬ (i:Int)<0:=by omega
 have n4:¬ (W.bs.length:Int)≤(i:Int):=by omega
 have n5:¬ W.bs.length≤i:=by omega
 obtain⟨p,hp⟩:∃ q9,Hid (q9=W.bs[i].at t):=⟨_,Lib.hid rfl⟩;rw[← hp.out] at ca ⊢;clear hW;obtain⟨w1,hw1,D,R,K,hz⟩:=box2 w 27 #[.slice A W.bs.length c,W.home] 73 #[(0:Int),(0:Int)];go_enter Tryz.func23,Tryz.ntmps23
 go_wp2_with fail
 rw[← hw1];clear hw1;refine mK (cw _ (hA.kpN K)) fun w2 k=>?_;replace D:=D.kpN k;replace R:=R.kpN k;replace K:=K.thenN k oM;have hzk:=k.size;clear k;have cD:=D.cell;have fD:=D.frozen;have cR:=R.cell;have fR:=R.frozen;go_wp2_with fail
 refine mK (ct _) fun w3 k=>?_;clear cD fD cR fR;replace D:=D.kpN k;replace R:=R.kpN k;replace K:=K.thenN k oM;have hzk:=k.size;clear k;have cD:=D.cell;have fD:=D.frozen;have cR:=R.cell;have fR:=R.frozen;go_wp2_with fail
 refine mK (ca _ (hA.kpN K)) fun w4 k=>?_;clear cD fD cR fR;replace D:=D.kpN k;replace R:=R.kpN k;replace K:=K.thenN k oM;have hzk:=k.size;clear k;have cD:=D.cell;have fD:=D.frozen;have cR:=R.cell;have fR:=R.frozen;go_wp2_with fail
 clear cD fD cR fR;have BR:=((R.set_ 0 (.int .i64 p.x)).set_ 1 (.int .i64 p.y));have cR:=BR.cell;exact bodyPost_ret (by simp[results,Tryz.results23,go_sem,cR]) rfl ⟨rfl,((K.setNew (by simp<;>omega) _).setNew (by simp<;>omega) _)⟩
theorem r4_low_any (b:Bx) (w:World):Calls Tryz.prog 130 #[b] w fun e w'=>e=.returned (.agg #[b.x.lo,b.y.lo,b.u.lo,b.v.lo])∧Kp w.heap.size none w w':=by
 obtain⟨w1,hw1,B,R,K,hz⟩:=box2 w 33 b 55 #[(0:Int),(0:Int),(0:Int),(0:Int)];go_enter Tryz.func130,Tryz.ntmps130
 go_upto_region 1 with(fail)
 rw[← hw1];clear hw1;have cB:=B.cell;have fB:=B.frozen;have cR:=R.cell;have fR:=R.frozen;go_wp2_with fail
 clear cB fB cR fR;have BR:=((((R.set_ 0 (.int .i64 b.x.lo)).set_ 1 (.int .i64 b.y.lo)).set_ 2 (.int .i64 b.u.lo)).set_ 3 (.int .i64 b.v.lo));have cR:=BR.cell;exact bodyPost_ret (by simp[results,Tryz.results130,go_sem,cR]) rfl ⟨rfl,((((K.setNew (by simp<;>omega) _).setNew (by simp<;>omega) _).setNew (by simp<;>omega) _).setNew (by simp<;>omega) _)⟩
theorem r4_high_any (b:Bx) (w:World):Calls Tryz.prog 131 #[b] w fun e w'=>e=.returned (.agg #[b.x.hi,b.y.hi,b.u.hi,b.v.hi])∧Kp w.heap.size none w w':=by
 obtain⟨w1,hw1,B,R,K,hz⟩:=box2 w 33 b 55 #[(0:Int),(0:Int),(0:Int),(0:Int)];go_enter Tryz.func131,Tryz.ntmps131
 go_upto_region 1 with(fail)
 rw[← hw1];clear hw1;have cB:=B.cell;have fB:=B.frozen;have cR:=R.cell;have fR:=R.frozen;go_wp2_with fail
 clear cB fB cR fR;have BR:=((((R.set_ 0 (.int .i64 b.x.hi)).set_ 1 (.int .i64 b.y.hi)).set_ 2 (.int .i64 b.u.hi)).set_ 3 (.int .i64 b.v.hi));have cR:=BR.cell;exact bodyPost_ret (by simp[results,Tryz.results131,go_sem,cR]) rfl ⟨rfl,((((K.setNew (by simp<;>omega) _).setNew (by simp<;>omega) _).setNew (by simp<;>omega) _).setNew (by simp<;>omega) _)⟩
theorem r4_full_t (b:Bx) (h1:b.x.lo≤b.x.hi) (h2:b.y.lo≤b.y.hi) (h3:b.u.lo≤b.u.hi) (h4:b.v.lo≤b.v.hi) (w:World):Calls Tryz.prog 128 #[b] w fun e w'=>e=.returned (.bool true)∧Kp w.heap.size none w w':=by
 obtain⟨w1,hw1,B,K,hz⟩:=box1 w 33 b;go_enter Tryz.func128,Tryz.ntmps128
 go_upto_region 1 with(fail)
 rw[← hw1];clear hw1;have cB:=B.cell;have fB:=B.frozen;go_wp2_with fail
 clear cB fB;go_ret
 exact⟨rfl,K⟩
theorem r2_Guess_t (s:St) (h:okSt s=true) (w:World):Calls Tryz.prog 168 #[s] w fun e w'=>e=.returned (.bool true)∧Kp w.heap.size none w w':=by
 unfold okSt at h;simp only[decide_eq_true_eq] at h;have c1:=fun w=>r2_Near_t ⟨s.x,s.y⟩ ⟨h.1,h.2.1,h.2.2.1,h.2.2.2.1⟩ w;have c2:=fun w=>r2_between_t (n:=s.u) (lo:=-1048576) (hi:=1048576) h.2.2.2.2.1 h.2.2.2.2.2.1 w;have c3:=fun w=>r2_between_t (n:=s.v) (lo:=-1048576) (hi:=1048576) h.2.2.2.2.2.2.1 h.2.2.2.2.2.2.2 w;dsimp only at c1;clear h;obtain⟨w1,hw1,B,K,hz⟩:=box1 w 55 s;go_enter Tryz.func168,Tryz.ntmps168
 go_wp2_with fail
 rw[← hw1];clear hw1;refine mK (c1 _) fun w2 k=>?_;replace B:=B.kpN k;replace K:=K.thenN k oM;have hzk:=k.size;clear k;have cB:=B.cell;have fB:=B.frozen;go_wp2_with fail
 refine mK (c2 _) fun w3 k=>?_;clear cB fB;replace B:=B.kpN k;replace K:=K.thenN k oM;have hzk:=k.size;clear k;have cB:=B.cell;have fB:=B.frozen;go_wp2_with fail
 refine mK (c3 _) fun w4 k=>?_;clear cB fB;replace B:=B.kpN k;replace K:=K.thenN k oM;have hzk:=k.size;clear k;have cB:=B.cell;have fB:=B.frozen;go_wp2_with fail
 clear cB fB;go_ret
 exact⟨rfl,K⟩
theorem r4_CheckState_t (s:St) (h:okSt s=true) (w:World):Calls Tryz.prog 129 #[s] w fun e w'=>e=.returned (.int .i64 0)∧Kp w.heap.size none w w':=by
 have c1:=fun w=>r2_Guess_t s h w;clear h;obtain⟨w1,hw1,B,K,hz⟩:=box1 w 55 s;go_enter Tryz.func129,Tryz.ntmps129
 go_wp2_with fail
 rw[← hw1];clear hw1;refine mK (c1 _) fun w2 k=>?_;replace B:=B.kpN k;replace K:=K.thenN k oM;have hzk:=k.size;clear k;have cB:=B.cell;have fB:=B.frozen;go_wp2_with fail
 clear cB fB;go_ret
 exact⟨rfl,K⟩
theorem r4_Check_t (b:Bx) (h:okBx b=true) (w:World):Calls Tryz.prog 81 #[b] w fun e w'=>e=.returned (.int .i64 0)∧Kp w.heap.size none w w':=by
 unfold okBx at h;simp only[Bool.and_eq_true] at h;obtain⟨ho,h1,h2⟩:=h;unfold Bx.ord at ho;simp only[decide_eq_true_eq] at ho;have cf:=fun w=>r4_full_t b ho.1 ho.2.1 ho.2.2.1 ho.2.2.2 w;have c1:=fun w=>r4_CheckState_t b.los h1 w;have c2:=fun w=>r4_CheckState_t b.his h2 w;simp only[Bx.los,Bx.his] at c1 c2;clear ho h1 h2;obtain⟨w1,hw1,B,K,hz⟩:=box1 w 33 b;go_enter Tryz.func81,Tryz.ntmps81
 go_wp2_with fail
 rw[← hw1];clear hw1;refine mK (cf _) fun w2 k=>?_;replace B:=B.kpN k;replace K:=K.thenN k oM;have hzk:=k.size;clear k;have cB:=B.cell;have fB:=B.frozen;go_wp2_with fail
 refine mK (r4_low_any b _) fun w3 k=>?_;clear cB fB;replace B:=B.kpN k;replace K:=K.thenN k oM;have hzk:=k.size;clear k;have cB:=B.cell;have fB:=B.frozen;go_wp2_with fail
 refine mK (c1 _) fun w4 k=>?_;clear cB fB;replace B:=B.kpN k;replace K:=K.thenN k oM;have hzk:=k.size;clear k;have cB:=B.cell;have fB:=B.frozen;go_wp2_with fail
 refine mK (r4_high_any b _) fun w5 k=>?_;clear cB fB;replace B:=B.kpN k;replace K:=K.thenN k oM;have hzk:=k.size;clear k;have cB:=B.cell;have fB:=B.frozen;go_wp2_with fail
 refine mK (c2 _) fun w6 k=>?_;clear cB fB;replace B:=B.kpN k;replace K:=K.thenN k oM;have hzk:=k.size;clear k;have cB:=B.cell;have fB:=B.frozen;go_wp2_with fail
 clear cB fB;go_ret
 exact⟨rfl,K⟩
theorem Blk.st3 {w:World} {r:Nat} {T:TypeId} {cs:Array Value} (h:Blk w r T cs) (x0 x1 x2:Value):∃ w',w'=(((w.setCell ⟨r,0,none⟩ x0).setCell ⟨r,1,none⟩ x1).setCell ⟨r,2,none⟩ x2)∧Blk w' r T ((((cs.setIfInBounds 0 x0).setIfInBounds 1 x1).setIfInBounds 2 x2))∧Kp w.heap.size (some r) w w'∧w'.heap.size=w.heap.size:=
 ⟨_,rfl,(((h.set_ 0 _).set_ 1 _).set_ 2 _),((((Kp.refl _ (some r) w).setRow (p:=⟨r,0,none⟩) rfl _).setRow (p:=⟨r,1,none⟩) rfl _).setRow (p:=⟨r,2,none⟩) rfl _),by simp[World.setCell]⟩
theorem Blk.st6 {w:World} {r:Nat} {T:TypeId} {cs:Array Value} (h:Blk w r T cs) (x0 x1 x2 x3 x4 x5:Value):∃ w',w'=((((((w.setCell ⟨r,0,none⟩ x0).setCell ⟨r,1,none⟩ x1).setCell ⟨r,2,none⟩ x2).setCell ⟨r,3,none⟩ x3).setCell ⟨r,4,none⟩ x4).setCell ⟨r,5,none⟩ x5)∧Blk w' r T (((((((cs.setIfInBounds 0 x0).setIfInBounds 1 x1).setIfInBounds 2 x2).setIfInBounds 3 x3).setIfInBounds 4 x4).setIfInBounds 5 x5))∧Kp w.heap.size (some r) w w'∧w'.heap.size=w.heap.size:=
 ⟨_,rfl,((((((h.set_ 0 _).set_ 1 _).set_ 2 _).set_ 3 _).set_ 4 _).set_ 5 _),(((((((Kp.refl _ (some r) w).setRow (p:=⟨r,0,none⟩) rfl _).setRow (p:=⟨r,1,none⟩) rfl _).setRow (p:=⟨r,2,none⟩) rfl _).setRow (p:=⟨r,3,none⟩) rfl _).setRow (p:=⟨r,4,none⟩) rfl _).setRow (p:=⟨r,5,none⟩) rfl _),by simp[World.setCell]⟩
theorem Blk.st9 {w:World} {r:Nat} {T:TypeId} {cs:Array Value} (h:Blk w r T cs) (x0 x1 x2 x3 x4 x5 x6 x7 x8:Value):∃ w',w'=(((((((((w.setCell ⟨r,0,none⟩ x0).setCell ⟨r,1,none⟩ x1).setCell ⟨r,2,none⟩ x2).setCell ⟨r,3,none⟩ x3).setCell ⟨r,4,none⟩ x4).setCell ⟨r,5,none⟩ x5).setCell ⟨r,6,none⟩ x6).setCell ⟨r,7,none⟩ x7).setCell ⟨r,8,none⟩ x8)∧Blk w' r T ((((((((((cs.setIfInBounds 0 x0).setIfInBounds 1 x1).setIfInBounds 2 x2).setIfInBounds 3 x3).setIfInBounds 4 x4).setIfInBounds 5 x5).setIfInBounds 6 x6).setIfInBounds 7 x7).setIfInBounds 8 x8))∧Kp w.heap.size (some r) w w'∧w'.heap.size=w.heap.size:=
 ⟨_,rfl,(((((((((h.set_ 0 _).set_ 1 _).set_ 2 _).set_ 3 _).set_ 4 _).set_ 5 _).set_ 6 _).set_ 7 _).set_ 8 _),((((((((((Kp.refl _ (some r) w).setRow (p:=⟨r,0,none⟩) rfl _).setRow (p:=⟨r,1,none⟩) rfl _).setRow (p:=⟨r,2,none⟩) rfl _).setRow (p:=⟨r,3,none⟩) rfl _).setRow (p:=⟨r,4,none⟩) rfl _).setRow (p:=⟨r,5,none⟩) rfl _).setRow (p:=⟨r,6,none⟩) rfl _).setRow (p:=⟨r,7,none⟩) rfl _).setRow (p:=⟨r,8,none⟩) rfl _),by simp[World.setCell]⟩
theorem Blk.st10 {w:World} {r:Nat} {T:TypeId} {cs:Array Value} (h:Blk w r T cs) (x0 x1 x2 x3 x4 x5 x6 x7 x8 x9:Value):∃ w',w'=((((((((((w.setCell ⟨r,0,none⟩ x0).setCell ⟨r,1,none⟩ x1).setCell ⟨r,2,none⟩ x2).setCell ⟨r,3,none⟩ x3).setCell ⟨r,4,none⟩ x4).setCell ⟨r,5,none⟩ x5).setCell ⟨r,6,none⟩ x6).setCell ⟨r,7,none⟩ x7).setCell ⟨r,8,none⟩ x8).setCell ⟨r,9,none⟩ x9)∧Blk w' r T (((((((((((cs.setIfInBounds 0 x0).setIfInBounds 1 x1).setIfInBounds 2 x2).setIfInBounds 3 x3).setIfInBounds 4 x4).setIfInBounds 5 x5).setIfInBounds 6 x6).setIfInBounds 7 x7).setIfInBounds 8 x8).setIfInBounds 9 x9))∧Kp w.heap.size (some r) w w'∧w'.heap.size=w.heap.size:=
 ⟨_,rfl,((((((((((h.set_ 0 _).set_ 1 _).set_ 2 _).set_ 3 _).set_ 4 _).set_ 5 _).set_ 6 _).set_ 7 _).set_ 8 _).set_ 9 _),(((((((((((Kp.refl _ (some r) w).setRow (p:=⟨r,0,none⟩) rfl _).setRow (p:=⟨r,1,none⟩) rfl _).setRow (p:=⟨r,2,none⟩) rfl _).setRow (p:=⟨r,3,none⟩) rfl _).setRow (p:=⟨r,4,none⟩) rfl _).setRow (p:=⟨r,5,none⟩) rfl _).setRow (p:=⟨r,6,none⟩) rfl _).setRow (p:=⟨r,7,none⟩) rfl _).setRow (p:=⟨r,8,none⟩) rfl _).setRow (p:=⟨r,9,none⟩) rfl _),by simp[World.setCell]⟩
theorem and_one (n:Int):bits .and .i64 n 1=n % 2:=by
 have e:(BitVec.ofInt 64 n &&& BitVec.ofInt 64 1).toNat=(n % 2).toNat:=by
  rw[BitVec.toNat_and,BitVec.toNat_ofInt,BitVec.toNat_ofInt];rw[show ((1:Int) % (2 ^ 64:Nat)).toNat=1 from rfl,Nat.and_one_is_mod];omega
 show IntKind.i64.wrap (((BitVec.ofInt 64 n &&& BitVec.ofInt 64 1).toNat:Nat):Int)=n % 2
 rw[e];have h:n % 2=0∨n % 2=1:=by omega
 rcases h with h|h<;>rw[h]<;>rfl
theorem r4_half_any (a b:Int) (ha:-33554432≤a∧a≤33554432) (hb:-33554432≤b∧b≤33554432) (w:World):Calls Tryz.prog 169 #[a,b] w fun e w'=>e=.returned (.int .i64 ((a+b) / 2))∧Kp w.heap.size none w w':=by
 have ev:wrap64 ((wrap64 (a+b-bits BinOp.and IntKind.i64 (a+b) 1)).tdiv 2)=(a+b) / 2:=by
  rw[and_one];have e1:wrap64 (a+b-(a+b) % 2)=2 * ((a+b) / 2):=by unfold wrap64;omega
  rw[e1,Int.mul_tdiv_cancel_left _ oM];unfold wrap64;omega
 replace ev:=Lib.hid ev;go_enter Tryz.func169,Tryz.ntmps169
 go_wp2_with fail
 go_ret
 exact⟨by rw[ev.out];rfl,Kp.refl _ _ _⟩
theorem r4_cut_any (s:Sp) (h0:s.lo≤s.hi) (h1:-33554432≤s.lo) (h2:s.hi≤33554432) (w:World):Calls Tryz.prog 132 #[s] w fun e w'=>e=.returned (.tuple #[.agg #[s.lo,.int .i64 ((s.lo+s.hi) / 2)],.agg #[.int .i64 ((s.lo+s.hi) / 2+1),s.hi]])∧Kp w.heap.size none w w':=by
 have ch:=fun w=>r4_half_any s.lo s.hi oM oM w;have e1:wrap64 ((s.lo+s.hi) / 2+1)=(s.lo+s.hi) / 2+1:=by unfold wrap64;omega
 generalize (s.lo+s.hi) / 2=m at *;clear h0 h1 h2;obtain⟨m1,hm1⟩:∃ m1,m1=m+1:=⟨_,rfl⟩;rw[← hm1] at e1 ⊢;rw[hm1] at e1;have e2:wrap64 (m+1)=m1:=by rw[e1,hm1]
 clear e1 hm1;obtain⟨w1,hw1,B,R,U,K,hz⟩:=box3 w 29 s 29 #[(0:Int),(0:Int)] 29 #[(0:Int),(0:Int)];go_enter Tryz.func132,Tryz.ntmps132
 go_wp2_with fail
 rw[← hw1];clear hw1;refine mK (ch _) fun w2 k=>?_;replace B:=B.kpN k;replace R:=R.kpN k;replace U:=U.kpN k;replace K:=K.thenN k oM;have hzk:=k.size;clear k;go_wp2_with fail
 obtain⟨S,hS0,hS1⟩:=cls_of2 (P:=fun w'=>Blk w' _ _ _∧Kp _ _ _ w') w2 ⟨B,K⟩;try dsimp only at hS0
 have cB:=fun (x:Ev (S 0)) i=>((hS0 _).1 x.h).1.cell i;replace B:=B.drew;replace K:=K.drew;replace U:=U.drew;replace R:=R.drew;have hevT:=ev_true;refine wro S [(0,0),(1,1),(2,0),(3,0),(4,0),(5,0),(6,0),(7,1),(8,0),(9,2),(10,3)] [10] ((hS0 _).2 ⟨B,K⟩) ?_;intro _hev;refine oX ?_;refine oL ?_;intro Kc hKc;generalize w2.drew=wd9 at *;have cS9:=R.cell;have fS9:=R.frozen;go_step;obtain⟨w3,hwn,RB9,kst,hzst⟩:=R.st2 (.int .i64 s.lo) (.int .i64 m);rw[← hwn];clear hwn cS9 fS9;replace B:=B.kq kst;replace U:=U.kq kst;replace K:=K.thenOwn kst (Nat.le_refl _) oM;replace R:=RB9;clear RB9 kst hzst;simp only[sbt,sc0,scs] at R;refine hKc _ _ ((hS0 _).2 ⟨B,K⟩) ?_;clear hKc Kc;refine oA ?_;intro Kc hKc;have cR:=U.cell;have fR:=U.frozen;go_step;obtain⟨w9,hwn,RB9,kst,hzst⟩:=U.st2 (.int .i64 m1) (.int .i64 s.hi);rw[← hwn];clear hwn cR fR;refine hKc _ _ ((hS1 _).2 trivial) ?_;clear hKc Kc;replace B:=B.kq kst;replace R:=R.kq kst;first|replace K:=K.thenOwn kst (Nat.le_refl _) oM|replace K:=K.then_ kst (Nat.le_refl _)
 replace U:=RB9;clear RB9 kst;simp only[sbt,sc0,scs] at U;change wpOrd _ _ _ _ _ 1 _ _;refine wpOrd_nil ?_;clear hevT _hev;clear cB hS0 hS1 S;have cR:=R.cell;have cU:=U.cell;go_wp2_with fail
 exact bodyPost_ret (v:=.tuple #[.agg #[s.lo,m],.agg #[m1,s.hi]]) (by simp[results,Tryz.results132,go_sem,cR,cU]) rfl ⟨rfl,K⟩
def widN (b:Bx):Nat→Nat × Int
 | 0=>(0,-1)
 | n+1=>if (widN b n).2<(getS b n).hi-(getS b n).lo then (n,(getS b n).hi-(getS b n).lo) else widN b n
theorem widN_spec (b:Bx):∀ n,n=0∧widN b n=(0,-1)∨(widN b n).1<n∧(widN b n).2=(getS b (widN b n).1).hi-(getS b (widN b n).1).lo∨widN b n=(0,-1)
 | 0=>.inl ⟨rfl,rfl⟩
 | n+1=>by
  unfold widN;split
  · exact .inr (.inl ⟨by simp,rfl⟩)
  ·
   rcases widN_spec b n with⟨_,h⟩|h|h
   · exact .inr (.inr h)
   · exact .inr (.inl ⟨by omega,h.2⟩)
   · exact .inr (.inr h)
def cutM (b:Bx):Int:=((getS b (widN b 4).1).lo+(getS b (widN b 4).1).hi) / 2
def cutX (b:Bx):Bx:=setS b (widN b 4).1 ⟨(getS b (widN b 4).1).lo,cutM b⟩
def cutY (b:Bx):Bx:=setS b (widN b 4).1 ⟨cutM b+1,(getS b (widN b 4).1).hi⟩
theorem getS_ok {b:Bx} (h:okBx b=true) (i:Nat):(getS b i).lo≤(getS b i).hi∧-33554432≤(getS b i).lo∧(getS b i).hi≤33554432:=by
 obtain⟨h1,h2⟩:=(okBx_iff b).1 h;unfold getS;split<;>omega
theorem wid_ok {b:Bx} (h:okBx b=true):(widN b 4).1<4∧(widN b 4).2=(getS b (widN b 4).1).hi-(getS b (widN b 4).1).lo∧0≤(widN b 4).2:=by
 have key:∀ n,0<n→0≤(widN b n).2:=by
  intro n hn;induction n with
  | zero=>omega
  | succ n ih=>
   have g:=getS_ok h n;unfold widN;split
   · simp only;omega
   ·
    rename_i q;by_cases hn0:n=0
    ·
     subst hn0;have:(widN b 0).2=-1:=rfl;omega
    · exact ih oM
 have k:=key 4 oM;rcases widN_spec b 4 with⟨e,_⟩|⟨h1,h2⟩|e
 · omega
 · exact⟨h1,h2,k⟩
 · rw[e] at k;simp at k
theorem cut_halves {b:Bx} (h:okBx b=true) (hw:(widN b 4).2≠0):Halves b (cutX b) (cutY b):=by
 obtain⟨h1,h2,h3⟩:=wid_ok h;refine⟨(widN b 4).1,cutM b,h1,?_,?_,rfl,rfl⟩<;>unfold cutM<;>omega
def WidAt (b:Bx) (w:World) (p q r:Value) (wr:World):Prop:=∃ i:Nat,r=.int .i64 i∧i≤4∧p=.int .i64 (widN b i).1∧q=.int .i64 (widN b i).2∧Kp w.heap.size none w wr
theorem wid_succ {b:Bx} {n:Nat}:(widN b (n+1))=if (widN b n).2<(getS b n).hi-(getS b n).lo then (n,(getS b n).hi-(getS b n).lo) else widN b n:=rfl
theorem orbit_widest_any (b:Bx) (hb:okBx b=true) (w:World) :
  Calls Tryz.prog 152 #[b] w fun e w'=>e=.returned (.tuple #[.int .i64 (widN b 4).1,.int .i64 (widN b 4).2])∧Kp w.heap.size none w w':=by
 have co:=fun w=>orbit_of_any b w;unfold spansC at co;have i0:=index4s_0;have i1:=index4s_1;have i2:=index4s_2;have i3:=index4s_3;have g:=getS_ok hb;obtain⟨g0,g1,g2,g3⟩:(_∧_∧_∧_):=⟨g 0,g 1,g 2,g 3⟩;simp only[getS] at g0 g1 g2 g3;clear g hb;obtain⟨w1,hw1,B,K,hz⟩:=box1 w 33 b;go_enter Tryz.func152,Tryz.ntmps152
 go_wp2_with fail
 rw[← hw1];clear hw1;refine mK (co _) fun w3 k=>?_;replace B:=B.kpN k;replace K:=K.thenN k oM;have hzk:=k.size;clear k;clear hzk;have cB:=B.cell;have fB:=B.frozen;go_wp2_with fail
 clear cB fB;go_loopw [4,5,11] (fun p q r wr=>WidAt b w p q r wr) (fun _ _ r _=>4-(intOf r).toNat)
 case atStart=>exact⟨0,rfl,by omega,rfl,rfl,K⟩
 case round=>
  obtain⟨i,rfl,hi,rfl,rfl,KK⟩:=hrel;clear K B co;have K:=KK;clear KK;have hi':i=0∨i=1∨i=2∨i=3∨i=4:=by omega
  rcases hi' with rfl|hi'
  ·
   have hs:Hid (widN b (0+1)=if (widN b 0).2<b.x.hi-b.x.lo then (0,b.x.hi-b.x.lo) else widN b 0):=Lib.hid wid_succ;generalize widN b 0=p at *;have e1:wrap64 (b.x.hi-b.x.lo)=b.x.hi-b.x.lo:=by unfold wrap64;omega
   rw[show ((0:Nat):Int)=(0:Int) from rfl];clear hi;by_cases q1:p.2<b.x.hi-b.x.lo
   ·
    have hs':=hs.out;rw[if_pos q1] at hs';replace hs:=Lib.hid hs';clear hs';go_wp2
    go_roundw
    case rel=>exact⟨0+1,rfl,by omega,by rw[hs.out];rfl,by rw[hs.out],K.thenN (Kp.new1 _ _) (Nat.le_refl _)⟩
    case measure=>simp[intOf]
   ·
    have hs':=hs.out;rw[if_neg q1] at hs';replace hs:=Lib.hid hs';clear hs';go_wp2
    go_roundw
    case rel=>exact⟨0+1,rfl,by omega,by rw[hs.out],by rw[hs.out],K.thenN (Kp.new1 _ _) (Nat.le_refl _)⟩
    case measure=>simp[intOf]
  rcases hi' with rfl|hi'
  ·
   have hs:Hid (widN b (1+1)=if (widN b 1).2<b.y.hi-b.y.lo then (1,b.y.hi-b.y.lo) else widN b 1):=Lib.hid wid_succ;generalize widN b 1=p at *;have e1:wrap64 (b.y.hi-b.y.lo)=b.y.hi-b.y.lo:=by unfold wrap64;omega
   rw[show ((1:Nat):Int)=(1:Int) from rfl];clear hi;by_cases q1:p.2<b.y.hi-b.y.lo
   ·
    have hs':=hs.out;rw[if_pos q1] at hs';replace hs:=Lib.hid hs';clear hs';go_wp2
    go_roundw
    case rel=>exact⟨1+1,rfl,by omega,by rw[hs.out];rfl,by rw[hs.out],K.thenN (Kp.new1 _ _) (Nat.le_refl _)⟩
    case measure=>simp[intOf]
   ·
    have hs':=hs.out;rw[if_neg q1] at hs';replace hs:=Lib.hid hs';clear hs';go_wp2
    go_roundw
    case rel=>exact⟨1+1,rfl,by omega,by rw[hs.out],by rw[hs.out],K.thenN (Kp.new1 _ _) (Nat.le_refl _)⟩
    case measure=>simp[intOf]
  rcases hi' with rfl|hi'
  ·
   have hs:Hid (widN b (2+1)=if (widN b 2).2<b.u.hi-b.u.lo then (2,b.u.hi-b.u.lo) else widN b 2):=Lib.hid wid_succ;generalize widN b 2=p at *;have e1:wrap64 (b.u.hi-b.u.lo)=b.u.hi-b.u.lo:=by unfold wrap64;omega
   rw[show ((2:Nat):Int)=(2:Int) from rfl];clear hi;by_cases q1:p.2<b.u.hi-b.u.lo
   ·
    have hs':=hs.out;rw[if_pos q1] at hs';replace hs:=Lib.hid hs';clear hs';go_wp2
    go_roundw
    case rel=>exact⟨2+1,rfl,by omega,by rw[hs.out];rfl,by rw[hs.out],K.thenN (Kp.new1 _ _) (Nat.le_refl _)⟩
    case measure=>simp[intOf]
   ·
    have hs':=hs.out;rw[if_neg q1] at hs';replace hs:=Lib.hid hs';clear hs';go_wp2
    go_roundw
    case rel=>exact⟨2+1,rfl,by omega,by rw[hs.out],by rw[hs.out],K.thenN (Kp.new1 _ _) (Nat.le_refl _)⟩
    case measure=>simp[intOf]
  rcases hi' with rfl|hi'
  ·
   have hs:Hid (widN b (3+1)=if (widN b 3).2<b.v.hi-b.v.lo then (3,b.v.hi-b.v.lo) else widN b 3):=Lib.hid wid_succ;generalize widN b 3=p at *;have e1:wrap64 (b.v.hi-b.v.lo)=b.v.hi-b.v.lo:=by unfold wrap64;omega
   rw[show ((3:Nat):Int)=(3:Int) from rfl];clear hi;by_cases q1:p.2<b.v.hi-b.v.lo
   ·
    have hs':=hs.out;rw[if_pos q1] at hs';replace hs:=Lib.hid hs';clear hs';go_wp2
    go_roundw
    case rel=>exact⟨3+1,rfl,by omega,by rw[hs.out];rfl,by rw[hs.out],K.thenN (Kp.new1 _ _) (Nat.le_refl _)⟩
    case measure=>simp[intOf]
   ·
    have hs':=hs.out;rw[if_neg q1] at hs';replace hs:=Lib.hid hs';clear hs';go_wp2
    go_roundw
    case rel=>exact⟨3+1,rfl,by omega,by rw[hs.out],by rw[hs.out],K.thenN (Kp.new1 _ _) (Nat.le_refl _)⟩
    case measure=>simp[intOf]
  subst hi';clear i0 i1 i2 i3 g0 g1 g2 g3;go_wp2
  exact bodyPost_ret (v:=.tuple #[.int .i64 (widN b 4).1,.int .i64 (widN b 4).2]) (by simp[results,Tryz.results152,go_sem]) rfl ⟨rfl,K⟩
theorem spans_box_any (b:Bx) (w:World) :
  Calls Tryz.prog 178 #[.agg (spansC b)] w fun e w'=>e=.returned b∧Kp w.heap.size none w w':=by
 unfold spansC;have i0:=index4s_0;have i1:=index4s_1;have i2:=index4s_2;have i3:=index4s_3;go_enter Tryz.func178,Tryz.ntmps178
 go_wp2_with fail
 exact bodyPost_ret (by simp[results,Tryz.results178,go_sem]) rfl ⟨rfl,Kp.new2 _ _ _⟩
end Go.Proofs.YtdhiappifnflpaaGreat
