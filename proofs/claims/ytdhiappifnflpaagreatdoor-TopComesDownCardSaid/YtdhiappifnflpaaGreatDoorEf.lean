/- A body that comes down: the walk of TopComesDown. -/
import Derived.Test.YtdhiappifnflpaaGreatDoorM15
import Derived.Test.YtdhiappifnflpaaGreatDoorM33
import Derived.Test.YtdhiappifnflpaaGreatDoorM34
import Derived.Test.YtdhiappifnflpaaGreatDoorM35
import Derived.Test.YtdhiappifnflpaaGreatDoorM36
import Derived.Test.YtdhiappifnflpaaGreatDoorM46
set_option maxRecDepth 100000
set_option maxHeartbeats 16000000
namespace Go.Proofs.YtdhiappifnflpaaGreatDoor
open Go.RowKit
theorem rd_bx1 {w:World} {b:Nat} {T:TypeId} {x:Bx} (h:Blk w b T x):Rd none w 8 encBx (some ⟨b,0,none⟩) 1 [x]:=
 Rd.of_blk h fun i hi j v hv=>by
  match i,hi,j,hv with
  | 0,_,0,hv|0,_,1,hv|0,_,2,hv|0,_,3,hv|0,_,4,hv|0,_,5,hv|0,_,6,hv|0,_,7,hv=>exact hv
theorem soleA_bd {p:Pt} (h:Fr p):(soleA p).bd 268435456:=by
 obtain⟨h1,h2⟩:=h;unfold Fr1 at h1 h2;unfold soleA Ar.bd Sp.bd;simp only;omega
theorem Bl.stoneOk_of_in {s:Bl.Stone} {r:Bl.Rock} {f:Bl.Fall} (h:Bl.StoneIn s r f) (k:Bl.RockOk r f):Bl.StoneOk s:=by
 obtain⟨⟨a1,a2⟩,⟨b1,b2⟩,⟨c1,c2⟩,⟨d1,d2⟩,⟨e1,e2⟩,_,⟨f1,f2⟩,⟨g1,g2⟩⟩:=h;obtain⟨⟨r1,r2,r3⟩,⟨s1,s2,s3⟩,⟨t1,t2,t3⟩,⟨n1,n2,n3⟩,⟨h1,h2,h3⟩,⟨v1,v2,v3⟩,⟨l1,l2,l3⟩⟩:=k;exact⟨by omega,by omega,by omega,by omega,by omega,by omega,by omega⟩
theorem Bl.toll_encl {ls:List Bl.Layer} {gs:List Bl.Grade} {ps:List Int} {bs:List Bool} {r:Bl.Rock} {f:Bl.Fall} {s:Bl.Stone} {fr fi a:Nat} (ha:Bl.AirOk ls) (hr:Bl.RockOk r f) (hg:Bl.GradesOk gs) (hok:Bl.LandOk ps bs.length) (hsin:Bl.StoneIn s r f) (hs:Bl.StoneOk s) (h1:fr≤a) (h2:a≤fi) (h3:fi<ps.length) :
  (0≤((Bl.endsOf ls s).1:Int)∧((Bl.endsOf ls s).1:Int)≤ls.length)∧(Bl.tollOf (Bl.harmsOf ls.length gs ps bs) (Bl.blowsOf ls r f) fr fi).lo≤Bl.harmsOf ls.length gs ps bs (Bl.endsOf ls s).1 (Bl.endsOf ls s).2 a∧Bl.harmsOf ls.length gs ps bs (Bl.endsOf ls s).1 (Bl.endsOf ls s).2 a≤(Bl.tollOf (Bl.harmsOf ls.length gs ps bs) (Bl.blowsOf ls r f) fr fi).hi:=by
 obtain⟨x,hx,q1,q2,q3⟩:=Bl.blowsOf_enclose (Bl.air_lay ha) hr hsin hs;have hl:=Bl.blows_from (Bl.weakS r f) (Bl.strongS r f) ls 0 _ _ x hx;obtain⟨p1,p2⟩:=(Bl.toll_good (gs:=gs) ha hr hok (Nat.le_trans h1 h2) h3).all a x ⟨⟨h1,h2⟩,hx⟩;rw[q1] at p1 p2;exact⟨by omega,Int.le_trans p1 (Bl.harmsOf_mono hg hok oM q2),Int.le_trans (Bl.harmsOf_mono hg hok oM q3) p2⟩
theorem prop_one {W:Wd} {d:Dr} {t:Int} {b:Bx} {l:List St} {n:Nat} (hW:W.ok) (hd:d.ok) (hT:TruthW W d t l) (hb:b.has (nth l 0)) (ob:okBx b=true) (hn:n<l.length) {w w':World} {e:Ending} (h:PropPost W d t [b] n w e w') :
  (∃ (A:Option Addr) (n1 c1:Nat) (e1:Int),e=.returned (.tuple #[.slice A n1 c1,e1])∧(e1=0→n1=1∧∃ x:Bx,x.has (nth l n)∧okBx x=true∧Rd none w' 8 encBx A 1 [x]))∧Kp w.heap.size none w w':=by
 obtain⟨h,k⟩:=h;refine⟨?_,k⟩;cases q:propW W d t [b] n with
 | none=>rw[q] at h;exact⟨_,_,_,_,h,fun e=>by cases e⟩
 | some m=>
  rw[q] at h;obtain⟨A,c,rfl,hr⟩:=h;obtain⟨x,rfl,hx,ox⟩:=propW_has hW hd hT hb ob n hn q;exact⟨_,_,_,_,rfl,fun _=>⟨rfl,x,hx,ox,hr⟩⟩
theorem law_TopComesDown_any (A0:Option Addr) (cap:Nat) (nums:List Int) (w:World) (h:Rd none w 1 (fun x=>[Value.int .i64 x]) A0 nums.length nums) (hnl:nums.length≤17592186044416) (hBnd:Bl.Bnd w) :
  Calls Tryz.prog 3 #[.slice A0 nums.length cap] w fun e w'=>e=.returned (.bool true)∧Kp w.heap.size none w w':=by
 go_enter Tryz.func3,Tryz.ntmps3
 go_wp2_with fail
 refine(newRing_any A0 cap nums _ h hnl).mono ?_;rintro e w1 ⟨g,rfl,hg0,HR,K1⟩;clear h hnl;go_wp2_with fail
 refine(meetingOf_any g nums 0 _ HR oM).mono ?_;rintro e w2 ⟨v9,k',rfl,⟨A,c,W,d,t,b,n,rfl,hW,hA,hd,ht,hb,hn1,hn8⟩,hk',HR2,k2⟩;have hgz:=HR.lt;clear HR;have HR:=HR2;clear HR2;have K:=(K1.wide (some g)).then_ k2 (Nat.le_refl _);have hzk:=K.size;have hgl:=HR.lt;clear K1 k2;have M:=((Blk.new w2 27 #[.slice A W.bs.length c,W.home]).alloc (.cells d 31)).alloc (.cells b 33);have G:=(Blk.newAt (w2.alloc (.cells #[.slice A W.bs.length c,W.home] 27)) 31 d (n:=w2.heap.size+1) (by simp)).alloc (.cells b 33);have X:=Blk.newAt ((w2.alloc (.cells #[.slice A W.bs.length c,W.home] 27)).alloc (.cells d 31)) 33 b (n:=w2.heap.size+2) (by simp);have kz:=(Kp.new2 w2 (.cells #[.slice A W.bs.length c,W.home] 27) (.cells d 31)).alloc (by simp<;>omega) (.cells b 33);have hA3:=hA.kpN kz;have HR3:=HR.kpN kz;have K3:=K.tN kz;go_upto_region 3 with(fail)
 generalize ((w2.alloc (.cells #[.slice A W.bs.length c,W.home] 27)).alloc (.cells d 31)).alloc (.cells b 33)=w3 at *;obtain⟨mb,hmb⟩:∃ mb,mb=w2.heap.size:=⟨_,rfl⟩;rw[← hmb] at M G X ⊢;have hmg:g<mb:=by omega
 have hmw:w.heap.size≤mb:=by omega
 clear hmb kz hA HR K hgl hzk;have hA:=hA3;have HR:=HR3;have K:=K3;clear hA3 HR3 K3;have cM:=M.cell;have cG:=G.cell;have cX:=X.cell;go_wp2_with fail
 clear cM cG cX;refine(truth_any g nums k' A c W d t b n _ HR oM oM hW hA hd oM hb).mono ?_;rintro e w4 ⟨v9,k4,rfl,⟨L,cl,l,z,ok,rfl,hll,hlh,hbz,rdl,hT,hfr,-⟩,hk4,HR2,k⟩;have HRz:=HR.lt;clear HR;have HR:=HR2;replace M:=M.kq k;replace G:=G.kq k;replace X:=X.kq k;replace hA:=hA.kp k;replace K:=K.then_ k (Nat.le_refl _);replace rdl:=rdl.rowOf hfr (show g<_ from HRz);clear HR2 k hfr;have hl10:l.length≤10:=by omega
 replace hll:=Lib.hid hll;replace hlh:=Lib.hid hlh;have cM:=M.cell;go_wp2_with fail
 clear cM;refine(meet_HitG_any A c W t L cl l _ hW hA.free oM rdl.free oM).mono ?_;rintro e w5 ⟨⟨v,rfl,hv⟩,k⟩;replace M:=M.kpN k;replace G:=G.kpN k;replace X:=X.kpN k;replace hA:=hA.kpN k;replace HR:=HR.kpN k;replace rdl:=rdl.kpN k;replace K:=K.tN k;clear k;cases ok with
 | false=>
  clear hv;go_wp2_with fail
  refine mK (awake_any _) fun w6 k=>?_;go_wp2
  go_ret
  exact⟨rfl,(K.tN k).narrow hg0⟩
 | true=>
 replace hT:=hT rfl;have hok:=hT.1;replace hv:=hv hok;rcases hv with⟨rfl,-⟩|⟨i,rfl,hil,hit⟩
 ·
  have hn:(-1:Int)<0:=by decide
  go_wp2_with fail
  refine mK (awake_any _) fun w6 k=>?_;go_wp2
  go_ret
  exact⟨rfl,(K.tN k).narrow hg0⟩
 have hi0:¬ (i:Int)<0:=by omega
 have hi1:(0:Int)≤(i:Int):=by omega
 have hh:=hW.home;have er:W.rad=W.bs[W.home].rad:=by unfold Wd.rad;rw[Wd.hb_eq hh]
 have hh0:(0:Int)≤(W.home:Int):=by omega
 have hh1:(W.home:Int)<(W.bs.length:Int):=by omega
 obtain⟨bb,o,B9,cc9,rfl,hlt,e0,e1,e2,hr9⟩:=hA.body W.home hh;rw[← er] at e1;clear hr9 e0 e2 er;obtain⟨T,hT9⟩:∃ T:Int,Hid (T=t+(i:Int)):=⟨_,Lib.hid rfl⟩;have cM:=M.cell;go_wp2_with fail
 rw[← hT9.out];have WA:=hA;clear cM hh0 hh1 e1 hi0 hlt hA;obtain⟨T1,hT1⟩:∃ T1:Int,Hid (T1=T+1):=⟨_,Lib.hid rfl⟩;obtain⟨j,hj⟩:∃ j,Hid (j=i+1):=⟨_,Lib.hid rfl⟩;have hjl:j<l.length:=by rw[hj.out];exact hil
 have hil0:i<l.length:=by omega
 have hj1:(0:Int)≤(j:Int):=by omega
 have hii:(i:Int)<(l.length:Int):=by omega
 have hjj:(j:Int)<(l.length:Int):=by omega
 obtain⟨lb,lo,rfl,hlb,-,-⟩:=rdl.free.at_ oM;obtain⟨x0,y0,-,-⟩:=rdl.free.sts hil0 rfl;obtain⟨x1,y1,-,-⟩:=rdl.free.sts hjl rfl;have oks:=hok _ (List.getElem_mem hil0);have okm:=hok _ (List.getElem_mem hjl);have htT:0≤T∧T≤1000:=by have:=hT9.out;omega
 have es:nth l i=l[i]:=nth_eq hil0;have em:nth l j=l[j]:=nth_eq hjl;rw[← hj.out,← hT9.out] at hit;generalize l[i]=s at *;generalize l[j]=m at *;have cr:=fun w h=>meet_Relative_any (some ⟨bb,o,none⟩) c W T s w hW h oM oks;have cr2:=fun w h=>meet_Relative_any (some ⟨bb,o,none⟩) c W (T+1) m w hW h oM okm;rw[← hT1.out] at cr2
 obtain⟨am,hs,hca,hcw⟩:∃ (am:Sp) (hs:Bool),Hid (hs=true→(longS (soleA (relP W T s)) (soleA (relP W T1 m))).lo≠0∧am=aimS (soleA (relP W T s)) (soleA (relP W T1 m)))∧∀ w,Calls Tryz.prog 10 #[.agg #[(soleA (relP W T s)).x.lo,(soleA (relP W T s)).x.hi,(soleA (relP W T s)).y.lo,(soleA (relP W T s)).y.hi],.agg #[(soleA (relP W T1 m)).x.lo,(soleA (relP W T1 m)).x.hi,(soleA (relP W T1 m)).y.lo,(soleA (relP W T1 m)).y.hi]] w fun e w'=>e=.returned (.tuple #[am,.bool hs])∧Kp w.heap.size none w w':=by
  have ca:=fun w=>meet_Aim_any (soleA (relP W T s)) (soleA (relP W T1 m)) (soleA_bd (relP_fr hW oks)) (soleA_bd (relP_fr hW okm)) w;by_cases hz:(longS (soleA (relP W T s)) (soleA (relP W T1 m))).lo=0
  ·
   simp only[if_pos hz] at ca;exact⟨⟨0,0⟩,false,Lib.hid (fun e=>by cases e),ca⟩
  ·
   simp only[if_neg hz] at ca;exact⟨_,true,Lib.hid (fun _=>⟨hz,rfl⟩),ca⟩
 have cs1:=fun w=>sole_any (relP W T s) w;have cs2:=fun w=>sole_any (relP W T1 m) w;obtain⟨p,hp⟩:∃ p,Hid (p=relP W T s):=⟨_,Lib.hid rfl⟩;obtain⟨q,hq⟩:∃ q,Hid (q=relP W T1 m):=⟨_,Lib.hid rfl⟩;rw[← hp.out] at cr cs1 hca hcw;rw[← hq.out] at cr2 cs2 hca hcw
 have hb0:b.has (nth l 0):=by
  cases l with
  | nil=>cases hlh.out
  | cons a r=>have e:=hlh.out;injection e with e;subst e;exact hbz
 replace es:=Lib.hid es;replace em:=Lib.hid em;replace hit:=Lib.hid hit;replace hil:=Lib.hid hil;replace hil0:=Lib.hid hil0;replace hjl:=Lib.hid hjl;refine wp_region_inv (Γ:=GF) [none,none,none,none,none,none,none,none,none,none,none,none,none,none,some 17,some 19,none,none,none,none,none,none,none,none,none,none,none,none,none,none,none,none,none,none,none,none,none,none,none,none,none,none,none,none,none,none,none,none,none,none,none,none,none,none,none,none,none,none,none,none,none,none,none,none,none,none,none,none,none,none,none,none,none,none,none,none,none,none,none,none,none,none,none,none,none,some 14,some 0,some 1,some 2,some 3,some 4,some 5,some 6,some 7,some 8,some 9,some 10,some 11,some 12,some 13,some 15,some 16] [[],[],[],[],[2,3],[2,3,4],[2,3,4,5],[],[],[7,8],[7,8,9],[7,8,9,10],[2,3,4,5,6,7,8,9,10,11],[0,1,2,3,4,5,6,7,8,9,10,11,12],[0,1,2,3,4,5,6,7,8,9,10,11,12,13],[0,1,2,3,4,5,6,7,8,9,10,11,12,13,14],[0,1,2,3,4,5,6,7,8,9,10,11,12,13,14],[],[0,1,2,3,4,5,6,7,8,9,10,11,12,13,14,15,17],[0,1,2,3,4,5,6,7,8,9,10,11,12,13,14,15,16,17,18]] [[1,2,3,4,5,6,7,8,9,10,11,12,17],[0,2,3,4,5,6,7,8,9,10,11,12,17],[0,1,3,7,8,9,10,11,17],[0,1,2,7,8,9,10,11,17],[0,1,2,3,7,8,9,10,11,17],[0,1,2,3,4,7,8,9,10,11,17],[0,1,2,3,4,5,7,8,9,10,11,17],[0,1,2,3,4,5,6,8,17],[0,1,2,3,4,5,6,7,17],[0,1,2,3,4,5,6,7,8,17],[0,1,2,3,4,5,6,7,8,9,17],[0,1,2,3,4,5,6,7,8,9,10,17],[0,1,2,3,4,5,6,7,8,9,10,11,17],[0,1,2,3,4,5,6,7,8,9,10,11,12,17],[0,1,2,3,4,5,6,7,8,9,10,11,12,13,17],[0,1,2,3,4,5,6,7,8,9,10,11,12,13,14,16,17],[0,1,2,3,4,5,6,7,8,9,10,11,12,13,14,15,17,18],[0,1,2,3,4,5,6,7,8,9,10,11,12,13,14,15,16],[0,1,2,3,4,5,6,7,8,9,10,11,12,13,14,15,16,17],[0,1,2,3,4,5,6,7,8,9,10,11,12,13,14,15,16,17,18]] (fun γ=>[.agg #[.slice (some ⟨bb,o,none⟩) W.bs.length c,W.home],.int .i64 T,.slice (some ⟨lb,lo,none⟩) l.length cl,.int .i64 i,.pointer (some ⟨lb,lo+i * 4,none⟩),.pointer (some ⟨lb,lo+i * 4,none⟩),.int .i64 s.x,.slice (some ⟨lb,lo,none⟩) l.length cl,.int .i64 i,.pointer (some ⟨lb,lo+i * 4,none⟩),.pointer (some ⟨lb,lo+i * 4+1,none⟩),.int .i64 s.y,.agg #[s.x,s.y],.tuple #[.agg #[p.x,p.y],.bool true],.tuple #[.agg #[p.x,p.y],.bool true],.agg #[p.x,p.y],.bool true,.pointer (some ⟨γ.n1,0,none⟩),undef,.bool true]) (fun γ=>[none,none,none,none,none,none,none,none,none,none,none,none,none,none,some (.pointer (some ⟨γ.n1,0,none⟩)),some (.bool true),none,none,none,none,none,none,none,none,none,none,none,none,none,none,none,none,none,none,none,none,none,none,none,none,none,none,none,none,none,none,none,none,none,none,none,none,none,none,none,none,none,none,none,none,none,none,none,none,none,none,none,none,none,none,none,none,none,none,none,none,none,none,none,none,none,none,none,none,none,some (.tuple #[.agg #[p.x,p.y],.bool true]),some (.agg #[.slice (some ⟨bb,o,none⟩) W.bs.length c,W.home]),some (.int .i64 T),some (.slice (some ⟨lb,lo,none⟩) l.length cl),some (.int .i64 i),some (.pointer (some ⟨lb,lo+i * 4,none⟩)),some (.pointer (some ⟨lb,lo+i * 4,none⟩)),some (.int .i64 s.x),some (.slice (some ⟨lb,lo,none⟩) l.length cl),some (.int .i64 i),some (.pointer (some ⟨lb,lo+i * 4,none⟩)),some (.pointer (some ⟨lb,lo+i * 4+1,none⟩)),some (.int .i64 s.y),some (.agg #[s.x,s.y]),some (.tuple #[.agg #[p.x,p.y],.bool true]),some (.agg #[p.x,p.y]),some (.bool true)]) ?A8_1 (fun n D γ w=>Kp w5.heap.size none w5 w∧FreeB 45 γ.n1 γ.c1 w5.heap.size (#[(if γ.s1=true then .int .i64 p.x else .int .i64 0),(if γ.s1=true then .int .i64 p.y else .int .i64 0)]) w) (fun k γ w=>match k with|17=>γ.c1=true|18=>γ.s1=true|_=>True) ⟨0,0,false,false,false,false⟩ (by kernel_rfl) (fun _=>rfl) ?hA8_1 (by kernel_rfl) ?hB08_1 ?hop8_1 ?hend8_1
 case hA8_1=>intro γ;dsimp only[fullV];rfl
 case hB08_1=>
  exact⟨(Kp.refl _ none _).drew,fun e=>(by cases e)⟩
 case hop8_1=>
  intro hA;refine⟨?_,oKv hA,oKv hA,oKv hA,oKv hA,oKv hA,?_,oKv hA,oKv hA,oKv hA,oKv hA,?_,oKv hA,?_,oKv hA,oKv hA,oKv hA,?_,?_,oKv hA,trivial⟩
  ·
   refine oKv hA (h:=?_);intro n D γ w hB hU K hK;try dsimp only at hB
   try dsimp only
   have cM:=fun i=>(M.kpN hB.1).cell i;have x0:=(hB.1.cell _ _ hlb oW).trans x0;have y0:=(hB.1.cell _ _ hlb oW).trans y0;clear hB hU;go_step;exact hK _ rfl
  ·
   refine oKv hA (h:=?_);intro n D γ w hB hU K hK;try dsimp only at hB
   try dsimp only
   have cM:=fun i=>(M.kpN hB.1).cell i;have x0:=(hB.1.cell _ _ hlb oW).trans x0;have y0:=(hB.1.cell _ _ hlb oW).trans y0;clear hB hU;go_step;exact hK _ rfl
  ·
   refine oKv hA (h:=?_);intro n D γ w hB hU K hK;try dsimp only at hB
   try dsimp only
   have cM:=fun i=>(M.kpN hB.1).cell i;have x0:=(hB.1.cell _ _ hlb oW).trans x0;have y0:=(hB.1.cell _ _ hlb oW).trans y0;clear hB hU;go_step;exact hK _ rfl
  ·
   refine opOk_l hA (fun _=>rfl) ?_;intro n D γ w hn hD hB hU K hK;try dsimp only at hB
   clear hU;replace hn:n<20:=hn;try dsimp only
   have K9:=hB.1;go_step;refine mK (cr _ (WA.kpN K9).free) fun w5 k5=>?_;refine hK _ _ γ rfl ⟨hB.1.thenN k5 (Nat.le_refl _),(hB.2).kpN k5⟩ trivial ?_;exact dA
  ·
   refine opOk_l hA (fun _=>rfl) ?_;intro n D γ w hn hD hB hU K hK;try dsimp only at hB
   clear hU;replace hn:n<20:=hn;try dsimp only
   go_step;obtain⟨w5,hw5⟩:∃ w5,w5=w.alloc (.cells #[(0:Int),(0:Int)] 45):=⟨_,rfl⟩;have k5:Kp w.heap.size none w w5:=hw5 ▸ Kp.new1 _ _;have hBn:Blk w5 w.heap.size 45 #[(0:Int),(0:Int)]:=hw5 ▸ Blk.new _ _ _;rw[← hw5];refine hK _ _ { γ with n1:=w.heap.size,c1:=true,s1:=false } rfl ⟨hB.1.thenN k5 (Nat.le_refl _),fun _=>⟨hBn,hB.1.size⟩⟩ rfl ?_;exact dA
  ·
   refine opOk_l hA (fun _=>rfl) ?_;intro n D γ w hn hD hB hU K hK;try dsimp only at hB
   replace hU:(γ.c1=true):=hU.2.2.2.2.2.2.2.2.2.2.2.2.2.2.2.2.1;replace hn:n<20:=hn;try dsimp only
   obtain⟨O9,g9⟩:=hB.2 hU;have cO:=O9.cell;have fO:=O9.frozen;go_step;obtain⟨w5,hw5,R9,kst,hzst⟩:=O9.st2 (.int .i64 p.x) (.int .i64 p.y);rw[← hw5];simp only[sbt,sc0,scs] at R9;refine hK _ _ { γ with s1:=true } rfl ⟨hB.1.thenOwn kst (Nat.le_refl _) g9,fun _=>⟨R9,g9⟩⟩ rfl ?_;exact dA
 case hend8_1=>
  intro n D γ w hn hD hB hF;replace hF:=fun k (hk:k<20)=>hF k hk;replace hF:=(⟨hF 17 (by decide),hF 18 (by decide)⟩:_∧_);try dsimp only at hB
  try dsimp only at hF
  replace hn:n≤20:=hn;try dsimp only
  obtain⟨np,n2_9,c1_9,c2_9,s1_9,s2_9⟩:=γ;dsimp only at hB hF ⊢;obtain⟨rfl,rfl⟩:=hF;obtain⟨K9,f1_9⟩:=hB;obtain⟨P,gP⟩:=f1_9 rfl;simp only[reduceIte] at P;clear f1_9;clear hD hn;have gM:=M.lt;replace M:=M.kpN K9;replace G:=G.kpN K9;replace X:=X.kpN K9;replace WA:=WA.kpN K9;replace HR:=HR.kpN K9;replace rdl:=rdl.kpN K9;replace K:=K.tN K9;have KF:=K9;clear K9;rename World=>w6;go_wp2_with fail
  have hjj:(i:Int)+1<(l.length:Int):=by have:=hj.out;omega
  rw[hj.out] at x1 y1;rw[hT1.out] at cr2;have gMP:mb<np:=by omega
  clear x0 y0 cr;have x1:=(KF.cell _ _ hlb (by simp)).trans x1;have y1:=(KF.cell _ _ hlb (by simp)).trans y1;have hlb:=Nat.lt_of_lt_of_le hlb KF.size;clear KF;refine wp_region_inv (Γ:=GF) [none,none,none,none,none,none,none,none,none,none,none,none,none,none,none,none,some 20,some 22,none,none,none,none,none,none,none,none,none,none,none,none,none,none,none,none,none,none,none,none,none,none,none,none,none,none,none,none,none,none,none,none,none,none,none,none,none,none,none,none,none,none,none,none,none,none,none,none,none,none,none,none,none,none,none,none,none,none,none,none,none,none,none,none,none,none,none,none,none,none,none,none,none,none,none,none,none,none,none,none,none,none,none,none,some 17,some 0,some 1,some 2,some 3,some 4,some 5,some 6,some 7,some 8,some 9,some 10,some 11,some 12,some 13,some 14,some 15,some 16,some 18,some 19] [[],[],[1],[],[],[4],[3,4,5],[3,4,5,6],[3,4,5,6,7],[],[],[10],[9,10,11],[9,10,11,12],[9,10,11,12,13],[3,4,5,6,7,8,9,10,11,12,13,14],[0,1,2,3,4,5,6,7,8,9,10,11,12,13,14,15],[0,1,2,3,4,5,6,7,8,9,10,11,12,13,14,15,16],[0,1,2,3,4,5,6,7,8,9,10,11,12,13,14,15,16,17],[0,1,2,3,4,5,6,7,8,9,10,11,12,13,14,15,16,17],[],[0,1,2,3,4,5,6,7,8,9,10,11,12,13,14,15,16,17,18,20],[0,1,2,3,4,5,6,7,8,9,10,11,12,13,14,15,16,17,18,19,20,21]] [[1,2,3,4,5,6,7,8,9,10,11,12,13,14,15,20],[0,3,4,5,6,7,8,9,10,11,12,13,14,15,20],[0,1,3,4,5,6,7,8,9,10,11,12,13,14,15,20],[0,1,2,4,5,9,10,11,12,13,14,20],[0,1,2,3,9,10,11,12,13,14,20],[0,1,2,3,4,9,10,11,12,13,14,20],[0,1,2,3,4,5,9,10,11,12,13,14,20],[0,1,2,3,4,5,6,9,10,11,12,13,14,20],[0,1,2,3,4,5,6,7,9,10,11,12,13,14,20],[0,1,2,3,4,5,6,7,8,10,11,20],[0,1,2,3,4,5,6,7,8,9,20],[0,1,2,3,4,5,6,7,8,9,10,20],[0,1,2,3,4,5,6,7,8,9,10,11,20],[0,1,2,3,4,5,6,7,8,9,10,11,12,20],[0,1,2,3,4,5,6,7,8,9,10,11,12,13,20],[0,1,2,3,4,5,6,7,8,9,10,11,12,13,14,20],[0,1,2,3,4,5,6,7,8,9,10,11,12,13,14,15,20],[0,1,2,3,4,5,6,7,8,9,10,11,12,13,14,15,16,20],[0,1,2,3,4,5,6,7,8,9,10,11,12,13,14,15,16,17,19,20],[0,1,2,3,4,5,6,7,8,9,10,11,12,13,14,15,16,17,18,20,21],[0,1,2,3,4,5,6,7,8,9,10,11,12,13,14,15,16,17,18,19],[0,1,2,3,4,5,6,7,8,9,10,11,12,13,14,15,16,17,18,19,20],[0,1,2,3,4,5,6,7,8,9,10,11,12,13,14,15,16,17,18,19,20,21]] (fun γ=>[.agg #[.slice (some ⟨bb,o,none⟩) W.bs.length c,W.home],.int .i64 T,.int .i64 (T+1),.slice (some ⟨lb,lo,none⟩) l.length cl,.int .i64 i,.int .i64 ((i:Int)+1),.pointer (some ⟨lb,lo+(i+1) * 4,none⟩),.pointer (some ⟨lb,lo+(i+1) * 4,none⟩),.int .i64 m.x,.slice (some ⟨lb,lo,none⟩) l.length cl,.int .i64 i,.int .i64 ((i:Int)+1),.pointer (some ⟨lb,lo+(i+1) * 4,none⟩),.pointer (some ⟨lb,lo+(i+1) * 4+1,none⟩),.int .i64 m.y,.agg #[m.x,m.y],.tuple #[.agg #[q.x,q.y],.bool true],.tuple #[.agg #[q.x,q.y],.bool true],.agg #[q.x,q.y],.bool true,.pointer (some ⟨γ.n1,0,none⟩),undef,.bool true]) (fun γ=>[none,none,none,none,none,none,none,none,none,none,none,none,none,none,none,none,some (.pointer (some ⟨γ.n1,0,none⟩)),some (.bool true),none,none,none,none,none,none,none,none,none,none,none,none,none,none,none,none,none,none,none,none,none,none,none,none,none,none,none,none,none,none,none,none,none,none,none,none,none,none,none,none,none,none,none,none,none,none,none,none,none,none,none,none,none,none,none,none,none,none,none,none,none,none,none,none,none,none,none,none,none,none,none,none,none,none,none,none,none,none,none,none,none,none,none,none,some (.tuple #[.agg #[q.x,q.y],.bool true]),some (.agg #[.slice (some ⟨bb,o,none⟩) W.bs.length c,W.home]),some (.int .i64 T),some (.int .i64 (T+1)),some (.slice (some ⟨lb,lo,none⟩) l.length cl),some (.int .i64 i),some (.int .i64 ((i:Int)+1)),some (.pointer (some ⟨lb,lo+(i+1) * 4,none⟩)),some (.pointer (some ⟨lb,lo+(i+1) * 4,none⟩)),some (.int .i64 m.x),some (.slice (some ⟨lb,lo,none⟩) l.length cl),some (.int .i64 i),some (.int .i64 ((i:Int)+1)),some (.pointer (some ⟨lb,lo+(i+1) * 4,none⟩)),some (.pointer (some ⟨lb,lo+(i+1) * 4+1,none⟩)),some (.int .i64 m.y),some (.agg #[m.x,m.y]),some (.tuple #[.agg #[q.x,q.y],.bool true]),some (.agg #[q.x,q.y]),some (.bool true)]) ?A9_2 (fun n D γ w=>Kp w6.heap.size none w6 w∧FreeB 45 γ.n1 γ.c1 w6.heap.size (#[(if γ.s1=true then .int .i64 q.x else .int .i64 0),(if γ.s1=true then .int .i64 q.y else .int .i64 0)]) w) (fun k γ w=>match k with|20=>γ.c1=true|21=>γ.s1=true|_=>True) ⟨0,0,false,false,false,false⟩ (by kernel_rfl) (fun _=>rfl) ?hA9_2 (by kernel_rfl) ?hB09_2 ?hop9_2 ?hend9_2
  case hA9_2=>intro γ;dsimp only[fullV];rfl
  case hB09_2=>
   exact⟨(Kp.refl _ none _).drew,fun e=>(by cases e)⟩
  case hop9_2=>
   intro hA;refine⟨?_,oKv hA,oKv hA,oKv hA,oKv hA,oKv hA,oKv hA,oKv hA,?_,oKv hA,oKv hA,oKv hA,oKv hA,oKv hA,?_,oKv hA,?_,oKv hA,oKv hA,oKv hA,?_,?_,oKv hA,trivial⟩
   ·
    refine oKv hA (h:=?_);intro n D γ w hB hU K hK;try dsimp only at hB
    try dsimp only
    have cM:=fun i=>(M.kpN hB.1).cell i;have cP:=fun i=>(P.kpN hB.1).cell i;have x1:=(hB.1.cell _ _ hlb oW).trans x1;have y1:=(hB.1.cell _ _ hlb oW).trans y1;clear hB hU;go_step;exact hK _ rfl
   ·
    refine oKv hA (h:=?_);intro n D γ w hB hU K hK;try dsimp only at hB
    try dsimp only
    have cM:=fun i=>(M.kpN hB.1).cell i;have cP:=fun i=>(P.kpN hB.1).cell i;have x1:=(hB.1.cell _ _ hlb oW).trans x1;have y1:=(hB.1.cell _ _ hlb oW).trans y1;clear hB hU;go_step;exact hK _ rfl
   ·
    refine oKv hA (h:=?_);intro n D γ w hB hU K hK;try dsimp only at hB
    try dsimp only
    have cM:=fun i=>(M.kpN hB.1).cell i;have cP:=fun i=>(P.kpN hB.1).cell i;have x1:=(hB.1.cell _ _ hlb oW).trans x1;have y1:=(hB.1.cell _ _ hlb oW).trans y1;clear hB hU;go_step;exact hK _ rfl
   ·
    refine opOk_l hA (fun _=>rfl) ?_;intro n D γ w hn hD hB hU K hK;try dsimp only at hB
    clear hU;replace hn:n<23:=hn;try dsimp only
    have K9:=hB.1;go_step;refine mK (cr2 _ (WA.kpN K9).free) fun w5 k5=>?_;refine hK _ _ γ rfl ⟨hB.1.thenN k5 (Nat.le_refl _),(hB.2).kpN k5⟩ trivial ?_;exact dA
   ·
    refine opOk_l hA (fun _=>rfl) ?_;intro n D γ w hn hD hB hU K hK;try dsimp only at hB
    clear hU;replace hn:n<23:=hn;try dsimp only
    go_step;obtain⟨w5,hw5⟩:∃ w5,w5=w.alloc (.cells #[(0:Int),(0:Int)] 45):=⟨_,rfl⟩;have k5:Kp w.heap.size none w w5:=hw5 ▸ Kp.new1 _ _;have hBn:Blk w5 w.heap.size 45 #[(0:Int),(0:Int)]:=hw5 ▸ Blk.new _ _ _;rw[← hw5];refine hK _ _ { γ with n1:=w.heap.size,c1:=true,s1:=false } rfl ⟨hB.1.thenN k5 (Nat.le_refl _),fun _=>⟨hBn,hB.1.size⟩⟩ rfl ?_;exact dA
   ·
    refine opOk_l hA (fun _=>rfl) ?_;intro n D γ w hn hD hB hU K hK;try dsimp only at hB
    replace hU:(γ.c1=true):=hU.2.2.2.2.2.2.2.2.2.2.2.2.2.2.2.2.2.2.2.1;replace hn:n<23:=hn;try dsimp only
    obtain⟨O9,g9⟩:=hB.2 hU;have cO:=O9.cell;have fO:=O9.frozen;go_step;obtain⟨w5,hw5,R9,kst,hzst⟩:=O9.st2 (.int .i64 q.x) (.int .i64 q.y);rw[← hw5];simp only[sbt,sc0,scs] at R9;refine hK _ _ { γ with s1:=true } rfl ⟨hB.1.thenOwn kst (Nat.le_refl _) g9,fun _=>⟨R9,g9⟩⟩ rfl ?_;exact dA
  case hend9_2=>
   intro n D γ w hn hD hB hF;replace hF:=fun k (hk:k<23)=>hF k hk;replace hF:=(⟨hF 20 (by decide),hF 21 (by decide)⟩:_∧_);try dsimp only at hB
   try dsimp only at hF
   replace hn:n≤23:=hn;try dsimp only
   obtain⟨nq,n2_9,c1_9,c2_9,s1_9,s2_9⟩:=γ;dsimp only at hB hF ⊢;obtain⟨rfl,rfl⟩:=hF;obtain⟨K9,f1_9⟩:=hB;obtain⟨Q,gQ⟩:=f1_9 rfl;simp only[reduceIte] at Q;clear f1_9;clear hD hn;have gM:=M.lt;have gP:=P.lt;replace M:=M.kpN K9;replace P:=P.kpN K9;replace G:=G.kpN K9;replace X:=X.kpN K9;replace WA:=WA.kpN K9;replace HR:=HR.kpN K9;replace rdl:=rdl.kpN K9;replace K:=K.tN K9;have KF:=K9;clear K9;rename World=>w7;clear x1 y1 cr2;go_wp2_with fail
   clear rdl hlb;refine wp_region_inv (Γ:=GF) [none,none,none,none,none,none,none,none,none,none,none,none,none,none,none,none,none,none,some 8,some 10,none,none,none,none,none,none,none,none,none,none,none,none,none,none,none,none,none,none,none,none,none,none,none,none,none,none,none,none,none,none,none,none,none,none,none,none,none,none,none,none,none,none,none,none,none,none,none,none,none,none,none,none,none,none,none,none,none,none,none,none,none,none,none,none,none,none,none,none,none,none,none,none,none,none,none,none,none,none,none,none,none,none,none,none,none,none,none,none,none,none,none,none,none,none,none,none,none,none,none,none,none,none,some 5,some 0,some 1,some 2,some 3,some 4,some 6,some 7] [[],[0],[],[0,1,2],[0,1,2,3],[0,1,2,3,4],[0,1,2,3,4,5],[0,1,2,3,4,5],[],[0,1,2,3,4,5,6,8],[0,1,2,3,4,5,6,7,8,9]] [[2,8],[0,2,8],[0,1,8],[0,1,2,8],[0,1,2,3,8],[0,1,2,3,4,8],[0,1,2,3,4,5,7,8],[0,1,2,3,4,5,6,8,9],[0,1,2,3,4,5,6,7],[0,1,2,3,4,5,6,7,8],[0,1,2,3,4,5,6,7,8,9]] (fun γ=>[.agg #[p.x,p.y],.agg #[(soleA p).x.lo,(soleA p).x.hi,(soleA p).y.lo,(soleA p).y.hi],.agg #[q.x,q.y],.agg #[(soleA q).x.lo,(soleA q).x.hi,(soleA q).y.lo,(soleA q).y.hi],.tuple #[am,.bool hs],.tuple #[am,.bool hs],.agg am,.bool hs,.pointer (some ⟨γ.n1,0,none⟩),undef,.bool hs]) (fun γ=>[none,none,none,none,none,none,none,none,none,none,none,none,none,none,none,none,none,none,some (.pointer (some ⟨γ.n1,0,none⟩)),some (.bool hs),none,none,none,none,none,none,none,none,none,none,none,none,none,none,none,none,none,none,none,none,none,none,none,none,none,none,none,none,none,none,none,none,none,none,none,none,none,none,none,none,none,none,none,none,none,none,none,none,none,none,none,none,none,none,none,none,none,none,none,none,none,none,none,none,none,none,none,none,none,none,none,none,none,none,none,none,none,none,none,none,none,none,none,none,none,none,none,none,none,none,none,none,none,none,none,none,none,none,none,none,none,none,some (.tuple #[am,.bool hs]),some (.agg #[p.x,p.y]),some (.agg #[(soleA p).x.lo,(soleA p).x.hi,(soleA p).y.lo,(soleA p).y.hi]),some (.agg #[q.x,q.y]),some (.agg #[(soleA q).x.lo,(soleA q).x.hi,(soleA q).y.lo,(soleA q).y.hi]),some (.tuple #[am,.bool hs]),some (.agg am),some (.bool hs)]) ?A10_3 (fun n D γ w=>Kp w7.heap.size none w7 w∧FreeB 29 γ.n1 γ.c1 w7.heap.size (#[(if γ.s1=true then .int .i64 am.lo else .int .i64 0),(if γ.s1=true then .int .i64 am.hi else .int .i64 0)]) w) (fun k γ w=>match k with|8=>γ.c1=true|9=>γ.s1=true|_=>True) ⟨0,0,false,false,false,false⟩ (by kernel_rfl) (fun _=>rfl) ?hA10_3 (by kernel_rfl) ?hB010_3 ?hop10_3 ?hend10_3
   case hA10_3=>intro γ;dsimp only[fullV];rfl
   case hB010_3=>
    exact⟨(Kp.refl _ none _).drew,fun e=>(by cases e)⟩
   case hop10_3=>
    intro hA;refine⟨?_,?_,?_,?_,?_,oKv hA,oKv hA,oKv hA,?_,?_,oKv hA,trivial⟩
    ·
     refine oKv hA (h:=?_);intro n D γ w hB hU K hK;try dsimp only at hB
     try dsimp only
     have cP:=fun i=>(P.kpN hB.1).cell i;have cQ:=fun i=>(Q.kpN hB.1).cell i;clear hB hU;go_step;exact hK _ rfl
    ·
     refine opOk_l hA (fun _=>rfl) ?_;intro n D γ w hn hD hB hU K hK;try dsimp only at hB
     clear hU;replace hn:n<11:=hn;try dsimp only
     have K9:=hB.1;go_step;refine mK (cs1 _) fun w5 k5=>?_;refine hK _ _ γ rfl ⟨hB.1.thenN k5 (Nat.le_refl _),(hB.2).kpN k5⟩ trivial ?_;exact dA
    ·
     refine oKv hA (h:=?_);intro n D γ w hB hU K hK;try dsimp only at hB
     try dsimp only
     have cP:=fun i=>(P.kpN hB.1).cell i;have cQ:=fun i=>(Q.kpN hB.1).cell i;clear hB hU;go_step;exact hK _ rfl
    ·
     refine opOk_l hA (fun _=>rfl) ?_;intro n D γ w hn hD hB hU K hK;try dsimp only at hB
     clear hU;replace hn:n<11:=hn;try dsimp only
     have K9:=hB.1;go_step;refine mK (cs2 _) fun w5 k5=>?_;refine hK _ _ γ rfl ⟨hB.1.thenN k5 (Nat.le_refl _),(hB.2).kpN k5⟩ trivial ?_;exact dA
    ·
     refine opOk_l hA (fun _=>rfl) ?_;intro n D γ w hn hD hB hU K hK;try dsimp only at hB
     clear hU;replace hn:n<11:=hn;try dsimp only
     have K9:=hB.1;go_step;refine mK (hcw _) fun w5 k5=>?_;refine hK _ _ γ rfl ⟨hB.1.thenN k5 (Nat.le_refl _),(hB.2).kpN k5⟩ trivial ?_;exact dA
    ·
     refine opOk_l hA (fun _=>rfl) ?_;intro n D γ w hn hD hB hU K hK;try dsimp only at hB
     clear hU;replace hn:n<11:=hn;try dsimp only
     go_step;obtain⟨w5,hw5⟩:∃ w5,w5=w.alloc (.cells #[(0:Int),(0:Int)] 29):=⟨_,rfl⟩;have k5:Kp w.heap.size none w w5:=hw5 ▸ Kp.new1 _ _;have hBn:Blk w5 w.heap.size 29 #[(0:Int),(0:Int)]:=hw5 ▸ Blk.new _ _ _;rw[← hw5];refine hK _ _ { γ with n1:=w.heap.size,c1:=true,s1:=false } rfl ⟨hB.1.thenN k5 (Nat.le_refl _),fun _=>⟨hBn,hB.1.size⟩⟩ rfl ?_;exact dA
    ·
     refine opOk_l hA (fun _=>rfl) ?_;intro n D γ w hn hD hB hU K hK;try dsimp only at hB
     replace hU:(γ.c1=true):=hU.2.2.2.2.2.2.2.1;replace hn:n<11:=hn;try dsimp only
     obtain⟨O9,g9⟩:=hB.2 hU;have cO:=O9.cell;have fO:=O9.frozen;go_step;obtain⟨w5,hw5,R9,kst,hzst⟩:=O9.st2 (.int .i64 am.lo) (.int .i64 am.hi);rw[← hw5];simp only[sbt,sc0,scs] at R9;refine hK _ _ { γ with s1:=true } rfl ⟨hB.1.thenOwn kst (Nat.le_refl _) g9,fun _=>⟨R9,g9⟩⟩ rfl ?_;exact dA
   case hend10_3=>
    intro n D γ w hn hD hB hF;replace hF:=fun k (hk:k<11)=>hF k hk;replace hF:=(⟨hF 8 (by decide),hF 9 (by decide)⟩:_∧_);try dsimp only at hB
    try dsimp only at hF
    replace hn:n≤11:=hn;try dsimp only
    obtain⟨nz,n2_9,c1_9,c2_9,s1_9,s2_9⟩:=γ;dsimp only at hB hF ⊢;obtain⟨rfl,rfl⟩:=hF;obtain⟨K9,f1_9⟩:=hB;obtain⟨Z,gZ⟩:=f1_9 rfl;simp only[reduceIte] at Z;clear f1_9;clear hD hn;have gP:=P.lt;have gQ:=Q.lt;replace P:=P.kpN K9;replace Q:=Q.kpN K9;replace M:=M.kpN K9;replace G:=G.kpN K9;replace X:=X.kpN K9;replace WA:=WA.kpN K9;replace HR:=HR.kpN K9;replace K:=K.tN K9;skip
    clear K9;rename World=>w8;have hgnz:g<nz:=by omega
    clear P Q cs1 cs2 hcw gP gQ gMP;have hp1:=fun w w' e hh=>prop_one (w:=w) (w':=w') (e:=e) hW hd hT hb0 hb hil0.out hh;have hp2:=fun w w' e hh=>prop_one (w:=w) (w':=w') (e:=e) (n:=i+1) hW hd hT hb0 hb hil.out hh;have cp1:=fun sb w h hs=>orbit_Propagate_any (some ⟨bb,o,none⟩) c W d t (some ⟨sb,0,none⟩) 1 [b] i w hW h hd oM hs (by simp) (by simpa using hb) oM;have cp2:=fun sb w h hs=>orbit_Propagate_any (some ⟨bb,o,none⟩) c W d t (some ⟨sb,0,none⟩) 1 [b] (i+1) w hW h hd oM hs (by simp) (by simpa using hb) oM;replace hT:=Lib.hid hT;replace hb0:=Lib.hid hb0;have HR9:=HR.alloc (.cells b 33);have WA9:=WA.kpN (Kp.new1 w8 (.cells b 33));clear HR WA;have pM:=M.cell;have pG:=G.cell;have pX:=X.cell;have pZ:=Z.cell;obtain⟨w9_,rfl,SB,k9_,hzn⟩:=box1 w8 33 b;replace M:=M.kpN k9_;replace G:=G.kpN k9_;replace X:=X.kpN k9_;replace Z:=Z.kpN k9_;replace K:=K.thenN k9_ oU;clear k9_;have cM:=M.cell;have fM:=M.frozen;have cG:=G.cell;have fG:=G.frozen;have cX:=X.cell;have fX:=X.frozen;have cZ:=Z.cell;have fZ:=Z.frozen;go_wp2_with fail
    clear cM fM pM cG fG pG cX fX pX cZ fZ pZ;generalize (w8.alloc (.cells b 33))=w9 at *;obtain⟨sb,hx⟩:∃ q9,q9=w8.heap.size:=⟨_,rfl⟩;rw[← hx] at SB ⊢;replace hx:=Lib.hid hx;refine(cp1 sb _ WA9.free (rd_bx1 SB)).mono ?_;rintro e wa hpp;obtain⟨⟨A1,n1,c1,e1,rfl,q1⟩,k⟩:=hp1 _ _ _ hpp;have HR:=HR9.kpN k;have WA:=WA9.kpN k;replace M:=M.kpN k;replace G:=G.kpN k;replace X:=X.kpN k;replace Z:=Z.kpN k;replace K:=K.tN k;clear k hpp HR9 WA9 SB hx hzn cp1 hp1;have HR9:=HR.alloc (.cells b 33);have WA9:=WA.kpN (Kp.new1 wa (.cells b 33));have q9:=fun h=>(q1 h).imp_right fun ⟨x,a1,a2,a3⟩=>(⟨x,a1,a2,a3.kpN (Kp.new1 wa (.cells b 33))⟩:∃ x:Bx,x.has (nth l i)∧okBx x=true∧Rd none _ 8 encBx A1 1 [x]);clear HR WA q1;have pM:=M.cell;have pG:=G.cell;have pX:=X.cell;have pZ:=Z.cell;obtain⟨w9_,rfl,SB,k9_,hzn⟩:=box1 wa 33 b;replace M:=M.kpN k9_;replace G:=G.kpN k9_;replace X:=X.kpN k9_;replace Z:=Z.kpN k9_;replace K:=K.thenN k9_ oU;clear k9_;have cM:=M.cell;have fM:=M.frozen;have cG:=G.cell;have fG:=G.frozen;have cX:=X.cell;have fX:=X.frozen;have cZ:=Z.cell;have fZ:=Z.frozen;go_wp2_with fail
    clear cM fM pM cG fG pG cX fX pX cZ fZ pZ;generalize (wa.alloc (.cells b 33))=wb at *;obtain⟨sb2,hx⟩:∃ q9,q9=wa.heap.size:=⟨_,rfl⟩;rw[← hx] at SB ⊢;replace hx:=Lib.hid hx;refine(cp2 sb2 _ WA9.free (rd_bx1 SB)).mono ?_;rintro e wc hpp;obtain⟨⟨A2,n2,c2,e2,rfl,q2⟩,k⟩:=hp2 _ _ _ hpp;have HR:=HR9.kpN k;have WA:=WA9.kpN k;replace M:=M.kpN k;replace G:=G.kpN k;replace X:=X.kpN k;replace Z:=Z.kpN k;replace K:=K.tN k;have q1:=fun h=>(q9 h).imp_right fun ⟨x,a1,a2,a3⟩=>(⟨x,a1,a2,a3.kpN k⟩:∃ x:Bx,x.has (nth l i)∧okBx x=true∧Rd none _ 8 encBx A1 1 [x]);clear k hpp HR9 WA9 SB hx hzn cp2 hp2 q9 G X;by_cases z1:e1=0
    ·
     obtain⟨rfl,x1,hx1,ox1,rd1⟩:=q1 z1;subst z1;clear q1;by_cases z2:e2=0
     ·
      obtain⟨rfl,x2,hx2,ox2,rd2⟩:=q2 z2;subst z2;clear q2;cases hs with
      | true=>
       have hca':=hca.out rfl;have hcl:=not_clear hx1 (show x2.has (nth l (i+1)) from hx2) (W:=W) (t:=T) (by have:=hit.out;rwa [hj.out] at this);replace hcl:=Lib.hid hcl;replace hca':=Lib.hid hca';clear hca;have cM:=M.cell;go_wp2_with fail
       clear cM;obtain⟨b1,o1,rfl,hl1,a0,a1,a2,a3,a4,a5,a6,a7⟩:=Rd.bx (l:=[x1]) rd1 (i:=0) (by simp);obtain⟨b2,o2,rfl,hl2,d0,d1,d2,d3,d4,d5,d6,d7⟩:=Rd.bx (l:=[x2]) rd2 (i:=0) (by simp);simp only[List.getElem_cons_zero,Nat.zero_mul,Nat.add_zero] at a0 a1 a2 a3 a4 a5 a6 a7 d0 d1 d2 d3 d4 d5 d6 d7;clear rd1 rd2;have ca:=fun w h=>meet_Areas_any (some ⟨bb,o,none⟩) c W T x1 x2 w hW h oM ox1 ox2;have cm:=fun w h=>meet_May_any (some ⟨bb,o,none⟩) c W T W.rad x1 x2 w hW h oM ox1 ox2 (by have:=hW.rad_bd;omega);have hcm:=hcl.out;unfold clearW at hcm;rw[hcm] at cm;have ub:=relA_bd (t:=T) hW ox1;have vb:=relA_bd (t:=T+1) hW ox2;have hain:=fun h0=>aim_in (W:=W) (t:=T) (s:=nth l i) (m:=nth l (i+1)) hx1 hx2 h0;rw[es.out,show nth l (i+1)=m from by have:=em.out;rwa [hj.out] at this,← hp.out,← show q=relP W (T+1) m from by rw[← hT1.out];exact hq.out] at hain;clear hcm hcl;obtain⟨u,hu⟩:∃ u,Hid (u=relA W T x1):=⟨_,Lib.hid rfl⟩;obtain⟨v,hv⟩:∃ v,Hid (v=relA W (T+1) x2):=⟨_,Lib.hid rfl⟩;rw[← hu.out] at ca ub hain;rw[← hv.out] at ca vb hain;replace ub:=Lib.hid ub;replace vb:=Lib.hid vb;refine wp_region_inv (Γ:=GF) [none,none,none,none,none,none,none,none,none,none,none,none,none,none,none,none,none,none,none,none,none,none,none,none,some 13,some 14,some 17,none,none,none,none,none,none,none,none,none,none,none,none,none,none,none,none,none,none,none,none,none,none,none,none,none,none,none,none,none,none,none,none,none,none,none,none,none,none,none,none,none,none,none,none,none,none,none,none,none,none,none,none,none,none,none,none,none,none,none,none,none,none,none,none,none,none,none,none,none,none,none,none,none,none,none,none,none,none,none,none,none,none,none,none,none,none,none,none,none,none,none,none,none,none,none,none,none,none,none,none,none,none,none,none,none,none,none,none,none,none,none,none,none,none,none,none,none,none,none,none,none,none,none,none,none,none,none,none,none,none,none,none,none,none,none,none,none,none,none,none,none,none,none,none,none,some 9,some 0,some 1,some 2,some 3,some 4,some 5,some 6,some 7,some 8,some 10,some 11,some 12] [[],[],[],[2],[2,3],[],[5],[5,6],[0,1,2,3,4,5,6,7],[0,1,2,3,4,5,6,7,8],[0,1,2,3,4,5,6,7,8,9],[0,1,2,3,4,5,6,7,8,9],[0,1,2,3,4,5,6,7,8,9],[],[],[0,1,2,3,4,5,6,7,8,9,10,13,14],[0,1,2,3,4,5,6,7,8,9,10,11,13,14,15],[0,1,2,3,4,5,6,7,8,9,10,11,12,13,14,15,16]] [[1,2,3,4,5,6,7,13,14],[0,2,3,4,5,6,7,13,14],[0,1,5,6,7,13,14],[0,1,2,5,6,7,13,14],[0,1,2,3,5,6,7,13,14],[0,1,2,3,4,13,14],[0,1,2,3,4,5,13,14],[0,1,2,3,4,5,6,13,14],[0,1,2,3,4,5,6,7,13,14],[0,1,2,3,4,5,6,7,8,13,14],[0,1,2,3,4,5,6,7,8,9,11,12,13,14],[0,1,2,3,4,5,6,7,8,9,10,12,13,14,15],[0,1,2,3,4,5,6,7,8,9,10,11,13,14,15,16],[0,1,2,3,4,5,6,7,8,9,10,11,12,14],[0,1,2,3,4,5,6,7,8,9,10,11,12,13],[0,1,2,3,4,5,6,7,8,9,10,11,12,13,14],[0,1,2,3,4,5,6,7,8,9,10,11,12,13,14,15],[0,1,2,3,4,5,6,7,8,9,10,11,12,13,14,15,16]] (fun γ=>[.agg #[.slice (some ⟨bb,o,none⟩) W.bs.length c,W.home],.int .i64 T,.slice (some ⟨b1,o1,none⟩) 1 c1,.pointer (some ⟨b1,o1,none⟩),.agg x1,.slice (some ⟨b2,o2,none⟩) 1 c2,.pointer (some ⟨b2,o2,none⟩),.agg x2,.tuple #[.agg #[u.x.lo,u.x.hi,u.y.lo,u.y.hi],.agg #[v.x.lo,v.x.hi,v.y.lo,v.y.hi],.bool true],.tuple #[.agg #[u.x.lo,u.x.hi,u.y.lo,u.y.hi],.agg #[v.x.lo,v.x.hi,v.y.lo,v.y.hi],.bool true],.agg #[u.x.lo,u.x.hi,u.y.lo,u.y.hi],.agg #[v.x.lo,v.x.hi,v.y.lo,v.y.hi],.bool true,.pointer (some ⟨γ.n1,0,none⟩),.pointer (some ⟨γ.n2,0,none⟩),undef,undef,.bool true]) (fun γ=>[none,none,none,none,none,none,none,none,none,none,none,none,none,none,none,none,none,none,none,none,none,none,none,none,some (.pointer (some ⟨γ.n1,0,none⟩)),some (.pointer (some ⟨γ.n2,0,none⟩)),some (.bool true),none,none,none,none,none,none,none,none,none,none,none,none,none,none,none,none,none,none,none,none,none,none,none,none,none,none,none,none,none,none,none,none,none,none,none,none,none,none,none,none,none,none,none,none,none,none,none,none,none,none,none,none,none,none,none,none,none,none,none,none,none,none,none,none,none,none,none,none,none,none,none,none,none,none,none,none,none,none,none,none,none,none,none,none,none,none,none,none,none,none,none,none,none,none,none,none,none,none,none,none,none,none,none,none,none,none,none,none,none,none,none,none,none,none,none,none,none,none,none,none,none,none,none,none,none,none,none,none,none,none,none,none,none,none,none,none,none,none,none,none,none,none,none,none,none,some (.tuple #[.agg #[u.x.lo,u.x.hi,u.y.lo,u.y.hi],.agg #[v.x.lo,v.x.hi,v.y.lo,v.y.hi],.bool true]),some (.agg #[.slice (some ⟨bb,o,none⟩) W.bs.length c,W.home]),some (.int .i64 T),some (.slice (some ⟨b1,o1,none⟩) 1 c1),some (.pointer (some ⟨b1,o1,none⟩)),some (.agg x1),some (.slice (some ⟨b2,o2,none⟩) 1 c2),some (.pointer (some ⟨b2,o2,none⟩)),some (.agg x2),some (.tuple #[.agg #[u.x.lo,u.x.hi,u.y.lo,u.y.hi],.agg #[v.x.lo,v.x.hi,v.y.lo,v.y.hi],.bool true]),some (.agg #[u.x.lo,u.x.hi,u.y.lo,u.y.hi]),some (.agg #[v.x.lo,v.x.hi,v.y.lo,v.y.hi]),some (.bool true)]) ?A15_4 (fun n D γ w=>Kp wc.heap.size none wc w∧FreeB 53 γ.n1 γ.c1 wc.heap.size (#[(if γ.s1=true then .int .i64 u.x.lo else .int .i64 0),(if γ.s1=true then .int .i64 u.x.hi else .int .i64 0),(if γ.s1=true then .int .i64 u.y.lo else .int .i64 0),(if γ.s1=true then .int .i64 u.y.hi else .int .i64 0)]) w∧FreeB 53 γ.n2 γ.c2 wc.heap.size (#[(if γ.s2=true then .int .i64 v.x.lo else .int .i64 0),(if γ.s2=true then .int .i64 v.x.hi else .int .i64 0),(if γ.s2=true then .int .i64 v.y.lo else .int .i64 0),(if γ.s2=true then .int .i64 v.y.hi else .int .i64 0)]) w∧(γ.c1=true→γ.c2=true→γ.n1≠γ.n2)) (fun k γ w=>match k with|13=>γ.c1=true|14=>γ.c2=true|15=>γ.s1=true|16=>γ.s2=true|_=>True) ⟨0,0,false,false,false,false⟩ (by kernel_rfl) (fun _=>rfl) ?hA15_4 (by kernel_rfl) ?hB015_4 ?hop15_4 ?hend15_4
       case hA15_4=>intro γ;dsimp only[fullV];rfl
       case hB015_4=>
        exact⟨(Kp.refl _ none _).drew,fun e=>(by cases e),fun e=>(by cases e),fun e _=>(by cases e)⟩
       case hop15_4=>
        intro hA;refine⟨?_,oKv hA,oKv hA,oKv hA,?_,oKv hA,oKv hA,?_,?_,oKv hA,oKv hA,oKv hA,oKv hA,?_,?_,?_,?_,oKv hA,trivial⟩
        ·
         refine oKv hA (h:=?_);intro n D γ w hB hU K hK;try dsimp only at hB
         try dsimp only
         have cM:=fun i=>(M.kpN hB.1).cell i;have a0:=(hB.1.cell _ _ hl1 oW).trans a0;have d0:=(hB.1.cell _ _ hl2 oW).trans d0;have a1:=(hB.1.cell _ _ hl1 oW).trans a1;have d1:=(hB.1.cell _ _ hl2 oW).trans d1;have a2:=(hB.1.cell _ _ hl1 oW).trans a2;have d2:=(hB.1.cell _ _ hl2 oW).trans d2;have a3:=(hB.1.cell _ _ hl1 oW).trans a3;have d3:=(hB.1.cell _ _ hl2 oW).trans d3;have a4:=(hB.1.cell _ _ hl1 oW).trans a4;have d4:=(hB.1.cell _ _ hl2 oW).trans d4;have a5:=(hB.1.cell _ _ hl1 oW).trans a5;have d5:=(hB.1.cell _ _ hl2 oW).trans d5;have a6:=(hB.1.cell _ _ hl1 oW).trans a6;have d6:=(hB.1.cell _ _ hl2 oW).trans d6;have a7:=(hB.1.cell _ _ hl1 oW).trans a7;have d7:=(hB.1.cell _ _ hl2 oW).trans d7;clear hB hU;go_step;exact hK _ rfl
        ·
         refine oKv hA (h:=?_);intro n D γ w hB hU K hK;try dsimp only at hB
         try dsimp only
         have cM:=fun i=>(M.kpN hB.1).cell i;have a0:=(hB.1.cell _ _ hl1 oW).trans a0;have d0:=(hB.1.cell _ _ hl2 oW).trans d0;have a1:=(hB.1.cell _ _ hl1 oW).trans a1;have d1:=(hB.1.cell _ _ hl2 oW).trans d1;have a2:=(hB.1.cell _ _ hl1 oW).trans a2;have d2:=(hB.1.cell _ _ hl2 oW).trans d2;have a3:=(hB.1.cell _ _ hl1 oW).trans a3;have d3:=(hB.1.cell _ _ hl2 oW).trans d3;have a4:=(hB.1.cell _ _ hl1 oW).trans a4;have d4:=(hB.1.cell _ _ hl2 oW).trans d4;have a5:=(hB.1.cell _ _ hl1 oW).trans a5;have d5:=(hB.1.cell _ _ hl2 oW).trans d5;have a6:=(hB.1.cell _ _ hl1 oW).trans a6;have d6:=(hB.1.cell _ _ hl2 oW).trans d6;have a7:=(hB.1.cell _ _ hl1 oW).trans a7;have d7:=(hB.1.cell _ _ hl2 oW).trans d7;clear hB hU;go_step;exact hK _ rfl
        ·
         refine oKv hA (h:=?_);intro n D γ w hB hU K hK;try dsimp only at hB
         try dsimp only
         have cM:=fun i=>(M.kpN hB.1).cell i;have a0:=(hB.1.cell _ _ hl1 oW).trans a0;have d0:=(hB.1.cell _ _ hl2 oW).trans d0;have a1:=(hB.1.cell _ _ hl1 oW).trans a1;have d1:=(hB.1.cell _ _ hl2 oW).trans d1;have a2:=(hB.1.cell _ _ hl1 oW).trans a2;have d2:=(hB.1.cell _ _ hl2 oW).trans d2;have a3:=(hB.1.cell _ _ hl1 oW).trans a3;have d3:=(hB.1.cell _ _ hl2 oW).trans d3;have a4:=(hB.1.cell _ _ hl1 oW).trans a4;have d4:=(hB.1.cell _ _ hl2 oW).trans d4;have a5:=(hB.1.cell _ _ hl1 oW).trans a5;have d5:=(hB.1.cell _ _ hl2 oW).trans d5;have a6:=(hB.1.cell _ _ hl1 oW).trans a6;have d6:=(hB.1.cell _ _ hl2 oW).trans d6;have a7:=(hB.1.cell _ _ hl1 oW).trans a7;have d7:=(hB.1.cell _ _ hl2 oW).trans d7;clear hB hU;go_step;exact hK _ rfl
        ·
         refine opOk_l hA (fun _=>rfl) ?_;intro n D γ w hn hD hB hU K hK;try dsimp only at hB
         clear hU;replace hn:n<18:=hn;try dsimp only
         have K9:=hB.1;go_step;refine mK (ca _ (WA.kpN K9).free) fun w5 k5=>?_;refine hK _ _ γ rfl ⟨hB.1.thenN k5 (Nat.le_refl _),(hB.2.1).kpN k5,(hB.2.2.1).kpN k5,hB.2.2.2⟩ trivial ?_;exact dA
        ·
         refine opOk_l hA (fun _=>rfl) ?_;intro n D γ w hn hD hB hU K hK;try dsimp only at hB
         clear hU;replace hn:n<18:=hn;try dsimp only
         go_step;obtain⟨w5,hw5⟩:∃ w5,w5=w.alloc (.cells #[(0:Int),(0:Int),(0:Int),(0:Int)] 53):=⟨_,rfl⟩;have k5:Kp w.heap.size none w w5:=hw5 ▸ Kp.new1 _ _;have hBn:Blk w5 w.heap.size 53 #[(0:Int),(0:Int),(0:Int),(0:Int)]:=hw5 ▸ Blk.new _ _ _;rw[← hw5];refine hK _ _ { γ with n1:=w.heap.size,c1:=true,s1:=false } rfl ⟨hB.1.thenN k5 (Nat.le_refl _),fun _=>⟨hBn,hB.1.size⟩,(hB.2.2.1).kpN k5,fun _ hc9=>(by have:=(hB.2.2.1 hc9).1.lt;show w.heap.size≠γ.n2;omega)⟩ rfl ?_;exact dA
        ·
         refine opOk_l hA (fun _=>rfl) ?_;intro n D γ w hn hD hB hU K hK;try dsimp only at hB
         clear hU;replace hn:n<18:=hn;try dsimp only
         go_step;obtain⟨w5,hw5⟩:∃ w5,w5=w.alloc (.cells #[(0:Int),(0:Int),(0:Int),(0:Int)] 53):=⟨_,rfl⟩;have k5:Kp w.heap.size none w w5:=hw5 ▸ Kp.new1 _ _;have hBn:Blk w5 w.heap.size 53 #[(0:Int),(0:Int),(0:Int),(0:Int)]:=hw5 ▸ Blk.new _ _ _;rw[← hw5];refine hK _ _ { γ with n2:=w.heap.size,c2:=true,s2:=false } rfl ⟨hB.1.thenN k5 (Nat.le_refl _),(hB.2.1).kpN k5,fun _=>⟨hBn,hB.1.size⟩,fun hc9 _=>(by have:=(hB.2.1 hc9).1.lt;show γ.n1≠w.heap.size;omega)⟩ rfl ?_;exact dA
        ·
         refine opOk_l hA (fun _=>rfl) ?_;intro n D γ w hn hD hB hU K hK;try dsimp only at hB
         replace hU:(γ.c1=true)∧(γ.c2=true):=⟨hU.2.2.2.2.2.2.2.2.2.2.2.1,hU.2.2.2.2.2.2.2.2.2.2.2.2.1⟩;replace hn:n<18:=hn;try dsimp only
         obtain⟨O9,g9⟩:=hB.2.1 hU.1;have cO:=O9.cell;have fO:=O9.frozen;go_step;obtain⟨w5,hw5,R9,kst,hzst⟩:=O9.st4 (.int .i64 u.x.lo) (.int .i64 u.x.hi) (.int .i64 u.y.lo) (.int .i64 u.y.hi);rw[← hw5];simp only[sbt,sc0,scs] at R9;refine hK _ _ { γ with s1:=true } rfl ⟨hB.1.thenOwn kst (Nat.le_refl _) g9,fun _=>⟨R9,g9⟩,(fun hc9=>⟨((hB.2.2.1 hc9).1).kp kst ((hB.2.2.1 hc9).1).lt (sne ((hB.2.2.2 hU.1 hc9).symm)),(hB.2.2.1 hc9).2⟩),hB.2.2.2⟩ rfl ?_;exact dA
        ·
         refine opOk_l hA (fun _=>rfl) ?_;intro n D γ w hn hD hB hU K hK;try dsimp only at hB
         replace hU:(γ.c1=true)∧(γ.c2=true)∧(γ.s1=true):=⟨hU.2.2.2.2.2.2.2.2.2.2.2.2.1,hU.2.2.2.2.2.2.2.2.2.2.2.2.2.1,hU.2.2.2.2.2.2.2.2.2.2.2.2.2.2.1⟩;replace hn:n<18:=hn;try dsimp only
         obtain⟨O9,g9⟩:=hB.2.2.1 hU.2.1;have cO:=O9.cell;have fO:=O9.frozen;go_step;obtain⟨w5,hw5,R9,kst,hzst⟩:=O9.st4 (.int .i64 v.x.lo) (.int .i64 v.x.hi) (.int .i64 v.y.lo) (.int .i64 v.y.hi);rw[← hw5];simp only[sbt,sc0,scs] at R9;refine hK _ _ { γ with s2:=true } rfl ⟨hB.1.thenOwn kst (Nat.le_refl _) g9,(fun hc9=>⟨((hB.2.1 hc9).1).kp kst ((hB.2.1 hc9).1).lt (sne (hB.2.2.2 hc9 hU.2.1)),(hB.2.1 hc9).2⟩),fun _=>⟨R9,g9⟩,hB.2.2.2⟩ rfl ?_;exact dA
       case hend15_4=>
        intro n D γ w hn hD hB hF;replace hF:=fun k (hk:k<18)=>hF k hk;replace hF:=(⟨hF 13 (by decide),hF 14 (by decide),hF 15 (by decide),hF 16 (by decide)⟩:_∧_∧_∧_);try dsimp only at hB
        try dsimp only at hF
        replace hn:n≤18:=hn;try dsimp only
        obtain⟨nu,nv,c1_9,c2_9,s1_9,s2_9⟩:=γ;dsimp only at hB hF ⊢;obtain⟨rfl,rfl,rfl,rfl⟩:=hF;obtain⟨K9,f1_9,f2_9,ne9⟩:=hB;obtain⟨U,gU⟩:=f1_9 rfl;simp only[reduceIte] at U;obtain⟨V,gV⟩:=f2_9 rfl;simp only[reduceIte] at V;have ne:=ne9 rfl rfl;clear ne9;clear f1_9 f2_9;clear hD hn;have gM:=M.lt;replace M:=M.kpN K9;replace Z:=Z.kpN K9;replace WA:=WA.kpN K9;replace HR:=HR.kpN K9;replace K:=K.tN K9;have KF:=K9;clear K9;rename World=>we;have hgu:g<nu∧g<nv:=by omega
        go_wp2_with fail
        clear ca;have a0:=(KF.cell _ _ hl1 (by simp)).trans a0;have d0:=(KF.cell _ _ hl2 (by simp)).trans d0;have a1:=(KF.cell _ _ hl1 (by simp)).trans a1;have d1:=(KF.cell _ _ hl2 (by simp)).trans d1;have a2:=(KF.cell _ _ hl1 (by simp)).trans a2;have d2:=(KF.cell _ _ hl2 (by simp)).trans d2;have a3:=(KF.cell _ _ hl1 (by simp)).trans a3;have d3:=(KF.cell _ _ hl2 (by simp)).trans d3;have a4:=(KF.cell _ _ hl1 (by simp)).trans a4;have d4:=(KF.cell _ _ hl2 (by simp)).trans d4;have a5:=(KF.cell _ _ hl1 (by simp)).trans a5;have d5:=(KF.cell _ _ hl2 (by simp)).trans d5;have a6:=(KF.cell _ _ hl1 (by simp)).trans a6;have d6:=(KF.cell _ _ hl2 (by simp)).trans d6;have a7:=(KF.cell _ _ hl1 (by simp)).trans a7;have d7:=(KF.cell _ _ hl2 (by simp)).trans d7;have hl1:=Nat.lt_of_lt_of_le hl1 KF.size;have hl2:=Nat.lt_of_lt_of_le hl2 KF.size;clear KF;have KO:=K;clear K;have K:=Kp.refl we.heap.size none we;obtain⟨S,hS0,hS1⟩:=cls_of2 (P:=fun w'=>Blk w' _ _ _∧Kp _ _ _ w') we ⟨M,K⟩;try dsimp only at hS0
        have cM:=fun (x:Ev (S 0)) i=>((hS0 _).1 x.h).1.cell i;have a0:=fun (x:Ev (S 0))=>((((hS0 _).1 x.h).2).cell _ _ hl1 oW).trans a0;have d0:=fun (x:Ev (S 0))=>((((hS0 _).1 x.h).2).cell _ _ hl2 oW).trans d0;have a1:=fun (x:Ev (S 0))=>((((hS0 _).1 x.h).2).cell _ _ hl1 oW).trans a1;have d1:=fun (x:Ev (S 0))=>((((hS0 _).1 x.h).2).cell _ _ hl2 oW).trans d1;have a2:=fun (x:Ev (S 0))=>((((hS0 _).1 x.h).2).cell _ _ hl1 oW).trans a2;have d2:=fun (x:Ev (S 0))=>((((hS0 _).1 x.h).2).cell _ _ hl2 oW).trans d2;have a3:=fun (x:Ev (S 0))=>((((hS0 _).1 x.h).2).cell _ _ hl1 oW).trans a3;have d3:=fun (x:Ev (S 0))=>((((hS0 _).1 x.h).2).cell _ _ hl2 oW).trans d3;have a4:=fun (x:Ev (S 0))=>((((hS0 _).1 x.h).2).cell _ _ hl1 oW).trans a4;have d4:=fun (x:Ev (S 0))=>((((hS0 _).1 x.h).2).cell _ _ hl2 oW).trans d4;have a5:=fun (x:Ev (S 0))=>((((hS0 _).1 x.h).2).cell _ _ hl1 oW).trans a5;have d5:=fun (x:Ev (S 0))=>((((hS0 _).1 x.h).2).cell _ _ hl2 oW).trans d5;have a6:=fun (x:Ev (S 0))=>((((hS0 _).1 x.h).2).cell _ _ hl1 oW).trans a6;have d6:=fun (x:Ev (S 0))=>((((hS0 _).1 x.h).2).cell _ _ hl2 oW).trans d6;have a7:=fun (x:Ev (S 0))=>((((hS0 _).1 x.h).2).cell _ _ hl1 oW).trans a7;have d7:=fun (x:Ev (S 0))=>((((hS0 _).1 x.h).2).cell _ _ hl2 oW).trans d7;replace M:=M.drew;replace K:=K.drew;replace Z:=Z.drew;replace U:=U.drew;replace V:=V.drew;have hevT:=ev_true;refine wro S [(0,0),(1,0),(2,0),(3,1),(4,0),(5,0),(6,0),(7,1),(8,0),(9,0),(10,1),(11,0),(12,2),(13,0),(14,0)] [] ((hS0 _).2 ⟨M,K⟩) ?_;intro _hev;refine oX ?_;refine oL ?_;intro Kc hKc;generalize we.drew=wd9 at *;go_step;refine mK (cm _ (WA.kpN K).free) fun wf k=>?_;replace M:=M.kpN k;replace Z:=Z.kpN k;replace U:=U.kpN k;replace V:=V.kpN k;replace K:=K.tN k;clear k;refine hKc _ _ ((hS0 _).2 ⟨M,K⟩) ?_;clear hKc Kc;refine oX ?_;refine wpOrd_nil ?_;clear hevT _hev;clear a0 d0 a1 d1 a2 d2 a3 d3 a4 d4 a5 d5 a6 d6 a7 d7;clear cM hS0 hS1 S;replace HR:=HR.kpN K;replace K:=KO.tN K;clear KO WA M cm hl1 hl2;go_wp2_with fail
        refine(Bl.landOf_any g nums k4 _ HR oM).mono ?_;rintro e wg ⟨v9,k5,rfl,⟨A3,c3,A4,c4,ps,bs,rfl,rP,rQ,hbl,hp1,hp16,hpp,hpc,hqc,-,-⟩,hk5,HR2,k⟩;have hok2:=Bl.land_made hbl hp1 hp16 hpp;replace hok2:=Lib.hid hok2;replace hpp:=Lib.hid hpp;replace hbl:=Lib.hid hbl;have hgl:=HR2.lt;replace Z:=Z.kq k;replace U:=U.kq k;replace V:=V.kq k;replace K:=K.then_ k (Nat.le_refl _);have HR9:=HR2.alloc (.cells #[.slice A3 ps.length c3,.slice A4 bs.length c4] 65);have k9:=Kp.new1 wg (.cells #[.slice A3 ps.length c3,.slice A4 bs.length c4] 65);have rP9:=rP.kpN k9;have rQ9:=rQ.kpN k9;clear k HR HR2 rP rQ k9;have pZ:=Z.cell;have pU:=U.cell;have pV:=V.cell;obtain⟨w9_,rfl,LB,k9_,hzn⟩:=box1 wg 65 #[.slice A3 ps.length c3,.slice A4 bs.length c4];replace Z:=Z.kpN k9_;replace U:=U.kpN k9_;replace V:=V.kpN k9_;replace K:=K.thenN k9_ oU;clear k9_;have cZ:=Z.cell;have fZ:=Z.frozen;have cU:=U.cell;have fU:=U.frozen;have cV:=V.cell;have fV:=V.frozen;go_wp2_with fail
        clear cZ fZ pZ cU fU pU cV fV pV;generalize (wg.alloc (.cells #[.slice A3 ps.length c3,.slice A4 bs.length c4] 65))=wh at *;obtain⟨nl,hx⟩:∃ q9,q9=wg.heap.size:=⟨_,rfl⟩;rw[← hx] at LB ⊢;replace hx:=Lib.hid hx;have hgnl:g<nl:=by have:=hx.out;omega
        clear hx hzn hgl;have hrb:=hW.rad_bd;obtain⟨a,ha⟩:∃ a:Nat,cellI am.lo W.rad ps.length=(a:Int):=⟨(cellI am.lo W.rad ps.length).toNat,by have:=(cellI_bd (a:=am.lo) hrb.1 (show (1:Int)≤(ps.length:Int) by omega)).1;omega⟩;have hal:a<ps.length:=by have:=(cellI_bd (a:=am.lo) hrb.1 (show (1:Int)≤(ps.length:Int) by omega)).2;omega
        have cc:=fun w=>cellOf_any am.lo W.rad ps.length w hrb ⟨hp1,hp16⟩;rw[ha] at cc;replace ha:=Lib.hid ha
        obtain⟨ln,kn,hcl,hcw2⟩:∃ (ln:Sp) (kn:Bool),Hid (kn=true→(longS u v).lo≠0∧ln=aimS u v)∧∀ w,Calls Tryz.prog 10 #[.agg #[u.x.lo,u.x.hi,u.y.lo,u.y.hi],.agg #[v.x.lo,v.x.hi,v.y.lo,v.y.hi]] w fun e w'=>e=.returned (.tuple #[ln,.bool kn])∧Kp w.heap.size none w w':=by
         have ca:=fun w=>meet_Aim_any u v (ub.out.mono (by decide)) (vb.out.mono (by decide)) w;by_cases hz:(longS u v).lo=0
         ·
          simp only[if_pos hz] at ca;exact⟨⟨0,0⟩,false,Lib.hid (fun e=>by cases e),ca⟩
         ·
          simp only[if_neg hz] at ca;exact⟨_,true,Lib.hid (fun _=>⟨hz,rfl⟩),ca⟩
        refine mK (cc _) fun wi k=>?_;replace Z:=Z.kpN k;replace U:=U.kpN k;replace V:=V.kpN k;replace LB:=LB.kpN k;have HR:=HR9.kpN k;have rP:=rP9.kpN k;have rQ:=rQ9.kpN k;replace K:=K.tN k;clear k HR9 rP9 rQ9;have cU:=U.cell;have cV:=V.cell;go_wp2_with fail
        clear cU cV;refine mK (hcw2 _) fun wj k=>?_;replace Z:=Z.kpN k;replace LB:=LB.kpN k;have k9:=Kp.new1 wj (.cells ln 29);have HR9:=(HR.kpN k).kpN k9;have rP9:=(rP.kpN k).kpN k9;have rQ9:=(rQ.kpN k).kpN k9;replace K:=K.tN k;clear k k9 HR rP rQ U V cc hcw2 ub vb;have hlb9:=LB.lt;have pZ:=Z.cell;have pLB:=LB.cell;obtain⟨w9_,rfl,G,k9_,hzn⟩:=box1 wj 29 ln;replace Z:=Z.kpN k9_;replace LB:=LB.kpN k9_;replace K:=K.thenN k9_ oU;clear k9_;have cZ:=Z.cell;have fZ:=Z.frozen;have cLB:=LB.cell;have fLB:=LB.frozen;go_upto_if 218 with(fail)
        clear cZ fZ pZ cLB fLB pLB;generalize (wj.alloc (.cells ln 29))=wk at *;obtain⟨ng,hx⟩:∃ q9,q9=wj.heap.size:=⟨_,rfl⟩;rw[← hx] at G ⊢;replace hx:=Lib.hid hx;have hgng:g<ng:=by have:=hx.out;omega
        clear hx hzn hlb9
        have hrel:Hid (kn=true→∃ fr fi:Nat,cellI ln.lo W.rad ps.length=(fr:Int)∧cellI ln.hi W.rad ps.length=(fi:Int)∧fr≤a∧a≤fi∧fi<ps.length∧am.lo≤am.hi∧am.sub ln):=Lib.hid (fun hk=>by
         obtain⟨h1,h2⟩:=hcl.out hk;have h3:=hain h1;rw[← hca'.out.2,← h2] at h3;have h4:am.lo≤am.hi:=by rw[hca'.out.2];exact quotS_ok _ _
         have b1:=(cellI_bd (a:=ln.lo) hrb.1 (show (1:Int)≤(ps.length:Int) by omega)).1;have b2:=cellI_bd (a:=ln.hi) hrb.1 (show (1:Int)≤(ps.length:Int) by omega);have m1:=cellI_mono (cells:=ps.length) hrb.1 oM h3.1;have m2:=cellI_mono (cells:=ps.length) hrb.1 oM (Int.le_trans h4 h3.2);have:=ha.out;exact⟨(cellI ln.lo W.rad ps.length).toNat,(cellI ln.hi W.rad ps.length).toNat,by omega,by omega,by omega,by omega,by omega,h4,h3⟩)
        have ci:=fun h0 h w=>insideSpan_any am ln h0 h w;have cc:=fun x w=>cellOf_any x W.rad ps.length w hrb ⟨hp1,hp16⟩;clear hcl hain hca' ha;go_cut [30,31] (fun v30 v31 wx=>∃ fr fi:Nat,v30=.int .i64 fr∧v31=.int .i64 fi∧fr≤a∧a≤fi∧fi<ps.length∧Blk wx nl 65 #[.slice A3 ps.length c3,.slice A4 bs.length c4]∧RingAt wx g nums k5∧Rd (some g) wx 1 Bl.encI A3 ps.length ps∧Rd (some g) wx 1 Bl.encB A4 bs.length bs∧Kp w.heap.size (some g) w wx)
        case first=>
         cases kn with
         | true=>
          obtain⟨fr,fi,f1,f2,f3,f4,f5,f6,f7⟩:=hrel.out rfl;have c1:=fun w=>cc ln.lo w;have c2:=fun w=>cc ln.hi w;rw[f1] at c1;rw[f2] at c2;clear cc hrel;have cZ:=Z.cell;have cG:=G.cell;go_wp2_with fail
          clear cZ cG;refine mK (ci f6 f7 _) fun wl k=>?_;replace G:=G.kpN k;replace LB:=LB.kpN k;replace HR9:=HR9.kpN k;replace rP9:=rP9.kpN k;replace rQ9:=rQ9.kpN k;replace K:=K.tN k;clear k ci Z;go_wp2_with fail
          have KO:=K;clear K;have K:=Kp.refl wl.heap.size none wl;obtain⟨S,hS0,hS1⟩:=cls_of2 (P:=fun w'=>Blk w' _ _ _∧Kp _ _ _ w') wl ⟨G,K⟩;try dsimp only at hS0
          have cG:=fun (x:Ev (S 0)) i=>((hS0 _).1 x.h).1.cell i;replace G:=G.drew;replace K:=K.drew;replace LB:=LB.drew;have hevT:=ev_true;refine wro S [(0,0),(1,1),(2,0),(3,0),(5,0),(6,1),(7,0),(8,0),(4,2),(9,2),(10,0),(11,0)] [] ((hS0 _).2 ⟨G,K⟩) ?_;intro _hev;refine oX ?_;refine oL ?_;intro Kc hKc;generalize wl.drew=wd9 at *;go_step;refine mK (c1 _) fun wm k=>?_;replace G:=G.kpN k;replace LB:=LB.kpN k;replace K:=K.tN k;clear k;refine hKc _ _ ((hS0 _).2 ⟨G,K⟩) ?_;clear hKc Kc;refine oL ?_;intro Kc hKc;go_step;refine mK (c2 _) fun wn k=>?_;replace G:=G.kpN k;replace LB:=LB.kpN k;replace K:=K.tN k;clear k;refine hKc _ _ ((hS0 _).2 ⟨G,K⟩) ?_;clear hKc Kc;refine oX ?_;refine wpOrd_nil ?_;clear hevT _hev;clear cG hS0 hS1 S;have HR:=HR9.kpN K;have rP:=rP9.kpN K;have rQ:=rQ9.kpN K;replace K:=KO.tN K;clear KO HR9 rP9 rQ9 c1 c2;go_wp2_with fail
          go_meet
          case rel=>exact⟨fr,fi,rfl,rfl,f3,f4,f5,LB,HR,rP,rQ,K⟩
         | false=>
          go_wp2_with fail
          go_meet
          case rel=>exact⟨0,ps.length-1,rfl,by congr 1;omega,Nat.zero_le _,by omega,by omega,LB,HR9,rP9,rQ9,K⟩
        case rest=>
        clear Z G LB HR9 rP9 rQ9 K hrel ci cc;obtain⟨fr,fi,rfl,rfl,f3,f4,f5,LB,HR,rP,rQ,K⟩:=hcut;go_upto_region 26 with(fail)
        go_wp2_with fail
        refine(Bl.rockOf_any g nums k5 _ HR oM).mono ?_;rintro e wo ⟨v9,rfl,⟨r,f,rfl,hrk,hr1,hr2⟩,HR2,k⟩;replace LB:=LB.kq k;replace rP:=rP.kp k;replace rQ:=rQ.kp k;replace K:=K.then_ k (Nat.le_refl _);have hgl:=HR2.lt;have k9:=Kp.new2 wo (.cells #[r.size.lo,r.size.hi,r.dens.lo,r.dens.hi,r.strong.lo,r.strong.hi,r.spin.lo,r.spin.hi,r.shape.lo,r.shape.hi,.bool r.pile] 70) (.cells #[f.speed.lo,f.speed.hi,f.slope.lo,f.slope.hi] 72);have HR9:=HR2.kpN k9;have rP9:=rP.kpN k9;have rQ9:=rQ.kpN k9;clear k HR HR2 rP rQ k9 hr1 hr2;have pLB:=LB.cell;obtain⟨w9_,rfl,RB,FB,k9_,hzn⟩:=box2 wo 70 #[r.size.lo,r.size.hi,r.dens.lo,r.dens.hi,r.strong.lo,r.strong.hi,r.spin.lo,r.spin.hi,r.shape.lo,r.shape.hi,.bool r.pile] 72 #[f.speed.lo,f.speed.hi,f.slope.lo,f.slope.hi];replace LB:=LB.kpN k9_;replace K:=K.thenN k9_ oU;clear k9_;have cLB:=LB.cell;have fLB:=LB.frozen;go_wp2_with fail
        clear cLB fLB pLB;generalize ((wo.alloc (.cells #[r.size.lo,r.size.hi,r.dens.lo,r.dens.hi,r.strong.lo,r.strong.hi,r.spin.lo,r.spin.hi,r.shape.lo,r.shape.hi,.bool r.pile] 70)).alloc (.cells #[f.speed.lo,f.speed.hi,f.slope.lo,f.slope.hi] 72))=wp at *;obtain⟨rb,hx⟩:∃ q9,q9=wo.heap.size:=⟨_,rfl⟩;rw[← hx] at RB FB ⊢;replace hx:=Lib.hid hx;have hgr:g<rb:=by have:=hx.out;omega
        clear hx hzn hgl;refine(Bl.stoneOf_any g nums (k5+16) r f _ HR9 oM hrk).mono ?_;rintro e wq ⟨v9,rfl,⟨s9,rfl,hsin⟩,HR,k⟩;have rP:=rP9.kp k;have rQ:=rQ9.kp k;replace LB:=LB.kq k;replace RB:=RB.kq k;replace FB:=FB.kq k;replace K:=K.then_ k (Nat.le_refl _);clear k HR9 rP9 rQ9;go_wp2_with fail
        refine(Bl.layersOf_any g nums (k5+16+14) _ HR oM).mono ?_;rintro e wr ⟨v9,k7,rfl,⟨A5,c5,ls,rfl,rL,hl6,hlo,-⟩,hk7,HR2,k⟩;replace rP:=rP.kp k;replace rQ:=rQ.kp k;replace LB:=LB.kq k;replace RB:=RB.kq k;replace FB:=FB.kq k;replace K:=K.then_ k (Nat.le_refl _);clear k HR;go_wp2_with fail
        refine(Bl.gradesOf_any g nums k7 _ HR2 oM).mono ?_;rintro e ws ⟨v9,k8,rfl,⟨A6,c6,gs,rfl,rG,hgo,-,-⟩,-,HR,k⟩;replace rP:=rP.kp k;replace rQ:=rQ.kp k;replace rL:=rL.kp k;replace LB:=LB.kq k;replace RB:=RB.kq k;replace FB:=FB.kq k;replace K:=K.then_ k (Nat.le_refl _);have hair:=Bl.air_made hl6 hlo;have hs:=Bl.stoneOk_of_in hsin hrk;obtain⟨⟨hl0,hl1⟩,ht1,ht2⟩:=Bl.toll_encl (a:=a) hair hrk hgo hok2.out hsin hs f3 f4 f5;have k9:=Kp.new1 ws (.cells #[s9.size,s9.dens,s9.strong,s9.spin,s9.shape,.bool s9.pile,s9.speed,s9.slope] 76);have rP9:=rP.kpN k9;have rQ9:=rQ.kpN k9;have rL9:=rL.kpN k9;have rG9:=rG.kpN k9;have ce:=fun w h1 h2=>Bl.ends_made A5 c5 ls s9 w h1 h2 hair hs;have ch:=fun w h1 h2 h3 h4=>Bl.harms_made A5 c5 ls A6 c6 gs A3 A4 c3 c4 ps bs (Bl.endsOf ls s9).1 (Bl.endsOf ls s9).2 a w h1 h2 h3 h4 hpc hair hgo hok2.out ⟨hl0,hl1⟩ oM;have ct:=fun w h1 h2 h3 h4 h5=>Bl.toll_made A5 c5 ls A6 c6 gs A3 A4 c3 c4 ps bs r f fr fi w h1 h2 h3 h4 hpc h5 hair hrk hgo hok2.out oM f5;generalize Bl.tollOf (Bl.harmsOf ls.length gs ps bs) (Bl.blowsOf ls r f) fr fi=T9 at *;generalize Bl.harmsOf ls.length gs ps bs (Bl.endsOf ls s9).1 (Bl.endsOf ls s9).2 a=H9 at *;generalize (Bl.endsOf ls s9).1=L9 at *;generalize (Bl.endsOf ls s9).2=E9 at *;clear k HR HR2 rP rQ rL rG k9 hair hs hsin hrk hgo hlo hl6 hk7;have pLB:=LB.cell;have pRB:=RB.cell;have pFB:=FB.cell;obtain⟨w9_,rfl,SB,k9_,hzn⟩:=box1 ws 76 #[s9.size,s9.dens,s9.strong,s9.spin,s9.shape,.bool s9.pile,s9.speed,s9.slope];replace LB:=LB.kpN k9_;replace RB:=RB.kpN k9_;replace FB:=FB.kpN k9_;replace K:=K.thenN k9_ oU;clear k9_;have cLB:=LB.cell;have fLB:=LB.frozen;have cRB:=RB.cell;have fRB:=RB.frozen;have cFB:=FB.cell;have fFB:=FB.frozen;go_wp2_with fail
        clear cLB fLB pLB cRB fRB pRB cFB fFB pFB;generalize (ws.alloc (.cells #[s9.size,s9.dens,s9.strong,s9.spin,s9.shape,.bool s9.pile,s9.speed,s9.slope] 76))=wt at *;obtain⟨sb3,hx⟩:∃ q9,q9=ws.heap.size:=⟨_,rfl⟩;rw[← hx] at SB ⊢;replace hx:=Lib.hid hx;clear hx hzn;refine mK (ce _ rL9.free (hBnd.kp K hBnd.1 (fun e=>by injection e with e;have:=hBnd.1;omega))) fun wu k=>?_;have rP:=rP9.kpN k;have rQ:=rQ9.kpN k;have rL:=rL9.kpN k;have rG:=rG9.kpN k;replace LB:=LB.kpN k;replace RB:=RB.kpN k;replace FB:=FB.kpN k;replace K:=K.tN k;clear k SB rP9 rQ9 rL9 rG9 ce;have cL:=LB.cell;go_wp2_with fail
        refine mK (ch _ rL.free rG.free rP.free rQ.free) fun wv k=>?_;replace rP:=rP.kpN k;replace rQ:=rQ.kpN k;replace rL:=rL.kpN k;replace rG:=rG.kpN k;clear cL;replace LB:=LB.kpN k;replace RB:=RB.kpN k;replace FB:=FB.kpN k;replace K:=K.tN k;clear k ch;have cL:=LB.cell;have cR:=RB.cell;have cF:=FB.cell;go_wp2_with fail
        refine mK (ct _ rL.free rG.free rP.free rQ.free (hBnd.kp K hBnd.1 (fun e=>by injection e with e;have:=hBnd.1;omega))) fun wx k=>?_;replace K:=K.tN k;clear k cL cR cF LB RB FB rL rG rP rQ ct;obtain⟨w9_,rfl,TB,k9_,hzn⟩:=box1 wx 29 #[T9.lo,T9.hi];replace K:=K.thenN k9_ oU;clear k9_;go_wp2_with fail
        generalize (wx.alloc (.cells #[T9.lo,T9.hi] 29))=wy at *;obtain⟨tb,hx⟩:∃ q9,q9=wx.heap.size:=⟨_,rfl⟩;rw[← hx] at TB ⊢;replace hx:=Lib.hid hx;refine mK (awake_any _) fun wz k=>?_;go_wp2
        go_ret
        exact⟨rfl,(K.tN k).narrow hg0⟩
      | false=>
       go_wp2_with fail
       refine mK (awake_any _) fun wd k9=>?_;go_wp2
       go_ret
       exact⟨rfl,(K.tN k9).narrow hg0⟩
     ·
      have z3:(e2 !=0)=true:=by simp[z2]
      clear z2 q2;go_wp2_with fail
      refine mK (awake_any _) fun wd k9=>?_;go_wp2
      go_ret
      exact⟨rfl,(K.tN k9).narrow hg0⟩
    ·
     have z3:(e1 !=0)=true:=by simp[z1]
     clear z1 q1 q2;go_wp2_with fail
     refine mK (awake_any _) fun wd k9=>?_;go_wp2
     go_ret
     exact⟨rfl,(K.tN k9).narrow hg0⟩
end Go.Proofs.YtdhiappifnflpaaGreatDoor
