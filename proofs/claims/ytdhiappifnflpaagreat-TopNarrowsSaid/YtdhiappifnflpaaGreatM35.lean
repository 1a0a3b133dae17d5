/- Chances: the walks of meet, fifth part: Odds. Makers of the kit: four numbers (func4), GasOf, StateIn. -/
import Derived.Test.YtdhiappifnflpaaGreatM34
import Derived.Test.YtdhiappifnflpaaGreatM11
namespace Go.Proofs.YtdhiappifnflpaaGreat
open Go.RowKit
theorem sumIf_append (f:Bx→Bool):∀ (a b:List (Bx × Int)),sumIf f (a++b)=sumIf f a+sumIf f b
 | [],b=>by simp[sumIf]
 | p::a,b=>by rw[List.cons_append,sumIf,sumIf,sumIf_append f a b];omega
theorem sumIf_take (f:Bx→Bool) (ps:List (Bx × Int)) (i:Nat) (h:i<ps.length):sumIf f (ps.take (i+1))=sumIf f (ps.take i)+(if f ps[i].1 then ps[i].2 else 0):=by
 rw[List.take_succ_eq_append_getElem h,sumIf_append];simp[sumIf]
theorem sumIf_bd (f:Bx→Bool) {M:Int} (hM:0≤M):∀ {l:List (Bx × Int)},(∀ p∈l,0≤p.2∧p.2≤M)→0≤sumIf f l∧sumIf f l≤(l.length:Int) * M:=fun h=>⟨sumIf_nonneg fun p hp=>(h p hp).1,sumIf_le hM h⟩
theorem Blk.sto1_0 {w:World} {r:Nat} {T:TypeId} {cs:Array Value} (h:Blk w r T cs) (x0:Value):∃ w',w'=(w.setCell ⟨r,0,none⟩ x0)∧Blk w' r T (cs.setIfInBounds 0 x0)∧Kp w.heap.size (some r) w w'∧w'.heap.size=w.heap.size:=
 ⟨_,rfl,h.set_ _ x0,(Kp.refl _ (some r) w).setRow (p:=⟨r,_,none⟩) rfl _,by simp[World.setCell]⟩
theorem Blk.sto1_1 {w:World} {r:Nat} {T:TypeId} {cs:Array Value} (h:Blk w r T cs) (x0:Value):∃ w',w'=(w.setCell ⟨r,1,none⟩ x0)∧Blk w' r T (cs.setIfInBounds 1 x0)∧Kp w.heap.size (some r) w w'∧w'.heap.size=w.heap.size:=
 ⟨_,rfl,h.set_ _ x0,(Kp.refl _ (some r) w).setRow (p:=⟨r,_,none⟩) rfl _,by simp[World.setCell]⟩
theorem Blk.sto1_2 {w:World} {r:Nat} {T:TypeId} {cs:Array Value} (h:Blk w r T cs) (x0:Value):∃ w',w'=(w.setCell ⟨r,2,none⟩ x0)∧Blk w' r T (cs.setIfInBounds 2 x0)∧Kp w.heap.size (some r) w w'∧w'.heap.size=w.heap.size:=
 ⟨_,rfl,h.set_ _ x0,(Kp.refl _ (some r) w).setRow (p:=⟨r,_,none⟩) rfl _,by simp[World.setCell]⟩
theorem odds1_pred (xs:List Int) (w:World) (h:∀ x∈xs,0≤x∧x≤1000):PredK 46 #[] oneInt (fun _=>false) xs w:=fun W x hx _=>by
 obtain⟨h1,h2⟩:=h x hx;unfold oneInt;change Calls Tryz.prog 46 #[.int .i64 x] W fun e w'=>e=.returned (.bool false)∧Kp W.heap.size none W w';have ct:=fun w=>meet_within_any x 0 1099511627776 w;rw[btw_t h1 (by omega)] at ct;clear h h1 h2;go_enter Tryz.func46,Tryz.ntmps46
 go_wp2_with fail
 refine(ct _).mono ?_;rintro e w2 ⟨rfl,k⟩;go_wp2
 go_ret
 exact⟨rfl,k⟩
theorem field_fate (a b:Int) (w:World):(Instr.field 107 (.agg #[.int .i64 a,.int .i64 b]) 0).run Tryz.prog w=.ok (.int .i64 a) w:=by kernel_rfl
def OdAt (W:Wd) (d:Dr) (n:Nat) (t:Int) (ps:List (Bx × Int)) (A:Option Addr) (c:Nat) (w:World) (cb:Nat) (v:Value) (wr:World):Prop:=
 ∃ i:Nat,v=.int .i64 i∧i≤ps.length∧Blk wr cb 60 #[.int .i64 (sumIf (isHit W d n t) (ps.take i)),.int .i64 (sumIf (notMiss W d n t) (ps.take i)),.int .i64 (sumIf anyB (ps.take i))] ∧
  Blk wr w.heap.size 27 #[.slice A W.bs.length c,.int .i64 W.home]∧Blk wr (w.heap.size+1) 31 #[.int .i64 d.light.lo,.int .i64 d.light.hi,.int .i64 d.heat.lo,.int .i64 d.heat.hi,.int .i64 d.gas]∧Blk wr (w.heap.size+2) 60 #[.int .i64 0,.int .i64 0,.int .i64 0]∧Kp w.heap.size none w wr
set_option maxRecDepth 100000 in
set_option maxHeartbeats 8000000 in
theorem meet_Odds_any (A:Option Addr) (c:Nat) (W:Wd) (d:Dr) (t:Int) (L:Option Addr) (m:Nat) (l:List Bx) (Q:Option Addr) (mq:Nat) (ws:List Int) (n:Nat) (w:World) (hW:W.ok) (hA:WdAt none w A W) (hd:d.ok) (ht:0≤t∧t≤900000) (hn:1≤n∧n≤400)
  (hr:Rd none w 8 encBx L l.length l) (hl:l.length≤100) (hb:∀ b∈l,okBx b=true) (hq:Rd none w 1 encI Q ws.length ws) (hwl:ws.length=l.length) (hws:∀ x∈ws,0≤x∧x≤1000) :
  Calls Tryz.prog 16 #[.agg #[.slice A W.bs.length c,.int .i64 W.home],.agg #[.int .i64 d.light.lo,.int .i64 d.light.hi,.int .i64 d.heat.lo,.int .i64 d.heat.hi,.int .i64 d.gas],.int .i64 t,.slice L l.length m,.slice Q ws.length mq,.int .i64 n] w fun e w'=>e=.returned (.tuple #[.agg #[.int .i64 (sumIf (isHit W d n t) (l.zip ws)),.int .i64 (sumIf (notMiss W d n t) (l.zip ws)),.int .i64 (sumIf anyB (l.zip ws))],.int .i64 0])∧Kp w.heap.size none w w':=by
 have ca:=fun w h=>meet_asked_any A c W d t n w hW h hd ⟨ht.1,by omega⟩ (by omega);have cc:=fun w h=>orbit_CheckSet_any L m l w h (by omega) hb;have cw:=fun w h=>containsInt_any 46 #[] (fun _=>false) (enters_of Tryz.func46 (by kernel_rfl) rfl) Q mq ws w (odds1_pred ws w hws) h (by omega);have ea:(ws.any fun _=>false)=false:=by simp
 rw[ea] at cw;simp only[hwl] at cw;have hq2:Rd none w 1 encI Q l.length ws:=by rw[← hwl];exact hq
 have cf:=fun b hb w h=>meet_find_any A c W d t b n w hW h hd ht hn.2 hb;obtain⟨ps,hps⟩:∃ q9,Hid (q9=l.zip ws):=⟨_,Lib.hid rfl⟩;rw[← hps.out];have hpl:ps.length=l.length:=by rw[hps.out,List.length_zip,hwl];exact Nat.min_self _
 have hpi:∀ i (h:i<ps.length),ps[i].1=l[i]'(by omega)∧ps[i].2=ws[i]'(by omega):=fun i h=>by
  have e:=hps.out;subst e;simp
 have hpb:∀ p∈ps,0≤p.2∧p.2≤1000:=fun p hp=>by
  obtain⟨i,hi,rfl⟩:=List.getElem_of_mem hp;rw[(hpi i hi).2];exact hws _ (List.getElem_mem _)
 have n0:((ws.length:Int)==(l.length:Int))=true:=by simp[hwl]
 have n1:¬ ws.length≠l.length:=by omega
 replace hpl:=Lib.hid hpl;replace hpi:=Lib.hid hpi;replace hpb:=Lib.hid hpb;replace cf:=Lib.hid cf;clear hW hd ht hn hws ea n1;obtain⟨w1,hw1,D,F,R,K,hz⟩:=box3 w 27 #[.slice A W.bs.length c,.int .i64 W.home] 31 #[.int .i64 d.light.lo,.int .i64 d.light.hi,.int .i64 d.heat.lo,.int .i64 d.heat.hi,.int .i64 d.gas] 60 #[.int .i64 0,.int .i64 0,.int .i64 0];go_enter Tryz.func16,Tryz.ntmps16
 go_wp2_with fail
 rw[← hw1];clear hw1;refine(ca _ (hA.kpN K)).mono ?_;rintro e w2 ⟨rfl,k⟩;replace D:=D.kpN k;replace F:=F.kpN k;replace R:=R.kpN k;replace K:=K.tN k;have hzk:=k.size;clear k;have cD:=D.cell;have fD:=D.frozen;have cF:=F.cell;have fF:=F.frozen;have cR:=R.cell;have fR:=R.frozen;go_wp2_with fail
 refine(cc _ (hr.kpN K)).mono ?_;rintro e w3 ⟨rfl,k⟩;clear cD fD cF fF cR fR;replace D:=D.kpN k;replace F:=F.kpN k;replace R:=R.kpN k;replace K:=K.tN k;have hzk:=k.size;clear k;have cD:=D.cell;have fD:=D.frozen;have cF:=F.cell;have fF:=F.frozen;have cR:=R.cell;have fR:=R.frozen;go_wp2_with fail
 refine(cw _ (hq2.kpN K)).mono ?_;rintro e w4 ⟨rfl,k⟩;clear cD fD cF fF cR fR;replace D:=D.kpN k;replace F:=F.kpN k;replace R:=R.kpN k;replace K:=K.tN k;have hzk:=k.size;clear k;clear ca cc cw n0 hq;replace hwl:=Lib.hid hwl;have pD:=D.cell;have pF:=F.cell;have pR:=R.cell;obtain⟨w9_,rfl,C,k9_,hzn⟩:=box1 w4 60 #[.int .i64 0,.int .i64 0,.int .i64 0];replace D:=D.kpN k9_;replace F:=F.kpN k9_;replace R:=R.kpN k9_;replace K:=K.thenN k9_ (by first|exact Nat.le_refl _|omega);clear k9_;have cD:=D.cell;have fD:=D.frozen;have cF:=F.cell;have fF:=F.frozen;have cR:=R.cell;have fR:=R.frozen;go_wp2_with fail
 clear cD fD pD cF fF pF cR fR pR;generalize (w4.alloc (.cells #[.int .i64 0,.int .i64 0,.int .i64 0] 60))=w5 at *;obtain⟨cb,hx⟩:∃ q9,q9=w4.heap.size:=⟨_,rfl⟩;rw[← hx] at C ⊢;replace hx:=Lib.hid hx;have hcw:w.heap.size+3≤cb:=by have:=hx.out;omega
 clear hx hzn hzk hz;go_loopw [45] (fun v wr=>OdAt W d n t ps A c w cb v wr) (fun v _=>(l.length:Int).toNat-(intOf v).toNat)
 case atStart=>exact⟨0,rfl,Nat.zero_le _,C,D,F,R,K⟩
 case round=>
  obtain⟨i,rfl,hi,C1,D1,F1,R1,K1⟩:=hrel;clear C D F R K;have C:=C1;have D:=D1;have F:=F1;have R:=R1;have K:=K1;clear C1 D1 F1 R1 K1;rw[hpl.out] at hi;have hCl:=C.lt;by_cases h:i<l.length
  ·
   obtain⟨b,o,rfl,hlt,c0,c1,c2,c3,c4,c5,c6,c7⟩:=hr.bx h;have hip:i<ps.length:=by rw[hpl.out];exact h
   have hiw:i<ws.length:=by rw[hwl.out];exact h
   obtain⟨qb,qo,rfl,hqlt,-,hqc⟩:=hq2.at_ (by omega);have cq:=Rd.cell1 (f:=fun x=>Value.int .i64 x) (fun _=>rfl) hqc i hiw;have d0:=(K.cell b _ hlt (by simp)).trans c0;have d1:=(K.cell b _ hlt (by simp)).trans c1;have d2:=(K.cell b _ hlt (by simp)).trans c2;have d3:=(K.cell b _ hlt (by simp)).trans c3;have d4:=(K.cell b _ hlt (by simp)).trans c4;have d5:=(K.cell b _ hlt (by simp)).trans c5;have d6:=(K.cell b _ hlt (by simp)).trans c6;have d7:=(K.cell b _ hlt (by simp)).trans c7;have hii:(i:Int)<(l.length:Int):=by omega
   have hi0:(0:Int)≤(i:Int):=by omega
   have hm:(l.length:Int).toNat-((i+1:Nat):Int).toNat<(l.length:Int).toNat-(i:Int).toNat:=by omega
   replace hm:=Lib.hid hm;obtain⟨q1,q2⟩:=hpi.out i hip;have t1:=sumIf_take (isHit W d n t) ps i hip;have t2:=sumIf_take (notMiss W d n t) ps i hip;have t3:=sumIf_take anyB ps i hip;rw[q1,q2] at t1 t2 t3;have hv:=hpb.out _ (List.getElem_mem hip);rw[q2] at hv;have hcf:=cf.out l[i] (hb _ (List.getElem_mem h));have htk:∀ p∈ps.take i,0≤p.2∧p.2≤1000:=fun p hp=>hpb.out p (List.mem_of_mem_take hp);have s1:=sumIf_bd (isHit W d n t) (by omega) htk;have s2:=sumIf_bd (notMiss W d n t) (by omega) htk;have s3:=sumIf_bd anyB (by omega) htk;have hll:(ps.take i).length≤100:=by rw[List.length_take];omega
   rw[show isHit W d n t l[i]=decide (fateW W d n t l[i]=.hit) from rfl] at t1;rw[show notMiss W d n t l[i]=decide (fateW W d n t l[i]≠.miss) from rfl] at t2;rw[show anyB l[i]=true from rfl,if_pos rfl] at t3;simp only[decide_eq_true_eq] at t1 t2;generalize ws[i]=v at *;generalize l[i]=x at *;obtain⟨k9,hk9⟩:∃ q9,Hid (q9=fateW W d n t x):=⟨_,Lib.hid rfl⟩;rw[← hk9.out] at hcf t1 t2;obtain⟨S1,hS1⟩:∃ q9,Hid (q9=sumIf (isHit W d n t) (ps.take i)):=⟨_,Lib.hid rfl⟩;obtain⟨S2,hS2⟩:∃ q9,Hid (q9=sumIf (notMiss W d n t) (ps.take i)):=⟨_,Lib.hid rfl⟩;obtain⟨S3,hS3⟩:∃ q9,Hid (q9=sumIf anyB (ps.take i)):=⟨_,Lib.hid rfl⟩;rw[← hS1.out] at s1 C;rw[← hS2.out] at s2 C;rw[← hS3.out] at s3 C;rw[← hS1.out] at t1;rw[← hS2.out] at t2;rw[← hS3.out] at t3;have e1:wrap64 (S1+v)=S1+v:=by unfold wrap64;omega
   have e2:wrap64 (S2+v)=S2+v:=by unfold wrap64;omega
   have e3:wrap64 (S3+v)=S3+v:=by unfold wrap64;omega
   have t1:=Lib.hid t1;have t2:=Lib.hid t2;have t3:=Lib.hid t3
   have hst:Hid (∀ a b:Int,((if k9=Fk.hit then v else 0)=a)→((if ¬ k9=Fk.miss then v else 0)=b)→sumIf (isHit W d n t) (ps.take (i+1))=S1+a∧sumIf (notMiss W d n t) (ps.take (i+1))=S2+b∧sumIf anyB (ps.take (i+1))=S3+v):=Lib.hid (by
    rintro a b rfl rfl;exact⟨t1.out,t2.out,t3.out⟩)
   clear t1 t2 t3 hS1 hS2 hS3 hk9 s1 s2 s3 hll htk hv q1 q2 hqc hiw hip c0 c1 c2 c3 c4 c5 c6 c7 hb;replace h:=Lib.hid h;have pC:=C.cell;have pD:=D.cell;have pF:=F.cell;have pR:=R.cell;obtain⟨w9_,rfl,X,k9_,hzn⟩:=box1 wr 33 #[.int .i64 x.x.lo,.int .i64 x.x.hi,.int .i64 x.y.lo,.int .i64 x.y.hi,.int .i64 x.u.lo,.int .i64 x.u.hi,.int .i64 x.v.lo,.int .i64 x.v.hi];replace C:=C.kpN k9_;replace D:=D.kpN k9_;replace F:=F.kpN k9_;replace R:=R.kpN k9_;replace K:=K.thenN k9_ (by first|exact Nat.le_refl _|omega);clear k9_;have cC:=C.cell;have fC:=C.frozen;have cD:=D.cell;have fD:=D.frozen;have cF:=F.cell;have fF:=F.frozen;have cR:=R.cell;have fR:=R.frozen;go_wp2_with fail
   clear cC fC pC cD fD pD cF fF pF cR fR pR;generalize (wr.alloc (.cells #[.int .i64 x.x.lo,.int .i64 x.x.hi,.int .i64 x.y.lo,.int .i64 x.y.hi,.int .i64 x.u.lo,.int .i64 x.u.hi,.int .i64 x.v.lo,.int .i64 x.v.hi] 33))=w2 at *;obtain⟨z,hx⟩:∃ q9,q9=wr.heap.size:=⟨_,rfl⟩;rw[← hx] at X ⊢;replace hx:=Lib.hid hx;have hxw:wr.heap.size≤z:=by have:=hx.out;omega
   clear hx hzn d0 d1 d2 d3 d4 d5 d6 d7;obtain⟨S,hS0,hS1⟩:=cls_of2 (P:=fun w'=>Blk w' _ _ _∧Blk w' _ _ _∧Blk w' _ _ _∧Blk w' _ _ _∧Blk w' _ _ _∧Kp _ _ _ w') w2 ⟨C,D,F,X,R,K⟩;try dsimp only at hS0
   have cC:=fun (x:Ev (S 0)) i=>((hS0 _).1 x.h).1.cell i;have cD:=fun (x:Ev (S 0)) i=>((hS0 _).1 x.h).2.1.cell i;have cF:=fun (x:Ev (S 0)) i=>((hS0 _).1 x.h).2.2.1.cell i;have cX:=fun (x:Ev (S 0)) i=>((hS0 _).1 x.h).2.2.2.1.cell i;have cR:=fun (x:Ev (S 0)) i=>((hS0 _).1 x.h).2.2.2.2.1.cell i;have cq:=fun (x:Ev (S 0))=>((((hS0 _).1 x.h).2.2.2.2.2).cell _ _ hqlt (by first|(simp;done)|exact sne (by omega))).trans cq;replace C:=C.drew;replace D:=D.drew;replace F:=F.drew;replace X:=X.drew;replace R:=R.drew;replace K:=K.drew;have hevT:=ev_true;refine wp_region_ord S [(0,0),(1,1),(2,0),(3,0),(4,0),(5,1),(6,0),(7,0),(8,3)] [8] (by kernel_rfl) (by kernel_rfl) ((hS0 _).2 ⟨C,D,F,X,R,K⟩) ?_;intro _hev;iterate 8 (first|((first|refine oV ?_|refine oQ ?_);intro K hK;go_big_quiet_op;go_big_quiet_on)|refine oS ?_)
   refine oA ?_;intro Kc hKc;generalize w2.drew=wd9 at *;have cR:=C.cell;have fR:=C.frozen;go_step;obtain⟨w9,hwn,RB9,kst,hzst⟩:=C.sto1_2 (.int .i64 (S3+v));rw[← hwn];clear hwn cR fR;refine hKc _ _ ((hS1 _).2 trivial) ?_;clear hKc Kc;replace D:=D.kq kst (by omega);replace F:=F.kq kst (by omega);replace X:=X.kq kst (by omega);replace R:=R.kq kst (by omega);first|replace K:=K.thenOwn kst (Nat.le_refl _) (by omega)|replace K:=K.then_ kst (Nat.le_refl _)
   replace C:=RB9;clear RB9 kst;simp only[sbt,sc0,scs] at C;change wpOrd _ _ _ _ _ 1 _ _;refine wpOrd_nil ?_;clear hevT _hev;clear cq;clear cC cD cF cX cR hS0 hS1 S;have cC:=C.cell;have fC:=C.frozen;have cD:=D.cell;have fD:=D.frozen;have cF:=F.cell;have fF:=F.frozen;have cX:=X.cell;have fX:=X.frozen;have cR:=R.cell;have fR:=R.frozen;go_wp2_with fail
   refine(hcf _ (hA.kpN K)).mono ?_;rintro e w10 ⟨pn,rfl,k⟩;clear cC fC cD fD cF fF cX fX cR fR;replace C:=C.kpN k;replace D:=D.kpN k;replace F:=F.kpN k;replace X:=X.kpN k;replace R:=R.kpN k;replace K:=K.tN k;have hzk:=k.size;clear k;clear hzk;have ff:=field_fate;cases k9
   ·
    have hs9:=hst.out 0 0 (by simp) (by simp);simp only[Int.add_zero] at hs9;replace hs9:=Lib.hid hs9;clear hst;simp only[fkI];go_wp2
    go_roundw
    case rel=>exact⟨i+1,by congr 1,by rw[hpl.out];have:=h.out;omega,by rw[hs9.out.1,hs9.out.2.1,hs9.out.2.2];exact C,D,F,R,K⟩
    case measure=>exact hm.out
   ·
    have hs9:=hst.out 0 v (by simp) (by simp);simp only[Int.add_zero] at hs9;replace hs9:=Lib.hid hs9;clear hst;simp only[fkI];go_wp2_with fail
    obtain⟨S,hS0,hS1⟩:=cls_of2 (P:=fun w'=>Blk w' _ _ _∧Blk w' _ _ _∧Blk w' _ _ _∧Blk w' _ _ _∧Blk w' _ _ _∧Kp _ _ _ w') w10 ⟨C,D,F,X,R,K⟩;try dsimp only at hS0
    have cC:=fun (x:Ev (S 0)) i=>((hS0 _).1 x.h).1.cell i;have cD:=fun (x:Ev (S 0)) i=>((hS0 _).1 x.h).2.1.cell i;have cF:=fun (x:Ev (S 0)) i=>((hS0 _).1 x.h).2.2.1.cell i;have cX:=fun (x:Ev (S 0)) i=>((hS0 _).1 x.h).2.2.2.1.cell i;have cR:=fun (x:Ev (S 0)) i=>((hS0 _).1 x.h).2.2.2.2.1.cell i;have cq:=fun (x:Ev (S 0))=>((((hS0 _).1 x.h).2.2.2.2.2).cell _ _ hqlt (by first|(simp;done)|exact sne (by omega))).trans cq;replace C:=C.drew;replace D:=D.drew;replace F:=F.drew;replace X:=X.drew;replace R:=R.drew;replace K:=K.drew;have hevT:=ev_true;refine wp_region_ord S [(0,0),(1,1),(2,0),(3,0),(4,0),(5,1),(6,0),(7,0),(8,3)] [8] (by kernel_rfl) (by kernel_rfl) ((hS0 _).2 ⟨C,D,F,X,R,K⟩) ?_;intro _hev;iterate 8 (first|((first|refine oV ?_|refine oQ ?_);intro K hK;go_big_quiet_op;go_big_quiet_on)|refine oS ?_)
    refine oA ?_;intro Kc hKc;generalize w10.drew=wd9 at *;have cR:=C.cell;have fR:=C.frozen;go_step;obtain⟨w11,hwn,RB9,kst,hzst⟩:=C.sto1_1 (.int .i64 (S2+v));rw[← hwn];clear hwn cR fR;refine hKc _ _ ((hS1 _).2 trivial) ?_;clear hKc Kc;replace D:=D.kq kst (by omega);replace F:=F.kq kst (by omega);replace X:=X.kq kst (by omega);replace R:=R.kq kst (by omega);first|replace K:=K.thenOwn kst (Nat.le_refl _) (by omega)|replace K:=K.then_ kst (Nat.le_refl _)
    replace C:=RB9;clear RB9 kst;simp only[sbt,sc0,scs] at C;change wpOrd _ _ _ _ _ 1 _ _;refine wpOrd_nil ?_;clear hevT _hev;clear cq;clear cC cD cF cX cR hS0 hS1 S;go_wp2
    go_roundw
    case rel=>exact⟨i+1,by congr 1,by rw[hpl.out];have:=h.out;omega,by rw[hs9.out.1,hs9.out.2.1,hs9.out.2.2];exact C,D,F,R,K⟩
    case measure=>exact hm.out
   ·
    have hs9:=Lib.hid (hst.out v v (by simp) (by simp));clear hst;simp only[fkI];go_wp2_with fail
    obtain⟨S,hS0,hS1⟩:=cls_of2 (P:=fun w'=>Blk w' _ _ _∧Blk w' _ _ _∧Blk w' _ _ _∧Blk w' _ _ _∧Blk w' _ _ _∧Kp _ _ _ w') w10 ⟨C,D,F,X,R,K⟩;try dsimp only at hS0
    have cC:=fun (x:Ev (S 0)) i=>((hS0 _).1 x.h).1.cell i;have cD:=fun (x:Ev (S 0)) i=>((hS0 _).1 x.h).2.1.cell i;have cF:=fun (x:Ev (S 0)) i=>((hS0 _).1 x.h).2.2.1.cell i;have cX:=fun (x:Ev (S 0)) i=>((hS0 _).1 x.h).2.2.2.1.cell i;have cR:=fun (x:Ev (S 0)) i=>((hS0 _).1 x.h).2.2.2.2.1.cell i;have cq:=fun (x:Ev (S 0))=>((((hS0 _).1 x.h).2.2.2.2.2).cell _ _ hqlt (by first|(simp;done)|exact sne (by omega))).trans cq;replace C:=C.drew;replace D:=D.drew;replace F:=F.drew;replace X:=X.drew;replace R:=R.drew;replace K:=K.drew;have hevT:=ev_true;refine wp_region_ord S [(0,0),(1,1),(2,0),(3,0),(4,0),(5,1),(6,0),(7,0),(8,3)] [8] (by kernel_rfl) (by kernel_rfl) ((hS0 _).2 ⟨C,D,F,X,R,K⟩) ?_;intro _hev;iterate 8 (first|((first|refine oV ?_|refine oQ ?_);intro K hK;go_big_quiet_op;go_big_quiet_on)|refine oS ?_)
    refine oA ?_;intro Kc hKc;generalize w10.drew=wd9 at *;have cR:=C.cell;have fR:=C.frozen;go_step;obtain⟨w11,hwn,RB9,kst,hzst⟩:=C.sto1_0 (.int .i64 (S1+v));rw[← hwn];clear hwn cR fR;refine hKc _ _ ((hS1 _).2 trivial) ?_;clear hKc Kc;replace D:=D.kq kst (by omega);replace F:=F.kq kst (by omega);replace X:=X.kq kst (by omega);replace R:=R.kq kst (by omega);first|replace K:=K.thenOwn kst (Nat.le_refl _) (by omega)|replace K:=K.then_ kst (Nat.le_refl _)
    replace C:=RB9;clear RB9 kst;simp only[sbt,sc0,scs] at C;change wpOrd _ _ _ _ _ 1 _ _;refine wpOrd_nil ?_;clear hevT _hev;clear cq;clear cC cD cF cX cR hS0 hS1 S;go_wp2_with fail
    obtain⟨S,hS0,hS1⟩:=cls_of2 (P:=fun w'=>Blk w' _ _ _∧Blk w' _ _ _∧Blk w' _ _ _∧Blk w' _ _ _∧Blk w' _ _ _∧Kp _ _ _ w') w11 ⟨C,D,F,X,R,K⟩;try dsimp only at hS0
    have cC:=fun (x:Ev (S 0)) i=>((hS0 _).1 x.h).1.cell i;have cD:=fun (x:Ev (S 0)) i=>((hS0 _).1 x.h).2.1.cell i;have cF:=fun (x:Ev (S 0)) i=>((hS0 _).1 x.h).2.2.1.cell i;have cX:=fun (x:Ev (S 0)) i=>((hS0 _).1 x.h).2.2.2.1.cell i;have cR:=fun (x:Ev (S 0)) i=>((hS0 _).1 x.h).2.2.2.2.1.cell i;have cq:=fun (x:Ev (S 0))=>((((hS0 _).1 x.h).2.2.2.2.2).cell _ _ hqlt (by first|(simp;done)|exact sne (by omega))).trans cq;replace C:=C.drew;replace D:=D.drew;replace F:=F.drew;replace X:=X.drew;replace R:=R.drew;replace K:=K.drew;have hevT:=ev_true;refine wp_region_ord S [(0,0),(1,1),(2,0),(3,0),(4,0),(5,1),(6,0),(7,0),(8,3)] [8] (by kernel_rfl) (by kernel_rfl) ((hS0 _).2 ⟨C,D,F,X,R,K⟩) ?_;intro _hev;iterate 8 (first|((first|refine oV ?_|refine oQ ?_);intro K hK;go_big_quiet_op;go_big_quiet_on)|refine oS ?_)
    refine oA ?_;intro Kc hKc;generalize w11.drew=wd9 at *;have cR:=C.cell;have fR:=C.frozen;go_step;obtain⟨w12,hwn,RB9,kst,hzst⟩:=C.sto1_1 (.int .i64 (S2+v));rw[← hwn];clear hwn cR fR;refine hKc _ _ ((hS1 _).2 trivial) ?_;clear hKc Kc;replace D:=D.kq kst (by omega);replace F:=F.kq kst (by omega);replace X:=X.kq kst (by omega);replace R:=R.kq kst (by omega);first|replace K:=K.thenOwn kst (Nat.le_refl _) (by omega)|replace K:=K.then_ kst (Nat.le_refl _)
    replace C:=RB9;clear RB9 kst;simp only[sbt,sc0,scs] at C;change wpOrd _ _ _ _ _ 1 _ _;refine wpOrd_nil ?_;clear hevT _hev;clear cq;clear cC cD cF cX cR hS0 hS1 S;go_wp2
    go_roundw
    case rel=>exact⟨i+1,by congr 1,by rw[hpl.out];have:=h.out;omega,by rw[hs9.out.1,hs9.out.2.1,hs9.out.2.2];exact C,D,F,R,K⟩
    case measure=>exact hm.out
  ·
   obtain rfl:i=l.length:=by omega
   rw[← hpl.out,List.take_length] at C;obtain⟨S1,hS1⟩:∃ q9,Hid (q9=sumIf (isHit W d n t) ps):=⟨_,Lib.hid rfl⟩;obtain⟨S2,hS2⟩:∃ q9,Hid (q9=sumIf (notMiss W d n t) ps):=⟨_,Lib.hid rfl⟩;obtain⟨S3,hS3⟩:∃ q9,Hid (q9=sumIf anyB ps):=⟨_,Lib.hid rfl⟩;rw[← hS1.out,← hS2.out,← hS3.out] at C;clear hr hq2 hb hA h hi;have cC:=C.cell;have cR:=R.cell;have fR:=R.frozen;go_wp2_with fail
   obtain⟨w9,hw9,R9,kst,hzst⟩:=R.st3 (.int .i64 S1) (.int .i64 S2) (.int .i64 S3);rw[← hw9];have K9:=K.thenOwn kst (Nat.le_refl _) (by omega);clear cR fR;have cR:=R9.cell;exact bodyPost_ret (v:=.tuple #[.agg #[.int .i64 S1,.int .i64 S2,.int .i64 S3],.int .i64 0]) (by simp[results,Tryz.results16,go_sem,cR]) rfl ⟨by rw[hS1.out,hS2.out,hS3.out],K9⟩
def F4At (g:Nat) (nums:List Int) (k:Nat) (w:World) (a:Value) (wr:World):Prop:=
 ∃ i:Nat,a=.int .i64 i∧i≤4∧∃ (x0 x1 x2 x3:Int) (k':Nat),k'≤k+2 * i∧Blk wr (w.heap.size+1) 125 #[.int .i64 x0,.int .i64 x1,.int .i64 x2,.int .i64 x3] ∧
  Blk wr w.heap.size 125 #[.int .i64 0,.int .i64 0,.int .i64 0,.int .i64 0]∧RingAt wr g nums k'∧Kp w.heap.size (some g) w wr
set_option maxHeartbeats 1000000 in
theorem func4_any (g:Nat) (nums:List Int) (k:Nat) (w:World) (h:RingAt w g nums k) (hk:k≤900000) :
  Calls Tryz.prog 63 #[.pointer (some ⟨g,0,none⟩)] w (RPostB g nums (k+8) w fun v _=>∃ x0 x1 x2 x3:Int,v=.agg #[.int .i64 x0,.int .i64 x1,.int .i64 x2,.int .i64 x3]):=by
 have hg:=h.lt;have R0:=(Blk.new w 125 #[.int .i64 0,.int .i64 0,.int .i64 0,.int .i64 0]).alloc (.cells #[.int .i64 0,.int .i64 0,.int .i64 0,.int .i64 0] 125);have S0:=Blk.newAt (w.alloc (.cells #[.int .i64 0,.int .i64 0,.int .i64 0,.int .i64 0] 125)) 125 #[.int .i64 0,.int .i64 0,.int .i64 0,.int .i64 0] (n:=w.heap.size+1) (by simp);have K0:=((Kp.refl w.heap.size (some g) w).alloc (Nat.le_refl _) (.cells #[.int .i64 0,.int .i64 0,.int .i64 0,.int .i64 0] 125)).alloc (by simp) (.cells #[.int .i64 0,.int .i64 0,.int .i64 0,.int .i64 0] 125);have HR0:=(h.alloc (.cells #[.int .i64 0,.int .i64 0,.int .i64 0,.int .i64 0] 125)).alloc (.cells #[.int .i64 0,.int .i64 0,.int .i64 0,.int .i64 0] 125);go_enter Tryz.func63,Tryz.ntmps63
 go_wp2_with fail
 generalize (w.alloc (.cells #[.int .i64 0,.int .i64 0,.int .i64 0,.int .i64 0] 125)).alloc (.cells #[.int .i64 0,.int .i64 0,.int .i64 0,.int .i64 0] 125)=w1 at *;go_loopw [4,5] (fun a _ wr=>F4At g nums k w a wr) (fun a _ _=>4-(intOf a).toNat)
 case atStart=>exact⟨0,rfl,by omega,0,0,0,0,k,by omega,S0,R0,HR0,K0⟩
 case round=>
  clear S0 R0 HR0 K0 h;obtain⟨i,rfl,hi,x0,x1,x2,x3,k',hk',S,R,HR,K⟩:=hrel;by_cases hc:i<4
  ·
   rcases (show i=0∨i=1∨i=2∨i=3 by omega) with rfl|rfl|rfl|rfl
   ·
    go_wp2_with fail
    refine(next_any g nums k' _ _ HR (by omega) (by omega) (by omega)).mono ?_;rintro e w2 ⟨v,rfl,⟨a,rfl,ha1,ha2⟩,HR2,k2⟩;replace S:=S.kq k2 (by omega);replace R:=R.kq k2 (by omega);replace K:=K.then_ k2 (Nat.le_refl _);clear HR k2;have cS:=S.cell;have fS:=S.frozen;obtain⟨w3,hw3,S3,kst,hz⟩:=S.sto1_0 (.int .i64 a);simp only[sbt,sc0,scs] at S3;go_wp2_with fail
    rw[← hw3];replace R:=R.kq kst (by omega);replace K:=K.thenOwn kst (Nat.le_refl _) (by omega);clear hw3 cS fS S;refine(next_any g nums (k'+1) _ _ (HR2.kpRow kst (by omega)) (by omega) (by omega) (by omega)).mono ?_;rintro e w4 ⟨v,rfl,⟨b,rfl,hb1,hb2⟩,HR,k2⟩;replace S:=S3.kq k2 (by omega);replace R:=R.kq k2 (by omega);replace K:=K.then_ k2 (Nat.le_refl _);clear HR2 kst k2 S3 hz;by_cases hb:b<2
    ·
     have cS:=S.cell;have fS:=S.frozen;obtain⟨w3,hw3,S3,kst,hz⟩:=S.sto1_0 (.int .i64 (-b));simp only[sbt,sc0,scs] at S3;go_wp2
     rw[← hw3];go_roundw
     case rel=>exact⟨1,rfl,by omega,_,_,_,_,k'+2,by omega,S3,R.kq kst (by omega),HR.kpRow kst (by omega),K.thenOwn kst (Nat.le_refl _) (by omega)⟩
     case measure=>simp[intOf]
    ·
     have hb':¬ b<2:=hb;go_wp2
     go_roundw
     case rel=>exact⟨1,rfl,by omega,_,_,_,_,k'+2,by omega,S,R,HR,K⟩
     case measure=>simp[intOf]
   ·
    go_wp2_with fail
    refine(next_any g nums k' _ _ HR (by omega) (by omega) (by omega)).mono ?_;rintro e w2 ⟨v,rfl,⟨a,rfl,ha1,ha2⟩,HR2,k2⟩;replace S:=S.kq k2 (by omega);replace R:=R.kq k2 (by omega);replace K:=K.then_ k2 (Nat.le_refl _);clear HR k2;have cS:=S.cell;have fS:=S.frozen;obtain⟨w3,hw3,S3,kst,hz⟩:=S.sto1_1 (.int .i64 a);simp only[sbt,sc0,scs] at S3;go_wp2_with fail
    rw[← hw3];replace R:=R.kq kst (by omega);replace K:=K.thenOwn kst (Nat.le_refl _) (by omega);clear hw3 cS fS S;refine(next_any g nums (k'+1) _ _ (HR2.kpRow kst (by omega)) (by omega) (by omega) (by omega)).mono ?_;rintro e w4 ⟨v,rfl,⟨b,rfl,hb1,hb2⟩,HR,k2⟩;replace S:=S3.kq k2 (by omega);replace R:=R.kq k2 (by omega);replace K:=K.then_ k2 (Nat.le_refl _);clear HR2 kst k2 S3 hz;by_cases hb:b<2
    ·
     have cS:=S.cell;have fS:=S.frozen;obtain⟨w3,hw3,S3,kst,hz⟩:=S.sto1_1 (.int .i64 (-b));simp only[sbt,sc0,scs] at S3;go_wp2
     rw[← hw3];go_roundw
     case rel=>exact⟨2,rfl,by omega,_,_,_,_,k'+2,by omega,S3,R.kq kst (by omega),HR.kpRow kst (by omega),K.thenOwn kst (Nat.le_refl _) (by omega)⟩
     case measure=>simp[intOf]
    ·
     have hb':¬ b<2:=hb;go_wp2
     go_roundw
     case rel=>exact⟨2,rfl,by omega,_,_,_,_,k'+2,by omega,S,R,HR,K⟩
     case measure=>simp[intOf]
   ·
    go_wp2_with fail
    refine(next_any g nums k' _ _ HR (by omega) (by omega) (by omega)).mono ?_;rintro e w2 ⟨v,rfl,⟨a,rfl,ha1,ha2⟩,HR2,k2⟩;replace S:=S.kq k2 (by omega);replace R:=R.kq k2 (by omega);replace K:=K.then_ k2 (Nat.le_refl _);clear HR k2;have cS:=S.cell;have fS:=S.frozen;obtain⟨w3,hw3,S3,kst,hz⟩:=S.sto1_2 (.int .i64 a);simp only[sbt,sc0,scs] at S3;go_wp2_with fail
    rw[← hw3];replace R:=R.kq kst (by omega);replace K:=K.thenOwn kst (Nat.le_refl _) (by omega);clear hw3 cS fS S;refine(next_any g nums (k'+1) _ _ (HR2.kpRow kst (by omega)) (by omega) (by omega) (by omega)).mono ?_;rintro e w4 ⟨v,rfl,⟨b,rfl,hb1,hb2⟩,HR,k2⟩;replace S:=S3.kq k2 (by omega);replace R:=R.kq k2 (by omega);replace K:=K.then_ k2 (Nat.le_refl _);clear HR2 kst k2 S3 hz;by_cases hb:b<2
    ·
     have cS:=S.cell;have fS:=S.frozen;obtain⟨w3,hw3,S3,kst,hz⟩:=S.sto1_2 (.int .i64 (-b));simp only[sbt,sc0,scs] at S3;go_wp2
     rw[← hw3];go_roundw
     case rel=>exact⟨3,rfl,by omega,_,_,_,_,k'+2,by omega,S3,R.kq kst (by omega),HR.kpRow kst (by omega),K.thenOwn kst (Nat.le_refl _) (by omega)⟩
     case measure=>simp[intOf]
    ·
     have hb':¬ b<2:=hb;go_wp2
     go_roundw
     case rel=>exact⟨3,rfl,by omega,_,_,_,_,k'+2,by omega,S,R,HR,K⟩
     case measure=>simp[intOf]
   ·
    go_wp2_with fail
    refine(next_any g nums k' _ _ HR (by omega) (by omega) (by omega)).mono ?_;rintro e w2 ⟨v,rfl,⟨a,rfl,ha1,ha2⟩,HR2,k2⟩;replace S:=S.kq k2 (by omega);replace R:=R.kq k2 (by omega);replace K:=K.then_ k2 (Nat.le_refl _);clear HR k2;have cS:=S.cell;have fS:=S.frozen;obtain⟨w3,hw3,S3,kst,hz⟩:=S.sto1_3 (.int .i64 a);simp only[sbt,sc0,scs] at S3;go_wp2_with fail
    rw[← hw3];replace R:=R.kq kst (by omega);replace K:=K.thenOwn kst (Nat.le_refl _) (by omega);clear hw3 cS fS S;refine(next_any g nums (k'+1) _ _ (HR2.kpRow kst (by omega)) (by omega) (by omega) (by omega)).mono ?_;rintro e w4 ⟨v,rfl,⟨b,rfl,hb1,hb2⟩,HR,k2⟩;replace S:=S3.kq k2 (by omega);replace R:=R.kq k2 (by omega);replace K:=K.then_ k2 (Nat.le_refl _);clear HR2 kst k2 S3 hz;by_cases hb:b<2
    ·
     have cS:=S.cell;have fS:=S.frozen;obtain⟨w3,hw3,S3,kst,hz⟩:=S.sto1_3 (.int .i64 (-b));simp only[sbt,sc0,scs] at S3;go_wp2
     rw[← hw3];go_roundw
     case rel=>exact⟨4,rfl,by omega,_,_,_,_,k'+2,by omega,S3,R.kq kst (by omega),HR.kpRow kst (by omega),K.thenOwn kst (Nat.le_refl _) (by omega)⟩
     case measure=>simp[intOf]
    ·
     have hb':¬ b<2:=hb;go_wp2
     go_roundw
     case rel=>exact⟨4,rfl,by omega,_,_,_,_,k'+2,by omega,S,R,HR,K⟩
     case measure=>simp[intOf]
  ·
   obtain rfl:i=4:=by omega
   have cS:=S.cell;have cR:=R.cell;have fR:=R.frozen;obtain⟨w3,hw3,R3,kst,hz⟩:=R.st4 (.int .i64 x0) (.int .i64 x1) (.int .i64 x2) (.int .i64 x3);simp only[sbt,sc0,scs] at R3;go_wp2
   rw[← hw3];have c3:=R3.cell;exact bodyPost_ret (v:=.agg #[.int .i64 x0,.int .i64 x1,.int .i64 x2,.int .i64 x3]) (by simp[results,Tryz.results63,go_sem,c3]) rfl ⟨_,k',rfl,⟨_,_,_,_,rfl⟩,by omega,HR.kpRow kst (by omega),K.thenOwn kst (Nat.le_refl _) (by omega)⟩
end Go.Proofs.YtdhiappifnflpaaGreat
