/- Makers of the kit: SightOf. -/
import Derived.Test.YtdhiappifnflpaaGreatZj
import Derived.Test.YtdhiappifnflpaaGreatM40
import Derived.Test.YtdhiappifnflpaaGreatM07
set_option maxRecDepth 100000
set_option maxHeartbeats 8000000
namespace Go.Proofs.YtdhiappifnflpaaGreat
open Go.RowKit
theorem Blk.sto1_7 {w:World} {r:Nat} {T:TypeId} {cs:Array Value} (h:Blk w r T cs) (x0:Value):∃ w',w'=(w.setCell ⟨r,7,none⟩ x0)∧Blk w' r T (cs.setIfInBounds 7 x0)∧Kp w.heap.size (some r) w w'∧w'.heap.size=w.heap.size:=
 ⟨_,rfl,h.set_ _ x0,(Kp.refl _ (some r) w).setRow (p:=⟨r,_,none⟩) rfl _,by simp[World.setCell]⟩
theorem Blk.sto1_8 {w:World} {r:Nat} {T:TypeId} {cs:Array Value} (h:Blk w r T cs) (x0:Value):∃ w',w'=(w.setCell ⟨r,8,none⟩ x0)∧Blk w' r T (cs.setIfInBounds 8 x0)∧Kp w.heap.size (some r) w w'∧w'.heap.size=w.heap.size:=
 ⟨_,rfl,h.set_ _ x0,(Kp.refl _ (some r) w).setRow (p:=⟨r,_,none⟩) rfl _,by simp[World.setCell]⟩
theorem Blk.sto1_4' {w:World} {r:Nat} {T:TypeId} {cs:Array Value} (h:Blk w r T cs) (x0:Value):∃ w',w'=(w.setCell ⟨r,4,none⟩ x0)∧Blk w' r T (cs.setIfInBounds 4 x0)∧Kp w.heap.size (some r) w w'∧w'.heap.size=w.heap.size:=
 ⟨_,rfl,h.set_ _ x0,(Kp.refl _ (some r) w).setRow (p:=⟨r,_,none⟩) rfl _,by simp[World.setCell]⟩
theorem Blk.sto2_4' {w:World} {r:Nat} {T:TypeId} {cs:Array Value} (h:Blk w r T cs) (x0 x1:Value):∃ w',w'=((w.setCell ⟨r,4,none⟩ x0).setCell ⟨r,5,none⟩ x1)∧Blk w' r T ((cs.setIfInBounds 4 x0).setIfInBounds 5 x1)∧Kp w.heap.size (some r) w w'∧w'.heap.size=w.heap.size:=
 ⟨_,rfl,(h.set_ _ x0).set_ _ x1,((Kp.refl _ (some r) w).setRow (p:=⟨r,_,none⟩) rfl _).setRow (p:=⟨r,_,none⟩) rfl _,by simp[World.setCell]⟩
theorem Blk.sto3_4' {w:World} {r:Nat} {T:TypeId} {cs:Array Value} (h:Blk w r T cs) (x0 x1 x2:Value):∃ w',w'=(((w.setCell ⟨r,4,none⟩ x0).setCell ⟨r,5,none⟩ x1).setCell ⟨r,6,none⟩ x2)∧Blk w' r T (((cs.setIfInBounds 4 x0).setIfInBounds 5 x1).setIfInBounds 6 x2)∧Kp w.heap.size (some r) w w'∧w'.heap.size=w.heap.size:=
 ⟨_,rfl,((h.set_ _ x0).set_ _ x1).set_ _ x2,(((Kp.refl _ (some r) w).setRow (p:=⟨r,_,none⟩) rfl _).setRow (p:=⟨r,_,none⟩) rfl _).setRow (p:=⟨r,_,none⟩) rfl _,by simp[World.setCell]⟩
theorem stI_mem {l:List Stn} {j:Nat} (hj:j<l.length):∃ i:Nat,stI l l[j].id=i∧i<l.length:=by
 have h:l.findIdx (fun x=>decide (x.id=l[j].id))<l.length:=by
  rw[List.findIdx_lt_length];exact⟨l[j],List.getElem_mem hj,by simp⟩
 exact⟨_,by unfold stI;rw[if_pos h],h⟩
theorem tdiv2 (x:Int):(x.tdiv 2).natAbs=x.natAbs / 2:=by rw[Int.natAbs_tdiv];rfl
def SgtP (t:Int) (v:Value):Prop:=∃ x:Sg,v=.agg x∧x.tick=t
theorem sightOf_any (g:Nat) (nums:List Int) (k:Nat) (A B C:Option Addr) (ca cb cc:Nat) (S:Sky) (t:Int) (p:Pt) (w:World) (HR:RingAt w g nums k) (hk:k≤800000) (hS:S.ok) (hA:WdAt (some g) w A S.W) (hr:Rd (some g) w 3 encStn B S.st.length S.st) (hc:Rd (some g) w 3 encCat C S.ct.length S.ct)
  (ht:0≤t∧t≤1073741824) (hp:NearP p) :
  Calls Tryz.prog 32 #[.pointer (some ⟨g,0,none⟩),.agg #[.slice A S.W.bs.length ca,S.W.home,.slice B S.st.length cb,.slice C S.ct.length cc],t,.agg #[p.x,p.y]] w (RPostB g nums (k+10) w (fun v _=>SgtP t v)):=by
 have hg:=HR.lt;have s0:=hS.s0;have s1:=hS.s1;have c0:=hS.c0;have c1:=hS.c1;have cw:=fun id i w h h2 h3 hi hil=>r2_Where_any A B C ca cb cc S id t i w hS h h2 h3 hi hil ht;clear hS ht;unfold NearP at hp;obtain⟨w1,hw1,Z,P,R,K,hz⟩:=box3 w 43 #[.slice A S.W.bs.length ca,S.W.home,.slice B S.st.length cb,.slice C S.ct.length cc] 73 #[p.x,p.y] 90 #[(0:Int),(0:Int),(0:Int),(0:Int),(0:Int),(0:Int),(0:Int),(0:Int),(0:Int)];replace HR:=HR.kpN K;replace K:=K.wide (some g);go_enter Tryz.func32,Tryz.ntmps32
 go_upto_region 1 with(fail)
 rw[← hw1];clear hw1
 go_cut [9] (fun v9 wx=>∃ (xb:Nat) (kd sn ct:Int),v9=.pointer (some ⟨xb,0,none⟩)∧w.heap.size+3≤xb∧(∃ i:Nat,stI S.st sn=i∧i<S.st.length)∧Blk wx xb 90 #[kd,sn,ct,t,(0:Int),(0:Int),(0:Int),(0:Int),(0:Int)] ∧
  Blk wx w.heap.size 43 #[.slice A S.W.bs.length ca,S.W.home,.slice B S.st.length cb,.slice C S.ct.length cc]∧Blk wx (w.heap.size+1) 73 #[p.x,p.y]∧Blk wx (w.heap.size+2) 90 #[(0:Int),(0:Int),(0:Int),(0:Int),(0:Int),(0:Int),(0:Int),(0:Int),(0:Int)]∧RingAt wx g nums (k+3)∧Kp w.heap.size (some g) w wx)
 case first=>
  obtain⟨S0,hS⟩:∃ S0:World→Prop,S0=fun w'=>Blk w' w.heap.size 43 #[.slice A S.W.bs.length ca,S.W.home,.slice B S.st.length cb,.slice C S.ct.length cc]∧Kp w.heap.size (some g) w w':=⟨_,rfl⟩;have hS0:∀ w',S0 w'↔(Blk w' w.heap.size 43 #[.slice A S.W.bs.length ca,S.W.home,.slice B S.st.length cb,.slice C S.ct.length cc]∧Kp w.heap.size (some g) w w'):=fun w'=>by rw[hS]
  clear hS;have cz:=fun (q:Ev S0) i=>((hS0 _).1 q.h).1.cell i;have KF:=K.drew;have Zf:=Z.drew;have Pf:=P.drew;have Rf:=R.drew;have Hf:=HR.drew;clear K Z P R HR;have hevT:=ev_true;refine wp_region_tr S0 (.st 0 0 (.st 3 0 (.st 4 0 (.st 5 1 (.st 6 0 (.st 7 0 (.st 8 1 (.st 9 0 (.st 14 0 (.st 15 1 (.st 16 0 (.st 17 0 (.st 18 1 (.st 19 0 (.b2 1 (.st 2 0 (.b2 10 (.st 11 0 (.st 12 0 (.st 13 1 (.b2 20 (.st 21 0 (.st 22 0 (.st 23 1 (.st 24 0 (.st 25 2 (.st 26 2 .nil)))))) 25 (.st 20 2 (.st 21 0 (.st 22 0 (.st 23 1 (.st 24 0 (.st 26 2 .nil)))))))))) 25 (.st 10 2 (.st 11 0 (.st 12 0 (.st 13 1 (.st 20 2 (.st 21 0 (.st 22 0 (.st 23 1 (.st 24 0 (.st 26 2 .nil)))))))))))) 25 (.st 1 2 (.st 2 0 (.st 10 2 (.st 11 0 (.st 12 0 (.st 13 1 (.st 20 2 (.st 21 0 (.st 22 0 (.st 23 1 (.st 24 0 (.st 26 2 .nil))))))))))))))))))))))))))) (by kernel_rfl) (by kernel_rfl) ((hS0 _).2 ⟨Zf,KF⟩) ?_;intro _hev;refine tX ?_;refine wpTr_b2 ?_ ?_
  ·
   refine wpOne_l rfl rfl ?_;intro K hK;generalize w1.drew=wq at *;go_step;refine(next_any g nums k _ _ Hf oM oM oM).mono ?_;rintro e wq ⟨v9,rfl,⟨kd0,rfl,hkd0,hkd1⟩,HR9,k9⟩;replace KF:=KF.then_ k9 (Nat.le_refl _);replace Zf:=Zf.kq k9;replace Pf:=Pf.kq k9;replace Rf:=Rf.kq k9;try replace Xf:=Xf.kq k9
   replace Hf:=HR9;refine hK _ _ ((hS0 _).2 ⟨Zf,KF⟩) ?_;clear hK K k9 HR9;refine tX ?_;refine wpTr_b2 ?_ ?_
   ·
    refine wpOne_l rfl rfl ?_;intro K hK;go_step;refine(next_any g nums (k+1) _ _ Hf oM oM oM).mono ?_;rintro e wq ⟨v9,rfl,⟨j0,rfl,hj0,hj1⟩,HR9,k9⟩;obtain⟨j,rfl⟩:=Int.eq_ofNat_of_zero_le hj0;replace KF:=KF.then_ k9 (Nat.le_refl _);replace Zf:=Zf.kq k9;replace Pf:=Pf.kq k9;replace Rf:=Rf.kq k9;try replace Xf:=Xf.kq k9
    replace Hf:=HR9;have hjl:j<S.st.length:=by omega
    obtain⟨bb,o,rfl,hlt,hbg,hcc⟩:=hr.at_ oM;have cj:=fun (q:Ev S0)=>((((hS0 _).1 q.h).2).cell bb (o+(j * 3+0)) hlt hbg).trans (hcc j hjl 0 _ rfl);simp only[Nat.add_zero] at cj;have hsn:=stI_mem hjl;generalize S.st[j].id=sn at *;refine hK _ _ ((hS0 _).2 ⟨Zf,KF⟩) ?_;clear hK K k9 HR9 hcc;refine tX ?_;refine wpTr_b2 ?_ ?_
    ·
     refine wpOne_l rfl rfl ?_;intro K hK;go_step;refine(next_any g nums (k+1+1) _ _ Hf oM oM oM).mono ?_;rintro e wq ⟨v9,rfl,⟨l0,rfl,hl0,hl1⟩,HR9,k9⟩;obtain⟨l,rfl⟩:=Int.eq_ofNat_of_zero_le hl0;replace KF:=KF.then_ k9 (Nat.le_refl _);replace Zf:=Zf.kq k9;replace Pf:=Pf.kq k9;replace Rf:=Rf.kq k9;try replace Xf:=Xf.kq k9
     replace Hf:=HR9;have hll:l<S.ct.length:=by omega
     obtain⟨bc,oc,rfl,hltc,hbgc,hcc⟩:=hc.at_ oM;have cl:=fun (q:Ev S0)=>((((hS0 _).1 q.h).2).cell bc (oc+(l * 3+0)) hltc hbgc).trans (hcc l hll 0 _ rfl);simp only[Nat.add_zero] at cl;generalize S.ct[l].ver=ct at *;refine hK _ _ ((hS0 _).2 ⟨Zf,KF⟩) ?_;clear hK K k9 HR9 hcc;refine tX ?_;refine wpTr_l rfl rfl ?_;intro K hK;have gR:=Rf.lt;go_step;have Xf:=Blk.new wq 90 #[(0:Int),(0:Int),(0:Int),(0:Int),(0:Int),(0:Int),(0:Int),(0:Int),(0:Int)];replace Zf:=Zf.alloc (.cells #[(0:Int),(0:Int),(0:Int),(0:Int),(0:Int),(0:Int),(0:Int),(0:Int),(0:Int)] 90);replace Pf:=Pf.alloc (.cells #[(0:Int),(0:Int),(0:Int),(0:Int),(0:Int),(0:Int),(0:Int),(0:Int),(0:Int)] 90);replace Rf:=Rf.alloc (.cells #[(0:Int),(0:Int),(0:Int),(0:Int),(0:Int),(0:Int),(0:Int),(0:Int),(0:Int)] 90);replace Hf:=Hf.alloc (.cells #[(0:Int),(0:Int),(0:Int),(0:Int),(0:Int),(0:Int),(0:Int),(0:Int),(0:Int)] 90);replace KF:=KF.alloc KF.size (.cells #[(0:Int),(0:Int),(0:Int),(0:Int),(0:Int),(0:Int),(0:Int),(0:Int),(0:Int)] 90);refine hK _ _ ((hS0 _).2 ⟨Zf,KF⟩) ?_;clear hK K;obtain⟨xb,hxb⟩:∃ xb,xb=wq.heap.size:=⟨_,rfl⟩;generalize wq.alloc (.cells #[(0:Int),(0:Int),(0:Int),(0:Int),(0:Int),(0:Int),(0:Int),(0:Int),(0:Int)] 90)=wy at *;rw[← hxb] at Xf gR ⊢;have hxw:w.heap.size+3≤xb:=by omega
     clear hxb gR;rename World=>wq;refine wpTr_l rfl rfl ?_;intro K hK;have cX:=Xf.cell;have fX:=Xf.frozen;go_step;obtain⟨wn,hwn,X9,kst,hzst⟩:=Xf.st9 (.int .i64 (1+kd0)) (.int .i64 sn) (.int .i64 ct) (.int .i64 t) (.int .i64 0) (.int .i64 0) (.int .i64 0) (.int .i64 0) (.int .i64 0);simp only[sbt,sc0,scs] at X9;rw[← hwn];replace Zf:=Zf.kq kst;replace Pf:=Pf.kq kst;replace Rf:=Rf.kq kst;replace Hf:=Hf.kpRow kst oM;replace KF:=KF.thenOwn kst (Nat.le_refl _) oM;refine hK _ _ ((hS0 _).2 ⟨Zf,KF⟩) ?_;clear hK K cX fX hwn kst hzst;refine wpTr_nil ?_;clear hevT _hev;go_wp2_with fail
     go_meet
     case rel=>exact⟨xb,1+kd0,sn,ct,rfl,hxw,hsn,X9,Zf,Pf,Rf,Hf,KF⟩
    ·
     refine wpOne_l rfl rfl ?_;intro K hK;have gR:=Rf.lt;go_step;have Xf:=Blk.new wq 90 #[(0:Int),(0:Int),(0:Int),(0:Int),(0:Int),(0:Int),(0:Int),(0:Int),(0:Int)];replace Zf:=Zf.alloc (.cells #[(0:Int),(0:Int),(0:Int),(0:Int),(0:Int),(0:Int),(0:Int),(0:Int),(0:Int)] 90);replace Pf:=Pf.alloc (.cells #[(0:Int),(0:Int),(0:Int),(0:Int),(0:Int),(0:Int),(0:Int),(0:Int),(0:Int)] 90);replace Rf:=Rf.alloc (.cells #[(0:Int),(0:Int),(0:Int),(0:Int),(0:Int),(0:Int),(0:Int),(0:Int),(0:Int)] 90);replace Hf:=Hf.alloc (.cells #[(0:Int),(0:Int),(0:Int),(0:Int),(0:Int),(0:Int),(0:Int),(0:Int),(0:Int)] 90);replace KF:=KF.alloc KF.size (.cells #[(0:Int),(0:Int),(0:Int),(0:Int),(0:Int),(0:Int),(0:Int),(0:Int),(0:Int)] 90);refine hK _ _ ((hS0 _).2 ⟨Zf,KF⟩) ?_;clear hK K;obtain⟨xb,hxb⟩:∃ xb,xb=wq.heap.size:=⟨_,rfl⟩;generalize wq.alloc (.cells #[(0:Int),(0:Int),(0:Int),(0:Int),(0:Int),(0:Int),(0:Int),(0:Int),(0:Int)] 90)=wy at *;rw[← hxb] at Xf gR ⊢;have hxw:w.heap.size+3≤xb:=by omega
     clear hxb gR;rename World=>wq;refine wpTr_l rfl rfl ?_;intro K hK;go_step;refine(next_any g nums (k+1+1) _ _ Hf oM oM oM).mono ?_;rintro e wq ⟨v9,rfl,⟨l0,rfl,hl0,hl1⟩,HR9,k9⟩;obtain⟨l,rfl⟩:=Int.eq_ofNat_of_zero_le hl0;replace KF:=KF.then_ k9 (Nat.le_refl _);replace Zf:=Zf.kq k9;replace Pf:=Pf.kq k9;replace Rf:=Rf.kq k9;try replace Xf:=Xf.kq k9
     replace Hf:=HR9;have hll:l<S.ct.length:=by omega
     obtain⟨bc,oc,rfl,hltc,hbgc,hcc⟩:=hc.at_ oM;have cl:=fun (q:Ev S0)=>((((hS0 _).1 q.h).2).cell bc (oc+(l * 3+0)) hltc hbgc).trans (hcc l hll 0 _ rfl);simp only[Nat.add_zero] at cl;generalize S.ct[l].ver=ct at *;refine hK _ _ ((hS0 _).2 ⟨Zf,KF⟩) ?_;clear hK K k9 HR9 hcc;refine tX ?_;refine wpTr_l rfl rfl ?_;intro K hK;have cX:=Xf.cell;have fX:=Xf.frozen;go_step;obtain⟨wn,hwn,X9,kst,hzst⟩:=Xf.st9 (.int .i64 (1+kd0)) (.int .i64 sn) (.int .i64 ct) (.int .i64 t) (.int .i64 0) (.int .i64 0) (.int .i64 0) (.int .i64 0) (.int .i64 0);simp only[sbt,sc0,scs] at X9;rw[← hwn];replace Zf:=Zf.kq kst;replace Pf:=Pf.kq kst;replace Rf:=Rf.kq kst;replace Hf:=Hf.kpRow kst oM;replace KF:=KF.thenOwn kst (Nat.le_refl _) oM;refine hK _ _ ((hS0 _).2 ⟨Zf,KF⟩) ?_;clear hK K cX fX hwn kst hzst;refine wpTr_nil ?_;clear hevT _hev;go_wp2_with fail
     go_meet
     case rel=>exact⟨xb,1+kd0,sn,ct,rfl,hxw,hsn,X9,Zf,Pf,Rf,Hf,KF⟩
   ·
    refine wpOne_l rfl rfl ?_;intro K hK;have gR:=Rf.lt;go_step;have Xf:=Blk.new wq 90 #[(0:Int),(0:Int),(0:Int),(0:Int),(0:Int),(0:Int),(0:Int),(0:Int),(0:Int)];replace Zf:=Zf.alloc (.cells #[(0:Int),(0:Int),(0:Int),(0:Int),(0:Int),(0:Int),(0:Int),(0:Int),(0:Int)] 90);replace Pf:=Pf.alloc (.cells #[(0:Int),(0:Int),(0:Int),(0:Int),(0:Int),(0:Int),(0:Int),(0:Int),(0:Int)] 90);replace Rf:=Rf.alloc (.cells #[(0:Int),(0:Int),(0:Int),(0:Int),(0:Int),(0:Int),(0:Int),(0:Int),(0:Int)] 90);replace Hf:=Hf.alloc (.cells #[(0:Int),(0:Int),(0:Int),(0:Int),(0:Int),(0:Int),(0:Int),(0:Int),(0:Int)] 90);replace KF:=KF.alloc KF.size (.cells #[(0:Int),(0:Int),(0:Int),(0:Int),(0:Int),(0:Int),(0:Int),(0:Int),(0:Int)] 90);refine hK _ _ ((hS0 _).2 ⟨Zf,KF⟩) ?_;clear hK K;obtain⟨xb,hxb⟩:∃ xb,xb=wq.heap.size:=⟨_,rfl⟩;generalize wq.alloc (.cells #[(0:Int),(0:Int),(0:Int),(0:Int),(0:Int),(0:Int),(0:Int),(0:Int),(0:Int)] 90)=wy at *;rw[← hxb] at Xf gR ⊢;have hxw:w.heap.size+3≤xb:=by omega
    clear hxb gR;rename World=>wq;refine wpTr_l rfl rfl ?_;intro K hK;go_step;refine(next_any g nums (k+1) _ _ Hf oM oM oM).mono ?_;rintro e wq ⟨v9,rfl,⟨j0,rfl,hj0,hj1⟩,HR9,k9⟩;obtain⟨j,rfl⟩:=Int.eq_ofNat_of_zero_le hj0;replace KF:=KF.then_ k9 (Nat.le_refl _);replace Zf:=Zf.kq k9;replace Pf:=Pf.kq k9;replace Rf:=Rf.kq k9;try replace Xf:=Xf.kq k9
    replace Hf:=HR9;have hjl:j<S.st.length:=by omega
    obtain⟨bb,o,rfl,hlt,hbg,hcc⟩:=hr.at_ oM;have cj:=fun (q:Ev S0)=>((((hS0 _).1 q.h).2).cell bb (o+(j * 3+0)) hlt hbg).trans (hcc j hjl 0 _ rfl);simp only[Nat.add_zero] at cj;have hsn:=stI_mem hjl;generalize S.st[j].id=sn at *;refine hK _ _ ((hS0 _).2 ⟨Zf,KF⟩) ?_;clear hK K k9 HR9 hcc;refine tX ?_;refine wpTr_l rfl rfl ?_;intro K hK;go_step;refine(next_any g nums (k+1+1) _ _ Hf oM oM oM).mono ?_;rintro e wq ⟨v9,rfl,⟨l0,rfl,hl0,hl1⟩,HR9,k9⟩;obtain⟨l,rfl⟩:=Int.eq_ofNat_of_zero_le hl0;replace KF:=KF.then_ k9 (Nat.le_refl _);replace Zf:=Zf.kq k9;replace Pf:=Pf.kq k9;replace Rf:=Rf.kq k9;try replace Xf:=Xf.kq k9
    replace Hf:=HR9;have hll:l<S.ct.length:=by omega
    obtain⟨bc,oc,rfl,hltc,hbgc,hcc⟩:=hc.at_ oM;have cl:=fun (q:Ev S0)=>((((hS0 _).1 q.h).2).cell bc (oc+(l * 3+0)) hltc hbgc).trans (hcc l hll 0 _ rfl);simp only[Nat.add_zero] at cl;generalize S.ct[l].ver=ct at *;refine hK _ _ ((hS0 _).2 ⟨Zf,KF⟩) ?_;clear hK K k9 HR9 hcc;refine tX ?_;refine wpTr_l rfl rfl ?_;intro K hK;have cX:=Xf.cell;have fX:=Xf.frozen;go_step;obtain⟨wn,hwn,X9,kst,hzst⟩:=Xf.st9 (.int .i64 (1+kd0)) (.int .i64 sn) (.int .i64 ct) (.int .i64 t) (.int .i64 0) (.int .i64 0) (.int .i64 0) (.int .i64 0) (.int .i64 0);simp only[sbt,sc0,scs] at X9;rw[← hwn];replace Zf:=Zf.kq kst;replace Pf:=Pf.kq kst;replace Rf:=Rf.kq kst;replace Hf:=Hf.kpRow kst oM;replace KF:=KF.thenOwn kst (Nat.le_refl _) oM;refine hK _ _ ((hS0 _).2 ⟨Zf,KF⟩) ?_;clear hK K cX fX hwn kst hzst;refine wpTr_nil ?_;clear hevT _hev;go_wp2_with fail
    go_meet
    case rel=>exact⟨xb,1+kd0,sn,ct,rfl,hxw,hsn,X9,Zf,Pf,Rf,Hf,KF⟩
  ·
   refine wpOne_l rfl rfl ?_;intro K hK;generalize w1.drew=wq at *;have gR:=Rf.lt;go_step;have Xf:=Blk.new wq 90 #[(0:Int),(0:Int),(0:Int),(0:Int),(0:Int),(0:Int),(0:Int),(0:Int),(0:Int)];replace Zf:=Zf.alloc (.cells #[(0:Int),(0:Int),(0:Int),(0:Int),(0:Int),(0:Int),(0:Int),(0:Int),(0:Int)] 90);replace Pf:=Pf.alloc (.cells #[(0:Int),(0:Int),(0:Int),(0:Int),(0:Int),(0:Int),(0:Int),(0:Int),(0:Int)] 90);replace Rf:=Rf.alloc (.cells #[(0:Int),(0:Int),(0:Int),(0:Int),(0:Int),(0:Int),(0:Int),(0:Int),(0:Int)] 90);replace Hf:=Hf.alloc (.cells #[(0:Int),(0:Int),(0:Int),(0:Int),(0:Int),(0:Int),(0:Int),(0:Int),(0:Int)] 90);replace KF:=KF.alloc KF.size (.cells #[(0:Int),(0:Int),(0:Int),(0:Int),(0:Int),(0:Int),(0:Int),(0:Int),(0:Int)] 90);refine hK _ _ ((hS0 _).2 ⟨Zf,KF⟩) ?_;clear hK K;obtain⟨xb,hxb⟩:∃ xb,xb=wq.heap.size:=⟨_,rfl⟩;generalize wq.alloc (.cells #[(0:Int),(0:Int),(0:Int),(0:Int),(0:Int),(0:Int),(0:Int),(0:Int),(0:Int)] 90)=wy at *;rw[← hxb] at Xf gR ⊢;have hxw:w.heap.size+3≤xb:=by omega
   clear hxb gR;rename World=>wq;refine wpTr_l rfl rfl ?_;intro K hK;go_step;refine(next_any g nums k _ _ Hf oM oM oM).mono ?_;rintro e wq ⟨v9,rfl,⟨kd0,rfl,hkd0,hkd1⟩,HR9,k9⟩;replace KF:=KF.then_ k9 (Nat.le_refl _);replace Zf:=Zf.kq k9;replace Pf:=Pf.kq k9;replace Rf:=Rf.kq k9;try replace Xf:=Xf.kq k9
   replace Hf:=HR9;refine hK _ _ ((hS0 _).2 ⟨Zf,KF⟩) ?_;clear hK K k9 HR9;refine tX ?_;refine wpTr_l rfl rfl ?_;intro K hK;go_step;refine(next_any g nums (k+1) _ _ Hf oM oM oM).mono ?_;rintro e wq ⟨v9,rfl,⟨j0,rfl,hj0,hj1⟩,HR9,k9⟩;obtain⟨j,rfl⟩:=Int.eq_ofNat_of_zero_le hj0;replace KF:=KF.then_ k9 (Nat.le_refl _);replace Zf:=Zf.kq k9;replace Pf:=Pf.kq k9;replace Rf:=Rf.kq k9;try replace Xf:=Xf.kq k9
   replace Hf:=HR9;have hjl:j<S.st.length:=by omega
   obtain⟨bb,o,rfl,hlt,hbg,hcc⟩:=hr.at_ oM;have cj:=fun (q:Ev S0)=>((((hS0 _).1 q.h).2).cell bb (o+(j * 3+0)) hlt hbg).trans (hcc j hjl 0 _ rfl);simp only[Nat.add_zero] at cj;have hsn:=stI_mem hjl;generalize S.st[j].id=sn at *;refine hK _ _ ((hS0 _).2 ⟨Zf,KF⟩) ?_;clear hK K k9 HR9 hcc;refine tX ?_;refine wpTr_l rfl rfl ?_;intro K hK;go_step;refine(next_any g nums (k+1+1) _ _ Hf oM oM oM).mono ?_;rintro e wq ⟨v9,rfl,⟨l0,rfl,hl0,hl1⟩,HR9,k9⟩;obtain⟨l,rfl⟩:=Int.eq_ofNat_of_zero_le hl0;replace KF:=KF.then_ k9 (Nat.le_refl _);replace Zf:=Zf.kq k9;replace Pf:=Pf.kq k9;replace Rf:=Rf.kq k9;try replace Xf:=Xf.kq k9
   replace Hf:=HR9;have hll:l<S.ct.length:=by omega
   obtain⟨bc,oc,rfl,hltc,hbgc,hcc⟩:=hc.at_ oM;have cl:=fun (q:Ev S0)=>((((hS0 _).1 q.h).2).cell bc (oc+(l * 3+0)) hltc hbgc).trans (hcc l hll 0 _ rfl);simp only[Nat.add_zero] at cl;generalize S.ct[l].ver=ct at *;refine hK _ _ ((hS0 _).2 ⟨Zf,KF⟩) ?_;clear hK K k9 HR9 hcc;refine tX ?_;refine wpTr_l rfl rfl ?_;intro K hK;have cX:=Xf.cell;have fX:=Xf.frozen;go_step;obtain⟨wn,hwn,X9,kst,hzst⟩:=Xf.st9 (.int .i64 (1+kd0)) (.int .i64 sn) (.int .i64 ct) (.int .i64 t) (.int .i64 0) (.int .i64 0) (.int .i64 0) (.int .i64 0) (.int .i64 0);simp only[sbt,sc0,scs] at X9;rw[← hwn];replace Zf:=Zf.kq kst;replace Pf:=Pf.kq kst;replace Rf:=Rf.kq kst;replace Hf:=Hf.kpRow kst oM;replace KF:=KF.thenOwn kst (Nat.le_refl _) oM;refine hK _ _ ((hS0 _).2 ⟨Zf,KF⟩) ?_;clear hK K cX fX hwn kst hzst;refine wpTr_nil ?_;clear hevT _hev;go_wp2_with fail
   go_meet
   case rel=>exact⟨xb,1+kd0,sn,ct,rfl,hxw,hsn,X9,Zf,Pf,Rf,Hf,KF⟩
 case rest=>
 rename World=>w2;clear Z P R K HR s0 c0;obtain⟨xb,kd,sn,ct,rfl,hxw,⟨is,his,hisl⟩,X,Z,P,R,HR,K⟩:=hcut;have cZ:=Z.cell;have cX:=X.cell;go_upto_region 2 with(fail)
 go_wp2_with fail
 refine(cw sn is _ (hA.kp K).free (hr.kp K).free (hc.kp K).free his hisl).mono ?_;rintro e w3 ⟨⟨ox,oy,rfl,ho⟩,k3⟩;clear cZ cX Z his hisl cw hA hr hc;replace X:=X.kpN k3;replace P:=P.kpN k3;replace R:=R.kpN k3;replace HR:=HR.kpN k3;replace K:=K.tN k3;clear k3;replace HR:=HR.alloc (.cells #[ox,oy] 73);have hzk:=K.size;have hX3:=X.lt;have pX:=X.cell;have pP:=P.cell;have pR:=R.cell;obtain⟨w9_,rfl,O,k9_,hzn⟩:=box1 w3 73 #[ox,oy];replace X:=X.kpN k9_;replace P:=P.kpN k9_;replace R:=R.kpN k9_;replace K:=K.thenN k9_ oU;clear k9_;have cX:=X.cell;have fX:=X.frozen;have cP:=P.cell;have fP:=P.frozen;have cR:=R.cell;have fR:=R.frozen;go_wp2_with fail
 clear cX fX pX cP fP pP cR fR pR;generalize (w3.alloc (.cells #[ox,oy] 73))=w4 at *;obtain⟨ob,hx⟩:∃ q9,q9=w3.heap.size:=⟨_,rfl⟩;rw[← hx] at O ⊢;replace hx:=Lib.hid hx;have hob:xb<ob:=by have:=hx.out;omega
 clear hx hzn hzk hz hX3;obtain⟨S,hS0,hS1⟩:=cls_of2 (P:=fun w'=>Blk w' _ _ _∧Blk w' _ _ _∧Kp _ _ _ w') w4 ⟨P,O,K⟩;try dsimp only at hS0
 have cP:=fun (x:Ev (S 0)) i=>((hS0 _).1 x.h).1.cell i;have cO:=fun (x:Ev (S 0)) i=>((hS0 _).1 x.h).2.1.cell i;replace P:=P.drew;replace O:=O.drew;replace K:=K.drew;replace X:=X.drew;replace R:=R.drew;replace HR:=HR.drew;have hevT:=ev_true;refine wro S [(0,0),(1,1),(2,0),(3,1),(4,0),(5,0),(6,1),(7,0),(8,1),(9,0),(10,0),(11,0)] [] ((hS0 _).2 ⟨P,O,K⟩) ?_;intro _hev;refine oX ?_;refine wpOrd_nil ?_;clear hevT _hev;clear cP cO hS0 hS1 S;generalize w4.drew=w5 at *;have hbx:-40000000≤p.x-ox∧p.x-ox≤40000000:=by omega
 have hby:-40000000≤p.y-oy∧p.y-oy≤40000000:=by omega
 go_wp2_with fail
 generalize p.x-ox=dx at *;generalize p.y-oy=dy at *;refine(next_any g nums (k+3) 40000 _ HR oM oM oM).mono ?_;rintro e w6 ⟨v9,rfl,⟨er,rfl,her0,her1⟩,HR2,k2⟩;replace X:=X.kq k2;replace R:=R.kq k2;replace K:=K.then_ k2 (Nat.le_refl _);replace HR:=HR2;clear HR2 k2;clear P O ho hp;obtain⟨w7,hw7,X7,kst,hzst⟩:=X.sto3_4' (.int .i64 dx) (.int .i64 dy) (.int .i64 er);simp only[sbt,sc0,scs] at X7;have cX:=X.cell;have fX:=X.frozen;go_wp2_with fail
 rw[← hw7];replace R:=R.kq kst;replace HR:=HR.kpRow kst oM;replace K:=K.thenOwn kst (Nat.le_refl _) oM;clear X cX fX hw7 kst hzst hob her0 her1
 go_loopw [12,13] (fun v12 v13 wr=>∃ dx dy a b:Int,v12=.int .i64 dx∧v13=.int .i64 dy∧(-40000000≤dx∧dx≤40000000)∧(-40000000≤dy∧dy≤40000000)∧Blk wr xb 90 #[kd,sn,ct,t,a,b,er,(0:Int),(0:Int)] ∧
  Blk wr (w.heap.size+2) 90 #[(0:Int),(0:Int),(0:Int),(0:Int),(0:Int),(0:Int),(0:Int),(0:Int),(0:Int)]∧RingAt wr g nums (k+3+1)∧Kp w.heap.size (some g) w wr) (fun v12 v13 _=>(intOf v12).natAbs+(intOf v13).natAbs)
 case atStart=>exact⟨dx,dy,dx,dy,rfl,rfl,hbx,hby,X7,R,HR,K⟩
 case round=>
  clear X7 R HR K hbx hby;obtain⟨dx,dy,a,b,rfl,rfl,hbx,hby,X,R,HR,K⟩:=hrel;have ex:=tdiv2 dx;have ey:=tdiv2 dy;have hx2:-40000000≤dx.tdiv 2∧dx.tdiv 2≤40000000:=by omega
  have hy2:-40000000≤dy.tdiv 2∧dy.tdiv 2≤40000000:=by omega
  have hme:(4096<dx∨4096 < -dx∨4096<dy∨4096 < -dy)→(dx.tdiv 2).natAbs+(dy.tdiv 2).natAbs<dx.natAbs+dy.natAbs:=fun h=>by omega
  replace ex:=Lib.hid ex;replace ey:=Lib.hid ey;by_cases h1:4096<dx
  ·
   have hm9:=Lib.hid (hme (.inl h1));clear hme;have cX:=X.cell;have fX:=X.frozen;obtain⟨w8,hw8,X8,kst,hzst⟩:=X.sto2_4' (.int .i64 (dx.tdiv 2)) (.int .i64 (dy.tdiv 2));simp only[sbt,sc0,scs] at X8;go_wp2
   rw[← hw8];go_roundw
   case rel=>exact⟨dx.tdiv 2,dy.tdiv 2,_,_,rfl,rfl,hx2,hy2,X8,R.kq kst,HR.kpRow kst oM,K.thenOwn kst (Nat.le_refl _) oM⟩
   case measure=>exact hm9.out
  by_cases h2:4096 < -dx
  ·
   have hm9:=Lib.hid (hme (.inr (.inl h2)));clear hme;have cX:=X.cell;have fX:=X.frozen;obtain⟨w8,hw8,X8,kst,hzst⟩:=X.sto2_4' (.int .i64 (dx.tdiv 2)) (.int .i64 (dy.tdiv 2));simp only[sbt,sc0,scs] at X8;go_wp2
   rw[← hw8];go_roundw
   case rel=>exact⟨dx.tdiv 2,dy.tdiv 2,_,_,rfl,rfl,hx2,hy2,X8,R.kq kst,HR.kpRow kst oM,K.thenOwn kst (Nat.le_refl _) oM⟩
   case measure=>exact hm9.out
  by_cases h3:4096<dy
  ·
   have hm9:=Lib.hid (hme (.inr (.inr (.inl h3))));clear hme;have cX:=X.cell;have fX:=X.frozen;obtain⟨w8,hw8,X8,kst,hzst⟩:=X.sto2_4' (.int .i64 (dx.tdiv 2)) (.int .i64 (dy.tdiv 2));simp only[sbt,sc0,scs] at X8;go_wp2
   rw[← hw8];go_roundw
   case rel=>exact⟨dx.tdiv 2,dy.tdiv 2,_,_,rfl,rfl,hx2,hy2,X8,R.kq kst,HR.kpRow kst oM,K.thenOwn kst (Nat.le_refl _) oM⟩
   case measure=>exact hm9.out
  by_cases h4:4096 < -dy
  ·
   have hm9:=Lib.hid (hme (.inr (.inr (.inr h4))));clear hme;have cX:=X.cell;have fX:=X.frozen;obtain⟨w8,hw8,X8,kst,hzst⟩:=X.sto2_4' (.int .i64 (dx.tdiv 2)) (.int .i64 (dy.tdiv 2));simp only[sbt,sc0,scs] at X8;go_wp2
   rw[← hw8];go_roundw
   case rel=>exact⟨dx.tdiv 2,dy.tdiv 2,_,_,rfl,rfl,hx2,hy2,X8,R.kq kst,HR.kpRow kst oM,K.thenOwn kst (Nat.le_refl _) oM⟩
   case measure=>exact hm9.out
  clear hme hx2 hy2 ex ey;go_upto_region 8 with(fail)
  go_cut [93] (fun v93 wx=>∃ c9:Bool,v93=.bool c9∧Blk wx xb 90 #[kd,sn,ct,t,a,b,er,(0:Int),(0:Int)] ∧
   Blk wx (w.heap.size+2) 90 #[(0:Int),(0:Int),(0:Int),(0:Int),(0:Int),(0:Int),(0:Int),(0:Int),(0:Int)]∧RingAt wx g nums (k+3+1)∧Kp w.heap.size (some g) w wx)
  case first=>
   by_cases e1:dx=0
   ·
    subst e1;by_cases e2:dy=0
    ·
     subst e2;go_wp2_with fail
     go_meet
     case rel=>exact⟨true,rfl,X,R,HR,K⟩
    ·
     have e9:(dy==0)=false:=by simp[e2]
     go_wp2_with fail
     go_meet
     case rel=>exact⟨false,rfl,X,R,HR,K⟩
   ·
    have e9:(dx==0)=false:=by simp[e1]
    go_wp2_with fail
    go_meet
    case rel=>exact⟨false,rfl,X,R,HR,K⟩
  case rest=>
  clear X R HR K;obtain⟨c9,rfl,X,R,HR,K⟩:=hcut;go_upto_if 93 with(fail)
  go_cut [94] (fun _ wx=>∃ a b:Int,Blk wx xb 90 #[kd,sn,ct,t,a,b,er,(0:Int),(0:Int)] ∧
   Blk wx (w.heap.size+2) 90 #[(0:Int),(0:Int),(0:Int),(0:Int),(0:Int),(0:Int),(0:Int),(0:Int),(0:Int)]∧RingAt wx g nums (k+3+1)∧Kp w.heap.size (some g) w wx)
  case first=>
   cases c9
   ·
    go_wp2_with fail
    go_meet
    case rel=>exact⟨_,_,X,R,HR,K⟩
   ·
    have cX:=X.cell;have fX:=X.frozen;obtain⟨w9,hw9,X9,kst,hzst⟩:=X.sto1_4' (.int .i64 1);simp only[sbt,sc0,scs] at X9;go_wp2_with fail
    rw[← hw9];replace R:=R.kq kst;replace HR:=HR.kpRow kst oM;replace K:=K.thenOwn kst (Nat.le_refl _) oM;replace X:=X9;clear X9 cX fX hw9 kst hzst;go_meet
    case rel=>exact⟨_,_,X,R,HR,K⟩
  case rest=>
  clear X R HR K;obtain⟨a,b,X,R,HR,K⟩:=hcut;go_upto_region 10 with(fail)
  go_wp2_with fail
  refine(next_any g nums (k+3+1) 1000 _ HR oM oM oM).mono ?_;rintro e w10 ⟨v9,rfl,⟨lo,rfl,hlo0,hlo1⟩,HR2,k2⟩;replace X:=X.kq k2;replace R:=R.kq k2;replace K:=K.then_ k2 (Nat.le_refl _);replace HR:=HR2;clear HR2 k2;have cX:=X.cell;have fX:=X.frozen;obtain⟨w9,hw9,X9,kst,hzst⟩:=X.sto1_7 (.int .i64 lo);simp only[sbt,sc0,scs] at X9;go_upto_region 11 with(fail)
  rw[← hw9];replace R:=R.kq kst;replace HR:=HR.kpRow kst oM;replace K:=K.thenOwn kst (Nat.le_refl _) oM;replace X:=X9;clear X9 cX fX hw9 kst hzst;obtain⟨S,hS0,hS1⟩:=cls_of2 (P:=fun w'=>Blk w' _ _ _∧Kp _ _ _ w') w9 ⟨X,K⟩;try dsimp only at hS0
  have cX:=fun (x:Ev (S 0)) i=>((hS0 _).1 x.h).1.cell i;replace X:=X.drew;replace K:=K.drew;replace R:=R.drew;replace HR:=HR.drew;have hevT:=ev_true;refine wro S [(0,0),(1,1),(2,0),(3,2),(4,0),(5,0),(6,0),(7,3)] [7] ((hS0 _).2 ⟨X,K⟩) ?_;intro _hev;refine oX ?_;refine oL ?_;intro Kc hKc;generalize w9.drew=wd9 at *;go_step;refine(next_any g nums (k+3+1+1) 6000 _ HR oM oM oM).mono ?_;rintro e w11 ⟨v9,rfl,⟨h9,rfl,hh0,hh1⟩,HR9,k⟩;replace X:=X.kq k;replace R:=R.kq k;replace K:=K.then_ k (Nat.le_refl _);replace HR:=HR9;clear k HR9;have hzr_w11:=K.size;refine hKc _ _ ((hS0 _).2 ⟨X,K⟩) ?_;clear hKc Kc;refine oX ?_;refine oA ?_;intro Kc hKc;have cR:=X.cell;have fR:=X.frozen;go_step;obtain⟨w12,hwn,RB9,kst,hzst⟩:=X.sto1_8 (.int .i64 (lo+(1+h9)));rw[← hwn];clear hwn cR fR;refine hKc _ _ ((hS1 _).2 trivial) ?_;clear hKc Kc;replace R:=R.kq kst;replace HR:=HR.kpRow kst oM;first|replace K:=K.thenOwn kst (Nat.le_refl _) oM|replace K:=K.then_ kst (Nat.le_refl _)
  replace X:=RB9;clear RB9 kst;simp only[sbt,sc0,scs] at X;change wpOrd _ _ _ _ _ 1 _ _;refine wpOrd_nil ?_;clear hevT _hev;clear cX hS0 hS1 S;by_cases hkd:kd=3
  ·
   subst hkd;have cX:=X.cell;have fX:=X.frozen;obtain⟨w9,hw9,X9,kst,hzst⟩:=X.sto2_4' (.int .i64 (wrap64 (-b))) (.int .i64 a);simp only[sbt,sc0,scs] at X9;go_wp2_with fail
   rw[← hw9];replace R:=R.kq kst;replace HR:=HR.kpRow kst oM;replace K:=K.thenOwn kst (Nat.le_refl _) oM;replace X:=X9;clear X9 cX fX hw9 kst hzst;refine(next_any g nums (k+3+1+1+1) 3 _ HR oM oM oM).mono ?_;rintro e w13 ⟨v9,rfl,⟨q3,rfl,hq0,hq1⟩,HR2,k2⟩;replace X:=X.kq k2;replace R:=R.kq k2;replace K:=K.then_ k2 (Nat.le_refl _);replace HR:=HR2;clear HR2 k2;by_cases hq:q3=0
   ·
    subst hq;go_wp2_with fail
    refine(next_any g nums (k+3+1+1+1+1) 300 _ HR oM oM oM).mono ?_;rintro e w14 ⟨v9,rfl,⟨q4,rfl,hq40,hq41⟩,HR2,k2⟩;replace X:=X.kq k2;replace R:=R.kq k2;replace K:=K.then_ k2 (Nat.le_refl _);replace HR:=HR2;clear HR2 k2;have cX:=X.cell;have fX:=X.frozen;obtain⟨w9,hw9,X9,kst,hzst⟩:=X.sto1_8 (.int .i64 (1+q4));simp only[sbt,sc0,scs] at X9;go_upto_region 16 with(fail)
    rw[← hw9];replace R:=R.kq kst;replace HR:=HR.kpRow kst oM;replace K:=K.thenOwn kst (Nat.le_refl _) oM;replace X:=X9;clear X9 cX fX hw9 kst hzst;have X':∃ k2 a2 b2 h2:Int,Blk _ xb 90 #[k2,sn,ct,t,a2,b2,er,lo,h2]:=⟨_,_,_,_,X⟩;have HR':∃ k2:Nat,k2≤k+10∧RingAt _ g nums k2:=⟨k+3+1+1+1+1+1,by omega,HR⟩;clear X HR;obtain⟨k2,a2,b2,h2,X⟩:=X';obtain⟨k3,hk3,HR⟩:=HR';have cX:=X.cell;have cR:=R.cell;have fR:=R.frozen;obtain⟨wz,hwz,R9,kst,hzst⟩:=R.st9 (.int .i64 k2) (.int .i64 sn) (.int .i64 ct) (.int .i64 t) (.int .i64 a2) (.int .i64 b2) (.int .i64 er) (.int .i64 lo) (.int .i64 h2);simp only[sbt,sc0,scs] at R9;have cR9:=R9.cell;go_wp2_with fail
    rw[← hwz];exact bodyPost_ret (v:=.agg #[k2,sn,ct,t,a2,b2,er,lo,h2]) (by simp[results,Tryz.results32,go_sem,cR9]) rfl ⟨_,k3,rfl,⟨⟨k2,sn,ct,t,a2,b2,er,lo,h2⟩,rfl,rfl⟩,hk3,HR.kpRow kst oM,K.thenOwn kst (Nat.le_refl _) oM⟩
   ·
    have hq9:(q3==0)=false:=by simp[hq]
    go_upto_region 16 with(fail)
    have X':∃ k2 a2 b2 h2:Int,Blk _ xb 90 #[k2,sn,ct,t,a2,b2,er,lo,h2]:=⟨_,_,_,_,X⟩;have HR':∃ k2:Nat,k2≤k+10∧RingAt _ g nums k2:=⟨k+3+1+1+1+1,by omega,HR⟩;clear X HR;obtain⟨k2,a2,b2,h2,X⟩:=X';obtain⟨k3,hk3,HR⟩:=HR';have cX:=X.cell;have cR:=R.cell;have fR:=R.frozen;obtain⟨wz,hwz,R9,kst,hzst⟩:=R.st9 (.int .i64 k2) (.int .i64 sn) (.int .i64 ct) (.int .i64 t) (.int .i64 a2) (.int .i64 b2) (.int .i64 er) (.int .i64 lo) (.int .i64 h2);simp only[sbt,sc0,scs] at R9;have cR9:=R9.cell;go_wp2_with fail
    rw[← hwz];exact bodyPost_ret (v:=.agg #[k2,sn,ct,t,a2,b2,er,lo,h2]) (by simp[results,Tryz.results32,go_sem,cR9]) rfl ⟨_,k3,rfl,⟨⟨k2,sn,ct,t,a2,b2,er,lo,h2⟩,rfl,rfl⟩,hk3,HR.kpRow kst oM,K.thenOwn kst (Nat.le_refl _) oM⟩
  ·
   have hkd9:(kd==3)=false:=by simp[hkd]
   have cX:=X.cell;go_upto_region 16 with(fail)
   clear cX;have X':∃ k2 a2 b2 h2:Int,Blk _ xb 90 #[k2,sn,ct,t,a2,b2,er,lo,h2]:=⟨_,_,_,_,X⟩;have HR':∃ k2:Nat,k2≤k+10∧RingAt _ g nums k2:=⟨k+3+1+1+1,by omega,HR⟩;clear X HR;obtain⟨k2,a2,b2,h2,X⟩:=X';obtain⟨k3,hk3,HR⟩:=HR';have cX:=X.cell;have cR:=R.cell;have fR:=R.frozen;obtain⟨wz,hwz,R9,kst,hzst⟩:=R.st9 (.int .i64 k2) (.int .i64 sn) (.int .i64 ct) (.int .i64 t) (.int .i64 a2) (.int .i64 b2) (.int .i64 er) (.int .i64 lo) (.int .i64 h2);simp only[sbt,sc0,scs] at R9;have cR9:=R9.cell;go_wp2_with fail
   rw[← hwz];exact bodyPost_ret (v:=.agg #[k2,sn,ct,t,a2,b2,er,lo,h2]) (by simp[results,Tryz.results32,go_sem,cR9]) rfl ⟨_,k3,rfl,⟨⟨k2,sn,ct,t,a2,b2,er,lo,h2⟩,rfl,rfl⟩,hk3,HR.kpRow kst oM,K.thenOwn kst (Nat.le_refl _) oM⟩
end Go.Proofs.YtdhiappifnflpaaGreat
