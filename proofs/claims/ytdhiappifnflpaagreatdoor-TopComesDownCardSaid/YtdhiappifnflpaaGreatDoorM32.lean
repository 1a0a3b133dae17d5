/- Makers of the kit: four numbers (func4), GasOf, StateIn. Makers of the kit: GasOf. Makers of the kit: StateIn. Makers of the kit: SuccessorOf. -/
import Derived.Test.YtdhiappifnflpaaGreatDoorM28
import Derived.Test.YtdhiappifnflpaaGreatDoorM31
set_option maxRecDepth 100000
set_option maxHeartbeats 4000000
namespace Go.Proofs.YtdhiappifnflpaaGreatDoor
open Go.RowKit
def F4At (g:Nat) (nums:List Int) (k:Nat) (w:World) (a:Value) (wr:World):Prop:=
 ∃ i:Nat,a=.int .i64 i∧i≤4∧∃ (x0 x1 x2 x3:Int) (k':Nat),k'≤k+2 * i∧Blk wr (w.heap.size+1) 148 #[x0,x1,x2,x3] ∧
  Blk wr w.heap.size 148 #[(0:Int),(0:Int),(0:Int),(0:Int)]∧RingAt wr g nums k'∧Kp w.heap.size (some g) w wr
theorem func4_any (g:Nat) (nums:List Int) (k:Nat) (w:World) (h:RingAt w g nums k) (hk:k≤900000) :
  Calls Tryz.prog 74 #[.pointer (some ⟨g,0,none⟩)] w (RPostB g nums (k+8) w fun v _=>∃ x0 x1 x2 x3:Int,v=.agg #[x0,x1,x2,x3]):=by
 have hg:=h.lt;have R0:=(Blk.new w 148 #[(0:Int),(0:Int),(0:Int),(0:Int)]).alloc (.cells #[(0:Int),(0:Int),(0:Int),(0:Int)] 148);have S0:=Blk.newAt (w.alloc (.cells #[(0:Int),(0:Int),(0:Int),(0:Int)] 148)) 148 #[(0:Int),(0:Int),(0:Int),(0:Int)] (n:=w.heap.size+1) (by simp);have K0:=((Kp.refl w.heap.size (some g) w).alloc (Nat.le_refl _) (.cells #[(0:Int),(0:Int),(0:Int),(0:Int)] 148)).alloc (by simp) (.cells #[(0:Int),(0:Int),(0:Int),(0:Int)] 148);have HR0:=(h.alloc (.cells #[(0:Int),(0:Int),(0:Int),(0:Int)] 148)).alloc (.cells #[(0:Int),(0:Int),(0:Int),(0:Int)] 148);go_enter Tryz.func74,Tryz.ntmps74
 go_wp2_with fail
 generalize (w.alloc (.cells #[(0:Int),(0:Int),(0:Int),(0:Int)] 148)).alloc (.cells #[(0:Int),(0:Int),(0:Int),(0:Int)] 148)=w1 at *;go_loopw [4,5] (fun a _ wr=>F4At g nums k w a wr) (fun a _ _=>4-(intOf a).toNat)
 case atStart=>exact⟨0,rfl,by omega,0,0,0,0,k,by omega,S0,R0,HR0,K0⟩
 case round=>
  clear S0 R0 HR0 K0 h;obtain⟨i,rfl,hi,x0,x1,x2,x3,k',hk',S,R,HR,K⟩:=hrel;by_cases hc:i<4
  ·
   rcases (show i=0∨i=1∨i=2∨i=3 by omega) with rfl|rfl|rfl|rfl
   ·
    go_wp2_with fail
    refine(next_any g nums k' _ _ HR oM oM oM).mono ?_;rintro e w2 ⟨v,rfl,⟨a,rfl,ha1,ha2⟩,HR2,k2⟩;replace S:=S.kq k2;replace R:=R.kq k2;replace K:=K.then_ k2 (Nat.le_refl _);clear HR k2;have cS:=S.cell;have fS:=S.frozen;obtain⟨w3,hw3,S3,kst,hz⟩:=S.sto1_0 (.int .i64 a);simp only[sbt,sc0,scs] at S3;go_wp2_with fail
    rw[← hw3];replace R:=R.kq kst;replace K:=K.thenOwn kst (Nat.le_refl _) oM;clear hw3 cS fS S;refine(next_any g nums (k'+1) _ _ (HR2.kpRow kst oM) oM oM oM).mono ?_;rintro e w4 ⟨v,rfl,⟨b,rfl,hb1,hb2⟩,HR,k2⟩;replace S:=S3.kq k2;replace R:=R.kq k2;replace K:=K.then_ k2 (Nat.le_refl _);clear HR2 kst k2 S3 hz;by_cases hb:b<2
    ·
     have cS:=S.cell;have fS:=S.frozen;obtain⟨w3,hw3,S3,kst,hz⟩:=S.sto1_0 (.int .i64 (-b));simp only[sbt,sc0,scs] at S3;go_wp2
     rw[← hw3];go_roundw
     case rel=>exact⟨1,rfl,by omega,_,_,_,_,k'+2,by omega,S3,R.kq kst,HR.kpRow kst oM,K.thenOwn kst (Nat.le_refl _) oM⟩
     case measure=>simp[intOf]
    ·
     have hb':¬ b<2:=hb;go_wp2
     go_roundw
     case rel=>exact⟨1,rfl,by omega,_,_,_,_,k'+2,by omega,S,R,HR,K⟩
     case measure=>simp[intOf]
   ·
    go_wp2_with fail
    refine(next_any g nums k' _ _ HR oM oM oM).mono ?_;rintro e w2 ⟨v,rfl,⟨a,rfl,ha1,ha2⟩,HR2,k2⟩;replace S:=S.kq k2;replace R:=R.kq k2;replace K:=K.then_ k2 (Nat.le_refl _);clear HR k2;have cS:=S.cell;have fS:=S.frozen;obtain⟨w3,hw3,S3,kst,hz⟩:=S.sto1_1 (.int .i64 a);simp only[sbt,sc0,scs] at S3;go_wp2_with fail
    rw[← hw3];replace R:=R.kq kst;replace K:=K.thenOwn kst (Nat.le_refl _) oM;clear hw3 cS fS S;refine(next_any g nums (k'+1) _ _ (HR2.kpRow kst oM) oM oM oM).mono ?_;rintro e w4 ⟨v,rfl,⟨b,rfl,hb1,hb2⟩,HR,k2⟩;replace S:=S3.kq k2;replace R:=R.kq k2;replace K:=K.then_ k2 (Nat.le_refl _);clear HR2 kst k2 S3 hz;by_cases hb:b<2
    ·
     have cS:=S.cell;have fS:=S.frozen;obtain⟨w3,hw3,S3,kst,hz⟩:=S.sto1_1 (.int .i64 (-b));simp only[sbt,sc0,scs] at S3;go_wp2
     rw[← hw3];go_roundw
     case rel=>exact⟨2,rfl,by omega,_,_,_,_,k'+2,by omega,S3,R.kq kst,HR.kpRow kst oM,K.thenOwn kst (Nat.le_refl _) oM⟩
     case measure=>simp[intOf]
    ·
     have hb':¬ b<2:=hb;go_wp2
     go_roundw
     case rel=>exact⟨2,rfl,by omega,_,_,_,_,k'+2,by omega,S,R,HR,K⟩
     case measure=>simp[intOf]
   ·
    go_wp2_with fail
    refine(next_any g nums k' _ _ HR oM oM oM).mono ?_;rintro e w2 ⟨v,rfl,⟨a,rfl,ha1,ha2⟩,HR2,k2⟩;replace S:=S.kq k2;replace R:=R.kq k2;replace K:=K.then_ k2 (Nat.le_refl _);clear HR k2;have cS:=S.cell;have fS:=S.frozen;obtain⟨w3,hw3,S3,kst,hz⟩:=S.sto1_2 (.int .i64 a);simp only[sbt,sc0,scs] at S3;go_wp2_with fail
    rw[← hw3];replace R:=R.kq kst;replace K:=K.thenOwn kst (Nat.le_refl _) oM;clear hw3 cS fS S;refine(next_any g nums (k'+1) _ _ (HR2.kpRow kst oM) oM oM oM).mono ?_;rintro e w4 ⟨v,rfl,⟨b,rfl,hb1,hb2⟩,HR,k2⟩;replace S:=S3.kq k2;replace R:=R.kq k2;replace K:=K.then_ k2 (Nat.le_refl _);clear HR2 kst k2 S3 hz;by_cases hb:b<2
    ·
     have cS:=S.cell;have fS:=S.frozen;obtain⟨w3,hw3,S3,kst,hz⟩:=S.sto1_2 (.int .i64 (-b));simp only[sbt,sc0,scs] at S3;go_wp2
     rw[← hw3];go_roundw
     case rel=>exact⟨3,rfl,by omega,_,_,_,_,k'+2,by omega,S3,R.kq kst,HR.kpRow kst oM,K.thenOwn kst (Nat.le_refl _) oM⟩
     case measure=>simp[intOf]
    ·
     have hb':¬ b<2:=hb;go_wp2
     go_roundw
     case rel=>exact⟨3,rfl,by omega,_,_,_,_,k'+2,by omega,S,R,HR,K⟩
     case measure=>simp[intOf]
   ·
    go_wp2_with fail
    refine(next_any g nums k' _ _ HR oM oM oM).mono ?_;rintro e w2 ⟨v,rfl,⟨a,rfl,ha1,ha2⟩,HR2,k2⟩;replace S:=S.kq k2;replace R:=R.kq k2;replace K:=K.then_ k2 (Nat.le_refl _);clear HR k2;have cS:=S.cell;have fS:=S.frozen;obtain⟨w3,hw3,S3,kst,hz⟩:=S.sto1_3 (.int .i64 a);simp only[sbt,sc0,scs] at S3;go_wp2_with fail
    rw[← hw3];replace R:=R.kq kst;replace K:=K.thenOwn kst (Nat.le_refl _) oM;clear hw3 cS fS S;refine(next_any g nums (k'+1) _ _ (HR2.kpRow kst oM) oM oM oM).mono ?_;rintro e w4 ⟨v,rfl,⟨b,rfl,hb1,hb2⟩,HR,k2⟩;replace S:=S3.kq k2;replace R:=R.kq k2;replace K:=K.then_ k2 (Nat.le_refl _);clear HR2 kst k2 S3 hz;by_cases hb:b<2
    ·
     have cS:=S.cell;have fS:=S.frozen;obtain⟨w3,hw3,S3,kst,hz⟩:=S.sto1_3 (.int .i64 (-b));simp only[sbt,sc0,scs] at S3;go_wp2
     rw[← hw3];go_roundw
     case rel=>exact⟨4,rfl,by omega,_,_,_,_,k'+2,by omega,S3,R.kq kst,HR.kpRow kst oM,K.thenOwn kst (Nat.le_refl _) oM⟩
     case measure=>simp[intOf]
    ·
     have hb':¬ b<2:=hb;go_wp2
     go_roundw
     case rel=>exact⟨4,rfl,by omega,_,_,_,_,k'+2,by omega,S,R,HR,K⟩
     case measure=>simp[intOf]
  ·
   obtain rfl:i=4:=by omega
   have cS:=S.cell;have cR:=R.cell;have fR:=R.frozen;obtain⟨w3,hw3,R3,kst,hz⟩:=R.st4 (.int .i64 x0) (.int .i64 x1) (.int .i64 x2) (.int .i64 x3);simp only[sbt,sc0,scs] at R3;go_wp2
   rw[← hw3];have c3:=R3.cell;exact bodyPost_ret (v:=.agg #[x0,x1,x2,x3]) (by simp[results,Tryz.results74,go_sem,c3]) rfl ⟨_,k',rfl,⟨_,_,_,_,rfl⟩,by omega,HR.kpRow kst oM,K.thenOwn kst (Nat.le_refl _) oM⟩
theorem Blk.sto1_4 {w:World} {r:Nat} {T:TypeId} {cs:Array Value} (h:Blk w r T cs) (x0:Value):∃ w',w'=(w.setCell ⟨r,4,none⟩ x0)∧Blk w' r T (cs.setIfInBounds 4 x0)∧Kp w.heap.size (some r) w w'∧w'.heap.size=w.heap.size:=
 ⟨_,rfl,h.set_ _ x0,(Kp.refl _ (some r) w).setRow (p:=⟨r,_,none⟩) rfl _,by simp[World.setCell]⟩
theorem gasOf_any (g:Nat) (nums:List Int) (k:Nat) (w:World) (HR:RingAt w g nums k) (hk:k≤900000) :
  Calls Tryz.prog 28 #[.pointer (some ⟨g,0,none⟩)] w (RPost g nums (k+5) w fun v=>∃ d:Dr,v=.agg d∧d.ok):=by
 have hg:=HR.lt;obtain⟨w1,hw1⟩:∃ q9,q9=(w.alloc (.cells #[(0:Int),(0:Int),(0:Int),(0:Int),(0:Int)] 31)).alloc (.cells #[(0:Int),(0:Int),(0:Int),(0:Int),(0:Int)] 31):=⟨_,rfl⟩;have R:Blk w1 w.heap.size 31 #[(0:Int),(0:Int),(0:Int),(0:Int),(0:Int)]:=by rw[hw1];exact(Blk.new w _ _).alloc _
 have M:Blk w1 (w.heap.size+1) 31 #[(0:Int),(0:Int),(0:Int),(0:Int),(0:Int)]:=by rw[hw1];exact Blk.newAt _ _ _ (by simp)
 have K:Kp w.heap.size (some g) w w1:=by rw[hw1];exact((Kp.refl w.heap.size (some g) w).alloc (Nat.le_refl _) _).alloc (by simp) _
 replace HR:RingAt w1 g nums k:=by rw[hw1];exact(HR.alloc _).alloc _
 go_enter Tryz.func28,Tryz.ntmps28
 go_wp2_with fail
 rw[← hw1];clear hw1;refine(next_any g nums k _ _ HR oM oM oM).mono ?_;rintro e w2 ⟨v,rfl,⟨a,rfl,ha0,ha1⟩,HR2,k2⟩;replace M:=M.kq k2;replace R:=R.kq k2;replace K:=K.then_ k2 (Nat.le_refl _);replace HR:=HR2;clear HR2 k2;have cS:=M.cell;have fS:=M.frozen;obtain⟨w3,hw3,S3,kst,hz⟩:=M.sto1_0 (.int .i64 a);simp only[sbt,sc0,scs] at S3;go_wp2_with fail
 rw[← hw3];replace R:=R.kq kst;replace K:=K.thenOwn kst (Nat.le_refl _) oM;replace HR:=HR.kpRow kst oM;replace M:=S3;clear hw3 cS fS S3 kst hz;obtain⟨S,hS0,hS1⟩:=cls_of2 (P:=fun w'=>Blk w' _ _ _∧Kp _ _ _ w') w3 ⟨M,K⟩;try dsimp only at hS0
 have cM:=fun (x:Ev (S 0)) i=>((hS0 _).1 x.h).1.cell i;replace M:=M.drew;replace K:=K.drew;replace R:=R.drew;replace HR:=HR.drew;have hevT:=ev_true;refine wro S [(0,0),(1,0),(2,1),(3,0),(4,2),(5,0),(6,0),(7,0),(8,3)] [8] ((hS0 _).2 ⟨M,K⟩) ?_;intro _hev;refine oX ?_;refine oL ?_;intro Kc hKc;generalize w3.drew=wd9 at *;go_step;refine(next_any g nums (k+1) _ _ HR oM oM oM).mono ?_;rintro e w4 ⟨v9,rfl,⟨b,rfl,hb0,hb1⟩,HR9,k⟩;replace M:=M.kq k;replace R:=R.kq k;replace K:=K.then_ k (Nat.le_refl _);replace HR:=HR9;clear k HR9;have hzr_w4:=K.size;refine hKc _ _ ((hS0 _).2 ⟨M,K⟩) ?_;clear hKc Kc;refine oX ?_;refine oA ?_;intro Kc hKc;have cR:=M.cell;have fR:=M.frozen;go_step;obtain⟨w5,hwn,RB9,kst,hzst⟩:=M.sto1_1 (.int .i64 (a+b));rw[← hwn];clear hwn cR fR;refine hKc _ _ ((hS1 _).2 trivial) ?_;clear hKc Kc;replace R:=R.kq kst;replace HR:=HR.kpRow kst oM;first|replace K:=K.thenOwn kst (Nat.le_refl _) oM|replace K:=K.then_ kst (Nat.le_refl _)
 replace M:=RB9;clear RB9 kst;simp only[sbt,sc0,scs] at M;change wpOrd _ _ _ _ _ 1 _ _;refine wpOrd_nil ?_;clear hevT _hev;clear cM hS0 hS1 S;go_wp2_with fail
 refine(next_any g nums (k+2) _ _ HR oM oM oM).mono ?_;rintro e w6 ⟨v,rfl,⟨c,rfl,hc0,hc1⟩,HR2,k2⟩;replace M:=M.kq k2;replace R:=R.kq k2;replace K:=K.then_ k2 (Nat.le_refl _);replace HR:=HR2;clear HR2 k2;have cS:=M.cell;have fS:=M.frozen;obtain⟨w3,hw3,S3,kst,hz⟩:=M.sto1_2 (.int .i64 (c-3));simp only[sbt,sc0,scs] at S3;go_wp2_with fail
 rw[← hw3];replace R:=R.kq kst;replace K:=K.thenOwn kst (Nat.le_refl _) oM;replace HR:=HR.kpRow kst oM;replace M:=S3;clear hw3 cS fS S3 kst hz;obtain⟨S,hS0,hS1⟩:=cls_of2 (P:=fun w'=>Blk w' _ _ _∧Kp _ _ _ w') w3 ⟨M,K⟩;try dsimp only at hS0
 have cM:=fun (x:Ev (S 0)) i=>((hS0 _).1 x.h).1.cell i;replace M:=M.drew;replace K:=K.drew;replace R:=R.drew;replace HR:=HR.drew;have hevT:=ev_true;refine wro S [(0,0),(1,0),(2,1),(3,0),(4,2),(5,0),(6,0),(7,0),(8,3)] [8] ((hS0 _).2 ⟨M,K⟩) ?_;intro _hev;refine oX ?_;refine oL ?_;intro Kc hKc;generalize w3.drew=wd9 at *;go_step;refine(next_any g nums (k+3) _ _ HR oM oM oM).mono ?_;rintro e w4 ⟨v9,rfl,⟨d,rfl,hd0,hd1⟩,HR9,k⟩;replace M:=M.kq k;replace R:=R.kq k;replace K:=K.then_ k (Nat.le_refl _);replace HR:=HR9;clear k HR9;have hzr_w4:=K.size;refine hKc _ _ ((hS0 _).2 ⟨M,K⟩) ?_;clear hKc Kc;refine oX ?_;refine oA ?_;intro Kc hKc;have cR:=M.cell;have fR:=M.frozen;go_step;obtain⟨w5,hwn,RB9,kst,hzst⟩:=M.sto1_3 (.int .i64 (c-3+d));rw[← hwn];clear hwn cR fR;refine hKc _ _ ((hS1 _).2 trivial) ?_;clear hKc Kc;replace R:=R.kq kst;replace HR:=HR.kpRow kst oM;first|replace K:=K.thenOwn kst (Nat.le_refl _) oM|replace K:=K.then_ kst (Nat.le_refl _)
 replace M:=RB9;clear RB9 kst;simp only[sbt,sc0,scs] at M;change wpOrd _ _ _ _ _ 1 _ _;refine wpOrd_nil ?_;clear hevT _hev;clear cM hS0 hS1 S;go_wp2_with fail
 refine(next_any g nums (k+4) _ _ HR oM oM oM).mono ?_;rintro e w6 ⟨v,rfl,⟨f,rfl,hf0,hf1⟩,HR2,k2⟩;replace M:=M.kq k2;replace R:=R.kq k2;replace K:=K.then_ k2 (Nat.le_refl _);replace HR:=HR2;clear HR2 k2;have cS:=M.cell;have fS:=M.frozen;obtain⟨w3,hw3,S3,kst,hz⟩:=M.sto1_4 (.int .i64 f);simp only[sbt,sc0,scs] at S3;go_upto_region 7 with(fail)
 rw[← hw3];replace R:=R.kq kst;replace K:=K.thenOwn kst (Nat.le_refl _) oM;replace HR:=HR.kpRow kst oM;replace M:=S3;clear hw3 cS fS S3 kst hz;have cS:=M.cell;have cR:=R.cell;have fR:=R.frozen;obtain⟨w7,hw7,R3,kst,hz⟩:=R.st5 (.int .i64 a) (.int .i64 (a+b)) (.int .i64 (c-3)) (.int .i64 (c-3+d)) (.int .i64 f);simp only[sbt,sc0,scs] at R3;go_wp2
 rw[← hw7];have c3:=R3.cell;exact bodyPost_ret (v:=.agg #[a,.int .i64 (a+b),.int .i64 (c-3),.int .i64 (c-3+d),f]) (by simp[results,Tryz.results28,go_sem,c3]) rfl ⟨_,rfl,⟨⟨⟨a,a+b⟩,⟨c-3,c-3+d⟩,f⟩,rfl,⟨by dsimp only;omega,by dsimp only;omega,by dsimp only;omega,by dsimp only;omega,by dsimp only;omega,by dsimp only;omega,by dsimp only;omega,by dsimp only;omega⟩⟩,HR.kpRow kst oM,K.thenOwn kst (Nat.le_refl _) oM⟩
theorem stateIn_any (g:Nat) (nums:List Int) (k:Nat) (b:Bx) (w:World) (HR:RingAt w g nums k) (hk:k≤900000) (hb:okBx b=true) :
  Calls Tryz.prog 32 #[.pointer (some ⟨g,0,none⟩),b] w (RPostB g nums (k+8) w fun v _=>∃ s:St,v=.agg s∧b.has s):=by
 have hg:=HR.lt
 have hbb:Hid ((b.x.lo≤b.x.hi∧-33554432≤b.x.lo∧b.x.hi≤33554432)∧(b.y.lo≤b.y.hi∧-33554432≤b.y.lo∧b.y.hi≤33554432)∧(b.u.lo≤b.u.hi∧-1048576≤b.u.lo∧b.u.hi≤1048576)∧(b.v.lo≤b.v.hi∧-1048576≤b.v.lo∧b.v.hi≤1048576)):=Lib.hid (by
  unfold okBx Bx.ord okSt Bx.los Bx.his at hb;simp only[Bool.and_eq_true,decide_eq_true_eq] at hb;omega)
 have cx:=fun v w=>inSpan_any b.x.lo b.x.hi v w (by have:=hbb.out;omega) (by have:=hbb.out;omega) (by have:=hbb.out;omega) (by have:=hbb.out;omega);have cy:=fun v w=>inSpan_any b.y.lo b.y.hi v w (by have:=hbb.out;omega) (by have:=hbb.out;omega) (by have:=hbb.out;omega) (by have:=hbb.out;omega);have cu:=fun v w=>inSpan_any b.u.lo b.u.hi v w (by have:=hbb.out;omega) (by have:=hbb.out;omega) (by have:=hbb.out;omega) (by have:=hbb.out;omega);have cv:=fun v w=>inSpan_any b.v.lo b.v.hi v w (by have:=hbb.out;omega) (by have:=hbb.out;omega) (by have:=hbb.out;omega) (by have:=hbb.out;omega);clear hb hbb;obtain⟨w1,hw1⟩:∃ q9,q9=(w.alloc (.cells b 33)).alloc (.cells #[(0:Int),(0:Int),(0:Int),(0:Int)] 49):=⟨_,rfl⟩;have P:Blk w1 w.heap.size 33 b:=by rw[hw1];exact(Blk.new w _ _).alloc _
 have R:Blk w1 (w.heap.size+1) 49 #[(0:Int),(0:Int),(0:Int),(0:Int)]:=by rw[hw1];exact Blk.newAt _ _ _ (by simp)
 have K:Kp w.heap.size (some g) w w1:=by rw[hw1];exact((Kp.refl w.heap.size (some g) w).alloc (Nat.le_refl _) _).alloc (by simp) _
 replace HR:RingAt w1 g nums k:=by rw[hw1];exact(HR.alloc _).alloc _
 go_enter Tryz.func32,Tryz.ntmps32
 go_wp2_with fail
 rw[← hw1];clear hw1;refine(func4_any g nums k _ HR oM).mono ?_;rintro e w2 ⟨v,k2,rfl,⟨x0,x1,x2,x3,rfl⟩,hk2,HR2,kk⟩;replace P:=P.kq kk;replace R:=R.kq kk;replace K:=K.then_ kk (Nat.le_refl _);replace HR:=HR2;clear HR2 kk;have F:=Blk.new w2 148 #[x0,x1,x2,x3];have hz2:=K.size;have pP:=P.lt;have pR:=R.lt;replace P:=P.alloc (.cells #[x0,x1,x2,x3] 148);replace R:=R.alloc (.cells #[x0,x1,x2,x3] 148);replace K:=K.alloc oM (.cells #[x0,x1,x2,x3] 148);replace HR:=HR.alloc (.cells #[x0,x1,x2,x3] 148);go_wp2_with fail
 generalize w2.alloc (.cells #[x0,x1,x2,x3] 148)=w3 at *;generalize w2.heap.size=fb at *;obtain⟨S,hS0,hS1⟩:=cls_of2 (P:=fun w'=>Blk w' _ _ _∧Blk w' _ _ _∧Kp _ _ _ w') w3 ⟨P,F,K⟩;try dsimp only at hS0
 have cP:=fun (x:Ev (S 0)) i=>((hS0 _).1 x.h).1.cell i;have cF:=fun (x:Ev (S 0)) i=>((hS0 _).1 x.h).2.1.cell i;replace P:=P.drew;replace F:=F.drew;replace K:=K.drew;replace R:=R.drew;replace HR:=HR.drew;have hevT:=ev_true;refine wro S [(0,0),(1,1),(2,0),(3,1),(5,0),(6,1),(7,0),(8,1),(10,0),(11,1),(12,0),(13,1),(15,0),(16,1),(17,0),(18,1),(4,2),(9,2),(14,2),(19,2),(20,0),(21,3)] [21] ((hS0 _).2 ⟨P,F,K⟩) ?_;intro _hev;refine oX ?_;refine oL ?_;intro Kc hKc;generalize w3.drew=wd9 at *;go_step;refine(cx _ _).mono ?_;rintro e w4 ⟨y0,rfl,h0,k⟩;replace P:=P.kpN k;replace F:=F.kpN k;replace R:=R.kpN k;replace HR:=HR.kpN k;replace K:=K.tN k;clear k;refine hKc _ _ ((hS0 _).2 ⟨P,F,K⟩) ?_;clear hKc Kc;refine oL ?_;intro Kc hKc;go_step;refine(cy _ _).mono ?_;rintro e w5 ⟨y1,rfl,h1,k⟩;replace P:=P.kpN k;replace F:=F.kpN k;replace R:=R.kpN k;replace HR:=HR.kpN k;replace K:=K.tN k;clear k;refine hKc _ _ ((hS0 _).2 ⟨P,F,K⟩) ?_;clear hKc Kc;refine oL ?_;intro Kc hKc;go_step;refine(cu _ _).mono ?_;rintro e w6 ⟨y2,rfl,h2,k⟩;replace P:=P.kpN k;replace F:=F.kpN k;replace R:=R.kpN k;replace HR:=HR.kpN k;replace K:=K.tN k;clear k;refine hKc _ _ ((hS0 _).2 ⟨P,F,K⟩) ?_;clear hKc Kc;refine oL ?_;intro Kc hKc;go_step;refine(cv _ _).mono ?_;rintro e w7 ⟨y3,rfl,h3,k⟩;replace P:=P.kpN k;replace F:=F.kpN k;replace R:=R.kpN k;replace HR:=HR.kpN k;replace K:=K.tN k;clear k;refine hKc _ _ ((hS0 _).2 ⟨P,F,K⟩) ?_;clear hKc Kc;refine oX ?_;refine oA ?_;intro Kc hKc;have cR:=R.cell;have fR:=R.frozen;go_step;obtain⟨w9,hwn,RB9,kst,hzst⟩:=R.st4 (.int .i64 y0) (.int .i64 y1) (.int .i64 y2) (.int .i64 y3);rw[← hwn];clear hwn cR fR;refine hKc _ _ ((hS1 _).2 trivial) ?_;clear hKc Kc;replace P:=P.kq kst;replace F:=F.kq kst;replace HR:=HR.kpRow kst oM;first|replace K:=K.thenOwn kst (Nat.le_refl _) oM|replace K:=K.then_ kst (Nat.le_refl _)
 replace R:=RB9;clear RB9 kst;simp only[sbt,sc0,scs] at R;change wpOrd _ _ _ _ _ 1 _ _;refine wpOrd_nil ?_;clear hevT _hev;clear cP cF hS0 hS1 S;go_wp2
 have c3:=R.cell;exact bodyPost_ret (v:=.agg #[y0,y1,y2,y3]) (by simp[results,Tryz.results32,go_sem,c3]) rfl ⟨_,k2,rfl,⟨⟨y0,y1,y2,y3⟩,rfl,h0,h1,h2,h3⟩,hk2,HR,K⟩
theorem mod64_wide (n m:Int) (w:World) (hm:0<m) (hm2:m≤4611686018427387904) :
  Calls Tryz.prog 118 #[n,m] w fun e w'=>e=.returned (.int .i64 (n % m))∧Kp w.heap.size none w w':=by
 have hb:=tmod_bd n m hm;have HE:=Lib.hid (tmod_emod n m hm);go_enter Tryz.func118,Tryz.ntmps118
 go_wp2
 ·
  have ht:n.tmod m<0:=by assumption
  go_ret
  exact⟨by rw[HE.out,if_pos ht];rfl,Kp.refl _ _ _⟩
 ·
  have ht:0≤n.tmod m:=by assumption
  go_ret
  exact⟨by rw[HE.out,if_neg oM];rfl,Kp.refl _ _ _⟩
theorem inSpan_w (s:Sp) (v:Int) (w:World) (h:s.fit) :
  Calls Tryz.prog 75 #[s,v] w fun e w'=>∃ x:Int,e=.returned (.int .i64 x)∧Kp w.heap.size none w w':=by
 have h2:=h.2.1;have h1:=h.1;have h3:=h.2.2;clear h;have hm:=mod_bounds v (s.hi-s.lo+1) oM;have cc:=fun w=>mod64_wide v (s.hi-s.lo+1) w oM oM;have e1:s.lo+v % (s.hi-s.lo+1)≤s.hi:=by omega
 have e2:s.lo≤s.lo+v % (s.hi-s.lo+1):=by omega
 generalize v % (s.hi-s.lo+1)=x at *;clear hm;obtain⟨w1,hw1,P,K,hz⟩:=box1 w 29 s;go_enter Tryz.func75,Tryz.ntmps75
 go_wp2_with fail
 rw[← hw1];clear hw1;obtain⟨S,hS0⟩:=cls_of (P:=fun w'=>Blk w' _ _ _∧Kp _ none _ w') w1 ⟨P,K⟩;try dsimp only at hS0
 have cP:=fun (x:Ev (S 0)) i=>((hS0 _).1 x.h).1.cell i;replace P:=P.drew;replace K:=K.drew;have hevT:=ev_true;refine wro S [(0,0),(1,1),(2,0),(3,0),(4,1),(5,0),(6,1),(7,0),(8,0),(9,2),(10,0),(11,0)] [] ((hS0 _).2 ⟨P,K⟩) ?_;intro _hev;refine oX ?_;refine oL ?_;intro Kc hKc;go_step;refine mK (cc _) fun w2 k=>?_;replace P:=P.kpN k;replace K:=K.tN k;clear k;refine hKc _ _ ((hS0 _).2 ⟨P,K⟩) ?_;clear hKc Kc;refine oX ?_;refine wpOrd_nil ?_;clear hevT _hev;clear cP hS0 S;go_wp2
 go_ret
 exact⟨_,rfl,K⟩
theorem st4_fin {Q:World→Prop} {w w4:World} {r:Nat} {T:TypeId} {cs:Array Value} {n:Nat} {row:Option Nat} {x0 x1 x2 x3:Int} (R:Blk w4 r T cs) (K:Kp n row w w4) (hr:n≤r)
  (h:∀ (s:St) w5,Blk w5 r T ((((cs.setIfInBounds 0 (.int .i64 s.x)).setIfInBounds 1 (.int .i64 s.y)).setIfInBounds 2 (.int .i64 s.u)).setIfInBounds 3 (.int .i64 s.v))→Kp w4.heap.size (some r) w4 w5→Kp n row w w5→Q w5) :
  Q ((((w4.setCell ⟨r,0,none⟩ (.int .i64 x0)).setCell ⟨r,1,none⟩ (.int .i64 x1)).setCell ⟨r,2,none⟩ (.int .i64 x2)).setCell ⟨r,3,none⟩ (.int .i64 x3)):=
 h ⟨x0,x1,x2,x3⟩ _ ((((R.set_ 0 _).set_ 1 _).set_ 2 _).set_ 3 _) (((((Kp.refl _ (some r) w4).setRow (p:=⟨r,_,none⟩) rfl _).setRow (p:=⟨r,_,none⟩) rfl _).setRow (p:=⟨r,_,none⟩) rfl _).setRow (p:=⟨r,_,none⟩) rfl _) ((((K.setNew hr _).setNew hr _).setNew hr _).setNew hr _)
theorem successorOf_any (g:Nat) (nums:List Int) (k:Nat) (A:Option Addr) (c:Nat) (W:Wd) (d:Dr) (t:Int) (s:St) (w:World) (HR:RingAt w g nums k) (hk:k≤900000) (hW:W.ok) (hA:WdAt (some g) w A W) (hd:d.ok) (ht:0≤t∧t≤1073741824) :
  Calls Tryz.prog 73 #[.pointer (some ⟨g,0,none⟩),.agg #[.slice A W.bs.length c,W.home],d,t,s] w (RPostB g nums (k+8) w fun v _=>∃ s':St,v=.agg s'):=by
 have hg:=HR.lt;have cp:=fun w h=>r3_Pull A c W d t ⟨s.x,s.y⟩ w hW h hd ht;dsimp only at cp;clear hW hd ht;obtain⟨w1,hw1,M,G,Z,R,K,hz⟩:=box4 w 27 #[.slice A W.bs.length c,W.home] 31 d 49 s 49 #[(0:Int),(0:Int),(0:Int),(0:Int)];replace HR:=HR.kpN K;replace K:=K.wide (some g);go_enter Tryz.func73,Tryz.ntmps73
 go_wp2_with fail
 rw[← hw1];clear hw1;have cM:=M.cell;have cG:=G.cell;have cZ:=Z.cell;go_wp2_with fail
 refine(cp _ (hA.kp K).free).mono ?_;rintro e w2 ⟨⟨a,b,v,rfl,f1,f2⟩,q⟩;clear cM cG cZ M G cp hA;replace Z:=Z.kpN q;replace R:=R.kpN q;replace HR:=HR.kpN q;replace K:=K.tN q;have lR:=R.lt;clear q;replace HR:=HR.alloc (.cells #[a.lo,a.hi,b.lo,b.hi] 53);have pZ:=Z.cell;have pR:=R.cell;obtain⟨w9_,rfl,L,k9_,hzn⟩:=box1 w2 53 #[a.lo,a.hi,b.lo,b.hi];replace Z:=Z.kpN k9_;replace R:=R.kpN k9_;replace K:=K.thenN k9_ oU;clear k9_;have cZ:=Z.cell;have fZ:=Z.frozen;have cR:=R.cell;have fR:=R.frozen;go_wp2_with fail
 clear cZ fZ pZ cR fR pR;generalize (w2.alloc (.cells #[a.lo,a.hi,b.lo,b.hi] 53))=w3 at *;obtain⟨y,hx⟩:∃ q9,q9=w2.heap.size:=⟨_,rfl⟩;rw[← hx] at L ⊢;replace hx:=Lib.hid hx;have y1:w.heap.size+4≤y:=by have:=hx.out;omega
 clear hx hzn hz lR;refine(func4_any g nums k _ HR oM).mono ?_;rintro e w4 ⟨v2,k2,rfl,⟨x0,x1,x2,x3,rfl⟩,hk2,HR2,kk⟩;replace Z:=Z.kq kk;replace R:=R.kq kk;replace L:=L.kq kk;replace K:=K.then_ kk (Nat.le_refl _);clear HR kk;have HR:=HR2;clear HR2;have lL:=L.lt;replace HR:=HR.alloc (.cells #[x0,x1,x2,x3] 148);have hzK:=K.size;have pZ:=Z.cell;have pR:=R.cell;have pL:=L.cell;obtain⟨w9_,rfl,F,k9_,hzn⟩:=box1 w4 148 #[x0,x1,x2,x3];replace Z:=Z.kpN k9_;replace R:=R.kpN k9_;replace L:=L.kpN k9_;replace K:=K.thenN k9_ oU;clear k9_;have cZ:=Z.cell;have fZ:=Z.frozen;have cR:=R.cell;have fR:=R.frozen;have cL:=L.cell;have fL:=L.frozen;go_wp2_with fail
 clear cZ fZ pZ cR fR pR cL fL pL;generalize (w4.alloc (.cells #[x0,x1,x2,x3] 148))=w5 at *;obtain⟨y2,hx⟩:∃ q9,q9=w4.heap.size:=⟨_,rfl⟩;rw[← hx] at F ⊢;replace hx:=Lib.hid hx;have y3:y<y2:=by have:=hx.out;omega
 clear hx hzn lL hzK;obtain⟨S,hS0,hS1⟩:=cls_of2 (P:=fun w'=>Blk w' _ _ _∧Blk w' _ _ _∧Blk w' _ _ _∧Kp _ _ _ w') w5 ⟨Z,L,F,K⟩;try dsimp only at hS0
 have cZ:=fun (x:Ev (S 0)) i=>((hS0 _).1 x.h).1.cell i;have cL:=fun (x:Ev (S 0)) i=>((hS0 _).1 x.h).2.1.cell i;have cF:=fun (x:Ev (S 0)) i=>((hS0 _).1 x.h).2.2.1.cell i;replace Z:=Z.drew;replace L:=L.drew;replace F:=F.drew;replace K:=K.drew;replace R:=R.drew;replace HR:=HR.drew;have hevT:=ev_true;refine wro S [(0,0),(1,1),(2,0),(3,1),(4,0),(5,1),(8,0),(9,1),(10,0),(11,1),(12,0),(13,1),(6,2),(7,0),(14,2),(15,0),(16,0),(17,0)] [] ((hS0 _).2 ⟨Z,L,F,K⟩) ?_;intro _hev;refine oX ?_;refine oL ?_;intro Kc hKc;generalize w5.drew=wd9 at *;go_step;refine(inSpan_w a _ _ f1).mono ?_;rintro e w6 ⟨u1,rfl,k⟩;replace Z:=Z.kpN k;replace L:=L.kpN k;replace F:=F.kpN k;replace R:=R.kpN k;replace HR:=HR.kpN k;replace K:=K.tN k;clear k;refine hKc _ _ ((hS0 _).2 ⟨Z,L,F,K⟩) ?_;clear hKc Kc;refine oX ?_;refine oL ?_;intro Kc hKc;go_step;refine(inSpan_w b _ _ f2).mono ?_;rintro e w7 ⟨u2,rfl,k⟩;replace Z:=Z.kpN k;replace L:=L.kpN k;replace F:=F.kpN k;replace R:=R.kpN k;replace HR:=HR.kpN k;replace K:=K.tN k;clear k;refine hKc _ _ ((hS0 _).2 ⟨Z,L,F,K⟩) ?_;clear hKc Kc;refine oX ?_;refine wpOrd_nil ?_;clear hevT _hev;clear cZ cL cF hS0 hS1 S;have cZ:=Z.cell;have cR:=R.cell;have fR:=R.frozen;go_wp2_with fail
 clear cR fR cZ;refine st4_fin (Q:=fun W=>bodyPost _ _ _ _ _ W) R K oM fun s' w9 B5 kst K5=>?_;have cR:=B5.cell;refine bodyPost_ret (v:=.agg s') ?_ rfl ⟨_,k2,rfl,⟨s',rfl⟩,hk2,HR.kpRow kst oM,K5⟩;simp[results,Tryz.results73,go_sem,cR]
end Go.Proofs.YtdhiappifnflpaaGreatDoor
