/- Orbits: the walks of orbit, eighth part: inside, Within. -/
import Derived.Test.YtdhiappifnflpaaGreatVv
namespace Go.Proofs.YtdhiappifnflpaaGreat
open Go.RowKit
def insS (a b:Sp):Bool:=decide (a.lo≤a.hi)&&(decide (b.lo≤a.lo)&&decide (a.hi≤b.hi))
def insB (a b:Bx):Bool:=insS a.x b.x&&(insS a.y b.y&&(insS a.u b.u&&insS a.v b.v))
theorem insB_self {b:Bx} (h:b.ord=true):insB b b=true:=by
 simp only[Bx.ord,decide_eq_true_eq] at h;simp[insB,insS,h]
set_option maxHeartbeats 4000000 in
theorem orbit_inside_any (a b:Bx) (w:World) :
  Calls Tryz.prog 43 #[.agg #[.int .i64 a.x.lo,.int .i64 a.x.hi,.int .i64 a.y.lo,.int .i64 a.y.hi,.int .i64 a.u.lo,.int .i64 a.u.hi,.int .i64 a.v.lo,.int .i64 a.v.hi],.agg #[.int .i64 b.x.lo,.int .i64 b.x.hi,.int .i64 b.y.lo,.int .i64 b.y.hi,.int .i64 b.u.lo,.int .i64 b.u.hi,.int .i64 b.v.lo,.int .i64 b.v.hi]] w fun e w'=>e=.returned (.bool (insB a b))∧Kp w.heap.size none w w':=by
 have co:=fun w=>orbit_of_any b w;have ca:=fun w=>orbit_of_any a w;unfold spansC at co ca;have i0:=index4s_0;have i1:=index4s_1;have i2:=index4s_2;have i3:=index4s_3;obtain⟨r,hr⟩:∃ q9,Hid (q9=insB a b):=⟨_,Lib.hid rfl⟩;rw[← hr.out];obtain⟨w1,hw1,B,C,K,hz⟩:=box2 w 33 #[.int .i64 a.x.lo,.int .i64 a.x.hi,.int .i64 a.y.lo,.int .i64 a.y.hi,.int .i64 a.u.lo,.int .i64 a.u.hi,.int .i64 a.v.lo,.int .i64 a.v.hi] 33 #[.int .i64 b.x.lo,.int .i64 b.x.hi,.int .i64 b.y.lo,.int .i64 b.y.hi,.int .i64 b.u.lo,.int .i64 b.u.hi,.int .i64 b.v.lo,.int .i64 b.v.hi];go_enter Tryz.func43,Tryz.ntmps43
 go_wp2_with fail
 rw[← hw1];clear hw1;refine(co _).mono ?_;rintro e w3 ⟨rfl,k⟩;replace B:=B.kpN k;replace K:=K.tN k;have hzk:=k.size;clear k;have pB:=B.cell;obtain⟨w9_,rfl,O,k9_,hzn⟩:=box1 w3 171 #[.int .i64 b.x.lo,.int .i64 b.x.hi,.int .i64 b.y.lo,.int .i64 b.y.hi,.int .i64 b.u.lo,.int .i64 b.u.hi,.int .i64 b.v.lo,.int .i64 b.v.hi];replace B:=B.kpN k9_;replace K:=K.thenN k9_ (by first|exact Nat.le_refl _|omega);clear k9_;have cB:=B.cell;have fB:=B.frozen;go_wp2_with fail
 clear cB fB pB;generalize (w3.alloc (.cells #[.int .i64 b.x.lo,.int .i64 b.x.hi,.int .i64 b.y.lo,.int .i64 b.y.hi,.int .i64 b.u.lo,.int .i64 b.u.hi,.int .i64 b.v.lo,.int .i64 b.v.hi] 171))=w4 at *;obtain⟨x,hx⟩:∃ q9,q9=w3.heap.size:=⟨_,rfl⟩;rw[← hx] at O ⊢;replace hx:=Lib.hid hx;have hxw:w.heap.size+2≤x:=by have:=hx.out;omega
 clear hx hzn hzk hz;have cO:=O.cell;have fO:=O.frozen;go_wp2_with fail
 refine(ca _).mono ?_;rintro e w5 ⟨rfl,k⟩;clear cO fO;replace O:=O.kpN k;replace K:=K.tN k;have hzk:=k.size;clear k;clear hzk;have cO:=O.cell;have fO:=O.frozen;go_wp2_with fail
 clear cO fO;go_loopw [12] (fun v wr=>∃ i:Nat,v=.int .i64 i∧i≤4∧fst4 (insS a.x b.x) (insS a.y b.y) (insS a.u b.u) (insS a.v b.v) i∧Blk wr x 171 #[.int .i64 b.x.lo,.int .i64 b.x.hi,.int .i64 b.y.lo,.int .i64 b.y.hi,.int .i64 b.u.lo,.int .i64 b.u.hi,.int .i64 b.v.lo,.int .i64 b.v.hi]∧Kp w.heap.size none w wr) (fun v _=>4-(intOf v).toNat)
 case atStart=>exact⟨0,rfl,by omega,⟨fun h=>by omega,fun h=>by omega,fun h=>by omega,fun h=>by omega⟩,O,K⟩
 case round=>
  obtain⟨i,rfl,hi,ho,N1,KK⟩:=hrel;clear K B O co ca;have N:=N1;have K:=KK;have hzs:=K.size;clear N1 KK;have hi':i=0∨i=1∨i=2∨i=3∨i=4:=by omega
  unfold fst4 at ho;rcases hi' with rfl|hi'
  ·
   rw[show ((0:Nat):Int)=(0:Int) from rfl];clear hi;have pN:=N.cell;obtain⟨w9_,rfl,Y,k9_,hzn⟩:=box1 wr 29 #[.int .i64 a.x.lo,.int .i64 a.x.hi];replace N:=N.kpN k9_;replace K:=K.thenN k9_ (by first|exact Nat.le_refl _|omega);clear k9_;have cN:=N.cell;have fN:=N.frozen;go_wp2_with fail
   clear cN fN pN;generalize (wr.alloc (.cells #[.int .i64 a.x.lo,.int .i64 a.x.hi] 29))=w5 at *;obtain⟨y,hx⟩:∃ q9,q9=wr.heap.size:=⟨_,rfl⟩;rw[← hx] at Y ⊢;replace hx:=Lib.hid hx;clear hx hzn;by_cases q1:a.x.hi<a.x.lo
   ·
    have hr2:r=false:=by rw[hr.out];unfold insB;simp[show insS a.x b.x=false from by (unfold insS;rw[decide_eq_false (by omega)];rfl)]
    clear ho hr;subst hr2;obtain⟨S,hS0,hS1⟩:=cls_of2 (P:=fun w'=>Blk w' _ _ _∧Blk w' _ _ _∧Kp _ _ _ w') w5 ⟨N,Y,K⟩;try dsimp only at hS0
    have cN:=fun (x:Ev (S 0)) i=>((hS0 _).1 x.h).1.cell i;have cY:=fun (x:Ev (S 0)) i=>((hS0 _).1 x.h).2.1.cell i;replace N:=N.drew;replace Y:=Y.drew;replace K:=K.drew;have hevT:=ev_true;refine wp_region_ord S [(0,0),(1,1),(2,0),(3,1),(4,0),(5,0),(6,0),(7,1),(8,0),(9,0),(10,0),(11,1),(12,0),(13,0),(14,0),(15,0),(16,1),(17,0),(18,0),(19,0),(20,1),(21,0),(22,0)] [] (by kernel_rfl) (by kernel_rfl) ((hS0 _).2 ⟨N,Y,K⟩) ?_;intro _hev;(first|refine oV ?_|refine oQ ?_);intro K hK;go_big_quiet_op;go_big_quiet_on
    (first|refine oV ?_|refine oQ ?_);intro K hK;go_big_quiet_op;go_big_quiet_on
    (first|refine oV ?_|refine oQ ?_);intro K hK;go_big_quiet_op;go_big_quiet_on
    (first|refine oV ?_|refine oQ ?_);intro K hK;go_big_quiet_op;go_big_quiet_on
    (first|refine oV ?_|refine oQ ?_);intro K hK;go_big_quiet_op;go_big_quiet_on
    (first|refine oV ?_|refine oQ ?_);intro K hK;go_big_quiet_op;go_big_quiet_on
    iterate 7 (refine wpOrd_s2 (by decide) rfl rfl rfl ?_;intro K hK;go_big_quiet_op;go_big_quiet_on)
    (first|refine oV ?_|refine oQ ?_);intro K hK;go_big_quiet_op;go_big_quiet_on
    (first|refine oV ?_|refine oQ ?_);intro K hK;go_big_quiet_op;go_big_quiet_on
    iterate 7 (refine wpOrd_s2 (by decide) rfl rfl rfl ?_;intro K hK;go_big_quiet_op;go_big_quiet_on)
    (first|refine oV ?_|refine oQ ?_);intro K hK;go_big_quiet_op;go_big_quiet_on
    refine wpOrd_nil ?_;clear hevT _hev;clear cN cY hS0 hS1 S;generalize w5.drew=w9 at *;go_wp2
    go_ret
    exact⟨rfl,K⟩
   ·
    by_cases q2:a.x.lo<b.x.lo
    ·
     have hr2:r=false:=by rw[hr.out];unfold insB;have:insS a.x b.x=false:=(by (unfold insS;rw[decide_eq_false (p:=b.x.lo≤a.x.lo) (by omega)];simp));simp[this]
     clear ho hr;subst hr2;obtain⟨S,hS0,hS1⟩:=cls_of2 (P:=fun w'=>Blk w' _ _ _∧Blk w' _ _ _∧Kp _ _ _ w') w5 ⟨N,Y,K⟩;try dsimp only at hS0
     have cN:=fun (x:Ev (S 0)) i=>((hS0 _).1 x.h).1.cell i;have cY:=fun (x:Ev (S 0)) i=>((hS0 _).1 x.h).2.1.cell i;replace N:=N.drew;replace Y:=Y.drew;replace K:=K.drew;have hevT:=ev_true;refine wp_region_ord S [(0,0),(1,1),(2,0),(3,1),(4,0),(5,0),(6,0),(7,1),(8,0),(9,0),(10,0),(11,1),(12,0),(13,0),(14,0),(15,0),(16,1),(17,0),(18,0),(19,0),(20,1),(21,0),(22,0)] [] (by kernel_rfl) (by kernel_rfl) ((hS0 _).2 ⟨N,Y,K⟩) ?_;intro _hev;(first|refine oV ?_|refine oQ ?_);intro K hK;go_big_quiet_op;go_big_quiet_on
     (first|refine oV ?_|refine oQ ?_);intro K hK;go_big_quiet_op;go_big_quiet_on
     (first|refine oV ?_|refine oQ ?_);intro K hK;go_big_quiet_op;go_big_quiet_on
     (first|refine oV ?_|refine oQ ?_);intro K hK;go_big_quiet_op;go_big_quiet_on
     (first|refine oV ?_|refine oQ ?_);intro K hK;go_big_quiet_op;go_big_quiet_on
     (first|refine oV ?_|refine oQ ?_);intro K hK;go_big_quiet_op;go_big_quiet_on
     (first|refine oV ?_|refine oQ ?_);intro K hK;go_big_quiet_op;go_big_quiet_on
     (first|refine oV ?_|refine oQ ?_);intro K hK;go_big_quiet_op;go_big_quiet_on
     (first|refine oV ?_|refine oQ ?_);intro K hK;go_big_quiet_op;go_big_quiet_on
     (first|refine oV ?_|refine oQ ?_);intro K hK;go_big_quiet_op;go_big_quiet_on
     (first|refine oV ?_|refine oQ ?_);intro K hK;go_big_quiet_op;go_big_quiet_on
     (first|refine oV ?_|refine oQ ?_);intro K hK;go_big_quiet_op;go_big_quiet_on
     (first|refine oV ?_|refine oQ ?_);intro K hK;go_big_quiet_op;go_big_quiet_on
     (first|refine oV ?_|refine oQ ?_);intro K hK;go_big_quiet_op;go_big_quiet_on
     (first|refine oV ?_|refine oQ ?_);intro K hK;go_big_quiet_op;go_big_quiet_on
     iterate 7 (refine wpOrd_s2 (by decide) rfl rfl rfl ?_;intro K hK;go_big_quiet_op;go_big_quiet_on)
     (first|refine oV ?_|refine oQ ?_);intro K hK;go_big_quiet_op;go_big_quiet_on
     refine wpOrd_nil ?_;clear hevT _hev;clear cN cY hS0 hS1 S;generalize w5.drew=w9 at *;go_wp2
     go_ret
     exact⟨rfl,K⟩
    ·
     by_cases q3:b.x.hi<a.x.hi
     ·
      have hr2:r=false:=by rw[hr.out];unfold insB;have:insS a.x b.x=false:=(by (unfold insS;rw[decide_eq_false (p:=a.x.hi≤b.x.hi) (by omega)];simp));simp[this]
      clear ho hr;subst hr2;obtain⟨S,hS0,hS1⟩:=cls_of2 (P:=fun w'=>Blk w' _ _ _∧Blk w' _ _ _∧Kp _ _ _ w') w5 ⟨N,Y,K⟩;try dsimp only at hS0
      have cN:=fun (x:Ev (S 0)) i=>((hS0 _).1 x.h).1.cell i;have cY:=fun (x:Ev (S 0)) i=>((hS0 _).1 x.h).2.1.cell i;replace N:=N.drew;replace Y:=Y.drew;replace K:=K.drew;have hevT:=ev_true;refine wp_region_ord S [(0,0),(1,1),(2,0),(3,1),(4,0),(5,0),(6,0),(7,1),(8,0),(9,0),(10,0),(11,1),(12,0),(13,0),(14,0),(15,0),(16,1),(17,0),(18,0),(19,0),(20,1),(21,0),(22,0)] [] (by kernel_rfl) (by kernel_rfl) ((hS0 _).2 ⟨N,Y,K⟩) ?_;intro _hev;iterate 23 (first|((first|refine oV ?_|refine oQ ?_);intro K hK;go_big_quiet_op;go_big_quiet_on)|refine oS ?_)
      refine wpOrd_nil ?_;clear hevT _hev;clear cN cY hS0 hS1 S;generalize w5.drew=w9 at *;go_wp2
      go_ret
      exact⟨rfl,K⟩
     ·
      have ht:insS a.x b.x=true:=by unfold insS;rw[decide_eq_true (p:=a.x.lo≤a.x.hi) (by omega),decide_eq_true (p:=b.x.lo≤a.x.lo) (by omega),decide_eq_true (p:=a.x.hi≤b.x.hi) (by omega)];rfl
      have hn:fst4 (insS a.x b.x) (insS a.y b.y) (insS a.u b.u) (insS a.v b.v) (0+1):=by unfold fst4;refine⟨fun h=>?_,fun h=>?_,fun h=>?_,fun h=>?_⟩<;>first|exact ht|exact ho.1 (by omega)|exact ho.2.1 (by omega)|exact ho.2.2.1 (by omega)|exact ho.2.2.2 (by omega)|omega
      clear ho ht;replace hn:=Lib.hid hn;obtain⟨S,hS0,hS1⟩:=cls_of2 (P:=fun w'=>Blk w' _ _ _∧Blk w' _ _ _∧Kp _ _ _ w') w5 ⟨N,Y,K⟩;try dsimp only at hS0
      have cN:=fun (x:Ev (S 0)) i=>((hS0 _).1 x.h).1.cell i;have cY:=fun (x:Ev (S 0)) i=>((hS0 _).1 x.h).2.1.cell i;replace N:=N.drew;replace Y:=Y.drew;replace K:=K.drew;have hevT:=ev_true;refine wp_region_ord S [(0,0),(1,1),(2,0),(3,1),(4,0),(5,0),(6,0),(7,1),(8,0),(9,0),(10,0),(11,1),(12,0),(13,0),(14,0),(15,0),(16,1),(17,0),(18,0),(19,0),(20,1),(21,0),(22,0)] [] (by kernel_rfl) (by kernel_rfl) ((hS0 _).2 ⟨N,Y,K⟩) ?_;intro _hev;iterate 23 (first|((first|refine oV ?_|refine oQ ?_);intro K hK;go_big_quiet_op;go_big_quiet_on)|refine oS ?_)
      refine wpOrd_nil ?_;clear hevT _hev;clear cN cY hS0 hS1 S;generalize w5.drew=w9 at *;go_wp2
      go_roundw
      case rel=>exact⟨0+1,rfl,by omega,hn.out,N,K⟩
      case measure=>simp[intOf]
  rcases hi' with rfl|hi'
  ·
   rw[show ((1:Nat):Int)=(1:Int) from rfl];clear hi;have pN:=N.cell;obtain⟨w9_,rfl,Y,k9_,hzn⟩:=box1 wr 29 #[.int .i64 a.y.lo,.int .i64 a.y.hi];replace N:=N.kpN k9_;replace K:=K.thenN k9_ (by first|exact Nat.le_refl _|omega);clear k9_;have cN:=N.cell;have fN:=N.frozen;go_wp2_with fail
   clear cN fN pN;generalize (wr.alloc (.cells #[.int .i64 a.y.lo,.int .i64 a.y.hi] 29))=w5 at *;obtain⟨y,hx⟩:∃ q9,q9=wr.heap.size:=⟨_,rfl⟩;rw[← hx] at Y ⊢;replace hx:=Lib.hid hx;clear hx hzn;by_cases q1:a.y.hi<a.y.lo
   ·
    have hr2:r=false:=by rw[hr.out];unfold insB;simp[show insS a.y b.y=false from by (unfold insS;rw[decide_eq_false (by omega)];rfl)]
    clear ho hr;subst hr2;obtain⟨S,hS0,hS1⟩:=cls_of2 (P:=fun w'=>Blk w' _ _ _∧Blk w' _ _ _∧Kp _ _ _ w') w5 ⟨N,Y,K⟩;try dsimp only at hS0
    have cN:=fun (x:Ev (S 0)) i=>((hS0 _).1 x.h).1.cell i;have cY:=fun (x:Ev (S 0)) i=>((hS0 _).1 x.h).2.1.cell i;replace N:=N.drew;replace Y:=Y.drew;replace K:=K.drew;have hevT:=ev_true;refine wp_region_ord S [(0,0),(1,1),(2,0),(3,1),(4,0),(5,0),(6,0),(7,1),(8,0),(9,0),(10,0),(11,1),(12,0),(13,0),(14,0),(15,0),(16,1),(17,0),(18,0),(19,0),(20,1),(21,0),(22,0)] [] (by kernel_rfl) (by kernel_rfl) ((hS0 _).2 ⟨N,Y,K⟩) ?_;intro _hev;(first|refine oV ?_|refine oQ ?_);intro K hK;go_big_quiet_op;go_big_quiet_on
    (first|refine oV ?_|refine oQ ?_);intro K hK;go_big_quiet_op;go_big_quiet_on
    (first|refine oV ?_|refine oQ ?_);intro K hK;go_big_quiet_op;go_big_quiet_on
    (first|refine oV ?_|refine oQ ?_);intro K hK;go_big_quiet_op;go_big_quiet_on
    (first|refine oV ?_|refine oQ ?_);intro K hK;go_big_quiet_op;go_big_quiet_on
    (first|refine oV ?_|refine oQ ?_);intro K hK;go_big_quiet_op;go_big_quiet_on
    iterate 7 (refine wpOrd_s2 (by decide) rfl rfl rfl ?_;intro K hK;go_big_quiet_op;go_big_quiet_on)
    (first|refine oV ?_|refine oQ ?_);intro K hK;go_big_quiet_op;go_big_quiet_on
    (first|refine oV ?_|refine oQ ?_);intro K hK;go_big_quiet_op;go_big_quiet_on
    iterate 7 (refine wpOrd_s2 (by decide) rfl rfl rfl ?_;intro K hK;go_big_quiet_op;go_big_quiet_on)
    (first|refine oV ?_|refine oQ ?_);intro K hK;go_big_quiet_op;go_big_quiet_on
    refine wpOrd_nil ?_;clear hevT _hev;clear cN cY hS0 hS1 S;generalize w5.drew=w9 at *;go_wp2
    go_ret
    exact⟨rfl,K⟩
   ·
    by_cases q2:a.y.lo<b.y.lo
    ·
     have hr2:r=false:=by rw[hr.out];unfold insB;have:insS a.y b.y=false:=(by (unfold insS;rw[decide_eq_false (p:=b.y.lo≤a.y.lo) (by omega)];simp));simp[this]
     clear ho hr;subst hr2;obtain⟨S,hS0,hS1⟩:=cls_of2 (P:=fun w'=>Blk w' _ _ _∧Blk w' _ _ _∧Kp _ _ _ w') w5 ⟨N,Y,K⟩;try dsimp only at hS0
     have cN:=fun (x:Ev (S 0)) i=>((hS0 _).1 x.h).1.cell i;have cY:=fun (x:Ev (S 0)) i=>((hS0 _).1 x.h).2.1.cell i;replace N:=N.drew;replace Y:=Y.drew;replace K:=K.drew;have hevT:=ev_true;refine wp_region_ord S [(0,0),(1,1),(2,0),(3,1),(4,0),(5,0),(6,0),(7,1),(8,0),(9,0),(10,0),(11,1),(12,0),(13,0),(14,0),(15,0),(16,1),(17,0),(18,0),(19,0),(20,1),(21,0),(22,0)] [] (by kernel_rfl) (by kernel_rfl) ((hS0 _).2 ⟨N,Y,K⟩) ?_;intro _hev;(first|refine oV ?_|refine oQ ?_);intro K hK;go_big_quiet_op;go_big_quiet_on
     (first|refine oV ?_|refine oQ ?_);intro K hK;go_big_quiet_op;go_big_quiet_on
     (first|refine oV ?_|refine oQ ?_);intro K hK;go_big_quiet_op;go_big_quiet_on
     (first|refine oV ?_|refine oQ ?_);intro K hK;go_big_quiet_op;go_big_quiet_on
     (first|refine oV ?_|refine oQ ?_);intro K hK;go_big_quiet_op;go_big_quiet_on
     (first|refine oV ?_|refine oQ ?_);intro K hK;go_big_quiet_op;go_big_quiet_on
     (first|refine oV ?_|refine oQ ?_);intro K hK;go_big_quiet_op;go_big_quiet_on
     (first|refine oV ?_|refine oQ ?_);intro K hK;go_big_quiet_op;go_big_quiet_on
     (first|refine oV ?_|refine oQ ?_);intro K hK;go_big_quiet_op;go_big_quiet_on
     (first|refine oV ?_|refine oQ ?_);intro K hK;go_big_quiet_op;go_big_quiet_on
     (first|refine oV ?_|refine oQ ?_);intro K hK;go_big_quiet_op;go_big_quiet_on
     (first|refine oV ?_|refine oQ ?_);intro K hK;go_big_quiet_op;go_big_quiet_on
     (first|refine oV ?_|refine oQ ?_);intro K hK;go_big_quiet_op;go_big_quiet_on
     (first|refine oV ?_|refine oQ ?_);intro K hK;go_big_quiet_op;go_big_quiet_on
     (first|refine oV ?_|refine oQ ?_);intro K hK;go_big_quiet_op;go_big_quiet_on
     iterate 7 (refine wpOrd_s2 (by decide) rfl rfl rfl ?_;intro K hK;go_big_quiet_op;go_big_quiet_on)
     (first|refine oV ?_|refine oQ ?_);intro K hK;go_big_quiet_op;go_big_quiet_on
     refine wpOrd_nil ?_;clear hevT _hev;clear cN cY hS0 hS1 S;generalize w5.drew=w9 at *;go_wp2
     go_ret
     exact⟨rfl,K⟩
    ·
     by_cases q3:b.y.hi<a.y.hi
     ·
      have hr2:r=false:=by rw[hr.out];unfold insB;have:insS a.y b.y=false:=(by (unfold insS;rw[decide_eq_false (p:=a.y.hi≤b.y.hi) (by omega)];simp));simp[this]
      clear ho hr;subst hr2;obtain⟨S,hS0,hS1⟩:=cls_of2 (P:=fun w'=>Blk w' _ _ _∧Blk w' _ _ _∧Kp _ _ _ w') w5 ⟨N,Y,K⟩;try dsimp only at hS0
      have cN:=fun (x:Ev (S 0)) i=>((hS0 _).1 x.h).1.cell i;have cY:=fun (x:Ev (S 0)) i=>((hS0 _).1 x.h).2.1.cell i;replace N:=N.drew;replace Y:=Y.drew;replace K:=K.drew;have hevT:=ev_true;refine wp_region_ord S [(0,0),(1,1),(2,0),(3,1),(4,0),(5,0),(6,0),(7,1),(8,0),(9,0),(10,0),(11,1),(12,0),(13,0),(14,0),(15,0),(16,1),(17,0),(18,0),(19,0),(20,1),(21,0),(22,0)] [] (by kernel_rfl) (by kernel_rfl) ((hS0 _).2 ⟨N,Y,K⟩) ?_;intro _hev;iterate 23 (first|((first|refine oV ?_|refine oQ ?_);intro K hK;go_big_quiet_op;go_big_quiet_on)|refine oS ?_)
      refine wpOrd_nil ?_;clear hevT _hev;clear cN cY hS0 hS1 S;generalize w5.drew=w9 at *;go_wp2
      go_ret
      exact⟨rfl,K⟩
     ·
      have ht:insS a.y b.y=true:=by unfold insS;rw[decide_eq_true (p:=a.y.lo≤a.y.hi) (by omega),decide_eq_true (p:=b.y.lo≤a.y.lo) (by omega),decide_eq_true (p:=a.y.hi≤b.y.hi) (by omega)];rfl
      have hn:fst4 (insS a.x b.x) (insS a.y b.y) (insS a.u b.u) (insS a.v b.v) (1+1):=by unfold fst4;refine⟨fun h=>?_,fun h=>?_,fun h=>?_,fun h=>?_⟩<;>first|exact ht|exact ho.1 (by omega)|exact ho.2.1 (by omega)|exact ho.2.2.1 (by omega)|exact ho.2.2.2 (by omega)|omega
      clear ho ht;replace hn:=Lib.hid hn;obtain⟨S,hS0,hS1⟩:=cls_of2 (P:=fun w'=>Blk w' _ _ _∧Blk w' _ _ _∧Kp _ _ _ w') w5 ⟨N,Y,K⟩;try dsimp only at hS0
      have cN:=fun (x:Ev (S 0)) i=>((hS0 _).1 x.h).1.cell i;have cY:=fun (x:Ev (S 0)) i=>((hS0 _).1 x.h).2.1.cell i;replace N:=N.drew;replace Y:=Y.drew;replace K:=K.drew;have hevT:=ev_true;refine wp_region_ord S [(0,0),(1,1),(2,0),(3,1),(4,0),(5,0),(6,0),(7,1),(8,0),(9,0),(10,0),(11,1),(12,0),(13,0),(14,0),(15,0),(16,1),(17,0),(18,0),(19,0),(20,1),(21,0),(22,0)] [] (by kernel_rfl) (by kernel_rfl) ((hS0 _).2 ⟨N,Y,K⟩) ?_;intro _hev;iterate 23 (first|((first|refine oV ?_|refine oQ ?_);intro K hK;go_big_quiet_op;go_big_quiet_on)|refine oS ?_)
      refine wpOrd_nil ?_;clear hevT _hev;clear cN cY hS0 hS1 S;generalize w5.drew=w9 at *;go_wp2
      go_roundw
      case rel=>exact⟨1+1,rfl,by omega,hn.out,N,K⟩
      case measure=>simp[intOf]
  rcases hi' with rfl|hi'
  ·
   rw[show ((2:Nat):Int)=(2:Int) from rfl];clear hi;have pN:=N.cell;obtain⟨w9_,rfl,Y,k9_,hzn⟩:=box1 wr 29 #[.int .i64 a.u.lo,.int .i64 a.u.hi];replace N:=N.kpN k9_;replace K:=K.thenN k9_ (by first|exact Nat.le_refl _|omega);clear k9_;have cN:=N.cell;have fN:=N.frozen;go_wp2_with fail
   clear cN fN pN;generalize (wr.alloc (.cells #[.int .i64 a.u.lo,.int .i64 a.u.hi] 29))=w5 at *;obtain⟨y,hx⟩:∃ q9,q9=wr.heap.size:=⟨_,rfl⟩;rw[← hx] at Y ⊢;replace hx:=Lib.hid hx;clear hx hzn;by_cases q1:a.u.hi<a.u.lo
   ·
    have hr2:r=false:=by rw[hr.out];unfold insB;simp[show insS a.u b.u=false from by (unfold insS;rw[decide_eq_false (by omega)];rfl)]
    clear ho hr;subst hr2;obtain⟨S,hS0,hS1⟩:=cls_of2 (P:=fun w'=>Blk w' _ _ _∧Blk w' _ _ _∧Kp _ _ _ w') w5 ⟨N,Y,K⟩;try dsimp only at hS0
    have cN:=fun (x:Ev (S 0)) i=>((hS0 _).1 x.h).1.cell i;have cY:=fun (x:Ev (S 0)) i=>((hS0 _).1 x.h).2.1.cell i;replace N:=N.drew;replace Y:=Y.drew;replace K:=K.drew;have hevT:=ev_true;refine wp_region_ord S [(0,0),(1,1),(2,0),(3,1),(4,0),(5,0),(6,0),(7,1),(8,0),(9,0),(10,0),(11,1),(12,0),(13,0),(14,0),(15,0),(16,1),(17,0),(18,0),(19,0),(20,1),(21,0),(22,0)] [] (by kernel_rfl) (by kernel_rfl) ((hS0 _).2 ⟨N,Y,K⟩) ?_;intro _hev;(first|refine oV ?_|refine oQ ?_);intro K hK;go_big_quiet_op;go_big_quiet_on
    (first|refine oV ?_|refine oQ ?_);intro K hK;go_big_quiet_op;go_big_quiet_on
    (first|refine oV ?_|refine oQ ?_);intro K hK;go_big_quiet_op;go_big_quiet_on
    (first|refine oV ?_|refine oQ ?_);intro K hK;go_big_quiet_op;go_big_quiet_on
    (first|refine oV ?_|refine oQ ?_);intro K hK;go_big_quiet_op;go_big_quiet_on
    (first|refine oV ?_|refine oQ ?_);intro K hK;go_big_quiet_op;go_big_quiet_on
    iterate 7 (refine wpOrd_s2 (by decide) rfl rfl rfl ?_;intro K hK;go_big_quiet_op;go_big_quiet_on)
    (first|refine oV ?_|refine oQ ?_);intro K hK;go_big_quiet_op;go_big_quiet_on
    (first|refine oV ?_|refine oQ ?_);intro K hK;go_big_quiet_op;go_big_quiet_on
    iterate 7 (refine wpOrd_s2 (by decide) rfl rfl rfl ?_;intro K hK;go_big_quiet_op;go_big_quiet_on)
    (first|refine oV ?_|refine oQ ?_);intro K hK;go_big_quiet_op;go_big_quiet_on
    refine wpOrd_nil ?_;clear hevT _hev;clear cN cY hS0 hS1 S;generalize w5.drew=w9 at *;go_wp2
    go_ret
    exact⟨rfl,K⟩
   ·
    by_cases q2:a.u.lo<b.u.lo
    ·
     have hr2:r=false:=by rw[hr.out];unfold insB;have:insS a.u b.u=false:=(by (unfold insS;rw[decide_eq_false (p:=b.u.lo≤a.u.lo) (by omega)];simp));simp[this]
     clear ho hr;subst hr2;obtain⟨S,hS0,hS1⟩:=cls_of2 (P:=fun w'=>Blk w' _ _ _∧Blk w' _ _ _∧Kp _ _ _ w') w5 ⟨N,Y,K⟩;try dsimp only at hS0
     have cN:=fun (x:Ev (S 0)) i=>((hS0 _).1 x.h).1.cell i;have cY:=fun (x:Ev (S 0)) i=>((hS0 _).1 x.h).2.1.cell i;replace N:=N.drew;replace Y:=Y.drew;replace K:=K.drew;have hevT:=ev_true;refine wp_region_ord S [(0,0),(1,1),(2,0),(3,1),(4,0),(5,0),(6,0),(7,1),(8,0),(9,0),(10,0),(11,1),(12,0),(13,0),(14,0),(15,0),(16,1),(17,0),(18,0),(19,0),(20,1),(21,0),(22,0)] [] (by kernel_rfl) (by kernel_rfl) ((hS0 _).2 ⟨N,Y,K⟩) ?_;intro _hev;(first|refine oV ?_|refine oQ ?_);intro K hK;go_big_quiet_op;go_big_quiet_on
     (first|refine oV ?_|refine oQ ?_);intro K hK;go_big_quiet_op;go_big_quiet_on
     (first|refine oV ?_|refine oQ ?_);intro K hK;go_big_quiet_op;go_big_quiet_on
     (first|refine oV ?_|refine oQ ?_);intro K hK;go_big_quiet_op;go_big_quiet_on
     (first|refine oV ?_|refine oQ ?_);intro K hK;go_big_quiet_op;go_big_quiet_on
     (first|refine oV ?_|refine oQ ?_);intro K hK;go_big_quiet_op;go_big_quiet_on
     (first|refine oV ?_|refine oQ ?_);intro K hK;go_big_quiet_op;go_big_quiet_on
     (first|refine oV ?_|refine oQ ?_);intro K hK;go_big_quiet_op;go_big_quiet_on
     (first|refine oV ?_|refine oQ ?_);intro K hK;go_big_quiet_op;go_big_quiet_on
     (first|refine oV ?_|refine oQ ?_);intro K hK;go_big_quiet_op;go_big_quiet_on
     (first|refine oV ?_|refine oQ ?_);intro K hK;go_big_quiet_op;go_big_quiet_on
     (first|refine oV ?_|refine oQ ?_);intro K hK;go_big_quiet_op;go_big_quiet_on
     (first|refine oV ?_|refine oQ ?_);intro K hK;go_big_quiet_op;go_big_quiet_on
     (first|refine oV ?_|refine oQ ?_);intro K hK;go_big_quiet_op;go_big_quiet_on
     (first|refine oV ?_|refine oQ ?_);intro K hK;go_big_quiet_op;go_big_quiet_on
     iterate 7 (refine wpOrd_s2 (by decide) rfl rfl rfl ?_;intro K hK;go_big_quiet_op;go_big_quiet_on)
     (first|refine oV ?_|refine oQ ?_);intro K hK;go_big_quiet_op;go_big_quiet_on
     refine wpOrd_nil ?_;clear hevT _hev;clear cN cY hS0 hS1 S;generalize w5.drew=w9 at *;go_wp2
     go_ret
     exact⟨rfl,K⟩
    ·
     by_cases q3:b.u.hi<a.u.hi
     ·
      have hr2:r=false:=by rw[hr.out];unfold insB;have:insS a.u b.u=false:=(by (unfold insS;rw[decide_eq_false (p:=a.u.hi≤b.u.hi) (by omega)];simp));simp[this]
      clear ho hr;subst hr2;obtain⟨S,hS0,hS1⟩:=cls_of2 (P:=fun w'=>Blk w' _ _ _∧Blk w' _ _ _∧Kp _ _ _ w') w5 ⟨N,Y,K⟩;try dsimp only at hS0
      have cN:=fun (x:Ev (S 0)) i=>((hS0 _).1 x.h).1.cell i;have cY:=fun (x:Ev (S 0)) i=>((hS0 _).1 x.h).2.1.cell i;replace N:=N.drew;replace Y:=Y.drew;replace K:=K.drew;have hevT:=ev_true;refine wp_region_ord S [(0,0),(1,1),(2,0),(3,1),(4,0),(5,0),(6,0),(7,1),(8,0),(9,0),(10,0),(11,1),(12,0),(13,0),(14,0),(15,0),(16,1),(17,0),(18,0),(19,0),(20,1),(21,0),(22,0)] [] (by kernel_rfl) (by kernel_rfl) ((hS0 _).2 ⟨N,Y,K⟩) ?_;intro _hev;iterate 23 (first|((first|refine oV ?_|refine oQ ?_);intro K hK;go_big_quiet_op;go_big_quiet_on)|refine oS ?_)
      refine wpOrd_nil ?_;clear hevT _hev;clear cN cY hS0 hS1 S;generalize w5.drew=w9 at *;go_wp2
      go_ret
      exact⟨rfl,K⟩
     ·
      have ht:insS a.u b.u=true:=by unfold insS;rw[decide_eq_true (p:=a.u.lo≤a.u.hi) (by omega),decide_eq_true (p:=b.u.lo≤a.u.lo) (by omega),decide_eq_true (p:=a.u.hi≤b.u.hi) (by omega)];rfl
      have hn:fst4 (insS a.x b.x) (insS a.y b.y) (insS a.u b.u) (insS a.v b.v) (2+1):=by unfold fst4;refine⟨fun h=>?_,fun h=>?_,fun h=>?_,fun h=>?_⟩<;>first|exact ht|exact ho.1 (by omega)|exact ho.2.1 (by omega)|exact ho.2.2.1 (by omega)|exact ho.2.2.2 (by omega)|omega
      clear ho ht;replace hn:=Lib.hid hn;obtain⟨S,hS0,hS1⟩:=cls_of2 (P:=fun w'=>Blk w' _ _ _∧Blk w' _ _ _∧Kp _ _ _ w') w5 ⟨N,Y,K⟩;try dsimp only at hS0
      have cN:=fun (x:Ev (S 0)) i=>((hS0 _).1 x.h).1.cell i;have cY:=fun (x:Ev (S 0)) i=>((hS0 _).1 x.h).2.1.cell i;replace N:=N.drew;replace Y:=Y.drew;replace K:=K.drew;have hevT:=ev_true;refine wp_region_ord S [(0,0),(1,1),(2,0),(3,1),(4,0),(5,0),(6,0),(7,1),(8,0),(9,0),(10,0),(11,1),(12,0),(13,0),(14,0),(15,0),(16,1),(17,0),(18,0),(19,0),(20,1),(21,0),(22,0)] [] (by kernel_rfl) (by kernel_rfl) ((hS0 _).2 ⟨N,Y,K⟩) ?_;intro _hev;iterate 23 (first|((first|refine oV ?_|refine oQ ?_);intro K hK;go_big_quiet_op;go_big_quiet_on)|refine oS ?_)
      refine wpOrd_nil ?_;clear hevT _hev;clear cN cY hS0 hS1 S;generalize w5.drew=w9 at *;go_wp2
      go_roundw
      case rel=>exact⟨2+1,rfl,by omega,hn.out,N,K⟩
      case measure=>simp[intOf]
  rcases hi' with rfl|hi'
  ·
   rw[show ((3:Nat):Int)=(3:Int) from rfl];clear hi;have pN:=N.cell;obtain⟨w9_,rfl,Y,k9_,hzn⟩:=box1 wr 29 #[.int .i64 a.v.lo,.int .i64 a.v.hi];replace N:=N.kpN k9_;replace K:=K.thenN k9_ (by first|exact Nat.le_refl _|omega);clear k9_;have cN:=N.cell;have fN:=N.frozen;go_wp2_with fail
   clear cN fN pN;generalize (wr.alloc (.cells #[.int .i64 a.v.lo,.int .i64 a.v.hi] 29))=w5 at *;obtain⟨y,hx⟩:∃ q9,q9=wr.heap.size:=⟨_,rfl⟩;rw[← hx] at Y ⊢;replace hx:=Lib.hid hx;clear hx hzn;by_cases q1:a.v.hi<a.v.lo
   ·
    have hr2:r=false:=by rw[hr.out];unfold insB;simp[show insS a.v b.v=false from by (unfold insS;rw[decide_eq_false (by omega)];rfl)]
    clear ho hr;subst hr2;obtain⟨S,hS0,hS1⟩:=cls_of2 (P:=fun w'=>Blk w' _ _ _∧Blk w' _ _ _∧Kp _ _ _ w') w5 ⟨N,Y,K⟩;try dsimp only at hS0
    have cN:=fun (x:Ev (S 0)) i=>((hS0 _).1 x.h).1.cell i;have cY:=fun (x:Ev (S 0)) i=>((hS0 _).1 x.h).2.1.cell i;replace N:=N.drew;replace Y:=Y.drew;replace K:=K.drew;have hevT:=ev_true;refine wp_region_ord S [(0,0),(1,1),(2,0),(3,1),(4,0),(5,0),(6,0),(7,1),(8,0),(9,0),(10,0),(11,1),(12,0),(13,0),(14,0),(15,0),(16,1),(17,0),(18,0),(19,0),(20,1),(21,0),(22,0)] [] (by kernel_rfl) (by kernel_rfl) ((hS0 _).2 ⟨N,Y,K⟩) ?_;intro _hev;(first|refine oV ?_|refine oQ ?_);intro K hK;go_big_quiet_op;go_big_quiet_on
    (first|refine oV ?_|refine oQ ?_);intro K hK;go_big_quiet_op;go_big_quiet_on
    (first|refine oV ?_|refine oQ ?_);intro K hK;go_big_quiet_op;go_big_quiet_on
    (first|refine oV ?_|refine oQ ?_);intro K hK;go_big_quiet_op;go_big_quiet_on
    (first|refine oV ?_|refine oQ ?_);intro K hK;go_big_quiet_op;go_big_quiet_on
    (first|refine oV ?_|refine oQ ?_);intro K hK;go_big_quiet_op;go_big_quiet_on
    iterate 7 (refine wpOrd_s2 (by decide) rfl rfl rfl ?_;intro K hK;go_big_quiet_op;go_big_quiet_on)
    (first|refine oV ?_|refine oQ ?_);intro K hK;go_big_quiet_op;go_big_quiet_on
    (first|refine oV ?_|refine oQ ?_);intro K hK;go_big_quiet_op;go_big_quiet_on
    iterate 7 (refine wpOrd_s2 (by decide) rfl rfl rfl ?_;intro K hK;go_big_quiet_op;go_big_quiet_on)
    (first|refine oV ?_|refine oQ ?_);intro K hK;go_big_quiet_op;go_big_quiet_on
    refine wpOrd_nil ?_;clear hevT _hev;clear cN cY hS0 hS1 S;generalize w5.drew=w9 at *;go_wp2
    go_ret
    exact⟨rfl,K⟩
   ·
    by_cases q2:a.v.lo<b.v.lo
    ·
     have hr2:r=false:=by rw[hr.out];unfold insB;have:insS a.v b.v=false:=(by (unfold insS;rw[decide_eq_false (p:=b.v.lo≤a.v.lo) (by omega)];simp));simp[this]
     clear ho hr;subst hr2;obtain⟨S,hS0,hS1⟩:=cls_of2 (P:=fun w'=>Blk w' _ _ _∧Blk w' _ _ _∧Kp _ _ _ w') w5 ⟨N,Y,K⟩;try dsimp only at hS0
     have cN:=fun (x:Ev (S 0)) i=>((hS0 _).1 x.h).1.cell i;have cY:=fun (x:Ev (S 0)) i=>((hS0 _).1 x.h).2.1.cell i;replace N:=N.drew;replace Y:=Y.drew;replace K:=K.drew;have hevT:=ev_true;refine wp_region_ord S [(0,0),(1,1),(2,0),(3,1),(4,0),(5,0),(6,0),(7,1),(8,0),(9,0),(10,0),(11,1),(12,0),(13,0),(14,0),(15,0),(16,1),(17,0),(18,0),(19,0),(20,1),(21,0),(22,0)] [] (by kernel_rfl) (by kernel_rfl) ((hS0 _).2 ⟨N,Y,K⟩) ?_;intro _hev;(first|refine oV ?_|refine oQ ?_);intro K hK;go_big_quiet_op;go_big_quiet_on
     (first|refine oV ?_|refine oQ ?_);intro K hK;go_big_quiet_op;go_big_quiet_on
     (first|refine oV ?_|refine oQ ?_);intro K hK;go_big_quiet_op;go_big_quiet_on
     (first|refine oV ?_|refine oQ ?_);intro K hK;go_big_quiet_op;go_big_quiet_on
     (first|refine oV ?_|refine oQ ?_);intro K hK;go_big_quiet_op;go_big_quiet_on
     (first|refine oV ?_|refine oQ ?_);intro K hK;go_big_quiet_op;go_big_quiet_on
     (first|refine oV ?_|refine oQ ?_);intro K hK;go_big_quiet_op;go_big_quiet_on
     (first|refine oV ?_|refine oQ ?_);intro K hK;go_big_quiet_op;go_big_quiet_on
     (first|refine oV ?_|refine oQ ?_);intro K hK;go_big_quiet_op;go_big_quiet_on
     (first|refine oV ?_|refine oQ ?_);intro K hK;go_big_quiet_op;go_big_quiet_on
     (first|refine oV ?_|refine oQ ?_);intro K hK;go_big_quiet_op;go_big_quiet_on
     (first|refine oV ?_|refine oQ ?_);intro K hK;go_big_quiet_op;go_big_quiet_on
     (first|refine oV ?_|refine oQ ?_);intro K hK;go_big_quiet_op;go_big_quiet_on
     (first|refine oV ?_|refine oQ ?_);intro K hK;go_big_quiet_op;go_big_quiet_on
     (first|refine oV ?_|refine oQ ?_);intro K hK;go_big_quiet_op;go_big_quiet_on
     iterate 7 (refine wpOrd_s2 (by decide) rfl rfl rfl ?_;intro K hK;go_big_quiet_op;go_big_quiet_on)
     (first|refine oV ?_|refine oQ ?_);intro K hK;go_big_quiet_op;go_big_quiet_on
     refine wpOrd_nil ?_;clear hevT _hev;clear cN cY hS0 hS1 S;generalize w5.drew=w9 at *;go_wp2
     go_ret
     exact⟨rfl,K⟩
    ·
     by_cases q3:b.v.hi<a.v.hi
     ·
      have hr2:r=false:=by rw[hr.out];unfold insB;have:insS a.v b.v=false:=(by (unfold insS;rw[decide_eq_false (p:=a.v.hi≤b.v.hi) (by omega)];simp));simp[this]
      clear ho hr;subst hr2;obtain⟨S,hS0,hS1⟩:=cls_of2 (P:=fun w'=>Blk w' _ _ _∧Blk w' _ _ _∧Kp _ _ _ w') w5 ⟨N,Y,K⟩;try dsimp only at hS0
      have cN:=fun (x:Ev (S 0)) i=>((hS0 _).1 x.h).1.cell i;have cY:=fun (x:Ev (S 0)) i=>((hS0 _).1 x.h).2.1.cell i;replace N:=N.drew;replace Y:=Y.drew;replace K:=K.drew;have hevT:=ev_true;refine wp_region_ord S [(0,0),(1,1),(2,0),(3,1),(4,0),(5,0),(6,0),(7,1),(8,0),(9,0),(10,0),(11,1),(12,0),(13,0),(14,0),(15,0),(16,1),(17,0),(18,0),(19,0),(20,1),(21,0),(22,0)] [] (by kernel_rfl) (by kernel_rfl) ((hS0 _).2 ⟨N,Y,K⟩) ?_;intro _hev;iterate 23 (first|((first|refine oV ?_|refine oQ ?_);intro K hK;go_big_quiet_op;go_big_quiet_on)|refine oS ?_)
      refine wpOrd_nil ?_;clear hevT _hev;clear cN cY hS0 hS1 S;generalize w5.drew=w9 at *;go_wp2
      go_ret
      exact⟨rfl,K⟩
     ·
      have ht:insS a.v b.v=true:=by unfold insS;rw[decide_eq_true (p:=a.v.lo≤a.v.hi) (by omega),decide_eq_true (p:=b.v.lo≤a.v.lo) (by omega),decide_eq_true (p:=a.v.hi≤b.v.hi) (by omega)];rfl
      have hn:fst4 (insS a.x b.x) (insS a.y b.y) (insS a.u b.u) (insS a.v b.v) (3+1):=by unfold fst4;refine⟨fun h=>?_,fun h=>?_,fun h=>?_,fun h=>?_⟩<;>first|exact ht|exact ho.1 (by omega)|exact ho.2.1 (by omega)|exact ho.2.2.1 (by omega)|exact ho.2.2.2 (by omega)|omega
      clear ho ht;replace hn:=Lib.hid hn;obtain⟨S,hS0,hS1⟩:=cls_of2 (P:=fun w'=>Blk w' _ _ _∧Blk w' _ _ _∧Kp _ _ _ w') w5 ⟨N,Y,K⟩;try dsimp only at hS0
      have cN:=fun (x:Ev (S 0)) i=>((hS0 _).1 x.h).1.cell i;have cY:=fun (x:Ev (S 0)) i=>((hS0 _).1 x.h).2.1.cell i;replace N:=N.drew;replace Y:=Y.drew;replace K:=K.drew;have hevT:=ev_true;refine wp_region_ord S [(0,0),(1,1),(2,0),(3,1),(4,0),(5,0),(6,0),(7,1),(8,0),(9,0),(10,0),(11,1),(12,0),(13,0),(14,0),(15,0),(16,1),(17,0),(18,0),(19,0),(20,1),(21,0),(22,0)] [] (by kernel_rfl) (by kernel_rfl) ((hS0 _).2 ⟨N,Y,K⟩) ?_;intro _hev;iterate 23 (first|((first|refine oV ?_|refine oQ ?_);intro K hK;go_big_quiet_op;go_big_quiet_on)|refine oS ?_)
      refine wpOrd_nil ?_;clear hevT _hev;clear cN cY hS0 hS1 S;generalize w5.drew=w9 at *;go_wp2
      go_roundw
      case rel=>exact⟨3+1,rfl,by omega,hn.out,N,K⟩
      case measure=>simp[intOf]
  subst hi';obtain⟨h0,h1,h2,h3⟩:=ho;have hx:Hid (r=true):=Lib.hid (by rw[hr.out];unfold insB;rw[h0 (by omega),h1 (by omega),h2 (by omega),h3 (by omega)];rfl);clear h0 h1 h2 h3;go_wp2
  go_ret
  exact⟨ret_bool hx.out.symm,K⟩
end Go.Proofs.YtdhiappifnflpaaGreat
