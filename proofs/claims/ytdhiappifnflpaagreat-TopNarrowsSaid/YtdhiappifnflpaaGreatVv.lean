/- Orbits: the walks of orbit, seventh part: Holds, In, inside, Within. -/
import Derived.Test.YtdhiappifnflpaaGreatM21
namespace Go.Proofs.YtdhiappifnflpaaGreat
open Go.RowKit
def holdsB (b:Bx) (s:St):Bool:=btw s.x b.x.lo b.x.hi&&(btw s.y b.y.lo b.y.hi&&(btw s.u b.u.lo b.u.hi&&btw s.v b.v.lo b.v.hi))
theorem holdsB_iff {b:Bx} {s:St}:holdsB b s=true↔b.has s:=by
 simp only[holdsB,btw,Bx.has,Sp.has,Bool.and_eq_true,decide_eq_true_eq]
def fst4 (x0 x1 x2 x3:Bool) (i:Nat):Prop:=(0<i→x0=true)∧(1<i→x1=true)∧(2<i→x2=true)∧(3<i→x3=true)
set_option maxHeartbeats 2000000 in
theorem orbit_Holds_any (b:Bx) (s:St) (w:World) :
  Calls Tryz.prog 42 #[.agg #[.int .i64 b.x.lo,.int .i64 b.x.hi,.int .i64 b.y.lo,.int .i64 b.y.hi,.int .i64 b.u.lo,.int .i64 b.u.hi,.int .i64 b.v.lo,.int .i64 b.v.hi],.agg #[.int .i64 s.x,.int .i64 s.y,.int .i64 s.u,.int .i64 s.v]] w fun e w'=>e=.returned (.bool (holdsB b s))∧Kp w.heap.size none w w':=by
 have co:=fun w=>orbit_of_any b w;unfold spansC at co;have i0:=index4s_0;have i1:=index4s_1;have i2:=index4s_2;have i3:=index4s_3;have c0:=fun w=>orbit_within_any s.x b.x.lo b.x.hi w;have c1:=fun w=>orbit_within_any s.y b.y.lo b.y.hi w;have c2:=fun w=>orbit_within_any s.u b.u.lo b.u.hi w;have c3:=fun w=>orbit_within_any s.v b.v.lo b.v.hi w;unfold holdsB;generalize btw s.x b.x.lo b.x.hi=x0 at *;generalize btw s.y b.y.lo b.y.hi=x1 at *;generalize btw s.u b.u.lo b.u.hi=x2 at *;generalize btw s.v b.v.lo b.v.hi=x3 at *;obtain⟨w1,hw1,B,C,N,K,hz⟩:=box3 w 33 #[.int .i64 b.x.lo,.int .i64 b.x.hi,.int .i64 b.y.lo,.int .i64 b.y.hi,.int .i64 b.u.lo,.int .i64 b.u.hi,.int .i64 b.v.lo,.int .i64 b.v.hi] 55 #[.int .i64 s.x,.int .i64 s.y,.int .i64 s.u,.int .i64 s.v] 125 #[.int .i64 s.x,.int .i64 s.y,.int .i64 s.u,.int .i64 s.v];go_enter Tryz.func42,Tryz.ntmps42
 go_wp2_with fail
 rw[← hw1];clear hw1;refine(co _).mono ?_;rintro e w3 ⟨rfl,k⟩;replace B:=B.kpN k;replace N:=N.kpN k;replace K:=K.tN k;have hzk:=k.size;clear k;clear hzk;have cB:=B.cell;have fB:=B.frozen;have cN:=N.cell;have fN:=N.frozen;go_wp2_with fail
 clear cB fB cN fN;go_loopw [19] (fun v wr=>∃ i:Nat,v=.int .i64 i∧i≤4∧fst4 x0 x1 x2 x3 i∧Blk wr (w.heap.size+2) 125 #[.int .i64 s.x,.int .i64 s.y,.int .i64 s.u,.int .i64 s.v]∧Kp w.heap.size none w wr) (fun v _=>4-(intOf v).toNat)
 case atStart=>exact⟨0,rfl,by omega,⟨fun h=>by omega,fun h=>by omega,fun h=>by omega,fun h=>by omega⟩,N,K⟩
 case round=>
  obtain⟨i,rfl,hi,ho,N1,KK⟩:=hrel;clear K B N co;have N:=N1;have K:=KK;have hzs:=K.size;clear N1 KK;have hi':i=0∨i=1∨i=2∨i=3∨i=4:=by omega
  unfold fst4 at ho;rcases hi' with rfl|hi'
  ·
   rw[show ((0:Nat):Int)=(0:Int) from rfl];clear hi;have pN:=N.cell;obtain⟨w9_,rfl,Y,k9_,hzn⟩:=box1 wr 29 #[.int .i64 b.x.lo,.int .i64 b.x.hi];replace N:=N.kpN k9_;replace K:=K.thenN k9_ (by first|exact Nat.le_refl _|omega);clear k9_;have cN:=N.cell;have fN:=N.frozen;go_wp2_with fail
   clear cN fN pN;generalize (wr.alloc (.cells #[.int .i64 b.x.lo,.int .i64 b.x.hi] 29))=w5 at *;obtain⟨y,hx⟩:∃ q9,q9=wr.heap.size:=⟨_,rfl⟩;rw[← hx] at Y ⊢;replace hx:=Lib.hid hx;clear hx hzn;cases x0
   ·
    clear ho;obtain⟨S,hS0,hS1⟩:=cls_of2 (P:=fun w'=>Blk w' _ _ _∧Blk w' _ _ _∧Kp _ _ _ w') w5 ⟨N,Y,K⟩;try dsimp only at hS0
    have cN:=fun (x:Ev (S 0)) i=>((hS0 _).1 x.h).1.cell i;have cY:=fun (x:Ev (S 0)) i=>((hS0 _).1 x.h).2.1.cell i;replace N:=N.drew;replace Y:=Y.drew;replace K:=K.drew;have hevT:=ev_true;refine wp_region_ord S [(0,0),(1,0),(2,1),(3,0),(4,1),(5,0),(6,1),(7,2),(8,0)] [] (by kernel_rfl) (by kernel_rfl) ((hS0 _).2 ⟨N,Y,K⟩) ?_;intro _hev;iterate 7 (first|((first|refine oV ?_|refine oQ ?_);intro K hK;go_big_quiet_op;go_big_quiet_on)|refine oS ?_)
    refine oL ?_;intro Kc hKc;generalize w5.drew=wd9 at *;go_step;refine(c0 _).mono ?_;rintro e w6 ⟨rfl,k⟩;replace N:=N.kpN k;replace Y:=Y.kpN k;replace K:=K.tN k;clear k;refine hKc _ _ ((hS0 _).2 ⟨N,Y,K⟩) ?_;clear hKc Kc;iterate 1 (first|((first|refine oV ?_|refine oQ ?_);intro K hK;go_big_quiet_op;go_big_quiet_on)|refine oS ?_)
    refine wpOrd_nil ?_;clear hevT _hev;clear cN cY hS0 hS1 S;go_wp2
    go_ret
    exact⟨by simp,K⟩
   ·
    have hn:fst4 true x1 x2 x3 (0+1):=by unfold fst4;refine⟨fun h=>?_,fun h=>?_,fun h=>?_,fun h=>?_⟩<;>first|rfl|exact ho.1 (by omega)|exact ho.2.1 (by omega)|exact ho.2.2.1 (by omega)|exact ho.2.2.2 (by omega)|omega
    clear ho;replace hn:=Lib.hid hn;obtain⟨S,hS0,hS1⟩:=cls_of2 (P:=fun w'=>Blk w' _ _ _∧Blk w' _ _ _∧Kp _ _ _ w') w5 ⟨N,Y,K⟩;try dsimp only at hS0
    have cN:=fun (x:Ev (S 0)) i=>((hS0 _).1 x.h).1.cell i;have cY:=fun (x:Ev (S 0)) i=>((hS0 _).1 x.h).2.1.cell i;replace N:=N.drew;replace Y:=Y.drew;replace K:=K.drew;have hevT:=ev_true;refine wp_region_ord S [(0,0),(1,0),(2,1),(3,0),(4,1),(5,0),(6,1),(7,2),(8,0)] [] (by kernel_rfl) (by kernel_rfl) ((hS0 _).2 ⟨N,Y,K⟩) ?_;intro _hev;iterate 7 (first|((first|refine oV ?_|refine oQ ?_);intro K hK;go_big_quiet_op;go_big_quiet_on)|refine oS ?_)
    refine oL ?_;intro Kc hKc;generalize w5.drew=wd9 at *;go_step;refine(c0 _).mono ?_;rintro e w6 ⟨rfl,k⟩;replace N:=N.kpN k;replace Y:=Y.kpN k;replace K:=K.tN k;clear k;refine hKc _ _ ((hS0 _).2 ⟨N,Y,K⟩) ?_;clear hKc Kc;iterate 1 (first|((first|refine oV ?_|refine oQ ?_);intro K hK;go_big_quiet_op;go_big_quiet_on)|refine oS ?_)
    refine wpOrd_nil ?_;clear hevT _hev;clear cN cY hS0 hS1 S;go_wp2
    go_roundw
    case rel=>exact⟨0+1,rfl,by omega,hn.out,N,K⟩
    case measure=>simp[intOf]
  rcases hi' with rfl|hi'
  ·
   rw[show ((1:Nat):Int)=(1:Int) from rfl];clear hi;have pN:=N.cell;obtain⟨w9_,rfl,Y,k9_,hzn⟩:=box1 wr 29 #[.int .i64 b.y.lo,.int .i64 b.y.hi];replace N:=N.kpN k9_;replace K:=K.thenN k9_ (by first|exact Nat.le_refl _|omega);clear k9_;have cN:=N.cell;have fN:=N.frozen;go_wp2_with fail
   clear cN fN pN;generalize (wr.alloc (.cells #[.int .i64 b.y.lo,.int .i64 b.y.hi] 29))=w5 at *;obtain⟨y,hx⟩:∃ q9,q9=wr.heap.size:=⟨_,rfl⟩;rw[← hx] at Y ⊢;replace hx:=Lib.hid hx;clear hx hzn;cases x1
   ·
    clear ho;obtain⟨S,hS0,hS1⟩:=cls_of2 (P:=fun w'=>Blk w' _ _ _∧Blk w' _ _ _∧Kp _ _ _ w') w5 ⟨N,Y,K⟩;try dsimp only at hS0
    have cN:=fun (x:Ev (S 0)) i=>((hS0 _).1 x.h).1.cell i;have cY:=fun (x:Ev (S 0)) i=>((hS0 _).1 x.h).2.1.cell i;replace N:=N.drew;replace Y:=Y.drew;replace K:=K.drew;have hevT:=ev_true;refine wp_region_ord S [(0,0),(1,0),(2,1),(3,0),(4,1),(5,0),(6,1),(7,2),(8,0)] [] (by kernel_rfl) (by kernel_rfl) ((hS0 _).2 ⟨N,Y,K⟩) ?_;intro _hev;iterate 7 (first|((first|refine oV ?_|refine oQ ?_);intro K hK;go_big_quiet_op;go_big_quiet_on)|refine oS ?_)
    refine oL ?_;intro Kc hKc;generalize w5.drew=wd9 at *;go_step;refine(c1 _).mono ?_;rintro e w6 ⟨rfl,k⟩;replace N:=N.kpN k;replace Y:=Y.kpN k;replace K:=K.tN k;clear k;refine hKc _ _ ((hS0 _).2 ⟨N,Y,K⟩) ?_;clear hKc Kc;iterate 1 (first|((first|refine oV ?_|refine oQ ?_);intro K hK;go_big_quiet_op;go_big_quiet_on)|refine oS ?_)
    refine wpOrd_nil ?_;clear hevT _hev;clear cN cY hS0 hS1 S;go_wp2
    go_ret
    exact⟨by simp,K⟩
   ·
    have hn:fst4 x0 true x2 x3 (1+1):=by unfold fst4;refine⟨fun h=>?_,fun h=>?_,fun h=>?_,fun h=>?_⟩<;>first|rfl|exact ho.1 (by omega)|exact ho.2.1 (by omega)|exact ho.2.2.1 (by omega)|exact ho.2.2.2 (by omega)|omega
    clear ho;replace hn:=Lib.hid hn;obtain⟨S,hS0,hS1⟩:=cls_of2 (P:=fun w'=>Blk w' _ _ _∧Blk w' _ _ _∧Kp _ _ _ w') w5 ⟨N,Y,K⟩;try dsimp only at hS0
    have cN:=fun (x:Ev (S 0)) i=>((hS0 _).1 x.h).1.cell i;have cY:=fun (x:Ev (S 0)) i=>((hS0 _).1 x.h).2.1.cell i;replace N:=N.drew;replace Y:=Y.drew;replace K:=K.drew;have hevT:=ev_true;refine wp_region_ord S [(0,0),(1,0),(2,1),(3,0),(4,1),(5,0),(6,1),(7,2),(8,0)] [] (by kernel_rfl) (by kernel_rfl) ((hS0 _).2 ⟨N,Y,K⟩) ?_;intro _hev;iterate 7 (first|((first|refine oV ?_|refine oQ ?_);intro K hK;go_big_quiet_op;go_big_quiet_on)|refine oS ?_)
    refine oL ?_;intro Kc hKc;generalize w5.drew=wd9 at *;go_step;refine(c1 _).mono ?_;rintro e w6 ⟨rfl,k⟩;replace N:=N.kpN k;replace Y:=Y.kpN k;replace K:=K.tN k;clear k;refine hKc _ _ ((hS0 _).2 ⟨N,Y,K⟩) ?_;clear hKc Kc;iterate 1 (first|((first|refine oV ?_|refine oQ ?_);intro K hK;go_big_quiet_op;go_big_quiet_on)|refine oS ?_)
    refine wpOrd_nil ?_;clear hevT _hev;clear cN cY hS0 hS1 S;go_wp2
    go_roundw
    case rel=>exact⟨1+1,rfl,by omega,hn.out,N,K⟩
    case measure=>simp[intOf]
  rcases hi' with rfl|hi'
  ·
   rw[show ((2:Nat):Int)=(2:Int) from rfl];clear hi;have pN:=N.cell;obtain⟨w9_,rfl,Y,k9_,hzn⟩:=box1 wr 29 #[.int .i64 b.u.lo,.int .i64 b.u.hi];replace N:=N.kpN k9_;replace K:=K.thenN k9_ (by first|exact Nat.le_refl _|omega);clear k9_;have cN:=N.cell;have fN:=N.frozen;go_wp2_with fail
   clear cN fN pN;generalize (wr.alloc (.cells #[.int .i64 b.u.lo,.int .i64 b.u.hi] 29))=w5 at *;obtain⟨y,hx⟩:∃ q9,q9=wr.heap.size:=⟨_,rfl⟩;rw[← hx] at Y ⊢;replace hx:=Lib.hid hx;clear hx hzn;cases x2
   ·
    clear ho;obtain⟨S,hS0,hS1⟩:=cls_of2 (P:=fun w'=>Blk w' _ _ _∧Blk w' _ _ _∧Kp _ _ _ w') w5 ⟨N,Y,K⟩;try dsimp only at hS0
    have cN:=fun (x:Ev (S 0)) i=>((hS0 _).1 x.h).1.cell i;have cY:=fun (x:Ev (S 0)) i=>((hS0 _).1 x.h).2.1.cell i;replace N:=N.drew;replace Y:=Y.drew;replace K:=K.drew;have hevT:=ev_true;refine wp_region_ord S [(0,0),(1,0),(2,1),(3,0),(4,1),(5,0),(6,1),(7,2),(8,0)] [] (by kernel_rfl) (by kernel_rfl) ((hS0 _).2 ⟨N,Y,K⟩) ?_;intro _hev;iterate 7 (first|((first|refine oV ?_|refine oQ ?_);intro K hK;go_big_quiet_op;go_big_quiet_on)|refine oS ?_)
    refine oL ?_;intro Kc hKc;generalize w5.drew=wd9 at *;go_step;refine(c2 _).mono ?_;rintro e w6 ⟨rfl,k⟩;replace N:=N.kpN k;replace Y:=Y.kpN k;replace K:=K.tN k;clear k;refine hKc _ _ ((hS0 _).2 ⟨N,Y,K⟩) ?_;clear hKc Kc;iterate 1 (first|((first|refine oV ?_|refine oQ ?_);intro K hK;go_big_quiet_op;go_big_quiet_on)|refine oS ?_)
    refine wpOrd_nil ?_;clear hevT _hev;clear cN cY hS0 hS1 S;go_wp2
    go_ret
    exact⟨by simp,K⟩
   ·
    have hn:fst4 x0 x1 true x3 (2+1):=by unfold fst4;refine⟨fun h=>?_,fun h=>?_,fun h=>?_,fun h=>?_⟩<;>first|rfl|exact ho.1 (by omega)|exact ho.2.1 (by omega)|exact ho.2.2.1 (by omega)|exact ho.2.2.2 (by omega)|omega
    clear ho;replace hn:=Lib.hid hn;obtain⟨S,hS0,hS1⟩:=cls_of2 (P:=fun w'=>Blk w' _ _ _∧Blk w' _ _ _∧Kp _ _ _ w') w5 ⟨N,Y,K⟩;try dsimp only at hS0
    have cN:=fun (x:Ev (S 0)) i=>((hS0 _).1 x.h).1.cell i;have cY:=fun (x:Ev (S 0)) i=>((hS0 _).1 x.h).2.1.cell i;replace N:=N.drew;replace Y:=Y.drew;replace K:=K.drew;have hevT:=ev_true;refine wp_region_ord S [(0,0),(1,0),(2,1),(3,0),(4,1),(5,0),(6,1),(7,2),(8,0)] [] (by kernel_rfl) (by kernel_rfl) ((hS0 _).2 ⟨N,Y,K⟩) ?_;intro _hev;iterate 7 (first|((first|refine oV ?_|refine oQ ?_);intro K hK;go_big_quiet_op;go_big_quiet_on)|refine oS ?_)
    refine oL ?_;intro Kc hKc;generalize w5.drew=wd9 at *;go_step;refine(c2 _).mono ?_;rintro e w6 ⟨rfl,k⟩;replace N:=N.kpN k;replace Y:=Y.kpN k;replace K:=K.tN k;clear k;refine hKc _ _ ((hS0 _).2 ⟨N,Y,K⟩) ?_;clear hKc Kc;iterate 1 (first|((first|refine oV ?_|refine oQ ?_);intro K hK;go_big_quiet_op;go_big_quiet_on)|refine oS ?_)
    refine wpOrd_nil ?_;clear hevT _hev;clear cN cY hS0 hS1 S;go_wp2
    go_roundw
    case rel=>exact⟨2+1,rfl,by omega,hn.out,N,K⟩
    case measure=>simp[intOf]
  rcases hi' with rfl|hi'
  ·
   rw[show ((3:Nat):Int)=(3:Int) from rfl];clear hi;have pN:=N.cell;obtain⟨w9_,rfl,Y,k9_,hzn⟩:=box1 wr 29 #[.int .i64 b.v.lo,.int .i64 b.v.hi];replace N:=N.kpN k9_;replace K:=K.thenN k9_ (by first|exact Nat.le_refl _|omega);clear k9_;have cN:=N.cell;have fN:=N.frozen;go_wp2_with fail
   clear cN fN pN;generalize (wr.alloc (.cells #[.int .i64 b.v.lo,.int .i64 b.v.hi] 29))=w5 at *;obtain⟨y,hx⟩:∃ q9,q9=wr.heap.size:=⟨_,rfl⟩;rw[← hx] at Y ⊢;replace hx:=Lib.hid hx;clear hx hzn;cases x3
   ·
    clear ho;obtain⟨S,hS0,hS1⟩:=cls_of2 (P:=fun w'=>Blk w' _ _ _∧Blk w' _ _ _∧Kp _ _ _ w') w5 ⟨N,Y,K⟩;try dsimp only at hS0
    have cN:=fun (x:Ev (S 0)) i=>((hS0 _).1 x.h).1.cell i;have cY:=fun (x:Ev (S 0)) i=>((hS0 _).1 x.h).2.1.cell i;replace N:=N.drew;replace Y:=Y.drew;replace K:=K.drew;have hevT:=ev_true;refine wp_region_ord S [(0,0),(1,0),(2,1),(3,0),(4,1),(5,0),(6,1),(7,2),(8,0)] [] (by kernel_rfl) (by kernel_rfl) ((hS0 _).2 ⟨N,Y,K⟩) ?_;intro _hev;iterate 7 (first|((first|refine oV ?_|refine oQ ?_);intro K hK;go_big_quiet_op;go_big_quiet_on)|refine oS ?_)
    refine oL ?_;intro Kc hKc;generalize w5.drew=wd9 at *;go_step;refine(c3 _).mono ?_;rintro e w6 ⟨rfl,k⟩;replace N:=N.kpN k;replace Y:=Y.kpN k;replace K:=K.tN k;clear k;refine hKc _ _ ((hS0 _).2 ⟨N,Y,K⟩) ?_;clear hKc Kc;iterate 1 (first|((first|refine oV ?_|refine oQ ?_);intro K hK;go_big_quiet_op;go_big_quiet_on)|refine oS ?_)
    refine wpOrd_nil ?_;clear hevT _hev;clear cN cY hS0 hS1 S;go_wp2
    go_ret
    exact⟨by simp,K⟩
   ·
    have hn:fst4 x0 x1 x2 true (3+1):=by unfold fst4;refine⟨fun h=>?_,fun h=>?_,fun h=>?_,fun h=>?_⟩<;>first|rfl|exact ho.1 (by omega)|exact ho.2.1 (by omega)|exact ho.2.2.1 (by omega)|exact ho.2.2.2 (by omega)|omega
    clear ho;replace hn:=Lib.hid hn;obtain⟨S,hS0,hS1⟩:=cls_of2 (P:=fun w'=>Blk w' _ _ _∧Blk w' _ _ _∧Kp _ _ _ w') w5 ⟨N,Y,K⟩;try dsimp only at hS0
    have cN:=fun (x:Ev (S 0)) i=>((hS0 _).1 x.h).1.cell i;have cY:=fun (x:Ev (S 0)) i=>((hS0 _).1 x.h).2.1.cell i;replace N:=N.drew;replace Y:=Y.drew;replace K:=K.drew;have hevT:=ev_true;refine wp_region_ord S [(0,0),(1,0),(2,1),(3,0),(4,1),(5,0),(6,1),(7,2),(8,0)] [] (by kernel_rfl) (by kernel_rfl) ((hS0 _).2 ⟨N,Y,K⟩) ?_;intro _hev;iterate 7 (first|((first|refine oV ?_|refine oQ ?_);intro K hK;go_big_quiet_op;go_big_quiet_on)|refine oS ?_)
    refine oL ?_;intro Kc hKc;generalize w5.drew=wd9 at *;go_step;refine(c3 _).mono ?_;rintro e w6 ⟨rfl,k⟩;replace N:=N.kpN k;replace Y:=Y.kpN k;replace K:=K.tN k;clear k;refine hKc _ _ ((hS0 _).2 ⟨N,Y,K⟩) ?_;clear hKc Kc;iterate 1 (first|((first|refine oV ?_|refine oQ ?_);intro K hK;go_big_quiet_op;go_big_quiet_on)|refine oS ?_)
    refine wpOrd_nil ?_;clear hevT _hev;clear cN cY hS0 hS1 S;go_wp2
    go_roundw
    case rel=>exact⟨3+1,rfl,by omega,hn.out,N,K⟩
    case measure=>simp[intOf]
  subst hi';obtain⟨h0,h1,h2,h3⟩:=ho;have hx:Hid ((x0&&(x1&&(x2&&x3)))=true):=Lib.hid (by rw[h0 (by omega),h1 (by omega),h2 (by omega),h3 (by omega)];rfl);clear h0 h1 h2 h3 c0 c1 c2 c3;go_wp2
  go_ret
  exact⟨ret_bool hx.out.symm,K⟩
theorem holds1_pred (B:Nat) (s:St) (xs:List Bx) (w:World) (hb:Blk w B 55 #[.int .i64 s.x,.int .i64 s.y,.int .i64 s.u,.int .i64 s.v]):PredK 41 #[.pointer (some ⟨B,0,none⟩)] oneBox (fun b=>holdsB b s) xs w:=fun W x _ hk=>by
 have C:=hb.kpN hk;unfold oneBox;change Calls Tryz.prog 41 #[.agg #[.int .i64 x.x.lo,.int .i64 x.x.hi,.int .i64 x.y.lo,.int .i64 x.y.hi,.int .i64 x.u.lo,.int .i64 x.u.hi,.int .i64 x.v.lo,.int .i64 x.v.hi],.pointer (some ⟨B,0,none⟩)] W fun e w'=>e=.returned (.bool (holdsB x s))∧Kp W.heap.size none W w';have hc:=fun w=>orbit_Holds_any x s w;generalize holdsB x s=r at *;have hB:=C.lt;have C1:=C.alloc (.cells #[.int .i64 x.x.lo,.int .i64 x.x.hi,.int .i64 x.y.lo,.int .i64 x.y.hi,.int .i64 x.u.lo,.int .i64 x.u.hi,.int .i64 x.v.lo,.int .i64 x.v.hi] 33);have k1:=Kp.new1 W (.cells #[.int .i64 x.x.lo,.int .i64 x.x.hi,.int .i64 x.y.lo,.int .i64 x.y.hi,.int .i64 x.u.lo,.int .i64 x.u.hi,.int .i64 x.v.lo,.int .i64 x.v.hi] 33);have cC:=C1.cell;have hne:B≠W.heap.size:=by omega
 go_enter Tryz.func41,Tryz.ntmps41
 go_wp2_with fail
 refine(hc _).mono ?_;rintro e w2 ⟨rfl,k⟩;go_wp2
 go_ret
 exact⟨rfl,k1.thenN k (Nat.le_refl _)⟩
theorem orbit_In_any (A:Option Addr) (c:Nat) (l:List Bx) (s:St) (w:World) (hr:Rd none w 8 encBx A l.length l) (hl:l.length≤1000) :
  Calls Tryz.prog 13 #[.slice A l.length c,.agg #[.int .i64 s.x,.int .i64 s.y,.int .i64 s.u,.int .i64 s.v]] w fun e w'=>e=.returned (.bool (l.any fun b=>holdsB b s))∧Kp w.heap.size none w w':=by
 have S:=Blk.new w 55 #[.int .i64 s.x,.int .i64 s.y,.int .i64 s.u,.int .i64 s.v];have K:=Kp.new1 w (.cells #[.int .i64 s.x,.int .i64 s.y,.int .i64 s.u,.int .i64 s.v] 55);have hc:=containsBox_any 41 #[.pointer (some ⟨w.heap.size,0,none⟩)] (fun b=>holdsB b s) (enters_of Tryz.func41 (by kernel_rfl) rfl) A c l _ (holds1_pred w.heap.size s l _ S) (hr.kpN K) (by omega);generalize (l.any fun b=>holdsB b s)=r at *;go_enter Tryz.func13,Tryz.ntmps13
 go_wp2_with fail
 refine hc.mono ?_;rintro e w2 ⟨rfl,k⟩;go_wp2
 go_ret
 exact⟨rfl,K.tN k⟩
end Go.Proofs.YtdhiappifnflpaaGreat
