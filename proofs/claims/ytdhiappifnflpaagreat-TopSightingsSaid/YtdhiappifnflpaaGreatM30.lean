/- Skies in memory: the walks of sky, ninth part: the corners of an area, one by one. Skies in memory: the walks of sky, fifth part: CheckSight. -/
import Derived.Test.YtdhiappifnflpaaGreatM29
import Derived.Test.YtdhiappifnflpaaGreatM10
import Derived.RangeFuncLeaves
import Derived.RangeFuncBound
import Derived.RangeFuncCalls
import Derived.RangeFuncBox
import Derived.OwnWalkIn
import Derived.TacticsInMore
import Derived.LoopNIn
import Derived.LoopIn
import Derived.Shelf.Abstract
import Derived.Shelf.RegionOpen
import Derived.Test.YtdhiappifnflpaaGreatM27
set_option maxRecDepth 100000
set_option maxHeartbeats 4000000
namespace Go.Proofs.YtdhiappifnflpaaGreat
open Go.RowKit
attribute [local go_sem] Oper.semAt_some
def HdV (p:Pt) (v:Array Value) (_:World):Prop:=v=#[.agg #[p.x,p.y]]
theorem crn_at (a:Ar) (i j:Nat) (hi:i<2) (hj:j<2):∃ rest,a.crn=a.crn.take (2 * i+j)++(⟨endL a.x i,endL a.y j⟩:Pt)::rest∧a.crn.take (2 * i+j)++[(⟨endL a.x i,endL a.y j⟩:Pt)]=a.crn.take (2 * i+j+1):=by
 match i,j,hi,hj with
 | 0,0,_,_|0,1,_,_|1,0,_,_|1,1,_,_=>exact⟨_,rfl,rfl⟩
theorem corners_seq (c:Nat) (a:Ar) (X:Nat→Prop) (hX:¬ X c) :
  SeqZ Tryz.prog 170 #[.pointer (some ⟨c,0,none⟩)] HdV a.crn (fun _=>False) X 0 (fun W=>Blk W c 167 a):=by
 intro l J Jx W _ hJ hJx hY h0 hP;change Calls Tryz.prog 170 #[.func (.yield l) #[] #[],.pointer (some ⟨c,0,none⟩)] W (fun e W'=>(∃ v,e=.returned v)∧(J (fun _=>False) a.crn W'∨∃ pre,Jx (fun _=>False) pre W'));replace hY:=Lib.hid hY;have hc:=hP.cell;have ix0:=index2_0;have ix1:=index2_1;refine(callsIn_wide (n:=0)).1 (callsIn_of_wp Tryz.func170 rfl trivial ?_ rfl);simp only[Tryz.ntmps170,List.size_toArray,List.length_cons,List.length_nil,Nat.reduceAdd,Nat.reduceSub,Array.replicate_succ,Array.replicate_zero,List.push_toArray,List.append_toArray,List.nil_append,List.cons_append];gi_wp2
 gi_loopw [14] (fun p wr=>∃ i:Nat,i≤2∧p=.int .i64 i∧J (fun _=>False) (a.crn.take (2 * i)) wr∧Blk wr c 167 a) (fun p _=>(2-intOf p).toNat)
 case atStart=>exact⟨0,by omega,rfl,h0,hP⟩
 case round=>
  obtain⟨i,hi,rfl,hJ0,hB⟩:=hrel;by_cases h:i<2
  ·
   have hc:=hB.cell;obtain rfl|rfl:i=0∨i=1:=by omega
   ·
    rw[show ((0:Nat):Int)=(0:Int) from rfl];gi_wp2
    gi_loopw [24] (fun p wr=>∃ j:Nat,j≤2∧p=.int .i64 j∧J (fun _=>False) (a.crn.take (2 * 0+j)) wr∧Blk wr c 167 a) (fun p _=>(2-intOf p).toNat)
    case atStart=>exact⟨0,by omega,rfl,hJ0,hB⟩
    case round=>
     obtain⟨j,hj,rfl,hJ1,hB1⟩:=hrel;by_cases hj2:j<2
     ·
      have hc:=hB1.cell;obtain rfl|rfl:j=0∨j=1:=by omega
      ·
       obtain⟨rest,hx,hn⟩:=crn_at a 0 0 oM oM;obtain⟨fn,tmps,assign,body,hy,hR⟩:=hY.out (fun _=>False) _ _ rest #[.agg #[(endL a.x 0),(endL a.y 0)]] _ hx hJ1 rfl;simp only[endL,if_true,if_false,Nat.one_ne_zero] at hy;replace hn:=Lib.hid hn;clear hx;gi_wp2
       refine⟨rfl,hR.mono ?_⟩;rintro e W3 (⟨rfl,hJ3,hk3⟩|⟨rfl,hJx3,-⟩)
       ·
        rw[hn.out] at hJ3;have hB3:=hB1.kz hk3 hB1.lt hX;gi_wp2
        go_roundw
        case rel=>exact⟨0+1,by omega,rfl,hJ3,hB3⟩
        case measure=>simp[intOf]
       ·
        gi_wp2
        refine bodyPost_ret (results_none rfl _ _ _) rfl ⟨⟨_,rfl⟩,.inr ⟨_,hJx3⟩⟩
      ·
       obtain⟨rest,hx,hn⟩:=crn_at a 0 1 oM oM;obtain⟨fn,tmps,assign,body,hy,hR⟩:=hY.out (fun _=>False) _ _ rest #[.agg #[(endL a.x 0),(endL a.y 1)]] _ hx hJ1 rfl;simp only[endL,if_true,if_false,Nat.one_ne_zero] at hy;replace hn:=Lib.hid hn;clear hx;gi_wp2
       refine⟨rfl,hR.mono ?_⟩;rintro e W3 (⟨rfl,hJ3,hk3⟩|⟨rfl,hJx3,-⟩)
       ·
        rw[hn.out] at hJ3;have hB3:=hB1.kz hk3 hB1.lt hX;gi_wp2
        go_roundw
        case rel=>exact⟨1+1,by omega,rfl,hJ3,hB3⟩
        case measure=>simp[intOf]
       ·
        gi_wp2
        refine bodyPost_ret (results_none rfl _ _ _) rfl ⟨⟨_,rfl⟩,.inr ⟨_,hJx3⟩⟩
     ·
      obtain rfl:j=2:=by omega
      gi_wp2
      go_roundw
      case rel=>exact⟨0+1,by omega,rfl,hJ1,hB1⟩
      case measure=>simp[intOf]
   ·
    rw[show ((1:Nat):Int)=(1:Int) from rfl];gi_wp2
    gi_loopw [24] (fun p wr=>∃ j:Nat,j≤2∧p=.int .i64 j∧J (fun _=>False) (a.crn.take (2 * 1+j)) wr∧Blk wr c 167 a) (fun p _=>(2-intOf p).toNat)
    case atStart=>exact⟨0,by omega,rfl,hJ0,hB⟩
    case round=>
     obtain⟨j,hj,rfl,hJ1,hB1⟩:=hrel;by_cases hj2:j<2
     ·
      have hc:=hB1.cell;obtain rfl|rfl:j=0∨j=1:=by omega
      ·
       obtain⟨rest,hx,hn⟩:=crn_at a 1 0 oM oM;obtain⟨fn,tmps,assign,body,hy,hR⟩:=hY.out (fun _=>False) _ _ rest #[.agg #[(endL a.x 1),(endL a.y 0)]] _ hx hJ1 rfl;simp only[endL,if_true,if_false,Nat.one_ne_zero] at hy;replace hn:=Lib.hid hn;clear hx;gi_wp2
       refine⟨rfl,hR.mono ?_⟩;rintro e W3 (⟨rfl,hJ3,hk3⟩|⟨rfl,hJx3,-⟩)
       ·
        rw[hn.out] at hJ3;have hB3:=hB1.kz hk3 hB1.lt hX;gi_wp2
        go_roundw
        case rel=>exact⟨0+1,by omega,rfl,hJ3,hB3⟩
        case measure=>simp[intOf]
       ·
        gi_wp2
        refine bodyPost_ret (results_none rfl _ _ _) rfl ⟨⟨_,rfl⟩,.inr ⟨_,hJx3⟩⟩
      ·
       obtain⟨rest,hx,hn⟩:=crn_at a 1 1 oM oM;obtain⟨fn,tmps,assign,body,hy,hR⟩:=hY.out (fun _=>False) _ _ rest #[.agg #[(endL a.x 1),(endL a.y 1)]] _ hx hJ1 rfl;simp only[endL,if_true,if_false,Nat.one_ne_zero] at hy;replace hn:=Lib.hid hn;clear hx;gi_wp2
       refine⟨rfl,hR.mono ?_⟩;rintro e W3 (⟨rfl,hJ3,hk3⟩|⟨rfl,hJx3,-⟩)
       ·
        rw[hn.out] at hJ3;have hB3:=hB1.kz hk3 hB1.lt hX;gi_wp2
        go_roundw
        case rel=>exact⟨1+1,by omega,rfl,hJ3,hB3⟩
        case measure=>simp[intOf]
       ·
        gi_wp2
        refine bodyPost_ret (results_none rfl _ _ _) rfl ⟨⟨_,rfl⟩,.inr ⟨_,hJx3⟩⟩
     ·
      obtain rfl:j=2:=by omega
      gi_wp2
      go_roundw
      case rel=>exact⟨1+1,by omega,rfl,hJ1,hB1⟩
      case measure=>simp[intOf]
  ·
   obtain rfl:i=2:=by omega
   gi_wp2
   go_end0
   exact⟨⟨_,rfl⟩,.inl hJ0⟩
theorem sky_corners_any (a:Ar) (w:World) :
  Calls Tryz.prog 135 #[a] w fun e w'=>e=.returned (.func (.func 170) #[] #[.pointer (some ⟨w.heap.size,0,none⟩)])∧Blk w' w.heap.size 167 a∧w'.heap.size=w.heap.size+1∧Kp w.heap.size none w w':=by
 have A:=Blk.new w 167 a;go_enter Tryz.func135,Tryz.ntmps135
 go_wp2_with fail
 exact bodyPost_ret (by simp[results,Tryz.results135,go_sem]) rfl ⟨rfl,A,by simp,Kp.new1 _ _⟩
theorem sky_nearest_any (s:Sp) (n:Int) (w:World) :
  Calls Tryz.prog 137 #[s,n] w fun e w'=>e=.returned (.int .i64 (nearS s n))∧Kp w.heap.size none w w':=by
 obtain⟨m,hm⟩:∃ q9,Hid (q9=nearS s n):=⟨_,Lib.hid rfl⟩;have hn:Hid (min (max n s.lo) s.hi=m):=Lib.hid (by rw[hm.out];rfl);rw[← hm.out];have S:=Blk.new w 29 s;have cS:=S.cell;go_enter Tryz.func137,Tryz.ntmps137
 go_wp2
 all_goals
  go_ret
  refine⟨?_,Kp.new1 _ _⟩;rw[hm.out];unfold nearS;first|rfl|(congr 2;omega)
end Go.Proofs.YtdhiappifnflpaaGreat
namespace Go.Proofs.YtdhiappifnflpaaGreat
open Go.RowKit
def SgPost (S:Sky) (x:Sg) (w:World) (e:Ending) (w':World):Prop:=(∃ v:Int,e=.returned (.int .i64 v)∧(v=0↔S.okSg x))∧Kp w.heap.size none w w'
theorem sky_CheckSight_any (A B C:Option Addr) (c e f:Nat) (S:Sky) (x:Sg) (w:World) (hS:S.ok) (hA:SkyAt none w A B C S) :
  Calls Tryz.prog 78 #[.agg #[.slice A S.W.bs.length c,S.W.home,.slice B S.st.length e,.slice C S.ct.length f],x] w (SgPost S x w):=by
 have ck:=fun w h=>sky_Check_any A B C c e f S w hS h;have ct:=fun w=>sky_within_any x.tick 0 1073741824 w;have cs:=fun w h=>sky_station_any A B C c e f S x.stn w (by have:=hS.s1;omega) h;have cc:=fun w h=>sky_catalog_any A B C c e f S x.cat w (by have:=hS.c1;omega) h;have cn:=fun w=>sky_near_any ⟨x.dx,x.dy⟩ 4096 oM w;have ce:=fun w=>sky_within_any x.err 0 500000 w;have ch:=fun w=>sky_within_any x.hi 1 134217728 w;have gk:S.okSg x→1≤x.kind∧x.kind≤3:=fun h=>h.1;have gt:S.okSg x→btw x.tick 0 1073741824=true:=fun h=>btw_t h.2.1.1 h.2.1.2;have gs:S.okSg x→S.station x.stn≠none:=fun h e=>by have:=h.2.2.1;rw[e] at this;cases this
 have gc:S.okSg x→x.kind≠2→S.catalog x.cat≠none:=fun h k e=>by have:=(h.2.2.2.1 k).1;rw[e] at this;cases this
 have gn:S.okSg x→x.kind≠2→(btw x.dx (-4096) 4096&&btw x.dy (-4096) 4096)=true:=fun h k=>by
  obtain⟨⟨d1,d2,d3,d4⟩,-⟩:=(h.2.2.2.1 k).2;rw[btw_t d1 d2,btw_t d3 d4];rfl
 have gz:S.okSg x→x.kind≠2→¬ (x.dx=0∧x.dy=0):=fun h k=>(h.2.2.2.1 k).2.2.1
 have ge:S.okSg x→x.kind≠2→btw x.err 0 500000=true:=fun h k=>by
  obtain⟨d1,d2⟩:=(h.2.2.2.1 k).2.2.2;exact btw_t d1 d2
 have gr:S.okSg x→x.kind=2→0≤x.lo∧x.lo≤x.hi∧x.hi≤134217728:=fun h k=>h.2.2.2.2.1 k
 have gh:S.okSg x→x.kind=3→btw x.hi 1 134217728=true:=fun h k=>by
  obtain⟨d1,d2⟩:=h.2.2.2.2.2 k;exact btw_t d1 d2
 have ok:(1≤x.kind∧x.kind≤3)→btw x.tick 0 1073741824=true→S.station x.stn≠none→(x.kind≠2→S.catalog x.cat≠none∧(btw x.dx (-4096) 4096&&btw x.dy (-4096) 4096)=true∧¬ (x.dx=0∧x.dy=0)∧btw x.err 0 500000=true) →
   (x.kind=2→0≤x.lo∧x.lo≤x.hi∧x.hi≤134217728)→(x.kind=3→btw x.hi 1 134217728=true)→S.okSg x:=by
  simp only[btw,Bool.and_eq_true,decide_eq_true_eq];intro h1 h2 h3 h4 h5 h6;refine⟨h1,h2,?_,fun k=>?_,h5,h6⟩
  ·
   cases q:S.station x.stn with
   | none=>exact absurd q h3
   | some _=>rfl
  ·
   obtain⟨q1,⟨⟨q2,q3⟩,q4,q5⟩,q6,q7,q8⟩:=h4 k;refine⟨?_,⟨q2,q3,q4,q5⟩,q6,q7,q8⟩;cases q:S.catalog x.cat with
   | none=>exact absurd q q1
   | some _=>rfl
 generalize btw x.tick 0 1073741824=b1 at *;generalize (btw x.dx (-4096) 4096&&btw x.dy (-4096) 4096)=b2 at *;generalize btw x.err 0 500000=b3 at *;generalize btw x.hi 1 134217728=b4 at *;generalize S.station x.stn=s1 at *;generalize S.catalog x.cat=s2 at *;unfold SgPost;generalize S.okSg x=G at *;clear hS;replace gk:=Lib.hid gk;replace gt:=Lib.hid gt;replace gs:=Lib.hid gs;replace gc:=Lib.hid gc;replace gn:=Lib.hid gn;replace gz:=Lib.hid gz;replace ge:=Lib.hid ge;replace gr:=Lib.hid gr;replace gh:=Lib.hid gh;replace ok:=Lib.hid ok;obtain⟨w1,hw1,D,X,K,hz⟩:=box2 w 43 #[.slice A S.W.bs.length c,S.W.home,.slice B S.st.length e,.slice C S.ct.length f] 90 x;go_enter Tryz.func78,Tryz.ntmps78
 go_wp2_with fail
 rw[← hw1];clear hw1;refine mK (ck _ (hA.kpN K)) fun w2 k=>?_;replace D:=D.kpN k;replace X:=X.kpN k;replace K:=K.thenN k oM;have hzk:=k.size;clear k;by_cases k1:x.kind<1
 ·
  have cX:=X.cell;have fX:=X.frozen;go_wp2_with fail
  clear cX fX;go_ret
  exact⟨⟨4,rfl,by omega,fun h=>by have:=gk.out h;omega⟩,K⟩
 by_cases k2:3<x.kind
 ·
  have cX:=X.cell;have fX:=X.frozen;go_wp2_with fail
  clear cX fX;go_ret
  exact⟨⟨4,rfl,by omega,fun h=>by have:=gk.out h;omega⟩,K⟩
 have cD:=D.cell;have fD:=D.frozen;have cX:=X.cell;have fX:=X.frozen;go_wp2_with fail
 refine mK (ct _) fun w3 k=>?_;clear cD fD cX fX;replace D:=D.kpN k;replace X:=X.kpN k;replace K:=K.thenN k oM;have hzk:=k.size;clear k;cases b1
 ·
  have cX:=X.cell;have fX:=X.frozen;go_wp2_with fail
  clear cX fX;go_ret
  exact⟨⟨2,rfl,by omega,fun h=>by have:=gt.out h;cases this⟩,K⟩
 have cD:=D.cell;have fD:=D.frozen;have cX:=X.cell;have fX:=X.frozen;go_wp2_with fail
 refine mK (cs _ (hA.kpN K)) fun w4 k=>?_;clear cD fD cX fX;replace D:=D.kpN k;replace X:=X.kpN k;replace K:=K.thenN k oM;have hzk:=k.size;clear k;cases s1 with
 | none=>
  unfold stationV;have cX:=X.cell;have fX:=X.frozen;go_wp2_with fail
  clear cX fX;go_ret
  exact⟨⟨7,rfl,by omega,fun h=>absurd rfl (gs.out h)⟩,K.thenN (Kp.new1 _ _) (Nat.le_refl _)⟩
 | some y=>
 unfold stationV;have gs':some y≠(none:Option Stn):=by simp
 by_cases k3:x.kind=2
 ·
  have gr':G→0≤x.lo∧x.lo≤x.hi∧x.hi≤134217728:=fun h=>gr.out h k3;have ok':0≤x.lo∧x.lo≤x.hi∧x.hi≤134217728→G:=fun h=>ok.out ⟨by omega,by omega⟩ (by simp) gs' (fun e=>absurd k3 e) (fun _=>h) (fun e=>by omega);replace gr':=Lib.hid gr';replace ok':=Lib.hid ok';clear gk gt gs gc gn gz ge gr gh ok gs' k1 k2;have K4:=K.thenN (Kp.new1 w4 (.cells #[y.id,y.ox,y.oy] 146)) (Nat.le_refl _);have X4:=X.alloc (.cells #[y.id,y.ox,y.oy] 146);have cX:=X4.cell;by_cases m1:x.lo<0
  ·
   go_wp2
   go_ret
   exact⟨⟨2,rfl,by omega,fun h=>by have:=gr'.out h;omega⟩,K4⟩
  by_cases m2:x.hi<x.lo
  ·
   go_wp2
   go_ret
   exact⟨⟨2,rfl,by omega,fun h=>by have:=gr'.out h;omega⟩,K4⟩
  by_cases m3:134217728<x.hi
  ·
   go_wp2
   go_ret
   exact⟨⟨2,rfl,by omega,fun h=>by have:=gr'.out h;omega⟩,K4⟩
  have hG:=Lib.hid (ok'.out ⟨by omega,by omega,by omega⟩);go_wp2
  go_ret
  exact⟨⟨0,rfl,fun _=>hG.out,fun _=>rfl⟩,K4⟩
 ·
  have pD:=D.cell;have pX:=X.cell;obtain⟨w9_,rfl,Z,k9_,hzn⟩:=box1 w4 146 #[y.id,y.ox,y.oy];replace D:=D.kpN k9_;replace X:=X.kpN k9_;replace K:=K.thenN k9_ oU;clear k9_;have cD:=D.cell;have fD:=D.frozen;have cX:=X.cell;have fX:=X.frozen;go_wp2_with fail
  clear cD fD pD cX fX pX;generalize (w4.alloc (.cells #[y.id,y.ox,y.oy] 146))=w5 at *;obtain⟨z,hx⟩:∃ q9,q9=w4.heap.size:=⟨_,rfl⟩;rw[← hx] at Z ⊢;replace hx:=Lib.hid hx;clear hx;have cD:=D.cell;have fD:=D.frozen;have cX:=X.cell;have fX:=X.frozen;go_wp2_with fail
  refine mK (cc _ (hA.kpN K)) fun w6 k=>?_;clear cD fD cX fX;replace D:=D.kpN k;replace X:=X.kpN k;replace K:=K.thenN k oM;have hzk:=k.size;clear k;cases s2 with
  | none=>
   unfold catalogV;have cX:=X.cell;have fX:=X.frozen;go_wp2_with fail
   clear cX fX;go_ret
   exact⟨⟨7,rfl,by omega,fun h=>absurd rfl (gc.out h k3)⟩,K.thenN (Kp.new1 _ _) (Nat.le_refl _)⟩
  | some y2=>
  unfold catalogV;have pD:=D.cell;have pX:=X.cell;obtain⟨w9_,rfl,Z2,k9_,hzn⟩:=box1 w6 148 #[y2.ver,y2.lo,y2.hi];replace D:=D.kpN k9_;replace X:=X.kpN k9_;replace K:=K.thenN k9_ oU;clear k9_;have cD:=D.cell;have fD:=D.frozen;have cX:=X.cell;have fX:=X.frozen;go_wp2_with fail
  clear cD fD pD cX fX pX;generalize (w6.alloc (.cells #[y2.ver,y2.lo,y2.hi] 148))=w7 at *;obtain⟨z2,hx⟩:∃ q9,q9=w6.heap.size:=⟨_,rfl⟩;rw[← hx] at Z2 ⊢;replace hx:=Lib.hid hx;clear hx;have cX:=X.cell;have fX:=X.frozen;go_wp2_with fail
  refine mK (cn _) fun w8 k=>?_;clear cX fX;replace X:=X.kpN k;replace K:=K.thenN k oM;have hzk:=k.size;clear k;cases b2
  ·
   have cX:=X.cell;have fX:=X.frozen;go_wp2_with fail
   clear cX fX;go_ret
   exact⟨⟨2,rfl,by omega,fun h=>by have:=gn.out h k3;cases this⟩,K⟩
  by_cases hz0:x.dx=0∧x.dy=0
  ·
   have hz1:=Lib.hid hz0;have z1:=hz0.1;have z2:=hz0.2;have cX:=X.cell;have fX:=X.frozen;go_wp2_with fail
   clear cX fX;go_ret
   exact⟨⟨2,rfl,by omega,fun h=>absurd hz1.out (gz.out h k3)⟩,K⟩
  have hz1:=Lib.hid hz0;clear hz0;by_cases q1:x.dx=0
  all_goals
   try have q2:¬ x.dy=0:=fun k=>hz1.out ⟨q1,k⟩
   have cX:=X.cell;have fX:=X.frozen;go_wp2_with fail
   refine mK (ce _) fun w9 k=>?_;clear cX fX;replace X:=X.kpN k;replace K:=K.thenN k oM;have hzk:=k.size;clear k;cases b3
   ·
    have cX:=X.cell;have fX:=X.frozen;go_wp2_with fail
    clear cX fX;go_ret
    exact⟨⟨2,rfl,by omega,fun h=>by have:=ge.out h k3;cases this⟩,K⟩
   by_cases k4:x.kind=3
   ·
    have k5:¬ x.kind=2:=k3;have cX:=X.cell;have fX:=X.frozen;go_wp2_with fail
    refine mK (ch _) fun w10 k=>?_;clear cX fX;replace X:=X.kpN k;replace K:=K.thenN k oM;have hzk:=k.size;clear k;cases b4
    ·
     have cX:=X.cell;have fX:=X.frozen;go_wp2_with fail
     clear cX fX;go_ret
     exact⟨⟨2,rfl,by omega,fun h=>by have:=gh.out h k4;cases this⟩,K⟩
    ·
     have hG:=Lib.hid (ok.out ⟨by omega,by omega⟩ (by simp) gs' (fun _=>⟨by simp,by simp,hz1.out,by simp⟩) (fun e=>absurd e k3) (fun _=>by simp));have cX:=X.cell;have fX:=X.frozen;go_wp2_with fail
     clear cX fX;go_ret
     exact⟨⟨0,rfl,fun _=>hG.out,fun _=>rfl⟩,K⟩
   ·
    have hG:=Lib.hid (ok.out ⟨by omega,by omega⟩ (by simp) gs' (fun _=>⟨by simp,by simp,hz1.out,by simp⟩) (fun e=>absurd e k3) (fun e=>absurd e k4));have cX:=X.cell;have fX:=X.frozen;go_wp2_with fail
    clear cX fX;go_ret
    exact⟨⟨0,rfl,fun _=>hG.out,fun _=>rfl⟩,K⟩
end Go.Proofs.YtdhiappifnflpaaGreat
