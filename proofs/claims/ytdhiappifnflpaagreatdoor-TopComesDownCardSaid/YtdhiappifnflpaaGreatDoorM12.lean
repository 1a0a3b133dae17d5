/- Operations of spans by the pairs of their ends: the walks of span, third part. combine, Mul, Quot: the walks of span, fourth part. -/
import Derived.Test.YtdhiappifnflpaaGreatDoorM08
import Derived.Test.YtdhiappifnflpaaGreatDoorIz
import Derived.RangeFuncLeaves
import Derived.RangeFuncBound
import Derived.RangeFuncCalls
import Derived.RangeFuncBox
import Derived.OwnWalkIn
import Derived.TacticsInMore
import Derived.LoopNIn
import Derived.LoopIn
import Derived.Shelf.Abstract
import Derived.Shelf.RegionOpen
set_option maxRecDepth 100000
set_option maxHeartbeats 1000000
namespace Go.Proofs.YtdhiappifnflpaaGreatDoor
open Go.RowKit
attribute [local go_sem] Oper.semAt_some
def pairsL (a b:Sp):List (Int × Int):=[(a.lo,b.lo),(a.lo,b.hi),(a.hi,b.lo),(a.hi,b.hi)]
def HdP (p:Int × Int) (v:Array Value) (_:World):Prop:=v=#[.int .i64 p.1,.int .i64 p.2]
def endL (s:Sp) (i:Nat):Int:=if i=0 then s.lo else s.hi
theorem pairsL_at (a b:Sp) (i j:Nat) (hi:i<2) (hj:j<2):∃ rest,pairsL a b=(pairsL a b).take (2 * i+j)++(endL a i,endL b j)::rest∧(pairsL a b).take (2 * i+j)++[(endL a i,endL b j)]=(pairsL a b).take (2 * i+j+1):=by
 match i,j,hi,hj with
 | 0,0,_,_|0,1,_,_|1,0,_,_|1,1,_,_=>exact⟨_,rfl,rfl⟩
theorem index2_0 (x y:Int) (w:World):(Instr.index 230 (.agg #[x,y]) (.int .i64 0)).run Tryz.prog w=.ok (.int .i64 x) w:=by kernel_rfl
theorem index2_1 (x y:Int) (w:World):(Instr.index 230 (.agg #[x,y]) (.int .i64 1)).run Tryz.prog w=.ok (.int .i64 y) w:=by kernel_rfl
def pairsC (a b:Sp):Array Value:=#[a.lo,a.hi,b.lo,b.hi]
theorem pairs_seq (c:Nat) (a b:Sp) (X:Nat→Prop) (hX:¬ X c) :
  SeqZ Tryz.prog 149 #[.pointer (some ⟨c,0,none⟩)] HdP (pairsL a b) (fun _=>False) X 0 (fun W=>Blk W c 231 (pairsC a b)):=by
 intro l J Jx W _ hJ hJx hY h0 hP;change Calls Tryz.prog 149 #[.func (.yield l) #[] #[],.pointer (some ⟨c,0,none⟩)] W (fun e W'=>(∃ v,e=.returned v)∧(J (fun _=>False) (pairsL a b) W'∨∃ pre,Jx (fun _=>False) pre W'));replace hY:=Lib.hid hY;have hc:=hP.cell;unfold pairsC at hc;have ix0:=index2_0;have ix1:=index2_1;refine(callsIn_wide (n:=0)).1 (callsIn_of_wp Tryz.func149 rfl trivial ?_ rfl);simp only[Tryz.ntmps149,List.size_toArray,List.length_cons,List.length_nil,Nat.reduceAdd,Nat.reduceSub,Array.replicate_succ,Array.replicate_zero,List.push_toArray,List.append_toArray,List.nil_append,List.cons_append];gi_wp2
 gi_loopw [9] (fun p wr=>∃ i:Nat,i≤2∧p=.int .i64 i∧J (fun _=>False) ((pairsL a b).take (2 * i)) wr∧Blk wr c 231 (pairsC a b)) (fun p _=>(2-intOf p).toNat)
 case atStart=>exact⟨0,by omega,rfl,h0,hP⟩
 case round=>
  obtain⟨i,hi,rfl,hJ0,hB⟩:=hrel;by_cases h:i<2
  ·
   have hc:=hB.cell;unfold pairsC at hc;obtain rfl|rfl:i=0∨i=1:=by omega
   ·
    rw[show ((0:Nat):Int)=(0:Int) from rfl];gi_wp2
    gi_loopw [14] (fun p wr=>∃ j:Nat,j≤2∧p=.int .i64 j∧J (fun _=>False) ((pairsL a b).take (2 * 0+j)) wr∧Blk wr c 231 (pairsC a b)) (fun p _=>(2-intOf p).toNat)
    case atStart=>exact⟨0,by omega,rfl,hJ0,hB⟩
    case round=>
     obtain⟨j,hj,rfl,hJ1,hB1⟩:=hrel;by_cases hj2:j<2
     ·
      have hc:=hB1.cell;unfold pairsC at hc;obtain rfl|rfl:j=0∨j=1:=by omega
      ·
       obtain⟨rest,hx,hn⟩:=pairsL_at a b 0 0 oM oM;obtain⟨fn,tmps,assign,body,hy,hR⟩:=hY.out (fun _=>False) _ _ rest #[(endL a 0),(endL b 0)] _ hx hJ1 rfl;simp only[endL,if_true,if_false,Nat.one_ne_zero] at hy;replace hn:=Lib.hid hn;clear hx;gi_wp2
       refine⟨rfl,hR.mono ?_⟩;rintro e W3 (⟨rfl,hJ3,hk3⟩|⟨rfl,hJx3,-⟩)
       ·
        rw[hn.out] at hJ3;have hB3:=hB1.kz hk3 hB1.lt hX;gi_wp2
        go_roundw
        case rel=>exact⟨0+1,by omega,rfl,hJ3,hB3⟩
        case measure=>simp[intOf]
       ·
        gi_wp2
        refine bodyPost_ret (results_none rfl _ _ _) rfl ⟨⟨_,rfl⟩,.inr ⟨_,hJx3⟩⟩
      ·
       obtain⟨rest,hx,hn⟩:=pairsL_at a b 0 1 oM oM;obtain⟨fn,tmps,assign,body,hy,hR⟩:=hY.out (fun _=>False) _ _ rest #[(endL a 0),(endL b 1)] _ hx hJ1 rfl;simp only[endL,if_true,if_false,Nat.one_ne_zero] at hy;replace hn:=Lib.hid hn;clear hx;gi_wp2
       refine⟨rfl,hR.mono ?_⟩;rintro e W3 (⟨rfl,hJ3,hk3⟩|⟨rfl,hJx3,-⟩)
       ·
        rw[hn.out] at hJ3;have hB3:=hB1.kz hk3 hB1.lt hX;gi_wp2
        go_roundw
        case rel=>exact⟨1+1,by omega,rfl,hJ3,hB3⟩
        case measure=>simp[intOf]
       ·
        gi_wp2
        refine bodyPost_ret (results_none rfl _ _ _) rfl ⟨⟨_,rfl⟩,.inr ⟨_,hJx3⟩⟩
     ·
      obtain rfl:j=2:=by omega
      gi_wp2
      go_roundw
      case rel=>exact⟨0+1,by omega,rfl,hJ1,hB1⟩
      case measure=>simp[intOf]
   ·
    rw[show ((1:Nat):Int)=(1:Int) from rfl];gi_wp2
    gi_loopw [14] (fun p wr=>∃ j:Nat,j≤2∧p=.int .i64 j∧J (fun _=>False) ((pairsL a b).take (2 * 1+j)) wr∧Blk wr c 231 (pairsC a b)) (fun p _=>(2-intOf p).toNat)
    case atStart=>exact⟨0,by omega,rfl,hJ0,hB⟩
    case round=>
     obtain⟨j,hj,rfl,hJ1,hB1⟩:=hrel;by_cases hj2:j<2
     ·
      have hc:=hB1.cell;unfold pairsC at hc;obtain rfl|rfl:j=0∨j=1:=by omega
      ·
       obtain⟨rest,hx,hn⟩:=pairsL_at a b 1 0 oM oM;obtain⟨fn,tmps,assign,body,hy,hR⟩:=hY.out (fun _=>False) _ _ rest #[(endL a 1),(endL b 0)] _ hx hJ1 rfl;simp only[endL,if_true,if_false,Nat.one_ne_zero] at hy;replace hn:=Lib.hid hn;clear hx;gi_wp2
       refine⟨rfl,hR.mono ?_⟩;rintro e W3 (⟨rfl,hJ3,hk3⟩|⟨rfl,hJx3,-⟩)
       ·
        rw[hn.out] at hJ3;have hB3:=hB1.kz hk3 hB1.lt hX;gi_wp2
        go_roundw
        case rel=>exact⟨0+1,by omega,rfl,hJ3,hB3⟩
        case measure=>simp[intOf]
       ·
        gi_wp2
        refine bodyPost_ret (results_none rfl _ _ _) rfl ⟨⟨_,rfl⟩,.inr ⟨_,hJx3⟩⟩
      ·
       obtain⟨rest,hx,hn⟩:=pairsL_at a b 1 1 oM oM;obtain⟨fn,tmps,assign,body,hy,hR⟩:=hY.out (fun _=>False) _ _ rest #[(endL a 1),(endL b 1)] _ hx hJ1 rfl;simp only[endL,if_true,if_false,Nat.one_ne_zero] at hy;replace hn:=Lib.hid hn;clear hx;gi_wp2
       refine⟨rfl,hR.mono ?_⟩;rintro e W3 (⟨rfl,hJ3,hk3⟩|⟨rfl,hJx3,-⟩)
       ·
        rw[hn.out] at hJ3;have hB3:=hB1.kz hk3 hB1.lt hX;gi_wp2
        go_roundw
        case rel=>exact⟨1+1,by omega,rfl,hJ3,hB3⟩
        case measure=>simp[intOf]
       ·
        gi_wp2
        refine bodyPost_ret (results_none rfl _ _ _) rfl ⟨⟨_,rfl⟩,.inr ⟨_,hJx3⟩⟩
     ·
      obtain rfl:j=2:=by omega
      gi_wp2
      go_roundw
      case rel=>exact⟨1+1,by omega,rfl,hJ1,hB1⟩
      case measure=>simp[intOf]
  ·
   obtain rfl:i=2:=by omega
   gi_wp2
   go_end0
   exact⟨⟨_,rfl⟩,.inl hJ0⟩
end Go.Proofs.YtdhiappifnflpaaGreatDoor
namespace Go.Proofs.YtdhiappifnflpaaGreatDoor
open Go.RowKit
attribute [local go_sem] Oper.semAt_some
theorem span_pairs_any (a b:Sp) (w:World) :
  Calls Tryz.prog 124 #[a,b] w fun e w'=>∃ c,e=.returned (.func (.func 149) #[] #[.pointer (some ⟨c,0,none⟩)])∧w.heap.size≤c∧Blk w' c 231 (pairsC a b)∧Kp w.heap.size none w w':=by
 obtain⟨w1,hw1,A,B,C,K,hz⟩:=box3 w 29 a 29 b 231 #[a.lo,a.hi,b.lo,b.hi];go_enter Tryz.func124,Tryz.ntmps124
 go_wp2_with fail
 rw[← hw1];exact bodyPost_ret (by simp[results,Tryz.results124,go_sem]) rfl ⟨_,rfl,by omega,C,K⟩
def accP (f h:Int→Int→Int) (pre:List (Int × Int)):Int × Int:=pre.foldl (fun o p=>(min o.1 (f p.1 p.2),max o.2 (h p.1 p.2))) (1152921504606846976,-1152921504606846976)
theorem accP_snoc (f h:Int→Int→Int) (pre:List (Int × Int)) (p:Int × Int):accP f h (pre++[p])=(min (accP f h pre).1 (f p.1 p.2),max (accP f h pre).2 (h p.1 p.2)):=by
 unfold accP;rw[List.foldl_append];rfl
def Fit1 (n:Int):Prop:=-1152921504606846976≤n∧n≤1152921504606846976
theorem accP_all (f h:Int→Int→Int) (a b:Sp) (hf:∀ p∈pairsL a b,Fit1 (f p.1 p.2)∧Fit1 (h p.1 p.2)):accP f h (pairsL a b)=(minC f a b,maxC h a b):=by
 have h1:=hf (a.lo,b.lo) (by simp[pairsL]);have h2:=hf (a.lo,b.hi) (by simp[pairsL]);have h3:=hf (a.hi,b.lo) (by simp[pairsL]);have h4:=hf (a.hi,b.hi) (by simp[pairsL]);unfold Fit1 at h1 h2 h3 h4;simp only[accP,pairsL,List.foldl_cons,List.foldl_nil,minC,maxC,Prod.mk.injEq] at *;omega
def accC (f h:Int→Int→Int) (pre:List (Int × Int)):Array Value:=#[.int .i64 (accP f h pre).1,.int .i64 (accP f h pre).2]
def Does (g:Nat) (f h:Int→Int→Int) (p:Int × Int):Prop:=∀ w,Calls Tryz.prog g #[.int .i64 p.1,.int .i64 p.2] w fun e w'=>e=.returned (.tuple #[(f p.1 p.2),(h p.1 p.2),(0:Int)])∧Kp w.heap.size none w w'
theorem combine_mul (a b:Sp) (f h:Int→Int→Int) (ha:a.fit) (hb:b.fit) (hd:∀ p∈pairsL a b,Does 82 f h p) (hf:∀ p∈pairsL a b,Fit1 (f p.1 p.2)∧Fit1 (h p.1 p.2)) (w:World) :
  Calls Tryz.prog 81 #[a,b,.func (.func 82) #[] #[]] w fun e w'=>e=.returned (.tuple #[.agg #[(minC f a b),(maxC h a b)],(0:Int)])∧Kp w.heap.size none w w':=by
 obtain⟨w1,hw1,A,B,G,R,E,K,hz⟩:=box5 w 29 a 29 b 205 #[.func (.func 82) #[] #[]] 29 #[(0:Int),(0:Int)] 56 #[(0:Int)];replace hd:=Lib.hid hd;replace hf:=Lib.hid hf;refine calls_of_wp_m Tryz.func81 rfl ?_;simp only[Tryz.ntmps81,List.size_toArray,List.length_cons,List.length_nil,Nat.reduceAdd,Nat.reduceSub,Array.replicate_succ,Array.replicate_zero,List.push_toArray,List.append_toArray,List.nil_append,List.cons_append];go_wp2_with fail
 rw[← hw1];clear hw1;refine mK (span_valid_any a b ha hb _) fun w2 k=>?_;replace A:=A.kpN k;replace B:=B.kpN k;replace G:=G.kpN k;replace R:=R.kpN k;replace E:=E.kpN k;replace K:=K.thenN k oM;have hzk:=k.size;clear k;have pA:=A.cell;have pB:=B.cell;have pG:=G.cell;have pR:=R.cell;have pE:=E.cell;obtain⟨w9_,rfl,O,k9_,hzn⟩:=box1 w2 29 #[(1152921504606846976:Int),.int .i64 (-1152921504606846976)];replace A:=A.kpN k9_;replace B:=B.kpN k9_;replace G:=G.kpN k9_;replace R:=R.kpN k9_;replace E:=E.kpN k9_;replace K:=K.thenN k9_ oU;clear k9_;have cA:=A.cell;have fA:=A.frozen;have cB:=B.cell;have fB:=B.frozen;have cG:=G.cell;have fG:=G.frozen;have cR:=R.cell;have fR:=R.frozen;have cE:=E.cell;have fE:=E.frozen;go_wp2_with fail
 clear cA fA pA cB fB pB cG fG pG cR fR pR cE fE pE;generalize (w2.alloc (.cells #[(1152921504606846976:Int),.int .i64 (-1152921504606846976)] 29))=w3 at *;obtain⟨x,hx⟩:∃ q9,q9=w2.heap.size:=⟨_,rfl⟩;rw[← hx] at O ⊢;replace hx:=Lib.hid hx;have hxw:w.heap.size+5≤x:=by have:=hx.out;omega
 have hz3:x+1=w3.heap.size:=by have:=hx.out;omega
 clear hx hzn hzk hz;refine(span_pairs_any a b _).mono ?_;rintro e w4 ⟨c,rfl,hc,C,k⟩;replace A:=A.kpN k;replace B:=B.kpN k;replace G:=G.kpN k;replace R:=R.kpN k;replace E:=E.kpN k;replace O:=O.kpN k;replace K:=K.thenN k oM;have hzk:=k.size;clear k;go_wp2_with fail
 have hO:=O.lt
 refine wp_rangeFunc_z (gf:=149) (lb:=#[.pointer (some ⟨c,0,none⟩)]) rfl (enters_of Tryz.func149 (by kernel_rfl) rfl) (pairs_seq c a b (fun k=>k=x) oM) (Nat.zero_le _) (fun w' k=>C.kpN k) (by rintro p v W rfl;rfl) (fun _ h=>h.elim) (fun k hk=>by rw[hk];exact hO)
  (AtB x 29 (accC f h)) (fun _=>NoC) (AtB.abide _ _ _) (fun _=>NoC.abide) (AtB.put _ _ _ _) (fun _=>NoC.put _) ⟨O,id⟩ ?round ?done (fun _ _ _ h=>h.elim)
 case round=>
  rintro l S pre p rest vals W K1 hxs hC rfl hl hsz hkz hS hK;have hp:p∈pairsL a b:=by rw[hxs];simp
  have hdo:=hd.out p hp;clear hxs hd hf;have e0:(#[26,27].zip #[Value.int .i64 p.1,Value.int .i64 p.2]:Array (Nat × Value))=#[(26,.int .i64 p.1),(27,.int .i64 p.2)]:=by simp
  rw[e0];clear e0;simp only[List.foldl_toArray',List.foldl_cons,List.foldl_nil,sbt,sc0,scs];gi_wp2
  refine hK _ _ (Kp.refl _ _ _) (fun W2 kr hsz2 hrec hC2=>?_);have G2:=(G.kz hkz G.lt (by rintro (e|e);exact absurd e oM;exact e)).kp kr oM oN;obtain⟨O2,hSx⟩:=hC2;have cG:=G2.cell;have cO:=O2.cell;have fO:=O2.frozen;unfold accC at cO;have hl1:l≠x:=by omega
  clear hl;gi_wp2_with fail
  refine⟨trivial,rfl,(CallsIn.inRound _ (callsIn_wide.2 (hdo _))).mono ?_⟩;rintro e W3 ⟨rfl,k3⟩;have O3:=O2.kpN k3;clear cG cO fO G2;have cO:=O3.cell;have fO:=O3.frozen;unfold accC at cO;gi_wp2
  refine⟨?_,?_,hSx⟩
  · exact(Kz.ofN k3).then_ (((Kp.refl _ (some x) W3).setRow (p:=⟨x,0,none⟩) rfl _).setRow (p:=⟨x,1,none⟩) rfl _) k3.size (fun r e _=>by injection e with e;exact e.symm)
  ·
   have:=(O3.set_ 0 (.int .i64 (min (accP f h pre).1 (f p.1 p.2)))).set_ 1 (.int .i64 (max (accP f h pre).2 (h p.1 p.2)));unfold accC at this ⊢;rw[accP_snoc];exact this
 case done=>
  intro W hC hkz hD hsz;have hf':=accP_all f h a b hf.out;obtain⟨O2,-⟩:=hC;have cO:=O2.cell;have R2:=R.kz hkz R.lt (by rintro (e|e);exact absurd e oM;exact e);have E2:=E.kz hkz E.lt (by rintro (e|e);exact absurd e oM;exact e);unfold accC at cO;rw[hf'] at cO;have cR:=R2.cell;have fR:=R2.frozen;have cE:=E2.cell;have fE:=E2.frozen;replace hD:=Lib.hid hD;dsimp only;go_wp2_with fail
  obtain⟨W5,hW5⟩:∃ q,q=((W.setCell ⟨w.heap.size+3,0,none⟩ (.int .i64 (minC f a b))).setCell ⟨w.heap.size+3,1,none⟩ (.int .i64 (maxC h a b))).setCell ⟨w.heap.size+4,0,none⟩ (.int .i64 0):=⟨_,rfl⟩;have R5:Blk W5 (w.heap.size+3) 29 #[(minC f a b),(maxC h a b)]:=by rw[hW5];exact((R2.set_ 0 (.int .i64 (minC f a b))).set_ 1 (.int .i64 (maxC h a b))).far (by simp) _
  have E5:Blk W5 (w.heap.size+4) 56 #[(0:Int)]:=by rw[hW5];exact((E2.far (by simp) _).far (by simp) _).set_ 0 (.int .i64 0)
  have K5:Kz w.heap.size (fun k=>False) w W5:=by
   rw[hW5];have k1:Kz w.heap.size (fun k=>False) w W:=(Kz.ofN K).trans (hkz.less (by have:=K.size;omega) (fun k hk e=>by rcases e with e|e;exact absurd e oM;exact e));exact k1.trans ⟨rfl,rfl,rfl,by simp[World.setCell],fun k hk _=>(Below.heap_setCell _ _ _ _ (by simp;omega)).trans ((Below.heap_setCell _ _ _ _ (by simp;omega)).trans (Below.heap_setCell _ _ _ _ (by simp;omega)))⟩
  have D5:W5.heap[w4.heap.size]?=some (.deferred (some [])):=by
   rw[hW5];have h3:=R.lt;have h4:=E.lt;exact(Below.heap_setCell _ _ _ _ (by simp;omega)).trans ((Below.heap_setCell _ _ _ _ (by simp;omega)).trans ((Below.heap_setCell _ _ _ _ (by simp;omega)).trans hD.out))
  rw[← hW5];clear hW5 cO cR fR cE fE R2 E2 O2 hf';have R6:=R5.put_ (.deferred none) D5 rfl;have E6:=E5.put_ (.deferred none) D5 rfl;have cR:=R6.cell;have cE:=E6.cell;have K6:Kp w.heap.size none w (W5.putObj w4.heap.size (.deferred none)):=K5.kpN.trans ⟨rfl,rfl,rfl,by simp,fun i hi _=>World.putObj_heap_other (by have:=K.size;omega)⟩;exact postM_mark (v:=.tuple #[.agg #[(minC f a b),(maxC h a b)],(0:Int)]) rfl D5 (by simp[results,Tryz.results81,go_sem,cR,cE]) ⟨rfl,K6⟩
theorem combine_quot (a b:Sp) (f h:Int→Int→Int) (ha:a.fit) (hb:b.fit) (hd:∀ p∈pairsL a b,Does 96 f h p) (hf:∀ p∈pairsL a b,Fit1 (f p.1 p.2)∧Fit1 (h p.1 p.2)) (w:World) :
  Calls Tryz.prog 81 #[a,b,.func (.func 96) #[] #[]] w fun e w'=>e=.returned (.tuple #[.agg #[(minC f a b),(maxC h a b)],(0:Int)])∧Kp w.heap.size none w w':=by
 obtain⟨w1,hw1,A,B,G,R,E,K,hz⟩:=box5 w 29 a 29 b 205 #[.func (.func 96) #[] #[]] 29 #[(0:Int),(0:Int)] 56 #[(0:Int)];replace hd:=Lib.hid hd;replace hf:=Lib.hid hf;refine calls_of_wp_m Tryz.func81 rfl ?_;simp only[Tryz.ntmps81,List.size_toArray,List.length_cons,List.length_nil,Nat.reduceAdd,Nat.reduceSub,Array.replicate_succ,Array.replicate_zero,List.push_toArray,List.append_toArray,List.nil_append,List.cons_append];go_wp2_with fail
 rw[← hw1];clear hw1;refine mK (span_valid_any a b ha hb _) fun w2 k=>?_;replace A:=A.kpN k;replace B:=B.kpN k;replace G:=G.kpN k;replace R:=R.kpN k;replace E:=E.kpN k;replace K:=K.thenN k oM;have hzk:=k.size;clear k;have pA:=A.cell;have pB:=B.cell;have pG:=G.cell;have pR:=R.cell;have pE:=E.cell;obtain⟨w9_,rfl,O,k9_,hzn⟩:=box1 w2 29 #[(1152921504606846976:Int),.int .i64 (-1152921504606846976)];replace A:=A.kpN k9_;replace B:=B.kpN k9_;replace G:=G.kpN k9_;replace R:=R.kpN k9_;replace E:=E.kpN k9_;replace K:=K.thenN k9_ oU;clear k9_;have cA:=A.cell;have fA:=A.frozen;have cB:=B.cell;have fB:=B.frozen;have cG:=G.cell;have fG:=G.frozen;have cR:=R.cell;have fR:=R.frozen;have cE:=E.cell;have fE:=E.frozen;go_wp2_with fail
 clear cA fA pA cB fB pB cG fG pG cR fR pR cE fE pE;generalize (w2.alloc (.cells #[(1152921504606846976:Int),.int .i64 (-1152921504606846976)] 29))=w3 at *;obtain⟨x,hx⟩:∃ q9,q9=w2.heap.size:=⟨_,rfl⟩;rw[← hx] at O ⊢;replace hx:=Lib.hid hx;have hxw:w.heap.size+5≤x:=by have:=hx.out;omega
 have hz3:x+1=w3.heap.size:=by have:=hx.out;omega
 clear hx hzn hzk hz;refine(span_pairs_any a b _).mono ?_;rintro e w4 ⟨c,rfl,hc,C,k⟩;replace A:=A.kpN k;replace B:=B.kpN k;replace G:=G.kpN k;replace R:=R.kpN k;replace E:=E.kpN k;replace O:=O.kpN k;replace K:=K.thenN k oM;have hzk:=k.size;clear k;go_wp2_with fail
 have hO:=O.lt
 refine wp_rangeFunc_z (gf:=149) (lb:=#[.pointer (some ⟨c,0,none⟩)]) rfl (enters_of Tryz.func149 (by kernel_rfl) rfl) (pairs_seq c a b (fun k=>k=x) oM) (Nat.zero_le _) (fun w' k=>C.kpN k) (by rintro p v W rfl;rfl) (fun _ h=>h.elim) (fun k hk=>by rw[hk];exact hO)
  (AtB x 29 (accC f h)) (fun _=>NoC) (AtB.abide _ _ _) (fun _=>NoC.abide) (AtB.put _ _ _ _) (fun _=>NoC.put _) ⟨O,id⟩ ?round ?done (fun _ _ _ h=>h.elim)
 case round=>
  rintro l S pre p rest vals W K1 hxs hC rfl hl hsz hkz hS hK;have hp:p∈pairsL a b:=by rw[hxs];simp
  have hdo:=hd.out p hp;clear hxs hd hf;have e0:(#[26,27].zip #[Value.int .i64 p.1,Value.int .i64 p.2]:Array (Nat × Value))=#[(26,.int .i64 p.1),(27,.int .i64 p.2)]:=by simp
  rw[e0];clear e0;simp only[List.foldl_toArray',List.foldl_cons,List.foldl_nil,sbt,sc0,scs];gi_wp2
  refine hK _ _ (Kp.refl _ _ _) (fun W2 kr hsz2 hrec hC2=>?_);have G2:=(G.kz hkz G.lt (by rintro (e|e);exact absurd e oM;exact e)).kp kr oM oN;obtain⟨O2,hSx⟩:=hC2;have cG:=G2.cell;have cO:=O2.cell;have fO:=O2.frozen;unfold accC at cO;have hl1:l≠x:=by omega
  clear hl;gi_wp2_with fail
  refine⟨trivial,rfl,(CallsIn.inRound _ (callsIn_wide.2 (hdo _))).mono ?_⟩;rintro e W3 ⟨rfl,k3⟩;have O3:=O2.kpN k3;clear cG cO fO G2;have cO:=O3.cell;have fO:=O3.frozen;unfold accC at cO;gi_wp2
  refine⟨?_,?_,hSx⟩
  · exact(Kz.ofN k3).then_ (((Kp.refl _ (some x) W3).setRow (p:=⟨x,0,none⟩) rfl _).setRow (p:=⟨x,1,none⟩) rfl _) k3.size (fun r e _=>by injection e with e;exact e.symm)
  ·
   have:=(O3.set_ 0 (.int .i64 (min (accP f h pre).1 (f p.1 p.2)))).set_ 1 (.int .i64 (max (accP f h pre).2 (h p.1 p.2)));unfold accC at this ⊢;rw[accP_snoc];exact this
 case done=>
  intro W hC hkz hD hsz;have hf':=accP_all f h a b hf.out;obtain⟨O2,-⟩:=hC;have cO:=O2.cell;have R2:=R.kz hkz R.lt (by rintro (e|e);exact absurd e oM;exact e);have E2:=E.kz hkz E.lt (by rintro (e|e);exact absurd e oM;exact e);unfold accC at cO;rw[hf'] at cO;have cR:=R2.cell;have fR:=R2.frozen;have cE:=E2.cell;have fE:=E2.frozen;replace hD:=Lib.hid hD;dsimp only;go_wp2_with fail
  obtain⟨W5,hW5⟩:∃ q,q=((W.setCell ⟨w.heap.size+3,0,none⟩ (.int .i64 (minC f a b))).setCell ⟨w.heap.size+3,1,none⟩ (.int .i64 (maxC h a b))).setCell ⟨w.heap.size+4,0,none⟩ (.int .i64 0):=⟨_,rfl⟩;have R5:Blk W5 (w.heap.size+3) 29 #[(minC f a b),(maxC h a b)]:=by rw[hW5];exact((R2.set_ 0 (.int .i64 (minC f a b))).set_ 1 (.int .i64 (maxC h a b))).far (by simp) _
  have E5:Blk W5 (w.heap.size+4) 56 #[(0:Int)]:=by rw[hW5];exact((E2.far (by simp) _).far (by simp) _).set_ 0 (.int .i64 0)
  have K5:Kz w.heap.size (fun k=>False) w W5:=by
   rw[hW5];have k1:Kz w.heap.size (fun k=>False) w W:=(Kz.ofN K).trans (hkz.less (by have:=K.size;omega) (fun k hk e=>by rcases e with e|e;exact absurd e oM;exact e));exact k1.trans ⟨rfl,rfl,rfl,by simp[World.setCell],fun k hk _=>(Below.heap_setCell _ _ _ _ (by simp;omega)).trans ((Below.heap_setCell _ _ _ _ (by simp;omega)).trans (Below.heap_setCell _ _ _ _ (by simp;omega)))⟩
  have D5:W5.heap[w4.heap.size]?=some (.deferred (some [])):=by
   rw[hW5];have h3:=R.lt;have h4:=E.lt;exact(Below.heap_setCell _ _ _ _ (by simp;omega)).trans ((Below.heap_setCell _ _ _ _ (by simp;omega)).trans ((Below.heap_setCell _ _ _ _ (by simp;omega)).trans hD.out))
  rw[← hW5];clear hW5 cO cR fR cE fE R2 E2 O2 hf';have R6:=R5.put_ (.deferred none) D5 rfl;have E6:=E5.put_ (.deferred none) D5 rfl;have cR:=R6.cell;have cE:=E6.cell;have K6:Kp w.heap.size none w (W5.putObj w4.heap.size (.deferred none)):=K5.kpN.trans ⟨rfl,rfl,rfl,by simp,fun i hi _=>World.putObj_heap_other (by have:=K.size;omega)⟩;exact postM_mark (v:=.tuple #[.agg #[(minC f a b),(maxC h a b)],(0:Int)]) rfl D5 (by simp[results,Tryz.results81,go_sem,cR,cE]) ⟨rfl,K6⟩
end Go.Proofs.YtdhiappifnflpaaGreatDoor
