/- Operations of spans by the pairs of their ends: the walks of span, third part. combine, Mul, Quot: the walks of span, fourth part. Mul, Quot, Square, MulDiv, comparisons: the walks of span, fifth part. -/
import Derived.Test.YtdhiappifnflpaaGreatM06
import Derived.Test.YtdhiappifnflpaaGreatIz
import Derived.RangeFuncLeaves
import Derived.RangeFuncBound
import Derived.RangeFuncCalls
import Derived.RangeFuncBox
import Derived.OwnWalkIn
import Derived.TacticsInMore
import Derived.LoopNIn
import Derived.LoopIn
import Derived.Shelf.Abstract
import Derived.Shelf.RegionOpen
import Derived.Test.YtdhiappifnflpaaGreatM01
namespace Go.Proofs.YtdhiappifnflpaaGreat
open Go.RowKit
attribute [local go_sem] Oper.semAt_some
def pairsL (a b:Sp):List (Int × Int):=[(a.lo,b.lo),(a.lo,b.hi),(a.hi,b.lo),(a.hi,b.hi)]
def HdP (p:Int × Int) (v:Array Value) (_:World):Prop:=v=#[.int .i64 p.1,.int .i64 p.2]
def endL (s:Sp) (i:Nat):Int:=if i=0 then s.lo else s.hi
theorem pairsL_at (a b:Sp) (i j:Nat) (hi:i<2) (hj:j<2):∃ rest,pairsL a b=(pairsL a b).take (2 * i+j)++(endL a i,endL b j)::rest∧(pairsL a b).take (2 * i+j)++[(endL a i,endL b j)]=(pairsL a b).take (2 * i+j+1):=by
 match i,j,hi,hj with
 | 0,0,_,_|0,1,_,_|1,0,_,_|1,1,_,_=>exact⟨_,rfl,rfl⟩
theorem index2_0 (x y:Int) (w:World):(Instr.index 246 (.agg #[.int .i64 x,.int .i64 y]) (.int .i64 0)).run Tryz.prog w=.ok (.int .i64 x) w:=by kernel_rfl
theorem index2_1 (x y:Int) (w:World):(Instr.index 246 (.agg #[.int .i64 x,.int .i64 y]) (.int .i64 1)).run Tryz.prog w=.ok (.int .i64 y) w:=by kernel_rfl
def pairsC (a b:Sp):Array Value:=#[.int .i64 a.lo,.int .i64 a.hi,.int .i64 b.lo,.int .i64 b.hi]
set_option maxHeartbeats 1000000 in
set_option maxRecDepth 100000 in
theorem pairs_seq (c:Nat) (a b:Sp) (X:Nat→Prop) (hX:¬ X c) :
  SeqZ Tryz.prog 160 #[.pointer (some ⟨c,0,none⟩)] HdP (pairsL a b) (fun _=>False) X 0 (fun W=>Blk W c 247 (pairsC a b)):=by
 intro l J Jx W _ hJ hJx hY h0 hP;change Calls Tryz.prog 160 #[.func (.yield l) #[] #[],.pointer (some ⟨c,0,none⟩)] W (fun e W'=>(∃ v,e=.returned v)∧(J (fun _=>False) (pairsL a b) W'∨∃ pre,Jx (fun _=>False) pre W'));replace hY:=Lib.hid hY;have hc:=hP.cell;unfold pairsC at hc;have ix0:=index2_0;have ix1:=index2_1;refine(callsIn_wide (n:=0)).1 (callsIn_of_wp Tryz.func160 rfl trivial ?_ rfl);simp only[Tryz.ntmps160,List.size_toArray,List.length_cons,List.length_nil,Nat.reduceAdd,Nat.reduceSub,Array.replicate_succ,Array.replicate_zero,List.push_toArray,List.append_toArray,List.nil_append,List.cons_append];gi_wp2
 gi_loopw [9] (fun p wr=>∃ i:Nat,i≤2∧p=.int .i64 i∧J (fun _=>False) ((pairsL a b).take (2 * i)) wr∧Blk wr c 247 (pairsC a b)) (fun p _=>(2-intOf p).toNat)
 case atStart=>exact⟨0,by omega,rfl,h0,hP⟩
 case round=>
  obtain⟨i,hi,rfl,hJ0,hB⟩:=hrel;by_cases h:i<2
  ·
   have hc:=hB.cell;unfold pairsC at hc;obtain rfl|rfl:i=0∨i=1:=by omega
   ·
    rw[show ((0:Nat):Int)=(0:Int) from rfl];gi_wp2
    gi_loopw [14] (fun p wr=>∃ j:Nat,j≤2∧p=.int .i64 j∧J (fun _=>False) ((pairsL a b).take (2 * 0+j)) wr∧Blk wr c 247 (pairsC a b)) (fun p _=>(2-intOf p).toNat)
    case atStart=>exact⟨0,by omega,rfl,hJ0,hB⟩
    case round=>
     obtain⟨j,hj,rfl,hJ1,hB1⟩:=hrel;by_cases hj2:j<2
     ·
      have hc:=hB1.cell;unfold pairsC at hc;obtain rfl|rfl:j=0∨j=1:=by omega
      ·
       obtain⟨rest,hx,hn⟩:=pairsL_at a b 0 0 (by omega) (by omega);obtain⟨fn,tmps,assign,body,hy,hR⟩:=hY.out (fun _=>False) _ _ rest #[.int .i64 (endL a 0),.int .i64 (endL b 0)] _ hx hJ1 rfl;simp only[endL,if_true,if_false,Nat.one_ne_zero] at hy;replace hn:=Lib.hid hn;clear hx;gi_wp2
       refine⟨rfl,hR.mono ?_⟩;rintro e W3 (⟨rfl,hJ3,hk3⟩|⟨rfl,hJx3,-⟩)
       ·
        rw[hn.out] at hJ3;have hB3:=hB1.kz hk3 hB1.lt hX;gi_wp2
        go_roundw
        case rel=>exact⟨0+1,by omega,rfl,hJ3,hB3⟩
        case measure=>simp[intOf]
       ·
        gi_wp2
        refine bodyPost_ret (results_none rfl _ _ _) rfl ⟨⟨_,rfl⟩,.inr ⟨_,hJx3⟩⟩
      ·
       obtain⟨rest,hx,hn⟩:=pairsL_at a b 0 1 (by omega) (by omega);obtain⟨fn,tmps,assign,body,hy,hR⟩:=hY.out (fun _=>False) _ _ rest #[.int .i64 (endL a 0),.int .i64 (endL b 1)] _ hx hJ1 rfl;simp only[endL,if_true,if_false,Nat.one_ne_zero] at hy;replace hn:=Lib.hid hn;clear hx;gi_wp2
       refine⟨rfl,hR.mono ?_⟩;rintro e W3 (⟨rfl,hJ3,hk3⟩|⟨rfl,hJx3,-⟩)
       ·
        rw[hn.out] at hJ3;have hB3:=hB1.kz hk3 hB1.lt hX;gi_wp2
        go_roundw
        case rel=>exact⟨1+1,by omega,rfl,hJ3,hB3⟩
        case measure=>simp[intOf]
       ·
        gi_wp2
        refine bodyPost_ret (results_none rfl _ _ _) rfl ⟨⟨_,rfl⟩,.inr ⟨_,hJx3⟩⟩
     ·
      obtain rfl:j=2:=by omega
      gi_wp2
      go_roundw
      case rel=>exact⟨0+1,by omega,rfl,hJ1,hB1⟩
      case measure=>simp[intOf]
   ·
    rw[show ((1:Nat):Int)=(1:Int) from rfl];gi_wp2
    gi_loopw [14] (fun p wr=>∃ j:Nat,j≤2∧p=.int .i64 j∧J (fun _=>False) ((pairsL a b).take (2 * 1+j)) wr∧Blk wr c 247 (pairsC a b)) (fun p _=>(2-intOf p).toNat)
    case atStart=>exact⟨0,by omega,rfl,hJ0,hB⟩
    case round=>
     obtain⟨j,hj,rfl,hJ1,hB1⟩:=hrel;by_cases hj2:j<2
     ·
      have hc:=hB1.cell;unfold pairsC at hc;obtain rfl|rfl:j=0∨j=1:=by omega
      ·
       obtain⟨rest,hx,hn⟩:=pairsL_at a b 1 0 (by omega) (by omega);obtain⟨fn,tmps,assign,body,hy,hR⟩:=hY.out (fun _=>False) _ _ rest #[.int .i64 (endL a 1),.int .i64 (endL b 0)] _ hx hJ1 rfl;simp only[endL,if_true,if_false,Nat.one_ne_zero] at hy;replace hn:=Lib.hid hn;clear hx;gi_wp2
       refine⟨rfl,hR.mono ?_⟩;rintro e W3 (⟨rfl,hJ3,hk3⟩|⟨rfl,hJx3,-⟩)
       ·
        rw[hn.out] at hJ3;have hB3:=hB1.kz hk3 hB1.lt hX;gi_wp2
        go_roundw
        case rel=>exact⟨0+1,by omega,rfl,hJ3,hB3⟩
        case measure=>simp[intOf]
       ·
        gi_wp2
        refine bodyPost_ret (results_none rfl _ _ _) rfl ⟨⟨_,rfl⟩,.inr ⟨_,hJx3⟩⟩
      ·
       obtain⟨rest,hx,hn⟩:=pairsL_at a b 1 1 (by omega) (by omega);obtain⟨fn,tmps,assign,body,hy,hR⟩:=hY.out (fun _=>False) _ _ rest #[.int .i64 (endL a 1),.int .i64 (endL b 1)] _ hx hJ1 rfl;simp only[endL,if_true,if_false,Nat.one_ne_zero] at hy;replace hn:=Lib.hid hn;clear hx;gi_wp2
       refine⟨rfl,hR.mono ?_⟩;rintro e W3 (⟨rfl,hJ3,hk3⟩|⟨rfl,hJx3,-⟩)
       ·
        rw[hn.out] at hJ3;have hB3:=hB1.kz hk3 hB1.lt hX;gi_wp2
        go_roundw
        case rel=>exact⟨1+1,by omega,rfl,hJ3,hB3⟩
        case measure=>simp[intOf]
       ·
        gi_wp2
        refine bodyPost_ret (results_none rfl _ _ _) rfl ⟨⟨_,rfl⟩,.inr ⟨_,hJx3⟩⟩
     ·
      obtain rfl:j=2:=by omega
      gi_wp2
      go_roundw
      case rel=>exact⟨1+1,by omega,rfl,hJ1,hB1⟩
      case measure=>simp[intOf]
  ·
   obtain rfl:i=2:=by omega
   gi_wp2
   go_end0
   exact⟨⟨_,rfl⟩,.inl hJ0⟩
end Go.Proofs.YtdhiappifnflpaaGreat
namespace Go.Proofs.YtdhiappifnflpaaGreat
open Go.RowKit
attribute [local go_sem] Oper.semAt_some
theorem span_pairs_any (a b:Sp) (w:World) :
  Calls Tryz.prog 113 #[.agg #[.int .i64 a.lo,.int .i64 a.hi],.agg #[.int .i64 b.lo,.int .i64 b.hi]] w fun e w'=>∃ c,e=.returned (.func (.func 160) #[] #[.pointer (some ⟨c,0,none⟩)])∧w.heap.size≤c∧Blk w' c 247 (pairsC a b)∧Kp w.heap.size none w w':=by
 obtain⟨w1,hw1,A,B,C,K,hz⟩:=box3 w 29 #[.int .i64 a.lo,.int .i64 a.hi] 29 #[.int .i64 b.lo,.int .i64 b.hi] 247 #[.int .i64 a.lo,.int .i64 a.hi,.int .i64 b.lo,.int .i64 b.hi];go_enter Tryz.func113,Tryz.ntmps113
 go_wp2_with fail
 rw[← hw1];exact bodyPost_ret (by simp[results,Tryz.results113,go_sem]) rfl ⟨_,rfl,by omega,C,K⟩
def accP (f h:Int→Int→Int) (pre:List (Int × Int)):Int × Int:=pre.foldl (fun o p=>(min o.1 (f p.1 p.2),max o.2 (h p.1 p.2))) (1152921504606846976,-1152921504606846976)
theorem accP_snoc (f h:Int→Int→Int) (pre:List (Int × Int)) (p:Int × Int):accP f h (pre++[p])=(min (accP f h pre).1 (f p.1 p.2),max (accP f h pre).2 (h p.1 p.2)):=by
 unfold accP;rw[List.foldl_append];rfl
def Fit1 (n:Int):Prop:=-1152921504606846976≤n∧n≤1152921504606846976
theorem accP_all (f h:Int→Int→Int) (a b:Sp) (hf:∀ p∈pairsL a b,Fit1 (f p.1 p.2)∧Fit1 (h p.1 p.2)):accP f h (pairsL a b)=(minC f a b,maxC h a b):=by
 have h1:=hf (a.lo,b.lo) (by simp[pairsL]);have h2:=hf (a.lo,b.hi) (by simp[pairsL]);have h3:=hf (a.hi,b.lo) (by simp[pairsL]);have h4:=hf (a.hi,b.hi) (by simp[pairsL]);unfold Fit1 at h1 h2 h3 h4;simp only[accP,pairsL,List.foldl_cons,List.foldl_nil,minC,maxC,Prod.mk.injEq] at *;omega
def accC (f h:Int→Int→Int) (pre:List (Int × Int)):Array Value:=#[.int .i64 (accP f h pre).1,.int .i64 (accP f h pre).2]
def Does (g:Nat) (f h:Int→Int→Int) (p:Int × Int):Prop:=∀ w,Calls Tryz.prog g #[.int .i64 p.1,.int .i64 p.2] w fun e w'=>e=.returned (.tuple #[.int .i64 (f p.1 p.2),.int .i64 (h p.1 p.2),.int .i64 0])∧Kp w.heap.size none w w'
set_option maxRecDepth 100000 in
set_option maxHeartbeats 1000000 in
theorem combine_mul (a b:Sp) (f h:Int→Int→Int) (ha:a.fit) (hb:b.fit) (hd:∀ p∈pairsL a b,Does 69 f h p) (hf:∀ p∈pairsL a b,Fit1 (f p.1 p.2)∧Fit1 (h p.1 p.2)) (w:World) :
  Calls Tryz.prog 68 #[.agg #[.int .i64 a.lo,.int .i64 a.hi],.agg #[.int .i64 b.lo,.int .i64 b.hi],.func (.func 69) #[] #[]] w fun e w'=>e=.returned (.tuple #[.agg #[.int .i64 (minC f a b),.int .i64 (maxC h a b)],.int .i64 0])∧Kp w.heap.size none w w':=by
 obtain⟨w1,hw1,A,B,G,R,E,K,hz⟩:=box5 w 29 #[.int .i64 a.lo,.int .i64 a.hi] 29 #[.int .i64 b.lo,.int .i64 b.hi] 195 #[.func (.func 69) #[] #[]] 29 #[.int .i64 0,.int .i64 0] 50 #[.int .i64 0];replace hd:=Lib.hid hd;replace hf:=Lib.hid hf;refine calls_of_wp_m Tryz.func68 rfl ?_;simp only[Tryz.ntmps68,List.size_toArray,List.length_cons,List.length_nil,Nat.reduceAdd,Nat.reduceSub,Array.replicate_succ,Array.replicate_zero,List.push_toArray,List.append_toArray,List.nil_append,List.cons_append];go_wp2_with fail
 rw[← hw1];clear hw1;refine(span_valid_any a b ha hb _).mono ?_;rintro e w2 ⟨rfl,k⟩;replace A:=A.kpN k;replace B:=B.kpN k;replace G:=G.kpN k;replace R:=R.kpN k;replace E:=E.kpN k;replace K:=K.tN k;have hzk:=k.size;clear k;have pA:=A.cell;have pB:=B.cell;have pG:=G.cell;have pR:=R.cell;have pE:=E.cell;obtain⟨w9_,rfl,O,k9_,hzn⟩:=box1 w2 29 #[.int .i64 1152921504606846976,.int .i64 (-1152921504606846976)];replace A:=A.kpN k9_;replace B:=B.kpN k9_;replace G:=G.kpN k9_;replace R:=R.kpN k9_;replace E:=E.kpN k9_;replace K:=K.thenN k9_ (by first|exact Nat.le_refl _|omega);clear k9_;have cA:=A.cell;have fA:=A.frozen;have cB:=B.cell;have fB:=B.frozen;have cG:=G.cell;have fG:=G.frozen;have cR:=R.cell;have fR:=R.frozen;have cE:=E.cell;have fE:=E.frozen;go_wp2_with fail
 clear cA fA pA cB fB pB cG fG pG cR fR pR cE fE pE;generalize (w2.alloc (.cells #[.int .i64 1152921504606846976,.int .i64 (-1152921504606846976)] 29))=w3 at *;obtain⟨x,hx⟩:∃ q9,q9=w2.heap.size:=⟨_,rfl⟩;rw[← hx] at O ⊢;replace hx:=Lib.hid hx;have hxw:w.heap.size+5≤x:=by have:=hx.out;omega
 have hz3:x+1=w3.heap.size:=by have:=hx.out;omega
 clear hx hzn hzk hz;refine(span_pairs_any a b _).mono ?_;rintro e w4 ⟨c,rfl,hc,C,k⟩;replace A:=A.kpN k;replace B:=B.kpN k;replace G:=G.kpN k;replace R:=R.kpN k;replace E:=E.kpN k;replace O:=O.kpN k;replace K:=K.tN k;have hzk:=k.size;clear k;go_wp2_with fail
 have hO:=O.lt
 refine wp_rangeFunc_z (gf:=160) (lb:=#[.pointer (some ⟨c,0,none⟩)]) rfl (enters_of Tryz.func160 (by kernel_rfl) rfl) (pairs_seq c a b (fun k=>k=x) (by omega)) (Nat.zero_le _) (fun w' k=>C.kpN k) (by rintro p v W rfl;rfl) (fun _ h=>h.elim) (fun k hk=>by rw[hk];exact hO)
  (AtB x 29 (accC f h)) (fun _=>NoC) (AtB.abide _ _ _) (fun _=>NoC.abide) (AtB.put _ _ _ _) (fun _=>NoC.put _) ⟨O,id⟩ ?round ?done (fun _ _ _ h=>h.elim)
 case round=>
  rintro l S pre p rest vals W K1 hxs hC rfl hl hsz hkz hS hK;have hp:p∈pairsL a b:=by rw[hxs];simp
  have hdo:=hd.out p hp;clear hxs hd hf;have e0:(#[26,27].zip #[Value.int .i64 p.1,Value.int .i64 p.2]:Array (Nat × Value))=#[(26,.int .i64 p.1),(27,.int .i64 p.2)]:=by simp
  rw[e0];clear e0;simp only[List.foldl_toArray',List.foldl_cons,List.foldl_nil,sbt,sc0,scs];gi_wp2
  refine hK _ _ (Kp.refl _ _ _) (fun W2 kr hsz2 hrec hC2=>?_);have G2:=(G.kz hkz G.lt (by rintro (e|e);exact absurd e (by omega);exact e)).kp kr (by omega) (sne (by omega));obtain⟨O2,hSx⟩:=hC2;have cG:=G2.cell;have cO:=O2.cell;have fO:=O2.frozen;unfold accC at cO;have hl1:l≠x:=by omega
  clear hl;gi_wp2_with fail
  refine⟨trivial,rfl,(CallsIn.inRound _ (callsIn_wide.2 (hdo _))).mono ?_⟩;rintro e W3 ⟨rfl,k3⟩;have O3:=O2.kpN k3;clear cG cO fO G2;have cO:=O3.cell;have fO:=O3.frozen;unfold accC at cO;gi_wp2
  refine⟨?_,?_,hSx⟩
  · exact(Kz.ofN k3).then_ (((Kp.refl _ (some x) W3).setRow (p:=⟨x,0,none⟩) rfl _).setRow (p:=⟨x,1,none⟩) rfl _) k3.size (fun r e _=>by injection e with e;exact e.symm)
  ·
   have:=(O3.set_ 0 (.int .i64 (min (accP f h pre).1 (f p.1 p.2)))).set_ 1 (.int .i64 (max (accP f h pre).2 (h p.1 p.2)));unfold accC at this ⊢;rw[accP_snoc];exact this
 case done=>
  intro W hC hkz hD hsz;have hf':=accP_all f h a b hf.out;obtain⟨O2,-⟩:=hC;have cO:=O2.cell;have R2:=R.kz hkz R.lt (by rintro (e|e);exact absurd e (by omega);exact e);have E2:=E.kz hkz E.lt (by rintro (e|e);exact absurd e (by omega);exact e);unfold accC at cO;rw[hf'] at cO;have cR:=R2.cell;have fR:=R2.frozen;have cE:=E2.cell;have fE:=E2.frozen;replace hD:=Lib.hid hD;dsimp only;go_wp2_with fail
  obtain⟨W5,hW5⟩:∃ q,q=((W.setCell ⟨w.heap.size+3,0,none⟩ (.int .i64 (minC f a b))).setCell ⟨w.heap.size+3,1,none⟩ (.int .i64 (maxC h a b))).setCell ⟨w.heap.size+4,0,none⟩ (.int .i64 0):=⟨_,rfl⟩;have R5:Blk W5 (w.heap.size+3) 29 #[.int .i64 (minC f a b),.int .i64 (maxC h a b)]:=by rw[hW5];exact((R2.set_ 0 (.int .i64 (minC f a b))).set_ 1 (.int .i64 (maxC h a b))).far (by simp) _
  have E5:Blk W5 (w.heap.size+4) 50 #[.int .i64 0]:=by rw[hW5];exact((E2.far (by simp) _).far (by simp) _).set_ 0 (.int .i64 0)
  have K5:Kz w.heap.size (fun k=>False) w W5:=by
   rw[hW5];have k1:Kz w.heap.size (fun k=>False) w W:=(Kz.ofN K).trans (hkz.less (by have:=K.size;omega) (fun k hk e=>by rcases e with e|e;exact absurd e (by omega);exact e));exact k1.trans ⟨rfl,rfl,rfl,by simp[World.setCell],fun k hk _=>(Below.heap_setCell _ _ _ _ (by simp;omega)).trans ((Below.heap_setCell _ _ _ _ (by simp;omega)).trans (Below.heap_setCell _ _ _ _ (by simp;omega)))⟩
  have D5:W5.heap[w4.heap.size]?=some (.deferred (some [])):=by
   rw[hW5];have h3:=R.lt;have h4:=E.lt;exact(Below.heap_setCell _ _ _ _ (by simp;omega)).trans ((Below.heap_setCell _ _ _ _ (by simp;omega)).trans ((Below.heap_setCell _ _ _ _ (by simp;omega)).trans hD.out))
  rw[← hW5];clear hW5 cO cR fR cE fE R2 E2 O2 hf';have R6:=R5.put_ (.deferred none) D5 rfl;have E6:=E5.put_ (.deferred none) D5 rfl;have cR:=R6.cell;have cE:=E6.cell;have K6:Kp w.heap.size none w (W5.putObj w4.heap.size (.deferred none)):=K5.kpN.trans ⟨rfl,rfl,rfl,by simp,fun i hi _=>World.putObj_heap_other (by have:=K.size;omega)⟩;exact postM_mark (v:=.tuple #[.agg #[.int .i64 (minC f a b),.int .i64 (maxC h a b)],.int .i64 0]) rfl D5 (by simp[results,Tryz.results68,go_sem,cR,cE]) ⟨rfl,K6⟩
set_option maxRecDepth 100000 in
set_option maxHeartbeats 1000000 in
theorem combine_quot (a b:Sp) (f h:Int→Int→Int) (ha:a.fit) (hb:b.fit) (hd:∀ p∈pairsL a b,Does 260 f h p) (hf:∀ p∈pairsL a b,Fit1 (f p.1 p.2)∧Fit1 (h p.1 p.2)) (w:World) :
  Calls Tryz.prog 68 #[.agg #[.int .i64 a.lo,.int .i64 a.hi],.agg #[.int .i64 b.lo,.int .i64 b.hi],.func (.func 260) #[] #[]] w fun e w'=>e=.returned (.tuple #[.agg #[.int .i64 (minC f a b),.int .i64 (maxC h a b)],.int .i64 0])∧Kp w.heap.size none w w':=by
 obtain⟨w1,hw1,A,B,G,R,E,K,hz⟩:=box5 w 29 #[.int .i64 a.lo,.int .i64 a.hi] 29 #[.int .i64 b.lo,.int .i64 b.hi] 195 #[.func (.func 260) #[] #[]] 29 #[.int .i64 0,.int .i64 0] 50 #[.int .i64 0];replace hd:=Lib.hid hd;replace hf:=Lib.hid hf;refine calls_of_wp_m Tryz.func68 rfl ?_;simp only[Tryz.ntmps68,List.size_toArray,List.length_cons,List.length_nil,Nat.reduceAdd,Nat.reduceSub,Array.replicate_succ,Array.replicate_zero,List.push_toArray,List.append_toArray,List.nil_append,List.cons_append];go_wp2_with fail
 rw[← hw1];clear hw1;refine(span_valid_any a b ha hb _).mono ?_;rintro e w2 ⟨rfl,k⟩;replace A:=A.kpN k;replace B:=B.kpN k;replace G:=G.kpN k;replace R:=R.kpN k;replace E:=E.kpN k;replace K:=K.tN k;have hzk:=k.size;clear k;have pA:=A.cell;have pB:=B.cell;have pG:=G.cell;have pR:=R.cell;have pE:=E.cell;obtain⟨w9_,rfl,O,k9_,hzn⟩:=box1 w2 29 #[.int .i64 1152921504606846976,.int .i64 (-1152921504606846976)];replace A:=A.kpN k9_;replace B:=B.kpN k9_;replace G:=G.kpN k9_;replace R:=R.kpN k9_;replace E:=E.kpN k9_;replace K:=K.thenN k9_ (by first|exact Nat.le_refl _|omega);clear k9_;have cA:=A.cell;have fA:=A.frozen;have cB:=B.cell;have fB:=B.frozen;have cG:=G.cell;have fG:=G.frozen;have cR:=R.cell;have fR:=R.frozen;have cE:=E.cell;have fE:=E.frozen;go_wp2_with fail
 clear cA fA pA cB fB pB cG fG pG cR fR pR cE fE pE;generalize (w2.alloc (.cells #[.int .i64 1152921504606846976,.int .i64 (-1152921504606846976)] 29))=w3 at *;obtain⟨x,hx⟩:∃ q9,q9=w2.heap.size:=⟨_,rfl⟩;rw[← hx] at O ⊢;replace hx:=Lib.hid hx;have hxw:w.heap.size+5≤x:=by have:=hx.out;omega
 have hz3:x+1=w3.heap.size:=by have:=hx.out;omega
 clear hx hzn hzk hz;refine(span_pairs_any a b _).mono ?_;rintro e w4 ⟨c,rfl,hc,C,k⟩;replace A:=A.kpN k;replace B:=B.kpN k;replace G:=G.kpN k;replace R:=R.kpN k;replace E:=E.kpN k;replace O:=O.kpN k;replace K:=K.tN k;have hzk:=k.size;clear k;go_wp2_with fail
 have hO:=O.lt
 refine wp_rangeFunc_z (gf:=160) (lb:=#[.pointer (some ⟨c,0,none⟩)]) rfl (enters_of Tryz.func160 (by kernel_rfl) rfl) (pairs_seq c a b (fun k=>k=x) (by omega)) (Nat.zero_le _) (fun w' k=>C.kpN k) (by rintro p v W rfl;rfl) (fun _ h=>h.elim) (fun k hk=>by rw[hk];exact hO)
  (AtB x 29 (accC f h)) (fun _=>NoC) (AtB.abide _ _ _) (fun _=>NoC.abide) (AtB.put _ _ _ _) (fun _=>NoC.put _) ⟨O,id⟩ ?round ?done (fun _ _ _ h=>h.elim)
 case round=>
  rintro l S pre p rest vals W K1 hxs hC rfl hl hsz hkz hS hK;have hp:p∈pairsL a b:=by rw[hxs];simp
  have hdo:=hd.out p hp;clear hxs hd hf;have e0:(#[26,27].zip #[Value.int .i64 p.1,Value.int .i64 p.2]:Array (Nat × Value))=#[(26,.int .i64 p.1),(27,.int .i64 p.2)]:=by simp
  rw[e0];clear e0;simp only[List.foldl_toArray',List.foldl_cons,List.foldl_nil,sbt,sc0,scs];gi_wp2
  refine hK _ _ (Kp.refl _ _ _) (fun W2 kr hsz2 hrec hC2=>?_);have G2:=(G.kz hkz G.lt (by rintro (e|e);exact absurd e (by omega);exact e)).kp kr (by omega) (sne (by omega));obtain⟨O2,hSx⟩:=hC2;have cG:=G2.cell;have cO:=O2.cell;have fO:=O2.frozen;unfold accC at cO;have hl1:l≠x:=by omega
  clear hl;gi_wp2_with fail
  refine⟨trivial,rfl,(CallsIn.inRound _ (callsIn_wide.2 (hdo _))).mono ?_⟩;rintro e W3 ⟨rfl,k3⟩;have O3:=O2.kpN k3;clear cG cO fO G2;have cO:=O3.cell;have fO:=O3.frozen;unfold accC at cO;gi_wp2
  refine⟨?_,?_,hSx⟩
  · exact(Kz.ofN k3).then_ (((Kp.refl _ (some x) W3).setRow (p:=⟨x,0,none⟩) rfl _).setRow (p:=⟨x,1,none⟩) rfl _) k3.size (fun r e _=>by injection e with e;exact e.symm)
  ·
   have:=(O3.set_ 0 (.int .i64 (min (accP f h pre).1 (f p.1 p.2)))).set_ 1 (.int .i64 (max (accP f h pre).2 (h p.1 p.2)));unfold accC at this ⊢;rw[accP_snoc];exact this
 case done=>
  intro W hC hkz hD hsz;have hf':=accP_all f h a b hf.out;obtain⟨O2,-⟩:=hC;have cO:=O2.cell;have R2:=R.kz hkz R.lt (by rintro (e|e);exact absurd e (by omega);exact e);have E2:=E.kz hkz E.lt (by rintro (e|e);exact absurd e (by omega);exact e);unfold accC at cO;rw[hf'] at cO;have cR:=R2.cell;have fR:=R2.frozen;have cE:=E2.cell;have fE:=E2.frozen;replace hD:=Lib.hid hD;dsimp only;go_wp2_with fail
  obtain⟨W5,hW5⟩:∃ q,q=((W.setCell ⟨w.heap.size+3,0,none⟩ (.int .i64 (minC f a b))).setCell ⟨w.heap.size+3,1,none⟩ (.int .i64 (maxC h a b))).setCell ⟨w.heap.size+4,0,none⟩ (.int .i64 0):=⟨_,rfl⟩;have R5:Blk W5 (w.heap.size+3) 29 #[.int .i64 (minC f a b),.int .i64 (maxC h a b)]:=by rw[hW5];exact((R2.set_ 0 (.int .i64 (minC f a b))).set_ 1 (.int .i64 (maxC h a b))).far (by simp) _
  have E5:Blk W5 (w.heap.size+4) 50 #[.int .i64 0]:=by rw[hW5];exact((E2.far (by simp) _).far (by simp) _).set_ 0 (.int .i64 0)
  have K5:Kz w.heap.size (fun k=>False) w W5:=by
   rw[hW5];have k1:Kz w.heap.size (fun k=>False) w W:=(Kz.ofN K).trans (hkz.less (by have:=K.size;omega) (fun k hk e=>by rcases e with e|e;exact absurd e (by omega);exact e));exact k1.trans ⟨rfl,rfl,rfl,by simp[World.setCell],fun k hk _=>(Below.heap_setCell _ _ _ _ (by simp;omega)).trans ((Below.heap_setCell _ _ _ _ (by simp;omega)).trans (Below.heap_setCell _ _ _ _ (by simp;omega)))⟩
  have D5:W5.heap[w4.heap.size]?=some (.deferred (some [])):=by
   rw[hW5];have h3:=R.lt;have h4:=E.lt;exact(Below.heap_setCell _ _ _ _ (by simp;omega)).trans ((Below.heap_setCell _ _ _ _ (by simp;omega)).trans ((Below.heap_setCell _ _ _ _ (by simp;omega)).trans hD.out))
  rw[← hW5];clear hW5 cO cR fR cE fE R2 E2 O2 hf';have R6:=R5.put_ (.deferred none) D5 rfl;have E6:=E5.put_ (.deferred none) D5 rfl;have cR:=R6.cell;have cE:=E6.cell;have K6:Kp w.heap.size none w (W5.putObj w4.heap.size (.deferred none)):=K5.kpN.trans ⟨rfl,rfl,rfl,by simp,fun i hi _=>World.putObj_heap_other (by have:=K.size;omega)⟩;exact postM_mark (v:=.tuple #[.agg #[.int .i64 (minC f a b),.int .i64 (maxC h a b)],.int .i64 0]) rfl D5 (by simp[results,Tryz.results68,go_sem,cR,cE]) ⟨rfl,K6⟩
end Go.Proofs.YtdhiappifnflpaaGreat
namespace Go.Proofs.YtdhiappifnflpaaGreat
open Go.RowKit
theorem cls_of {P:World→Prop} (w:World) (_:P w):∃ S:Nat→World→Prop,∀ w',S 0 w'↔P w':=⟨fun _=>P,fun _=>Iff.rfl⟩
theorem sgn_prod (a b:Int):if (!(decide (a<0)==decide (b<0)))=true then a * b≤0 else 0≤a * b:=by
 by_cases ha:a<0<;>by_cases hb:b<0<;>simp only[ha,hb,decide_true,decide_false,beq_self_eq_true,Bool.not_true,Bool.false_eq_true,if_false,if_true,show (true==false)=false from rfl,show (false==true)=false from rfl,Bool.not_false]
 · have:=Int.mul_nonneg (show 0≤-a by omega) (show 0≤-b by omega);grind
 · have:=Int.mul_nonneg (show 0≤-a by omega) (show 0≤b by omega);grind
 · have:=Int.mul_nonneg (show 0≤a by omega) (show 0≤-b by omega);grind
 · exact Int.mul_nonneg (by omega) (by omega)
theorem fdiv_one (x:Int):Int.fdiv x 1=x:=by rw[fdiv_pos x (by decide)];simp
theorem cdiv_one (x:Int):cdiv x 1=x:=by unfold cdiv;rw[fdiv_one];omega
set_option maxRecDepth 20000 in
theorem does_mul (a b:Int) (ha:Fit1 a) (hb:Fit1 b) (hp:Fit1 (a * b)):Does 69 (· * ·) (· * ·) (a,b):=by
 intro w;simp only;have hpr:=fun w=>span_product_any a b (by unfold Fit1 at ha;omega) (by unfold Fit1 at hb;omega) (by unfold Fit1 at hp;omega) w;have hdv:=fun w=>span_divide_any (a * b) 1 _ (by decide) (by omega) (by unfold Fit1 at hp;omega) (sgn_prod a b) w;rw[fdiv_one,cdiv_one] at hdv;generalize a * b=p at *;generalize (!(decide (a<0)==decide (b<0)))=s at *;go_enter Tryz.func69,Tryz.ntmps69
 go_wp2_with fail
 refine(hpr _).mono ?_;rintro e w1 ⟨rfl,k1⟩;go_wp2_with fail
 refine(hdv _).mono ?_;rintro e w2 ⟨rfl,k2⟩;go_wp2
 exact bodyPost_ret (by simp[results,Tryz.results69,go_sem]) rfl ⟨rfl,k1.thenN k2 (Nat.le_refl _)⟩
theorem does_quot (a b:Int) (ha:Fit1 a) (hb:Fit1 b) (h0:b≠0):Does 260 Int.fdiv cdiv (a,b):=by
 intro w;simp only;have hpr:=fun w=>span_product_any a 1 (by unfold Fit1 at ha;omega) (by omega) (by unfold Fit1 at ha;omega) w;have hdv:=fun w=>span_divide_any (a * 1) b _ h0 (by unfold Fit1 at hb;omega) (by unfold Fit1 at ha;omega) (sgn_prod a 1) w;have es:(!(decide (a<0)==decide ((1:Int)<0)))=decide (a<0):=by by_cases h:a<0<;>simp[h]
 rw[Int.mul_one,es] at hpr hdv;go_enter Tryz.func260,Tryz.ntmps260
 go_wp2_with fail
 refine(hpr _).mono ?_;rintro e w1 ⟨rfl,k1⟩;go_wp2_with fail
 refine(hdv _).mono ?_;rintro e w2 ⟨rfl,k2⟩;go_wp2
 exact bodyPost_ret (by simp[results,Tryz.results260,go_sem]) rfl ⟨rfl,k1.thenN k2 (Nat.le_refl _)⟩
theorem pairs_has {a b:Sp} (ha:a.lo≤a.hi) (hb:b.lo≤b.hi):∀ p∈pairsL a b,a.has p.1∧b.has p.2:=by
 intro p hp;simp only[pairsL,List.mem_cons,List.not_mem_nil,or_false] at hp;unfold Sp.has;rcases hp with rfl|rfl|rfl|rfl<;>simp only<;>omega
set_option maxHeartbeats 400000 in
theorem span_Mul_any (a b:Sp) (ha:a.fit) (hb:b.fit) (hr:∀ x y,a.has x→b.has y→Fit1 (x * y)) (w:World) :
  Calls Tryz.prog 28 #[.agg #[.int .i64 a.lo,.int .i64 a.hi],.agg #[.int .i64 b.lo,.int .i64 b.hi]] w fun e w'=>e=.returned (.tuple #[.agg #[.int .i64 (mulS a b).lo,.int .i64 (mulS a b).hi],.int .i64 0])∧Kp w.heap.size none w w':=by
 have hp:=pairs_has ha.2.1 hb.2.1;have hc:=fun w=>combine_mul a b (· * ·) (· * ·) ha hb (fun p h=>does_mul p.1 p.2 (by have:=(hp p h).1;unfold Sp.fit at ha;unfold Sp.has at this;unfold Fit1;omega) (by have:=(hp p h).2;unfold Sp.fit at hb;unfold Sp.has at this;unfold Fit1;omega) (hr _ _ (hp p h).1 (hp p h).2)) (fun p h=>⟨hr _ _ (hp p h).1 (hp p h).2,hr _ _ (hp p h).1 (hp p h).2⟩) w;have e1:minC (· * ·) a b=(mulS a b).lo:=rfl;have e2:maxC (· * ·) a b=(mulS a b).hi:=rfl;rw[e1,e2] at hc;clear e1 e2 hp;generalize mulS a b=m at *;obtain⟨w1,hw1,A,B,R,K,hz⟩:=box3 w 29 #[.int .i64 a.lo,.int .i64 a.hi] 29 #[.int .i64 b.lo,.int .i64 b.hi] 29 #[.int .i64 0,.int .i64 0];go_enter Tryz.func28,Tryz.ntmps28
 go_wp2_with fail
 rw[← hw1];clear hw1;refine(hc _).mono ?_;rintro e w2 ⟨rfl,k⟩;replace A:=A.kpN k;replace B:=B.kpN k;replace R:=R.kpN k;replace K:=K.tN k;have hzk:=k.size;clear k;have cA:=A.cell;have fA:=A.frozen;have cB:=B.cell;have fB:=B.frozen;have cR:=R.cell;have fR:=R.frozen;go_wp2_with fail
 clear cA fA cB fB cR fR;have BR:=((R.set_ 0 (.int .i64 m.lo)).set_ 1 (.int .i64 m.hi));have cR:=BR.cell;exact bodyPost_ret (by simp[results,Tryz.results28,go_sem,cR]) rfl ⟨rfl,((K.setNew (by simp<;>omega) _).setNew (by simp<;>omega) _)⟩
theorem fdiv_fit {x y:Int} (h:Fit1 x) (h0:y≠0):Fit1 (Int.fdiv x y)∧Fit1 (cdiv x y):=by
 unfold Fit1 at *;have hq:x.natAbs / y.natAbs≤x.natAbs:=Nat.div_le_self _ _
 have key:∀ V c:Int,c≠0→V.natAbs≤1152921504606846976→(V.natAbs / c.natAbs+if 0<V.natAbs % c.natAbs then 1 else 0)≤1152921504606846976:=fun V c hc hV=>by
  have hk:0<c.natAbs:=by omega
  have hm:=Nat.div_add_mod V.natAbs c.natAbs;have hq:V.natAbs / c.natAbs≤V.natAbs:=Nat.div_le_self _ _;split
  ·
   rename_i h;rcases Nat.lt_or_ge 1 c.natAbs with h1|h1
   ·
    have:=Nat.mul_le_mul_left (V.natAbs / c.natAbs) h1;have e:V.natAbs / c.natAbs * c.natAbs=c.natAbs * (V.natAbs / c.natAbs):=Nat.mul_comm _ _;omega
   ·
    have e:c.natAbs=1:=by omega
    rw[e] at h;have:=Nat.mod_one V.natAbs;omega
  · omega
 have k:=key x y h0 (by omega);have hq':x.natAbs / y.natAbs≤1152921504606846976:=by omega
 have pos:∀ n:Nat,n≤1152921504606846976→-1152921504606846976≤(n:Int)∧(n:Int)≤1152921504606846976:=fun n h=>by omega
 have neg:∀ n:Nat,n≤1152921504606846976→-1152921504606846976≤-(n:Int)∧-(n:Int)≤1152921504606846976:=fun n h=>by omega
 rcases Int.lt_trichotomy y 0 with hy|hy|hy
 ·
  rcases Int.le_total x 0 with hx|hx
  · obtain⟨e1,e2⟩:=div_same x y h0 (.inr ⟨hx,hy⟩);rw[e1,e2];exact⟨pos _ hq',pos _ k⟩
  · obtain⟨e1,e2⟩:=div_diff x y h0 (.inr ⟨hx,hy⟩);rw[e1,e2];exact⟨neg _ k,neg _ hq'⟩
 · exact absurd hy h0
 ·
  rcases Int.le_total x 0 with hx|hx
  · obtain⟨e1,e2⟩:=div_diff x y h0 (.inl ⟨hx,hy⟩);rw[e1,e2];exact⟨neg _ k,neg _ hq'⟩
  · obtain⟨e1,e2⟩:=div_same x y h0 (.inl ⟨hx,hy⟩);rw[e1,e2];exact⟨pos _ hq',pos _ k⟩
set_option maxHeartbeats 400000 in
theorem span_Quot_any (a b:Sp) (ha:a.fit) (hb:b.fit) (h0:0<b.lo) (w:World) :
  Calls Tryz.prog 254 #[.agg #[.int .i64 a.lo,.int .i64 a.hi],.agg #[.int .i64 b.lo,.int .i64 b.hi]] w fun e w'=>e=.returned (.tuple #[.agg #[.int .i64 (quotS a b).lo,.int .i64 (quotS a b).hi],.int .i64 0])∧Kp w.heap.size none w w':=by
 have hp:=pairs_has ha.2.1 hb.2.1;have hn:∀ p∈pairsL a b,p.2≠0:=fun p h=>by have:=(hp p h).2;unfold Sp.has at this;omega
 have hx:∀ p∈pairsL a b,Fit1 p.1:=fun p h=>by have:=(hp p h).1;unfold Sp.fit at ha;unfold Sp.has at this;unfold Fit1;omega
 have hc:=fun w=>combine_quot a b Int.fdiv cdiv ha hb (fun p h=>does_quot p.1 p.2 (hx p h) (by have:=(hp p h).2;unfold Sp.fit at hb;unfold Sp.has at this;unfold Fit1;omega) (hn p h)) (fun p h=>fdiv_fit (hx p h) (hn p h)) w;have e1:minC Int.fdiv a b=(quotS a b).lo:=rfl;have e2:maxC cdiv a b=(quotS a b).hi:=rfl;rw[e1,e2] at hc
 have hi:∀ w,Calls Tryz.prog 259 #[.agg #[.int .i64 b.lo,.int .i64 b.hi],.int .i64 0] w fun e w'=>e=.returned (.bool false)∧Kp w.heap.size none w w':=fun w=>by
  have:=span_In_any b 0 hb w;rwa [show btw 0 b.lo b.hi=false from by simp[btw];omega] at this
 clear e1 e2 hp hn hx;generalize quotS a b=m at *;obtain⟨w1,hw1,A,B,R,K,hz⟩:=box3 w 29 #[.int .i64 a.lo,.int .i64 a.hi] 29 #[.int .i64 b.lo,.int .i64 b.hi] 29 #[.int .i64 0,.int .i64 0];go_enter Tryz.func254,Tryz.ntmps254
 go_wp2_with fail
 rw[← hw1];clear hw1;refine(span_valid_any a b ha hb _).mono ?_;rintro e w2 ⟨rfl,k⟩;replace A:=A.kpN k;replace B:=B.kpN k;replace R:=R.kpN k;replace K:=K.tN k;have hzk:=k.size;clear k;have cA:=A.cell;have fA:=A.frozen;have cB:=B.cell;have fB:=B.frozen;have cR:=R.cell;have fR:=R.frozen;go_wp2_with fail
 refine(hi _).mono ?_;rintro e w3 ⟨rfl,k⟩;clear cA fA cB fB cR fR;replace A:=A.kpN k;replace B:=B.kpN k;replace R:=R.kpN k;replace K:=K.tN k;have hzk:=k.size;clear k;have cA:=A.cell;have fA:=A.frozen;have cB:=B.cell;have fB:=B.frozen;have cR:=R.cell;have fR:=R.frozen;go_wp2_with fail
 refine(hc _).mono ?_;rintro e w4 ⟨rfl,k⟩;clear cA fA cB fB cR fR;replace A:=A.kpN k;replace B:=B.kpN k;replace R:=R.kpN k;replace K:=K.tN k;have hzk:=k.size;clear k;have cA:=A.cell;have fA:=A.frozen;have cB:=B.cell;have fB:=B.frozen;have cR:=R.cell;have fR:=R.frozen;go_wp2_with fail
 clear cA fA cB fB cR fR;have BR:=((R.set_ 0 (.int .i64 m.lo)).set_ 1 (.int .i64 m.hi));have cR:=BR.cell;exact bodyPost_ret (by simp[results,Tryz.results254,go_sem,cR]) rfl ⟨rfl,((K.setNew (by simp<;>omega) _).setNew (by simp<;>omega) _)⟩
set_option maxHeartbeats 1000000 in
theorem span_Square_any (a:Sp) (ha:a.fit) (h1:-1073741824≤a.lo) (h2:a.hi≤1073741824) (w:World) :
  Calls Tryz.prog 257 #[.agg #[.int .i64 a.lo,.int .i64 a.hi]] w fun e w'=>e=.returned (.tuple #[.agg #[.int .i64 (squareS a).lo,.int .i64 (squareS a).hi],.int .i64 0])∧Kp w.heap.size none w w':=by
 obtain⟨l,hl⟩:∃ l,l=max 0 (max a.lo (-a.hi)):=⟨_,rfl⟩;obtain⟨h,hh⟩:∃ h,h=max (-a.lo) a.hi:=⟨_,rfl⟩;have hs:squareS a=⟨l * l,h * h⟩:=by rw[hl,hh];rfl
 rw[hs];obtain⟨f1,f2,f3⟩:=ha;have w1:wrap64 (-a.hi)=-a.hi:=by unfold wrap64;omega
 have w2:wrap64 (-a.lo)=-a.lo:=by unfold wrap64;omega
 have el:(if (if 0<a.lo then a.lo else 0) < -a.hi then -a.hi else if 0<a.lo then a.lo else 0)=l:=by split<;>split<;>omega
 have eh:max (-a.lo) a.hi=h:=hh.symm;have bl:l≤h:=by omega
 have b0:0≤l:=by omega
 have bh:h≤1073741824:=by omega
 have m1:l * l≤h * h:=Int.mul_le_mul bl bl b0 (by omega);have m2:h * h≤1073741824 * 1073741824:=Int.mul_le_mul bh bh (by omega) (by omega);have m0:0≤l * l:=Int.mul_nonneg b0 b0;have x1:wrap64 (l * l)=l * l:=by generalize l * l=z at *;unfold wrap64;omega
 have x2:wrap64 (h * h)=h * h:=by generalize h * h=z at *;unfold wrap64;omega
 have hends:=fun w=>span_ends_any (l * l) (h * h) ⟨by show _≤l * l;omega,by show l * l≤h * h;omega,by show h * h≤_;omega⟩ w;have hk:=fun w=>span_Check_any a ⟨f1,f2,f3⟩ w;have nh:¬ (1073741824:Int)<h:=by omega
 clear hl hh hs f1 f2 f3 bl b0 bh m1 m2 m0 h1 h2;obtain⟨p,hp⟩:∃ p,p=l * l:=⟨_,rfl⟩;obtain⟨q,hq⟩:∃ q,q=h * h:=⟨_,rfl⟩;rw[← hp,← hq] at hends ⊢;rw[← hp] at x1;rw[← hq] at x2;have y1:wrap64 (l * l)=p:=by rw[← hp];exact x1
 have y2:wrap64 (h * h)=q:=by rw[← hq];exact x2
 clear hp hq x1 x2;obtain⟨w1,hw1,A,R,K,hz⟩:=box2 w 29 #[.int .i64 a.lo,.int .i64 a.hi] 29 #[.int .i64 0,.int .i64 0];go_enter Tryz.func257,Tryz.ntmps257
 go_wp2_with fail
 rw[← hw1];clear hw1;refine(hk _).mono ?_;rintro e w2 ⟨rfl,k⟩;replace A:=A.kpN k;replace R:=R.kpN k;replace K:=K.tN k;have hzk:=k.size;clear k;have cA:=A.cell;have fA:=A.frozen;have cR:=R.cell;have fR:=R.frozen;go_wp2_with fail
 clear cA fA cR fR;obtain⟨S,hS0⟩:=cls_of (P:=fun w'=>Blk w' _ _ _∧Blk w' _ _ _∧Kp _ none _ w') w2 ⟨A,R,K⟩;try dsimp only at hS0
 have cA:=fun (x:Ev (S 0)) i=>((hS0 _).1 x.h).1.cell i;have cR:=fun (x:Ev (S 0)) i=>((hS0 _).1 x.h).2.1.cell i;replace A:=A.drew;replace R:=R.drew;replace K:=K.drew;have hevT:=ev_true;refine wp_region_ord S [(0,0),(1,1),(2,0),(3,1),(4,0),(5,0),(6,0),(7,1),(8,0),(9,0),(10,1),(11,0),(12,0),(13,0)] [] (by kernel_rfl) (by kernel_rfl) ((hS0 _).2 ⟨A,R,K⟩) ?_;intro _hev;iterate 14 (first|((first|refine oV ?_|refine oQ ?_);intro K hK;go_big_quiet_op;go_big_quiet_on)|refine oS ?_)
 refine wpOrd_nil ?_;clear hevT _hev;clear cA cR hS0 S;generalize w2.drew=w3 at *;have cA:=A.cell;have fA:=A.frozen;have cR:=R.cell;have fR:=R.frozen;go_wp2_with fail
 refine(hends _).mono ?_;rintro e w4 ⟨rfl,k⟩;clear cA fA cR fR;replace A:=A.kpN k;replace R:=R.kpN k;replace K:=K.tN k;have hzk:=k.size;clear k;have cA:=A.cell;have fA:=A.frozen;have cR:=R.cell;have fR:=R.frozen;go_wp2_with fail
 clear cA fA cR fR;have BR:=((R.set_ 0 (.int .i64 p)).set_ 1 (.int .i64 q));have cR:=BR.cell;exact bodyPost_ret (by simp[results,Tryz.results257,go_sem,cR]) rfl ⟨rfl,((K.setNew (by simp<;>omega) _).setNew (by simp<;>omega) _)⟩
end Go.Proofs.YtdhiappifnflpaaGreat
