/- Passages: the walks of span, sixth part: Clear. Passages: the walks of span, fifth part: Hits. The laws of TopNarrows and TopSightings in plain Lean. No program here. Passages: the walks of meet, second part: Hit, asked. Passages: the passages of a box, one by one. Passages: the iterator over the passages of a box. The fate of a box: the walks of meet, third part: finder. The fate of a box: the walks of meet, fourth part: find. Chances: the walks of meet, fifth part: Odds. -/
import Derived.Test.YtdhiappifnflpaaGreatDoorM30
import Derived.Test.YtdhiappifnflpaaGreatDoorM26
import Derived.Test.YtdhiappifnflpaaGreatDoorM28
import Derived.Test.YtdhiappifnflpaaGreatDoorM27
import Derived.Laws.EntriesVeiled
import Derived.Test.YtdhiappifnflpaaGreatDoorM23
set_option maxRecDepth 100000
set_option maxHeartbeats 4000000
namespace Go.Proofs.YtdhiappifnflpaaGreatDoor
open Go.RowKit
attribute [local go_sem] Oper.semAt_some
theorem loop_keep {B:Nat} {row:Option Nat} {w w':World} {l:Nat} {r:Loop} (h:w.heap[l]?=some (.loop r)) (k:Kp B row w w') (hl:l<B) (hn:some l≠row):w'.heap[l]?=some (.loop r):=(k.block l hl hn).trans h
theorem span_Clear_any (a b:Ar) (r:Int) (w:World) (ha:a.bd 268435456) (hb:b.bd 268435456) (h0:0≤r) (h1:r≤268435456) :
  Calls Tryz.prog 57 #[a,b,r] w fun e w'=>e=.returned (.bool (clearA a b r))∧Kp w.heap.size none w w':=by
 obtain⟨rr,hrr⟩:∃ q9,Hid (q9=clearA a b r):=⟨_,Lib.hid rfl⟩;rw[← hrr.out];obtain⟨L,hL⟩:∃ q9,Hid (q9=crn2 a b):=⟨_,Lib.hid rfl⟩;have hcb:=crn2_bd ha hb;rw[← hL.out] at hcb;have cr:=fun w=>span_right_any a b r ha hb h0 h1 w;have cf:=fun p hp w=>span_first_any p a b w (show Sm p by have:=hcb p hp;unfold Sm;omega) (ha.mono oM) (hb.mono oM);have cc:=fun p (hp:p∈L) q (hq:q∈L) w=>span_comes_any p q r (show Fr p by have:=hcb p hp;unfold Fr Fr1;omega) (show Fr q by have:=hcb q hq;unfold Fr Fr1;omega) h0 h1 w;obtain⟨f1,hf1⟩:∃ f:Pt→Bool,Hid (f=fun p=>L.all fun q=>!decide (comesP p q r)):=⟨_,Lib.hid rfl⟩;obtain⟨f3,hf3⟩:∃ f:Pt→Bool,Hid (f=fun p=>!firstP L p):=⟨_,Lib.hid rfl⟩;have hfr:Hid (rr=(L.all f1&&L.any fun p=>firstP L p)):=Lib.hid (by rw[hrr.out,hf1.out,hL.out];rfl);obtain⟨G1,hG1⟩:∃ G:Prop,Hid (G=(rr=false)):=⟨_,Lib.hid rfl⟩;obtain⟨G3,hG3⟩:∃ G:Prop,Hid (G=((L.any fun p=>firstP L p)=true)):=⟨_,Lib.hid rfl⟩;rw[← hL.out] at cf;replace cf:=Lib.hid cf;replace cc:=Lib.hid cc;clear hrr hcb ha hb;obtain⟨w1,hw1,A,B,Z,R,K,hz⟩:=box4 w 53 a 53 b 2 #[r] 4 #[.bool false];refine calls_of_wp_m Tryz.func57 rfl ?_;simp only[Tryz.ntmps57,List.size_toArray,List.length_cons,List.length_nil,Nat.reduceAdd,Nat.reduceSub,Array.replicate_succ,Array.replicate_zero,List.push_toArray,List.append_toArray,List.nil_append,List.cons_append];go_wp2_with fail
 rw[← hw1];clear hw1;refine mK (cr _) fun w2 k=>?_;replace A:=A.kpN k;replace B:=B.kpN k;replace Z:=Z.kpN k;replace R:=R.kpN k;replace K:=K.thenN k oM;have hzk:=k.size;clear k;clear cr;have pA:=A.cell;have pB:=B.cell;have pZ:=Z.cell;have pR:=R.cell;obtain⟨w9_,rfl,T,k9_,hzn⟩:=box1 w2 53 #[a.x.lo,a.x.hi,a.y.lo,a.y.hi,b.x.lo,b.x.hi,b.y.lo,b.y.hi];replace A:=A.kpN k9_;replace B:=B.kpN k9_;replace Z:=Z.kpN k9_;replace R:=R.kpN k9_;replace K:=K.thenN k9_ oU;clear k9_;have cA:=A.cell;have fA:=A.frozen;have cB:=B.cell;have fB:=B.frozen;have cZ:=Z.cell;have fZ:=Z.frozen;have cR:=R.cell;have fR:=R.frozen;go_wp2_with fail
 clear cA fA pA cB fB pB cZ fZ pZ cR fR pR;generalize (w2.alloc (.cells #[a.x.lo,a.x.hi,a.y.lo,a.y.hi,b.x.lo,b.x.hi,b.y.lo,b.y.hi] 53))=w3 at *;obtain⟨z,hx⟩:∃ q9,q9=w2.heap.size:=⟨_,rfl⟩;rw[← hx] at T ⊢;replace hx:=Lib.hid hx;have hzw:w.heap.size+4≤z:=by have:=hx.out;omega
 have hz3:w3.heap.size=z+1:=by have:=hx.out;omega
 clear hx hzn hzk hz;refine(span_corners_any (some ⟨z,0,none⟩) 2 2 _).mono ?_;rintro e w4 ⟨rfl,C,hz4,k⟩;replace A:=A.kpN k;replace B:=B.kpN k;replace Z:=Z.kpN k;replace R:=R.kpN k;replace T:=T.kpN k;replace K:=K.thenN k oM;rw[hz3] at C hz4 ⊢;clear k hz3;go_wp2_with fail
 have hR:=R.lt;have hseq:=seq_two w4 (z+1) z a b (w.heap.size+3) hR T oM C oM;rw[← hL.out] at hseq
 refine wp_rangeFunc_z (gf:=137) (lb:=#[.pointer (some ⟨z+1,0,none⟩)]) rfl (enters_of Tryz.func137 (by kernel_rfl) rfl) hseq (Nat.le_refl _) (fun w' k=>Kz.ofN k) (by rintro p v W rfl;rfl) (fun _ h=>h.elim) (fun k hk=>by rw[hk];exact hR)
  (AllB f1 (w.heap.size+3)) (StopB false G1 (w.heap.size+3)) (AllB.abide f1 _) (StopB.abide _ _ _) (AllB.put _ _ _) (fun c=>StopB.put _ _ _ c _) ⟨rfl,R,id⟩ ?round ?done ?stop
 case round=>
  clear R hR;rintro l S9 pre p rest vals W K1 hxs hC rfl hl hsz hkz hS hK;have hl1:w4.heap.size<l:=by omega
  have hl2:l<W.heap.size:=by omega
  clear hl;have hp:p∈L:=by rw[hxs];simp
  have hno:f1 p=false→G1:=fun e=>by rw[hG1.out,hfr.out,hxs];simp[e]
  have hyes:f1 p=true→(pre++[p]).all f1=true:=fun e=>by have:pre.all f1=true:=hC.1;simp[this,e]
  replace hno:=Lib.hid hno;replace hyes:=Lib.hid hyes;clear hxs hC hS;have e0:(#[19].zip #[Value.agg #[p.x,p.y]]:Array (Nat × Value))=#[(19,.agg #[p.x,p.y])]:=by simp
  rw[e0];clear e0;simp only[List.foldl_toArray',List.foldl_cons,List.foldl_nil,sbt,sc0,scs];gi_wp2_with fail
  refine hK _ _ (Kp.new1 _ _) (fun W3 kr hsz3 hrec hC3=>?_);have hzz:=hkz.size;have X3:=(Blk.new W 45 #[p.x,p.y]).kp kr (by simp) oN;have A3:=((A.kz hkz A.lt (by rintro (e|e);exact absurd e oM;exact e)).kpN (Kp.new1 W (.cells #[p.x,p.y] 45))).kp kr (by have:=A.lt;simp;omega) (sne (by have:=A.lt;omega));have B3:=((B.kz hkz B.lt (by rintro (e|e);exact absurd e oM;exact e)).kpN (Kp.new1 W (.cells #[p.x,p.y] 45))).kp kr (by have:=B.lt;simp;omega) (sne (by have:=B.lt;omega));have Z3:=((Z.kz hkz Z.lt (by rintro (e|e);exact absurd e oM;exact e)).kpN (Kp.new1 W (.cells #[p.x,p.y] 45))).kp kr (by have:=Z.lt;simp;omega) (sne (by have:=Z.lt;omega));obtain⟨hpre,R3,hSx⟩:=hC3;obtain⟨r0,hr0⟩:=hrec;have hzA:=A.lt;clear hK K1 hkz hsz C K A B Z T hseq;obtain⟨y3,hy3⟩:∃ q9,q9=W.heap.size:=⟨_,rfl⟩;rw[← hy3] at X3 ⊢;have hW3:W3.heap.size=y3+1:=by rw[hsz3,hy3];simp
  have hy4:w4.heap.size+1<y3:=by omega
  clear hy3 kr hsz3 hzz hl2;have hlW:l<W3.heap.size:=(Array.getElem?_eq_some_iff.1 hr0).1;have k5:=Kp.new1 W3 (.cells #[a.x.lo,a.x.hi,a.y.lo,a.y.hi,b.x.lo,b.x.hi,b.y.lo,b.y.hi] 53);have T5:=Blk.newAt W3 53 #[a.x.lo,a.x.hi,a.y.lo,a.y.hi,b.x.lo,b.x.hi,b.y.lo,b.y.hi] (n:=y3+1) oM;have cA:=A3.cell;have cB:=B3.cell;gi_wp2_with fail
  try rw[hW3]
  change _∧_∧CallsIn _ _ _ _ _ (W3.alloc (.cells #[a.x.lo,a.x.hi,a.y.lo,a.y.hi,b.x.lo,b.x.hi,b.y.lo,b.y.hi] 53)) _;refine⟨trivial,rfl,(CallsIn.inRound _ (callsIn_wide.2 (span_corners_any (some ⟨y3+1,0,none⟩) 2 2 _))).mono ?_⟩;rintro e W5 ⟨rfl,C5,hz5,k6⟩;have hz6:(W3.alloc (.cells #[a.x.lo,a.x.hi,a.y.lo,a.y.hi,b.x.lo,b.x.hi,b.y.lo,b.y.hi] 53)).heap.size=y3+2:=by simp;omega
  rw[hz6] at C5 hz5 ⊢;replace T5:=T5.kpN k6;have K5:Kp W3.heap.size none W3 W5:=k5.trans (k6.mono oM);have X5:=X3.kpN K5;have Z5:=Z3.kpN K5;have R5:=R3.kpN K5;have hr5:=loop_keep hr0 K5 hlW (by simp);have hR5:=R5.lt;clear cA cB A3 B3 X3 Z3 k5 k6 hz6 hr0;gi_wp2_with fail
  have hseq:=seq_two W5 (y3+2) (y3+1) a b (w.heap.size+3) hR5 T5 oM C5 oM;rw[← hL.out] at hseq;obtain⟨f2,hf2⟩:∃ f:Pt→Bool,Hid (f=fun q=>!decide (comesP p q r)):=⟨_,Lib.hid rfl⟩;have h12:Hid (f1 p=L.all f2):=Lib.hid (by rw[hf1.out,hf2.out])
  refine wp_rangeFunc_zn (gf:=137) (lb:=#[.pointer (some ⟨y3+2,0,none⟩)]) hr5 rfl (enters_of Tryz.func137 (by kernel_rfl) rfl) hseq (Nat.le_refl _) (fun w' k=>Kz.ofN k) (by rintro p v W rfl;rfl) (fun _ h=>h.elim) (fun k hk=>by rw[hk];exact hR5)
   (AllB f2 (w.heap.size+3)) (StopB false G1 (w.heap.size+3)) (AllB.abide f2 _) (StopB.abide _ _ _) (AllB.put _ _ _) (fun c=>StopB.put _ _ _ c _) ⟨rfl,R5,id⟩ ?round2 ?done2 ?stop2
  case round2=>
   rintro l' S' pre' q rest' vals W K1 hxs hC rfl hl' hsz hkz hS hK;have hl1':l<l':=by omega
   have hl2':l'<W.heap.size:=by omega
   have hl3':y3+2<l':=by omega
   clear hl';have hq:q∈L:=by rw[hxs];simp
   have hno2:f2 q=false→G1:=fun e=>hno.out (by rw[h12.out,hxs];simp[e]);have hyes2:f2 q=true→(pre'++[q]).all f2=true:=fun e=>by have:pre'.all f2=true:=hC.1;simp[this,e]
   have c9:=cc.out p hp q hq;obtain⟨v,hv⟩:∃ q9,Hid (q9=decide (comesP p q r)):=⟨_,Lib.hid rfl⟩;rw[← hv.out] at c9;have hno3:Hid (v=true→G1):=Lib.hid (fun e=>hno2 (by rw[hf2.out];simp only;rw[← hv.out,e];rfl));have hyes3:Hid (v=false→(pre'++[q]).all f2=true):=Lib.hid (fun e=>hyes2 (by rw[hf2.out];simp only;rw[← hv.out,e];rfl));clear hxs hC hS hq hno2 hyes2 hv;have e0:(#[24].zip #[Value.agg #[q.x,q.y]]:Array (Nat × Value))=#[(24,.agg #[q.x,q.y])]:=by simp
   rw[e0];clear e0;simp only[List.foldl_toArray',List.foldl_cons,List.foldl_nil,sbt,sc0,scs];gi_wp2_with fail
   refine hK _ _ (Kp.new1 _ _) (fun W7 kr hsz7 hrec hC7=>?_);have hzz:=hkz.size;have Q7:=(Blk.new W 45 #[q.x,q.y]).kp kr (by simp) oN;have X57:=((X5.kz hkz X5.lt (by rintro (e|e);exact absurd e oM;exact e)).kpN (Kp.new1 W (.cells #[q.x,q.y] 45))).kp kr (by have:=X5.lt;simp;omega) (sne (by have:=X5.lt;omega));have Z57:=((Z5.kz hkz Z5.lt (by rintro (e|e);exact absurd e oM;exact e)).kpN (Kp.new1 W (.cells #[q.x,q.y] 45))).kp kr (by have:=Z5.lt;simp;omega) (sne (by have:=Z5.lt;omega));obtain⟨hpre',R7,hSx'⟩:=hC7;clear hK K1 hrec hkz hsz X5 Z5 T5 C5 R5 hseq R3 K5;obtain⟨y7,hy7⟩:∃ q9,q9=W.heap.size:=⟨_,rfl⟩;rw[← hy7] at Q7 ⊢;clear hy7 kr hsz7 hzz;have cQ:=Q7.cell;have cX:=X57.cell;have cZ:=Z57.cell;gi_wp2_with fail
   refine⟨trivial,rfl,(CallsIn.inRound _ (callsIn_wide.2 (c9 _))).mono ?_⟩;rintro e W8 ⟨rfl,k8⟩;replace R7:=R7.kpN k8;clear cQ cX cZ Q7 X57 Z57 c9;have cR:=R7.cell;have fR:=R7.frozen;cases v
   ·
    gi_wp2
    exact⟨Kz.ofN k8,hyes3.out (by simp),R7,hSx'⟩
   ·
    gi_wp2
    obtain⟨W9,hwn,R9,kst,hzst⟩:=R7.st1 (.bool false);rw[← hwn];exact⟨(Kz.ofN k8).then_ kst k8.size (fun r e _=>by injection e with e;exact e.symm),rfl,hno3.out (by simp),R9,hSx'⟩
  case done2=>
   intro W hC hkz hsz;obtain⟨hall,R2,-⟩:=hC;have hy:=Lib.hid (hyes.out (by rw[h12.out];exact hall));have hkz2:Kz W3.heap.size (fun k=>k=w.heap.size+3) W3 W:=(Kz.ofN K5).trans (hkz.less K5.size (fun k hk e=>by rcases e with e|e;exact e;exact e.elim));clear hkz hall;gi_wp2
   exact⟨hkz2,hy.out,R2,hSx⟩
  case stop2=>
   rintro c pre' W ⟨rfl,hg,R2,-⟩ hkz hsz;have hkz2:Kz W3.heap.size (fun k=>k=w.heap.size+3) W3 W:=(Kz.ofN K5).trans (hkz.less K5.size (fun k hk e=>by rcases e with e|e;exact e;exact e.elim));clear hkz;gi_wp2
   exact⟨hkz2,rfl,hg,R2,hSx⟩
 case stop=>
  rintro c pre W ⟨rfl,hall,R2,-⟩ hkz hD hsz;have hr2:Hid (rr=false):=Lib.hid (by rw[hG1.out] at hall;exact hall);have K2:=K.trans (hkz.under (N:=w.heap.size) (by have:=K.size;omega) oM);have hKs:=K.size;clear hkz hall hfr C R K A B Z T hseq;have R6:=R2.put_ (.deferred none) hD rfl;have cR:=R6.cell;dsimp only;gi_wp2
  exact postM_mark (v:=.bool false) rfl hD (by simp[results,Tryz.results57,go_sem,cR]) ⟨by rw[hr2.out],mark_kp K2 oM⟩
 case done=>
  intro W hC hkz hD hsz;obtain⟨hall,R2,-⟩:=hC;have hr2:Hid (rr=L.any fun p=>firstP L p):=Lib.hid (by rw[hfr.out,hall];rfl);have K2:=K.trans (hkz.under (N:=w.heap.size) (by have:=K.size;omega) oM);have hKs:=K.size;have A2:=A.kz hkz A.lt (by rintro (e|e);exact absurd e oM;exact e);have B2:=B.kz hkz B.lt (by rintro (e|e);exact absurd e oM;exact e);obtain⟨D1,hD1⟩:∃ q9,q9=w4.heap.size:=⟨_,rfl⟩;have hAw:=A.lt;clear hkz hall hfr C R K A B Z T hseq cc;rw[← hD1] at hD ⊢;have hDW:D1<W.heap.size:=by omega
  have hD0:w.heap.size+5≤D1:=by omega
  clear hsz hD1 hz4;have k1:=Kp.new1 W (.cells #[a.x.lo,a.x.hi,a.y.lo,a.y.hi,b.x.lo,b.x.hi,b.y.lo,b.y.hi] 53);have T:=Blk.new W 53 #[a.x.lo,a.x.hi,a.y.lo,a.y.hi,b.x.lo,b.x.hi,b.y.lo,b.y.hi];have cA:=A2.cell;have cB:=B2.cell;replace hD:=Lib.hid hD;have hDW9:=Lib.hid hDW;dsimp only;go_wp2_with fail
  change Calls _ _ _ (W.alloc (.cells #[a.x.lo,a.x.hi,a.y.lo,a.y.hi,b.x.lo,b.x.hi,b.y.lo,b.y.hi] 53)) _;refine(span_corners_any (some ⟨W.heap.size,0,none⟩) 2 2 _).mono ?_;rintro e W5 ⟨rfl,C5,hz5,k6⟩;obtain⟨y,hy9⟩:∃ q9,q9=W.heap.size:=⟨_,rfl⟩;have hz6:(W.alloc (.cells #[a.x.lo,a.x.hi,a.y.lo,a.y.hi,b.x.lo,b.x.hi,b.y.lo,b.y.hi] 53)).heap.size=y+1:=by simp;omega
  rw[hz6] at C5 hz5 ⊢;have K5:=k1.trans (k6.mono oM);have A5:=A2.kpN K5;have B5:=B2.kpN K5;have R5:=R2.kpN K5;have T5:=T.kpN k6;rw[← hy9] at T5 C5 ⊢;have KK:=K2.thenN K5 oM;have hD5:W5.heap[D1]?=some (.deferred (some [])):=(K5.block D1 hDW (by simp)).trans hD.out;have hDy:D1<y:=by omega
  clear cA cB A2 B2 R2 T k1 k6 hz6 K5 K2 hD hDW hDW9 hy9;replace hD5:=Lib.hid hD5;go_wp2_with fail
  have hR5:=R5.lt;have hseq:=seq_two W5 (y+1) y a b (w.heap.size+3) hR5 T5 oM C5 oM;rw[← hL.out] at hseq
  refine wp_rangeFunc_z (gf:=137) (lb:=#[.pointer (some ⟨y+1,0,none⟩)]) rfl (enters_of Tryz.func137 (by kernel_rfl) rfl) hseq (Nat.le_refl _) (fun w' k=>Kz.ofN k) (by rintro p v W rfl;rfl) (fun _ h=>h.elim) (fun k hk=>by rw[hk];exact hR5)
   (AllB f3 (w.heap.size+3)) (StopB true G3 (w.heap.size+3)) (AllB.abide f3 _) (StopB.abide _ _ _) (AllB.put _ _ _) (fun c=>StopB.put _ _ _ c _) ⟨rfl,R5,id⟩ ?round3 ?done3 ?stop3
  case round3=>
   rintro l S9 pre p rest vals W7 K1 hxs hC rfl hl hsz hkz hS hK;have hl1:W5.heap.size<l:=by omega
   have hl2:l<W7.heap.size:=by omega
   clear hl;have hp:p∈L:=by rw[hxs];simp
   have hno:firstP L p=true→G3:=fun e=>by rw[hG3.out];exact List.any_eq_true.2 ⟨p,hp,e⟩
   have hyes:firstP L p=false→(pre++[p]).all f3=true:=fun e=>by have:pre.all f3=true:=hC.1;rw[hf3.out] at this ⊢;simp[this,e]
   have c9:=cf.out p hp;obtain⟨v,hv⟩:∃ q9,Hid (q9=firstP L p):=⟨_,Lib.hid rfl⟩;rw[← hv.out] at c9 hno hyes;replace hno:=Lib.hid hno;replace hyes:=Lib.hid hyes;clear hxs hC hS hv;have e0:(#[33].zip #[Value.agg #[p.x,p.y]]:Array (Nat × Value))=#[(33,.agg #[p.x,p.y])]:=by simp
   rw[e0];clear e0;simp only[List.foldl_toArray',List.foldl_cons,List.foldl_nil,sbt,sc0,scs];gi_wp2_with fail
   refine hK _ _ (Kp.new1 _ _) (fun W8 kr hsz8 hrec hC8=>?_);have hzz:=hkz.size;have X8:=(Blk.new W7 45 #[p.x,p.y]).kp kr (by simp) oN;have A8:=((A5.kz hkz A5.lt (by rintro (e|e);exact absurd e oM;exact e)).kpN (Kp.new1 W7 (.cells #[p.x,p.y] 45))).kp kr (by have:=A5.lt;simp;omega) (sne (by have:=A5.lt;omega));have B8:=((B5.kz hkz B5.lt (by rintro (e|e);exact absurd e oM;exact e)).kpN (Kp.new1 W7 (.cells #[p.x,p.y] 45))).kp kr (by have:=B5.lt;simp;omega) (sne (by have:=B5.lt;omega));obtain⟨hpre,R8,hSx⟩:=hC8;clear hK K1 hrec hkz hsz A5 B5 T5 C5 R5 hseq KK;obtain⟨y8,hy8⟩:∃ q9,q9=W7.heap.size:=⟨_,rfl⟩;rw[← hy8] at X8 ⊢;clear hy8 kr hsz8 hzz;have cX:=X8.cell;have cA:=A8.cell;have cB:=B8.cell;gi_wp2_with fail
   refine⟨trivial,rfl,(CallsIn.inRound _ (callsIn_wide.2 (c9 _))).mono ?_⟩;rintro e W9 ⟨rfl,k9⟩;replace R8:=R8.kpN k9;clear cX cA cB X8 A8 B8 c9;have cR:=R8.cell;have fR:=R8.frozen;cases v
   ·
    gi_wp2
    exact⟨Kz.ofN k9,hyes.out (by simp),R8,hSx⟩
   ·
    gi_wp2
    obtain⟨W10,hwn,R9,kst,hzst⟩:=R8.st1 (.bool true);rw[← hwn];exact⟨(Kz.ofN k9).then_ kst k9.size (fun r e _=>by injection e with e;exact e.symm),rfl,hno.out (by simp),R9,hSx⟩
  case done3=>
   intro W7 hC hkz hD hsz;obtain⟨hall,R7,-⟩:=hC
   have hr3:Hid (rr=false):=Lib.hid (by
    rw[hr2.out,List.any_eq_false];rw[hf3.out,List.all_eq_true] at hall;intro p hp;have:=hall p hp;simpa using this)
   have K7:=KK.trans (hkz.under (N:=w.heap.size) (by have:=KK.size;omega) oM);have hD7:W7.heap[D1]?=some (.deferred (some [])):=(hkz.block D1 oM (by rintro (e|e);exact absurd e oM;exact e)).trans hD5.out;have hKs:=KK.size;have hW57:=hkz.size;clear hkz hall KK A5 B5 T5 C5 R5 hseq;have cR:=R7.cell;have fR:=R7.frozen;replace hD:=Lib.hid hD;replace hD7:=Lib.hid hD7;dsimp only;go_wp2_with fail
   obtain⟨W10,hwn,R9,kst,hzst⟩:=R7.st1 (.bool false);rw[← hwn];have K9:=K7.thenOwn kst oM oM;have D9:W10.heap[W5.heap.size]?=some (.deferred (some [])):=(kst.block _ oM oN).trans hD.out;have D8:W10.heap[D1]?=some (.deferred (some [])):=(kst.block _ oM oN).trans hD7.out;simp only[List.setIfInBounds_toArray,List.set_cons_zero] at R9
   exact leaves_marks (v:=.bool false) (fun W=>Blk W (w.heap.size+3) 4 #[.bool false]∧Kp w.heap.size none w W) (fun W h=>by have cR:=fun i=>h.1.cell i;simp[results,Tryz.results57,go_sem,cR]) [W5.heap.size,D1] _
    ⟨by simp;omega,fun D hD=>by simp only[List.mem_cons,List.not_mem_nil,or_false] at hD;rcases hD with rfl|rfl;exact D9;exact D8⟩
    (fun W D hD h=>by
     have hDg:w.heap.size+3<D:=by simp only[List.mem_cons,List.not_mem_nil,or_false] at hD;omega
     exact⟨(World.putObj_heap_other oM).trans h.1,mark_kp h.2 oM⟩) (fun W h=>⟨by rw[hr3.out],h.2⟩) ⟨R9,K9⟩
  case stop3=>
   rintro c pre W7 ⟨rfl,hg,R7,-⟩ hkz hD hsz;have hr3:Hid (rr=true):=Lib.hid (by rw[hG3.out] at hg;rw[hr2.out,hg]);have K7:=KK.trans (hkz.under (N:=w.heap.size) (by have:=KK.size;omega) oM);have hD7:W7.heap[D1]?=some (.deferred (some [])):=(hkz.block D1 oM (by rintro (e|e);exact absurd e oM;exact e)).trans hD5.out;have hKs:=KK.size;clear hkz hg KK A5 B5 T5 C5 R5 hseq;replace hD:=Lib.hid hD;replace hD7:=Lib.hid hD7;gi_wp2
   exact leaves_marks (v:=.bool true) (fun W=>Blk W (w.heap.size+3) 4 #[.bool true]∧Kp w.heap.size none w W) (fun W h=>by have cR:=fun i=>h.1.cell i;simp[results,Tryz.results57,go_sem,cR]) [W5.heap.size,D1] _
    ⟨by simp;omega,fun D hD9=>by simp only[List.mem_cons,List.not_mem_nil,or_false] at hD9;rcases hD9 with rfl|rfl;exact hD.out;exact hD7.out⟩
    (fun W D hD h=>by
     have hDg:w.heap.size+3<D:=by simp only[List.mem_cons,List.not_mem_nil,or_false] at hD;omega
     exact⟨(World.putObj_heap_other oM).trans h.1,mark_kp h.2 oM⟩) (fun W h=>⟨by rw[hr3.out],h.2⟩) ⟨R7,K7⟩
end Go.Proofs.YtdhiappifnflpaaGreatDoor
namespace Go.Proofs.YtdhiappifnflpaaGreatDoor
open Go.RowKit
theorem Ar.bd.le {a:Ar} {A B:Int} (h:a.bd A) (k:A≤B):a.bd B:=by unfold Ar.bd Sp.bd at *;omega
def HsAt (a b:Ar) (r:Int) (w:World) (v:Value) (wr:World):Prop:=∃ i:Nat,v=.int .i64 i∧i≤9∧(∀ j:Nat,j<i→allIn (btwA a b (j:Int)) r=false)∧Blk wr w.heap.size 53 a∧Blk wr (w.heap.size+1) 53 b∧Kp w.heap.size none w wr
end Go.Proofs.YtdhiappifnflpaaGreatDoor
namespace Go.Proofs.YtdhiappifnflpaaGreatDoor
section
variable {W:Wd} {d:Dr} {t:Int} {b:Bx} {l:List St} {n:Nat}
def HitsW (W:Wd) (t:Int) (l:List St):Prop:=∃ i:Nat,i+1<l.length∧hitW W (t+i) (nth l i) (nth l (i+1))
end
end Go.Proofs.YtdhiappifnflpaaGreatDoor
namespace Go.Proofs.YtdhiappifnflpaaGreatDoor
open Go.RowKit
theorem Rd.sts {w:World} {A:Option Addr} {l:List St} (h:Rd none w 4 encSt A l.length l) {i:Nat} (hi:i<l.length) {b o:Nat} (hA:A=some ⟨b,o,none⟩) :
  w.cell? ⟨b,o+i * 4,none⟩=some (.int .i64 l[i].x)∧w.cell? ⟨b,o+i * 4+1,none⟩=some (.int .i64 l[i].y)∧w.cell? ⟨b,o+i * 4+2,none⟩=some (.int .i64 l[i].u)∧w.cell? ⟨b,o+i * 4+3,none⟩=some (.int .i64 l[i].v):=by
 subst hA;obtain⟨b',o',e,hb,-,hc⟩:=h.at_ oM;simp only[Option.some.injEq,Addr.mk.injEq] at e;obtain⟨rfl,rfl,-⟩:=e;refine⟨?_,?_,?_,?_⟩
 · have:=hc i hi 0 _ rfl;rwa [Nat.add_zero] at this
 · have:=hc i hi 1 _ rfl;rwa [← Nat.add_assoc] at this
 · have:=hc i hi 2 _ rfl;rwa [← Nat.add_assoc] at this
 · have:=hc i hi 3 _ rfl;rwa [← Nat.add_assoc] at this
def HitV (W:Wd) (t:Int) (l:List St) (v:Int):Prop:=(v=-1∧¬ HitsW W t l)∨∃ i:Nat,v=i∧i+1<l.length∧hitW W (t+i) (nth l i) (nth l (i+1))
def NoHit (W:Wd) (t:Int) (l:List St) (k:Nat):Prop:=∀ i:Nat,i+1<l.length→i+1<k→¬ hitW W (t+i) (nth l i) (nth l (i+1))
def HtAt (W:Wd) (t:Int) (l:List St) (A:Option Addr) (c:Nat) (w:World) (v:Value) (wr:World):Prop:=
 ∃ i:Nat,v=.int .i64 i∧1≤i∧(i≤l.length∨i=1)∧NoHit W t l i∧Blk wr w.heap.size 27 #[.slice A W.bs.length c,W.home]∧Kp w.heap.size none w wr
end Go.Proofs.YtdhiappifnflpaaGreatDoor
namespace Go.Proofs.YtdhiappifnflpaaGreatDoor
open Go.RowKit
attribute [local go_sem] Oper.semAt_some
structure Ps where
 i:Int
 a:Ar
 b:Ar
 lost:Bool
def Ps.clear (p:Ps) (r:Int):Bool:=!p.lost&&clearA p.a p.b r
def Ps.sure (p:Ps) (r:Int):Bool:=!p.lost&&hitsA p.a p.b r
structure Ps.sm (p:Ps):Prop where
 a:p.a.bd 134217728
 b:p.b.bd 134217728
def passL (W:Wd) (d:Dr):Nat→Nat→Int→Bx→List Ps
 | 0,_,_,_=>[]
 | n+1,i,t,b=>match stepW W d (t+i) b with
  | none=>[⟨i,zeroA,zeroA,true⟩]
  | some nx=>⟨i,relA W (t+i) b,relA W (t+i+1) nx,false⟩::passL W d n (i+1) t nx
def stepF (r:Int) (k:Fk) (p:Ps):Fk:=match k with
 | .miss=>if p.clear r then .miss else if p.sure r then .hit else .open
 | .open=>if p.sure r then .hit else .open
 | .hit=>.hit
def HdPs (p:Ps) (v:Array Value) (_:World):Prop:=v=#[.agg #[p.i,p.a.x.lo,p.a.x.hi,p.a.y.lo,p.a.y.hi,p.b.x.lo,p.b.x.hi,p.b.y.lo,p.b.y.hi,.bool p.lost]]
end Go.Proofs.YtdhiappifnflpaaGreatDoor
namespace Go.Proofs.YtdhiappifnflpaaGreatDoor
open Go.RowKit
attribute [local go_sem] Oper.semAt_some
def PsAt (W:Wd) (d:Dr) (n:Nat) (t:Int) (L:List Ps) (w0:World) (x bb:Nat) (J:(Nat→Prop)→List Ps→World→Prop) (v:Value) (wr:World):Prop:=
 ∃ (i:Nat) (b:Bx) (pre:List Ps),v=.int .i64 i∧i≤n∧okBx b=true∧L=pre++passL W d (n-i) i t b∧J (fun k=>k=bb) pre wr∧Blk wr bb 33 b∧Kz w0.heap.size (fun k=>k=x∨k=bb) w0 wr
theorem AbideZ.row {β:Type} {J:(Nat→Prop)→β→World→Prop} (h:AbideZ J) {bb:Nat} {s:β} {W W':World} (hj:J (fun k=>k=bb) s W) (hk:Kp W.heap.size (some bb) W W'):J (fun k=>k=bb) s W':=h.keep hj hk (fun r e=>by injection e with e;exact e.symm)
end Go.Proofs.YtdhiappifnflpaaGreatDoor
namespace Go.Proofs.YtdhiappifnflpaaGreatDoor
open Go.RowKit
attribute [local go_sem] Oper.semAt_some
def fkI:Fk→Int
 | .miss=>1
 | .hit=>2
 | .open=>3
end Go.Proofs.YtdhiappifnflpaaGreatDoor
namespace Go.Proofs.YtdhiappifnflpaaGreatDoor
open Go.RowKit
attribute [local go_sem] Oper.semAt_some
def FndPost (k:Fk) (w:World) (e:Ending) (w':World):Prop:=∃ pn:Int,e=.returned (.agg #[(fkI k),pn])∧Kp w.heap.size none w w'
theorem Blk.sto1_3 {w:World} {r:Nat} {T:TypeId} {cs:Array Value} (h:Blk w r T cs) (x0:Value):∃ w',w'=(w.setCell ⟨r,3,none⟩ x0)∧Blk w' r T (cs.setIfInBounds 3 x0)∧Kp w.heap.size (some r) w w'∧w'.heap.size=w.heap.size:=
 ⟨_,rfl,h.set_ _ x0,(Kp.refl _ (some r) w).setRow (p:=⟨r,_,none⟩) rfl _,by simp[World.setCell]⟩
end Go.Proofs.YtdhiappifnflpaaGreatDoor
namespace Go.Proofs.YtdhiappifnflpaaGreatDoor
open Go.RowKit
theorem Blk.sto1_0 {w:World} {r:Nat} {T:TypeId} {cs:Array Value} (h:Blk w r T cs) (x0:Value):∃ w',w'=(w.setCell ⟨r,0,none⟩ x0)∧Blk w' r T (cs.setIfInBounds 0 x0)∧Kp w.heap.size (some r) w w'∧w'.heap.size=w.heap.size:=
 ⟨_,rfl,h.set_ _ x0,(Kp.refl _ (some r) w).setRow (p:=⟨r,_,none⟩) rfl _,by simp[World.setCell]⟩
theorem Blk.sto1_1 {w:World} {r:Nat} {T:TypeId} {cs:Array Value} (h:Blk w r T cs) (x0:Value):∃ w',w'=(w.setCell ⟨r,1,none⟩ x0)∧Blk w' r T (cs.setIfInBounds 1 x0)∧Kp w.heap.size (some r) w w'∧w'.heap.size=w.heap.size:=
 ⟨_,rfl,h.set_ _ x0,(Kp.refl _ (some r) w).setRow (p:=⟨r,_,none⟩) rfl _,by simp[World.setCell]⟩
theorem Blk.sto1_2 {w:World} {r:Nat} {T:TypeId} {cs:Array Value} (h:Blk w r T cs) (x0:Value):∃ w',w'=(w.setCell ⟨r,2,none⟩ x0)∧Blk w' r T (cs.setIfInBounds 2 x0)∧Kp w.heap.size (some r) w w'∧w'.heap.size=w.heap.size:=
 ⟨_,rfl,h.set_ _ x0,(Kp.refl _ (some r) w).setRow (p:=⟨r,_,none⟩) rfl _,by simp[World.setCell]⟩
end Go.Proofs.YtdhiappifnflpaaGreatDoor
