/- Passages: the walks of span, third part: all, first. Passages: the walks of span, fourth part: first. -/
import Derived.Test.YtdhiappifnflpaaGreatM32
set_option maxRecDepth 100000
set_option maxHeartbeats 4000000
namespace Go.Proofs.YtdhiappifnflpaaGreat
open Go.RowKit
attribute [local go_sem] Oper.semAt_some
theorem span_corners_any (B:Option Addr) (n c:Nat) (w:World) :
  Calls Tryz.prog 193 #[.slice B n c] w fun e w'=>e=.returned (.func (.func 215) #[] #[.pointer (some ⟨w.heap.size,0,none⟩)])∧Blk w' w.heap.size 268 #[.slice B n c]∧w'.heap.size=w.heap.size+1∧Kp w.heap.size none w w':=by
 have A:=Blk.new w 268 #[.slice B n c];go_enter Tryz.func193,Tryz.ntmps193
 go_wp2_with fail
 exact bodyPost_ret (by simp[results,Tryz.results193,go_sem]) rfl ⟨rfl,A,by simp,Kp.new1 _ _⟩
theorem Rd.off {α:Type} {w:World} {sz n x:Nat} {enc:α→List Value} {A:Option Addr} {xs:List α} (h:Rd none w sz enc A n xs) (hA:∀ ad,A=some ad→ad.block≠x):Rd (some x) w sz enc A n xs:=by
 refine⟨h.1,fun hn=>?_⟩;obtain⟨b,o,rfl,hb,-,h5⟩:=h.2 hn;exact⟨b,o,rfl,hb,sne (hA _ rfl),h5⟩
theorem rd_ar1 {w:World} {b:Nat} {T:TypeId} {p:Ar} (h:Blk w b T p):Rd none w 4 encAr (some ⟨b,0,none⟩) 1 [p]:=
 Rd.of_blk h (fun i hi j v hv=>by
  obtain rfl:i=0:=by simpa using hi
  match j with
  | 0|1|2|3=>exact hv
  | j+4=>simp[encAr] at hv)
theorem seq_one (w0:World) (c b:Nat) (a:Ar) (x:Nat) (hxl:x<w0.heap.size) (B:Blk w0 b 167 a) (hb:b≠x) (bC:Blk w0 c 268 #[.slice (some ⟨b,0,none⟩) 1 1]) (nC:c≠x) :
  SeqZ Tryz.prog 215 #[.pointer (some ⟨c,0,none⟩)] HdV a.crn (fun _=>False) (fun k=>k=x) w0.heap.size (fun w'=>Kz w0.heap.size (fun k=>k=x) w0 w'):=by
 have:=scorners_seq w0 c (some ⟨b,0,none⟩) 1 [a] x (by simp) ((rd_ar1 B).off fun ad e=>by injection e with e;rw[← e];exact hb) hxl bC nC;simpa using this
theorem seq_two (w0:World) (c b:Nat) (a a2:Ar) (x:Nat) (hxl:x<w0.heap.size) (B:Blk w0 b 167 ((a:Array Value)++#[.int .i64 a2.x.lo,.int .i64 a2.x.hi,.int .i64 a2.y.lo,.int .i64 a2.y.hi])) (hb:b≠x) (bC:Blk w0 c 268 #[.slice (some ⟨b,0,none⟩) 2 2]) (nC:c≠x) :
  SeqZ Tryz.prog 215 #[.pointer (some ⟨c,0,none⟩)] HdV (crn2 a a2) (fun _=>False) (fun k=>k=x) w0.heap.size (fun w'=>Kz w0.heap.size (fun k=>k=x) w0 w'):=by
 have:=scorners_seq w0 c (some ⟨b,0,none⟩) 2 [a,a2] x (by simp) ((rd_ar2 B).off fun ad e=>by injection e with e;rw[← e];exact hb) hxl bC nC;have e:[a,a2].flatMap Ar.crn=crn2 a a2:=by simp[crn2]
 rwa [e] at this
theorem crn_bd {a:Ar} {M:Int} (h:a.bd M):∀ p∈a.crn,-M≤p.x∧p.x≤M∧-M≤p.y∧p.y≤M:=by
 unfold Ar.bd Sp.bd at h;intro p hp;simp only[Ar.crn,List.mem_cons,List.not_mem_nil,or_false] at hp;rcases hp with rfl|rfl|rfl|rfl<;>simp only<;>omega
theorem sqN (n:Int) (h:n.natAbs≤1073741824):((n.natAbs:Nat):Int) * ((n.natAbs:Nat):Int)=n * n∧0≤n * n∧n * n≤1152921504606846976:=by
 have e:((n.natAbs * n.natAbs:Nat):Int)=n * n:=natAbs_sq n;have:=Nat.mul_le_mul h h;push_cast at e
 omega
theorem span_all_any (a:Ar) (r:Int) (w:World) (ha:a.bd 1073741824) (hr:0≤r∧r≤1000) :
  Calls Tryz.prog 217 #[a,r] w fun e w'=>e=.returned (.bool (allIn a r))∧Kp w.heap.size none w w':=by
 obtain⟨rr,hrr⟩:∃ q9,Hid (q9=allIn a r):=⟨_,Lib.hid rfl⟩;rw[← hrr.out];have hcb:=crn_bd ha;have e1:wrap64 (8 * r)=8 * r:=by unfold wrap64;omega
 have cs:=fun w=>span_size_any (8 * r) oM oM w;obtain⟨L,hL⟩:∃ q9,Hid (q9=(8 * r).natAbs):=⟨_,Lib.hid rfl⟩;rw[← hL.out] at cs;have hL1:(L:Int) * (L:Int)=(8 * r) * (8 * r):=by rw[hL.out];exact(sqN (8 * r) oM).1
 have hL2:IntKind.u64.wrap ((L:Int) * (L:Int))=(L:Int) * (L:Int):=by
  have:=sqN (8 * r) oM;rw[hL1,wrapu];generalize 8 * r * (8 * r)=m at *;omega
 obtain⟨f,hf⟩:∃ f:Pt→Bool,Hid (f=fun p=>decide (p.x * p.x+p.y * p.y≤(8 * r) * (8 * r))):=⟨_,Lib.hid rfl⟩;have hfr:Hid (rr=a.crn.all f):=Lib.hid (by rw[hrr.out,hf.out];rfl);replace hcb:=Lib.hid hcb;replace hL1:=Lib.hid hL1;clear hrr hL ha hr;obtain⟨w1,hw1,A,R,K,hz⟩:=box2 w 167 a 4 #[.bool false];refine calls_of_wp_m Tryz.func217 rfl ?_;simp only[Tryz.ntmps217,List.size_toArray,List.length_cons,List.length_nil,Nat.reduceAdd,Nat.reduceSub,Array.replicate_succ,Array.replicate_zero,List.push_toArray,List.append_toArray,List.nil_append,List.cons_append];go_wp2_with fail
 rw[← hw1];clear hw1;refine mK (cs _) fun w2 k=>?_;replace A:=A.kpN k;replace R:=R.kpN k;replace K:=K.thenN k oM;have hzk:=k.size;clear k;clear e1 cs;have N:=Blk.new w2 133 #[.int .u64 L];replace A:=A.alloc (.cells #[.int .u64 L] 133);replace R:=R.alloc (.cells #[.int .u64 L] 133);replace K:=K.alloc oM (.cells #[.int .u64 L] 133);have hzn:(w2.alloc (.cells #[.int .u64 L] 133)).heap.size=w2.heap.size+1:=by simp
 go_upto_region 2 with(fail)
 obtain⟨z,hz9⟩:∃ q9,q9=w2.heap.size:=⟨_,rfl⟩;rw[← hz9] at N hzn;try rw[← hz9]
 change Code.wp _ _ _ _ (w2.alloc (.cells #[.int .u64 L] 133));generalize w2.alloc (.cells #[.int .u64 L] 133)=w2b at *;have hzw:w.heap.size+2≤z:=by omega
 have hzk8:w.heap.size+3≤w2b.heap.size:=by omega
 have hzb:=Lib.hid (show w2b.heap.size=z+1 by omega);clear hz hzk hz9 hzn;have pA:=A.cell;have pR:=R.cell;have pN:=N.cell;obtain⟨w9_,rfl,B,k9_,hzn⟩:=box1 w2b 167 a;replace A:=A.kpN k9_;replace R:=R.kpN k9_;replace N:=N.kpN k9_;replace K:=K.thenN k9_ oU;clear k9_;have cA:=A.cell;have fA:=A.frozen;have cR:=R.cell;have fR:=R.frozen;have cN:=N.cell;have fN:=N.frozen;go_wp2_with fail
 clear cA fA pA cR fR pR cN fN pN;generalize (w2b.alloc (.cells a 167))=w3 at *;obtain⟨zq,hx⟩:∃ q9,q9=w2b.heap.size:=⟨_,rfl⟩;rw[← hx] at B ⊢;replace hx:=Lib.hid hx;have hzq:zq=z+1:=by have:=hx.out;have:=hzb.out;omega
 subst hzq;have hz3:w3.heap.size=z+2:=by have:=hx.out;have:=hzb.out;omega
 clear hx hzn hzb A;refine(span_corners_any (some ⟨z+1,0,none⟩) 1 1 _).mono ?_;rintro e w4 ⟨rfl,C,hz4,k⟩;replace N:=N.kpN k;replace B:=B.kpN k;replace R:=R.kpN k;replace K:=K.thenN k oM;rw[hz3] at C hz4 ⊢;clear k;go_wp2_with fail
 have hR:=R.lt;obtain⟨G9,hG9⟩:∃ G:Prop,Hid (G=(a.crn.all f=false)):=⟨_,Lib.hid rfl⟩
 refine wp_rangeFunc_z (gf:=215) (lb:=#[.pointer (some ⟨z+2,0,none⟩)]) rfl (enters_of Tryz.func215 (by kernel_rfl) rfl) (seq_one w4 (z+2) (z+1) a (w.heap.size+1) hR B oM C oM) (Nat.le_refl _) (fun w' k=>Kz.ofN k) (by rintro p v W rfl;rfl) (fun _ h=>h.elim) (fun k hk=>by rw[hk];exact hR)
  (AllB f (w.heap.size+1)) (StopB false G9 (w.heap.size+1)) (AllB.abide f _) (StopB.abide _ _ _) (AllB.put _ _ _) (fun c=>StopB.put _ _ _ c _) ⟨rfl,R,id⟩ ?round ?done ?stop
 case round=>
  rintro l S9 pre p rest vals W K1 hxs hC rfl hl hsz hkz hS hK;have hl1:w4.heap.size<l:=by omega
  have hl2:l<W.heap.size:=by omega
  clear hl;have hp:=hcb.out p (by rw[hxs];simp);have hno:f p=false→G9:=fun e=>by rw[hG9.out,hxs];simp[e]
  have hyes:f p=true→(pre++[p]).all f=true:=fun e=>by have:pre.all f=true:=hC.1;simp[this,e]
  have c1:=fun w=>span_size_any p.x oM oM w;have c2:=fun w=>span_size_any p.y oM oM w;obtain⟨q1,q2,q3⟩:=sqN p.x oM;obtain⟨q4,q5,q6⟩:=sqN p.y oM;obtain⟨b,hb⟩:∃ q9,Hid (q9=f p):=⟨_,Lib.hid rfl⟩;have hbd:b=decide (p.x * p.x+p.y * p.y≤(L:Int) * (L:Int)):=by rw[hb.out,hf.out,hL1.out]
  rw[← hb.out] at hno hyes;replace hno:=Lib.hid hno;replace hyes:=Lib.hid hyes;generalize p.x.natAbs=X at *;generalize p.y.natAbs=Y at *;have u1:IntKind.u64.wrap ((X:Int) * (X:Int))=(X:Int) * (X:Int):=by rw[q1,wrapu];omega
  have u2:IntKind.u64.wrap ((Y:Int) * (Y:Int))=(Y:Int) * (Y:Int):=by rw[q4,wrapu];omega
  have u3:IntKind.u64.wrap ((X:Int) * (X:Int)+(Y:Int) * (Y:Int))=(X:Int) * (X:Int)+(Y:Int) * (Y:Int):=by rw[q1,q4,wrapu];omega
  have u5:b=!decide ((L:Int) * (L:Int)<(X:Int) * (X:Int)+(Y:Int) * (Y:Int)):=by
   rw[hbd,q1,q4,← decide_not];congr 1
   exact propext oM
  have u4:b=true∧¬ (L:Int) * (L:Int)<(X:Int) * (X:Int)+(Y:Int) * (Y:Int)∨b=false∧(L:Int) * (L:Int)<(X:Int) * (X:Int)+(Y:Int) * (Y:Int):=by
   cases b
   · exact .inr ⟨rfl,by simpa using u5⟩
   · exact .inl ⟨rfl,by simpa using u5⟩
  clear u5;clear hxs hC hS hp q1 q2 q3 q4 q5 q6 hbd hb;have e0:(#[15].zip #[Value.agg #[p.x,p.y]]:Array (Nat × Value))=#[(15,.agg #[p.x,p.y])]:=by simp
  rw[e0];clear e0;simp only[List.foldl_toArray',List.foldl_cons,List.foldl_nil,sbt,sc0,scs];gi_wp2_with fail
  refine hK _ _ (Kp.new1 _ _) (fun W3 kr hsz3 hrec hC3=>?_);have hzz:=hkz.size;have P3:=(Blk.new W 73 #[p.x,p.y]).kp kr (by simp) oN;have N3:=((N.kz hkz N.lt (by rintro (e|e);exact absurd e oM;exact e)).kpN (Kp.new1 W (.cells #[p.x,p.y] 73))).kp kr (by have:=N.lt;simp;omega) (sne (by have:=N.lt;omega));obtain⟨hpre,R3,hSx⟩:=hC3;clear hK K1 hrec hkz hsz C K N B R;obtain⟨y3,hy3⟩:∃ q9,q9=W.heap.size:=⟨_,rfl⟩;rw[← hy3] at P3 ⊢;have hW3:w4.heap.size≤W3.heap.size:=by simp at hsz3;omega
  clear hy3 kr hsz3;have K:=Kp.refl W3.heap.size none W3;gi_wp2_with fail
  obtain⟨S,hS0,hS1⟩:=cls_of2 (P:=fun w'=>Blk w' _ _ _∧Blk w' _ _ _∧Kp _ _ _ w') W3 ⟨P3,N3,K⟩;try dsimp only at hS0
  have cP3:=fun (x:Ev (S 0)) i=>((hS0 _).1 x.h).1.cell i;have cN3:=fun (x:Ev (S 0)) i=>((hS0 _).1 x.h).2.1.cell i;replace P3:=P3.drew;replace N3:=N3.drew;replace K:=K.drew;replace R3:=R3.drew;have hevT:=ev_true;refine wpIn_region_ord l S [(0,0),(1,1),(3,0),(4,1),(2,2),(5,2),(6,0),(7,0)] [] (by kernel_rfl) (by kernel_rfl) (by kernel_rfl) ((hS0 _).2 ⟨P3,N3,K⟩) ?_;intro _hev;refine oX ?_;refine oL ?_;intro Kc hKc;generalize W3.drew=wd9 at *;go_step;refine mK (c1 _) fun W4 k=>?_;replace P3:=P3.kpN k;replace N3:=N3.kpN k;replace R3:=R3.kpN k;replace K:=K.tN k;clear k;refine hKc _ _ ((hS0 _).2 ⟨P3,N3,K⟩) ?_;clear hKc Kc;refine oL ?_;intro Kc hKc;go_step;refine mK (c2 _) fun W5 k=>?_;replace P3:=P3.kpN k;replace N3:=N3.kpN k;replace R3:=R3.kpN k;replace K:=K.tN k;clear k;refine hKc _ _ ((hS0 _).2 ⟨P3,N3,K⟩) ?_;clear hKc Kc;refine oX ?_;refine wpOrd_nil ?_;clear hevT _hev;clear cP3 cN3 hS0 hS1 S;clear c1 c2 P3;have cN:=N3.cell;have cR:=R3.cell;have fR:=R3.frozen;rcases u4 with⟨rfl,hlt⟩|⟨rfl,hlt⟩
  ·
   gi_wp2
   exact⟨Kz.ofN K,hyes.out (by simp),R3,hSx⟩
  ·
   gi_wp2
   obtain⟨W6,hwn,R9,kst,hzst⟩:=R3.st1 (.bool false);rw[← hwn];exact⟨(Kz.ofN K).then_ kst K.size (fun r e _=>by injection e with e;exact e.symm),rfl,hno.out (by simp),R9,hSx⟩
 case done=>
  intro W hC hkz hD hsz;obtain⟨hall,R2,-⟩:=hC;have hr2:Hid (rr=true):=Lib.hid (by rw[hfr.out];exact hall);have cR:=R2.cell;have fR:=R2.frozen;have K2:=K.trans (hkz.under (N:=w.heap.size) (by have:=K.size;omega) oM);have hKs:=K.size;clear hkz hall hfr C R K N B hL2;replace hD:=Lib.hid hD;dsimp only;go_wp2_with fail
  obtain⟨W5,hwn,R5,kst,hzst⟩:=R2.st1 (.bool true);rw[← hwn];have D5:W5.heap[w4.heap.size]?=some (.deferred (some [])):=(kst.block _ oM oN).trans hD.out;have K5:=K2.thenOwn kst oM oM;have R6:=R5.put_ (.deferred none) D5 rfl;clear hwn cR fR;have cR:=R6.cell;simp only[List.setIfInBounds_toArray,List.set_cons_zero] at cR;exact postM_mark (v:=.bool true) rfl D5 (by simp[results,Tryz.results217,go_sem,cR]) ⟨by rw[hr2.out],mark_kp K5 oM⟩
 case stop=>
  rintro c pre W ⟨rfl,hall,R2,-⟩ hkz hD hsz;have hr2:Hid (rr=false):=Lib.hid (by rw[hG9.out] at hall;rw[hfr.out];exact hall);have K2:=K.trans (hkz.under (N:=w.heap.size) (by have:=K.size;omega) oM);have hKs:=K.size;clear hkz hall hfr C R K N B;have R6:=R2.put_ (.deferred none) hD rfl;have cR:=R6.cell;dsimp only;gi_wp2
  exact postM_mark (v:=.bool false) rfl hD (by simp[results,Tryz.results217,go_sem,cR]) ⟨by rw[hr2.out],mark_kp K2 oM⟩
end Go.Proofs.YtdhiappifnflpaaGreat
namespace Go.Proofs.YtdhiappifnflpaaGreat
open Go.RowKit
attribute [local go_sem] Oper.semAt_some
theorem crn2_bd {a b:Ar} {M:Int} (ha:a.bd M) (hb:b.bd M):∀ p∈crn2 a b,-M≤p.x∧p.x≤M∧-M≤p.y∧p.y≤M:=by
 intro p hp;unfold crn2 at hp;rcases List.mem_append.1 hp with h|h
 · exact crn_bd ha p h
 · exact crn_bd hb p h
theorem span_first_any (p0:Pt) (a b:Ar) (w:World) (hp0:Sm p0) (ha:a.bd 1073741824) (hb:b.bd 1073741824) :
  Calls Tryz.prog 194 #[.agg #[p0.x,p0.y],a,b] w fun e w'=>e=.returned (.bool (firstP (crn2 a b) p0))∧Kp w.heap.size none w w':=by
 obtain⟨rr,hrr⟩:∃ q9,Hid (q9=firstP (crn2 a b) p0):=⟨_,Lib.hid rfl⟩;rw[← hrr.out];obtain⟨L,hL⟩:∃ q9,Hid (q9=crn2 a b):=⟨_,Lib.hid rfl⟩;have hcb:=crn2_bd ha hb;rw[← hL.out] at hcb;obtain⟨f,hf⟩:∃ f:Pt→Bool,Hid (f=fun q=>decide (0≤crs p0 q)):=⟨_,Lib.hid rfl⟩;have hfr:Hid (rr=L.all f):=Lib.hid (by rw[hrr.out,hf.out,hL.out];rfl);obtain⟨G9,hG9⟩:∃ G:Prop,Hid (G=(L.all f=false)):=⟨_,Lib.hid rfl⟩;replace hcb:=Lib.hid hcb;clear hrr ha hb;obtain⟨w1,hw1,P,A,B,R,K,hz⟩:=box4 w 73 #[p0.x,p0.y] 167 a 167 b 4 #[.bool false];refine calls_of_wp_m Tryz.func194 rfl ?_;simp only[Tryz.ntmps194,List.size_toArray,List.length_cons,List.length_nil,Nat.reduceAdd,Nat.reduceSub,Array.replicate_succ,Array.replicate_zero,List.push_toArray,List.append_toArray,List.nil_append,List.cons_append];go_wp2_with fail
 rw[← hw1];clear hw1 A B;change Calls _ _ _ (w1.alloc (.cells #[a.x.lo,a.x.hi,a.y.lo,a.y.hi,b.x.lo,b.x.hi,b.y.lo,b.y.hi] 167)) _;have Z:=Blk.newAt w1 167 #[a.x.lo,a.x.hi,a.y.lo,a.y.hi,b.x.lo,b.x.hi,b.y.lo,b.y.hi] (n:=w.heap.size+4) oM;have k1:=Kp.new1 w1 (.cells #[a.x.lo,a.x.hi,a.y.lo,a.y.hi,b.x.lo,b.x.hi,b.y.lo,b.y.hi] 167);replace P:=P.kpN k1;replace R:=R.kpN k1;replace K:=K.thenN k1 oM;have hz2:(w1.alloc (.cells #[a.x.lo,a.x.hi,a.y.lo,a.y.hi,b.x.lo,b.x.hi,b.y.lo,b.y.hi] 167)).heap.size=w.heap.size+5:=by simp;omega
 clear k1 hz;generalize w1.alloc (.cells #[a.x.lo,a.x.hi,a.y.lo,a.y.hi,b.x.lo,b.x.hi,b.y.lo,b.y.hi] 167)=w2 at *;refine(span_corners_any (some ⟨w.heap.size+4,0,none⟩) 2 2 _).mono ?_;rintro e w4 ⟨rfl,C,hz4,k⟩;replace P:=P.kpN k;replace Z:=Z.kpN k;replace R:=R.kpN k;replace K:=K.thenN k oM;rw[hz2] at C hz4 ⊢;clear k hz2;go_wp2_with fail
 have hR:=R.lt;have hseq:=seq_two w4 (w.heap.size+5) (w.heap.size+4) a b (w.heap.size+3) hR Z oM C oM;rw[← hL.out] at hseq
 refine wp_rangeFunc_z (gf:=215) (lb:=#[.pointer (some ⟨w.heap.size+5,0,none⟩)]) rfl (enters_of Tryz.func215 (by kernel_rfl) rfl) hseq (Nat.le_refl _) (fun w' k=>Kz.ofN k) (by rintro p v W rfl;rfl) (fun _ h=>h.elim) (fun k hk=>by rw[hk];exact hR)
  (AllB f (w.heap.size+3)) (StopB false G9 (w.heap.size+3)) (AllB.abide f _) (StopB.abide _ _ _) (AllB.put _ _ _) (fun c=>StopB.put _ _ _ c _) ⟨rfl,R,id⟩ ?round ?done ?stop
 case round=>
  rintro l S9 pre p rest vals W K1 hxs hC rfl hl hsz hkz hS hK;have hl1:w4.heap.size<l:=by omega
  have hl2:l<W.heap.size:=by omega
  clear hl;have hp:=hcb.out p (by rw[hxs];simp);have hno:f p=false→G9:=fun e=>by rw[hG9.out,hxs];simp[e]
  have hyes:f p=true→(pre++[p]).all f=true:=fun e=>by have:pre.all f=true:=hC.1;simp[this,e]
  have cc:=fun w=>span_Cross_any p0 p hp0 hp w;have hfe:f p=true∨f p=false:=by cases f p<;>simp
  have hft:crs p0 p<0→G9:=fun h=>hno (by rw[hf.out];simpa using h);have hff:¬ crs p0 p<0→(pre++[p]).all f=true:=fun h=>hyes (by rw[hf.out];simpa using h);replace hft:=Lib.hid hft;replace hff:=Lib.hid hff;clear hxs hC hS hp hno hyes hfe;have e0:(#[12].zip #[Value.agg #[p.x,p.y]]:Array (Nat × Value))=#[(12,.agg #[p.x,p.y])]:=by simp
  rw[e0];clear e0;simp only[List.foldl_toArray',List.foldl_cons,List.foldl_nil,sbt,sc0,scs];gi_wp2_with fail
  refine hK _ _ (Kp.new1 _ _) (fun W3 kr hsz3 hrec hC3=>?_);have hzz:=hkz.size;have X3:=(Blk.new W 73 #[p.x,p.y]).kp kr (by simp) oN;have P3:=((P.kz hkz P.lt (by rintro (e|e);exact absurd e oM;exact e)).kpN (Kp.new1 W (.cells #[p.x,p.y] 73))).kp kr (by have:=P.lt;simp;omega) (sne (by have:=P.lt;omega));obtain⟨hpre,R3,hSx⟩:=hC3;clear hK K1 hrec hkz hsz C K P Z R hseq;obtain⟨y3,hy3⟩:∃ q9,q9=W.heap.size:=⟨_,rfl⟩;rw[← hy3] at X3 ⊢;clear hy3 kr hsz3;have cX:=X3.cell;have cP:=P3.cell;gi_wp2_with fail
  refine⟨trivial,rfl,(CallsIn.inRound _ (callsIn_wide.2 (cc _))).mono ?_⟩;rintro e W4 ⟨⟨n,rfl,hn⟩,k4⟩;replace R3:=R3.kpN k4;clear cX cP X3 P3 cc;have cR:=R3.cell;have fR:=R3.frozen;by_cases hlt:n<0
  ·
   have hg:=Lib.hid (hft.out (hn.1 hlt));clear hn;gi_wp2
   obtain⟨W6,hwn,R9,kst,hzst⟩:=R3.st1 (.bool false);rw[← hwn];exact⟨(Kz.ofN k4).then_ kst k4.size (fun r e _=>by injection e with e;exact e.symm),rfl,hg.out,R9,hSx⟩
  ·
   have hg:=Lib.hid (hff.out (by first|exact(fun h=>hlt (hn.2 h))|(rcases Int.lt_or_le (crs p0 p) 0 with h|h;exact absurd (hn.2 h) hlt;exact h)));clear hn;gi_wp2
   exact⟨Kz.ofN k4,hg.out,R3,hSx⟩
 case done=>
  intro W hC hkz hD hsz;obtain⟨hall,R2,-⟩:=hC;have hr2:Hid (rr=true):=Lib.hid (by rw[hfr.out];exact hall);have cR:=R2.cell;have fR:=R2.frozen;have K2:=K.trans (hkz.under (N:=w.heap.size) (by have:=K.size;omega) oM);have hKs:=K.size;clear hkz hall hfr C R K P Z hseq;replace hD:=Lib.hid hD;dsimp only;go_wp2_with fail
  obtain⟨W5,hwn,R5,kst,hzst⟩:=R2.st1 (.bool true);rw[← hwn];have D5:W5.heap[w4.heap.size]?=some (.deferred (some [])):=(kst.block _ oM oN).trans hD.out;have K5:=K2.thenOwn kst oM oM;have R6:=R5.put_ (.deferred none) D5 rfl;clear hwn cR fR;have cR:=R6.cell;simp only[List.setIfInBounds_toArray,List.set_cons_zero] at cR;exact postM_mark (v:=.bool true) rfl D5 (by simp[results,Tryz.results194,go_sem,cR]) ⟨by rw[hr2.out],mark_kp K5 oM⟩
 case stop=>
  rintro c pre W ⟨rfl,hall,R2,-⟩ hkz hD hsz;have hr2:Hid (rr=false):=Lib.hid (by rw[hG9.out] at hall;rw[hfr.out];exact hall);have K2:=K.trans (hkz.under (N:=w.heap.size) (by have:=K.size;omega) oM);have hKs:=K.size;clear hkz hall hfr C R K P Z hseq;have R6:=R2.put_ (.deferred none) hD rfl;have cR:=R6.cell;dsimp only;gi_wp2
  exact postM_mark (v:=.bool false) rfl hD (by simp[results,Tryz.results194,go_sem,cR]) ⟨by rw[hr2.out],mark_kp K2 oM⟩
end Go.Proofs.YtdhiappifnflpaaGreat
