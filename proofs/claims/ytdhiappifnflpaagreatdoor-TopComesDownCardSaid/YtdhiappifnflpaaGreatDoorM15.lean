/- The common end of the statements: awake. The reference's spans, weakly: whatever they compute, it is a span that fits, and nothing goes wrong. First part. The reference's spans, weakly: wide numbers. Second part. The reference's spans, weakly: quotients of wide numbers. Third part. -/
import Derived.Test.YtdhiappifnflpaaGreatDoorM14
import Derived.Test.YtdhiappifnflpaaGreatDoorM13
import Derived.Laws.EntriesVeiled
set_option maxHeartbeats 2000000
namespace Go.Proofs.YtdhiappifnflpaaGreatDoor
open Go.RowKit
theorem comes_four (r:Int) (h0:0≤r):comesP ⟨2,3⟩ ⟨10,3⟩ r↔4≤r:=by
 have e:comesP ⟨2,3⟩ ⟨10,3⟩ r↔13≤r * r:=by unfold comesP;simp[n2]
 rw[e];constructor
 ·
  intro h;rcases Int.lt_or_le r 4 with k|k
  ·
   have:r=0∨r=1∨r=2∨r=3:=by omega
   rcases this with rfl|rfl|rfl|rfl<;>omega
  · exact k
 ·
  intro h;have:=Int.mul_le_mul h h oM oM;omega
theorem miss1_any (pb qb:Nat) (r:Int) (w:World) (h0:0≤r) (h1:r≤268435456) (P:Blk w pb 45 #[(2:Int),(3:Int)]) (Q:Blk w qb 45 #[(10:Int),(3:Int)]) :
  Calls Tryz.prog 88 #[r,.pointer (some ⟨pb,0,none⟩),.pointer (some ⟨qb,0,none⟩)] w fun e w'=>e=.returned (.bool (decide (4≤r)))∧Kp w.heap.size none w w':=by
 have cc:=fun w=>span_comes_any ⟨2,3⟩ ⟨10,3⟩ r (by unfold Fr Fr1;dsimp only;omega) (by unfold Fr Fr1;dsimp only;omega) h0 h1 w;have e:decide (comesP ⟨2,3⟩ ⟨10,3⟩ r)=decide (4≤r):=decide_eq_decide.2 (comes_four r h0);rw[e] at cc;have cP:=P.cell;have cQ:=Q.cell;generalize decide (4≤r)=v at *;clear e h0 h1 P Q;go_enter Tryz.func88,Tryz.ntmps88
 go_wp2_with fail
 refine mK (cc _) fun w2 k=>?_;go_wp2
 go_ret
 exact⟨rfl,k⟩
def SrAt (w:World) (a b:Value) (wr:World):Prop:=∃ i j:Nat,a=.int .i64 i∧b=.int .i64 j∧i≤4∧4≤j∧(i=0∧j=536870912∨j≤268435456)∧Kp w.heap.size none w wr
theorem search_four (pb qb:Nat) (w:World) (P:Blk w pb 45 #[(2:Int),(3:Int)]) (Q:Blk w qb 45 #[(10:Int),(3:Int)]) :
  Calls Tryz.prog 87 #[(536870912:Int),.func (.func 88) #[] #[.pointer (some ⟨pb,0,none⟩),.pointer (some ⟨qb,0,none⟩)]] w fun e w'=>e=.returned (.int .i64 4)∧Kp w.heap.size none w w':=by
 go_enter Tryz.func87,Tryz.ntmps87
 go_wp2_with fail
 go_loopw [5,6] (fun a b wr=>SrAt w a b wr) (fun a b _=>(intOf b).toNat-(intOf a).toNat)
 case atStart=>exact⟨0,536870912,rfl,rfl,by omega,by omega,.inl ⟨rfl,rfl⟩,Kp.refl _ _ _⟩
 case round=>
  obtain⟨i,j,rfl,rfl,hi,hj,hij,K⟩:=hrel;by_cases h:i<j
  ·
   have hii:(i:Int)<(j:Int):=by omega
   obtain⟨m,hm⟩:∃ m:Nat,Hid (m=(i+j) / 2):=⟨_,Lib.hid rfl⟩;have hm1:(m:Int)≤268435456:=by have:=hm.out;omega
   have cc:=fun w P Q=>miss1_any pb qb (m:Int) w oM hm1 P Q;have g1:Hid (m<4→m+1≤4∧j-(m+1)<j-i∧(j≤268435456)):=Lib.hid (by have:=hm.out;omega);have g2:Hid (4≤m→m-i<j-i∧m≤268435456):=Lib.hid (by have:=hm.out;omega);have e9:wrap64 (IntKind.u64.wrap (wrap64 ((i:Int)+(j:Int))) / 2)=(m:Int):=by have:=hm.out;rw[wrapu];unfold wrap64;omega
   replace e9:=Lib.hid e9;clear hm1;replace hij:=Lib.hid hij;clear hm;go_wp2_with fail
   rw[e9.out];refine mK (cc _ (P.kpN K) (Q.kpN K)) fun w2 k=>?_;clear cc e9;have K2:=K.tN k;by_cases h4:(4:Int)≤(m:Int)
   ·
    obtain⟨q1,q2⟩:=g2.out oM;have d:decide ((4:Int)≤(m:Int))=true:=decide_eq_true h4;have h5:=Lib.hid h4;replace q1:=Lib.hid q1;replace q2:=Lib.hid q2;rw[d];clear h4 g1 g2;go_wp2
    go_roundw
    case rel=>exact⟨i,m,rfl,rfl,hi,by have:=h5.out;omega,.inr q2.out,K2⟩
    case measure=>have:=q1.out;simp[intOf];omega
   ·
    obtain⟨q1,q2,q3⟩:=g1.out oM;have d:decide ((4:Int)≤(m:Int))=false:=decide_eq_false h4;have h5:(m:Int)<4:=by omega
    replace q1:=Lib.hid q1;replace q2:=Lib.hid q2;rw[d];clear h4 g1 g2;go_wp2
    go_roundw
    case rel=>exact⟨m+1,j,by congr 1,rfl,q1.out,hj,.inr q3,K2⟩
    case measure=>have:=q2.out;simp[intOf];omega
  ·
   obtain rfl:i=4:=by omega
   obtain rfl:j=4:=by omega
   go_wp2
   go_ret
   exact⟨rfl,K⟩
theorem span_Miss_four (w:World) :
  Calls Tryz.prog 39 #[.agg #[(2:Int),(3:Int)],.agg #[(10:Int),(3:Int)]] w fun e w'=>e=.returned (.int .i64 4)∧Kp w.heap.size none w w':=by
 have ca:∀ b T w,Blk w b T #[(2:Int),(3:Int),(10:Int),(3:Int)]→Calls Tryz.prog 86 #[(0:Int),.slice (some ⟨b,0,none⟩) 2 2] w fun e w'=>e=.returned (.bool true)∧Kp w.heap.size none w w':=fun b T w h=>span_asks_any (some ⟨b,0,none⟩) 2 0 [⟨2,3⟩,⟨10,3⟩] w (rd_pt2 h) (by simp) (by intro x hx;simp only[List.mem_cons,List.not_mem_nil,or_false] at hx;rcases hx with rfl|rfl<;>(unfold Fr Fr1;dsimp only;omega)) oM oM;obtain⟨w1,hw1,P,Q,K,hz⟩:=box2 w 45 #[(2:Int),(3:Int)] 45 #[(10:Int),(3:Int)];go_enter Tryz.func39,Tryz.ntmps39
 go_wp2_with fail
 rw[← hw1];clear hw1;have k1:=Kp.new1 w1 (.cells #[(2:Int),(3:Int),(10:Int),(3:Int)] 45);refine mK (ca _ 45 _ (Blk.newAt w1 _ _ oM)) fun w2 k=>?_;replace P:=(P.kpN k1).kpN k;replace Q:=(Q.kpN k1).kpN k;replace K:=(K.thenN k1 oM).thenN k (by simp);clear k k1;go_wp2_with fail
 refine mK (search_four _ _ _ P Q) fun w3 k=>?_;go_wp2
 go_ret
 exact⟨rfl,K.thenN k (by have:=K.size;omega)⟩
theorem awake_any (w:World):Calls Tryz.prog 8 #[] w fun e w'=>e=.returned (.bool true)∧Kp w.heap.size none w w':=by
 have cm:=fun w=>span_Mul_any ⟨-2,3⟩ ⟨-5,4⟩ (by unfold Sp.fit;dsimp only;omega) (by unfold Sp.fit;dsimp only;omega) (by
  intro x y hx hy;unfold Sp.has at hx hy;dsimp only at hx hy;have h:=mul_bd (a:=x) (b:=y) (A:=5) (B:=5) oM oM;unfold Fit1;omega) w
 have e1:mulS ⟨-2,3⟩ ⟨-5,4⟩=⟨-15,12⟩:=by decide
 rw[e1] at cm
 have cr:∀ w,Calls Tryz.prog 38 #[(15:Int)] w fun e w'=>e=.returned (.int .i64 3)∧Kp w.heap.size none w w':=fun w=>(span_Root_any 15 oM w).mono fun e w' ⟨⟨r,h1,h2⟩,h3⟩=>⟨by
  have:r=3:=root_one h2.1 h2.2 oM oM;rw[h1,this];rfl,h3⟩
 have cs:=fun w=>span_Miss_four w;clear e1;go_enter Tryz.func8,Tryz.ntmps8
 go_wp2_with fail
 refine mK (cm _) fun w2 k2=>?_;have S:=Blk.new w2 29 #[.int .i64 (-15),(12:Int)];have k3:=Kp.new1 w2 (.cells #[.int .i64 (-15),(12:Int)] 29);have cS:=S.cell;dsimp only;go_wp2_with fail
 refine mK (cr _) fun w4 k4=>?_;clear cS;go_wp2_with fail
 refine mK (cs _) fun w5 k5=>?_;go_wp2
 go_ret
 exact⟨rfl,((k2.thenN k3 (Nat.le_refl _)).thenN k4 (Nat.le_refl _)).thenN k5 (Nat.le_refl _)⟩
def ErrP (w:World) (e:Ending) (w':World):Prop:=(∃ v:Int,e=.returned (.int .i64 v))∧Kp w.heap.size none w w'
def BoolP (w:World) (e:Ending) (w':World):Prop:=(∃ v:Bool,e=.returned (.bool v))∧Kp w.heap.size none w w'
def SpP (w:World) (e:Ending) (w':World):Prop:=(∃ (s:Sp) (v:Int),e=.returned (.tuple #[s,v])∧s.fit)∧Kp w.heap.size none w w'
theorem fit0:(⟨0,0⟩:Sp).fit:=by unfold Sp.fit;dsimp only;omega
theorem r1_Check (s:Sp) (w:World):Calls Tryz.prog 209 #[s] w (ErrP w):=by
 obtain⟨w1,hw1,B,K,hz⟩:=box1 w 29 s;go_enter Tryz.func209,Tryz.ntmps209
 go_wp2_with fail
 rw[← hw1];clear hw1;refine mK (bolideref01_fits_any s.lo _) fun w2 k=>?_;replace B:=B.kpN k;replace K:=K.thenN k oM;have hzk:=k.size;clear k;generalize btw s.lo _ _=b1;cases b1
 ·
  have cB:=B.cell;have fB:=B.frozen;go_wp2_with fail
  clear cB fB;go_ret
  exact⟨⟨_,rfl⟩,K⟩
 ·
  have cB:=B.cell;have fB:=B.frozen;go_wp2_with fail
  refine mK (bolideref01_fits_any s.hi _) fun w3 k=>?_;clear cB fB;replace B:=B.kpN k;replace K:=K.thenN k oM;have hzk:=k.size;clear k;generalize btw s.hi _ _=b2;cases b2
  ·
   have cB:=B.cell;have fB:=B.frozen;go_wp2_with fail
   clear cB fB;go_ret
   exact⟨⟨_,rfl⟩,K⟩
  ·
   by_cases h:s.hi<s.lo
   all_goals
    have cB:=B.cell;have fB:=B.frozen;go_wp2_with fail
    clear cB fB;go_ret
    exact⟨⟨_,rfl⟩,K⟩
theorem r1_both (a b:Sp) (w:World):Calls Tryz.prog 196 #[a,b] w (ErrP w):=by
 obtain⟨w1,hw1,A,B,K,hz⟩:=box2 w 29 a 29 b;go_enter Tryz.func196,Tryz.ntmps196
 go_wp2_with fail
 rw[← hw1];clear hw1;refine(r1_Check a _).mono ?_;rintro e w2 ⟨⟨v,rfl⟩,k⟩;replace A:=A.kpN k;replace B:=B.kpN k;replace K:=K.thenN k oM;have hzk:=k.size;clear k;by_cases h:v=0
 ·
  subst h;have cA:=A.cell;have fA:=A.frozen;have cB:=B.cell;have fB:=B.frozen;go_wp2_with fail
  refine(r1_Check b _).mono ?_;rintro e w3 ⟨⟨v2,rfl⟩,k⟩;clear cA fA cB fB;replace A:=A.kpN k;replace B:=B.kpN k;replace K:=K.thenN k oM;have hzk:=k.size;clear k;go_wp2
  go_ret
  exact⟨⟨_,rfl⟩,K⟩
 ·
  have cB:=B.cell;have fB:=B.frozen;go_wp2_with fail
  clear cB fB;go_ret
  exact⟨⟨_,rfl⟩,K⟩
theorem r1_far (n:Int) (w:World):Calls Tryz.prog 197 #[n] w (BoolP w):=by
 go_enter Tryz.func197,Tryz.ntmps197
 go_wp2_with fail
 refine mK (bolideref01_between_any _ _ _ _) fun w1 hk1=>?_;go_wp2
 go_ret
 exact⟨⟨_,rfl⟩,hk1⟩
theorem btw_of {n lo hi:Int} (h:btw n lo hi=true):lo≤n∧n≤hi:=by simpa [btw] using h
theorem r1_result (a b:Int) (h:a≤b) (w:World):Calls Tryz.prog 204 #[a,b] w (SpP w):=by
 obtain⟨w1,hw1,R,K,hz⟩:=box1 w 29 #[(0:Int),(0:Int)];replace h:=Lib.hid h;go_enter Tryz.func204,Tryz.ntmps204
 go_wp2_with fail
 rw[← hw1];clear hw1;refine mK (bolideref01_fits_any a _) fun w2 k=>?_;replace R:=R.kpN k;replace K:=K.thenN k oM;have hzk:=k.size;clear k;obtain⟨b1,hb1⟩:∃ q9,q9=btw a (-1152921504606846976) 1152921504606846976:=⟨_,rfl⟩;rw[← hb1];replace hb1:=Lib.hid hb1;cases b1
 ·
  have cR:=R.cell;have fR:=R.frozen;go_wp2_with fail
  clear cR fR;have BR:=(R.set_ 0 (.int .i64 0)).set_ 1 (.int .i64 0);have cR:=BR.cell;exact bodyPost_ret (v:=.tuple #[.agg #[(0:Int),(0:Int)],(14:Int)]) (by simp[results,Tryz.results204,go_sem,cR]) rfl ⟨⟨⟨0,0⟩,_,rfl,fit0⟩,(K.setNew (by simp<;>omega) _).setNew (by simp<;>omega) _⟩
 ·
  have cR:=R.cell;have fR:=R.frozen;go_wp2_with fail
  refine mK (bolideref01_fits_any b _) fun w3 k=>?_;clear cR fR;replace R:=R.kpN k;replace K:=K.thenN k oM;have hzk:=k.size;clear k;obtain⟨b2,hb2⟩:∃ q9,q9=btw b (-1152921504606846976) 1152921504606846976:=⟨_,rfl⟩;rw[← hb2];replace hb2:=Lib.hid hb2;cases b2
  ·
   have cR:=R.cell;have fR:=R.frozen;go_wp2_with fail
   clear cR fR;have BR:=(R.set_ 0 (.int .i64 0)).set_ 1 (.int .i64 0);have cR:=BR.cell;exact bodyPost_ret (v:=.tuple #[.agg #[(0:Int),(0:Int)],(14:Int)]) (by simp[results,Tryz.results204,go_sem,cR]) rfl ⟨⟨⟨0,0⟩,_,rfl,fit0⟩,(K.setNew (by simp<;>omega) _).setNew (by simp<;>omega) _⟩
  ·
   have cR:=R.cell;have fR:=R.frozen;go_wp2_with fail
   clear cR fR;have BR:=(R.set_ 0 (.int .i64 a)).set_ 1 (.int .i64 b);have cR:=BR.cell;exact bodyPost_ret (v:=.tuple #[.agg #[a,b],(0:Int)]) (by simp[results,Tryz.results204,go_sem,cR]) rfl ⟨⟨⟨a,b⟩,_,rfl,(btw_of hb1.out.symm).1,h.out,(btw_of hb2.out.symm).2⟩,(K.setNew (by simp<;>omega) _).setNew (by simp<;>omega) _⟩
theorem r1_Add (a b:Sp) (ha:a.fit) (hb:b.fit) (w:World):Calls Tryz.prog 189 #[a,b] w (SpP w):=by
 unfold Sp.fit at ha hb;have cc:=fun w=>r1_result (a.lo+b.lo) (a.hi+b.hi) oM w;have e1:wrap64 (a.lo+b.lo)=a.lo+b.lo:=by unfold wrap64;omega
 have e2:wrap64 (a.hi+b.hi)=a.hi+b.hi:=by unfold wrap64;omega
 clear ha hb;obtain⟨w1,hw1,A,B,R,K,hz⟩:=box3 w 29 a 29 b 29 #[(0:Int),(0:Int)];go_enter Tryz.func189,Tryz.ntmps189
 go_wp2_with fail
 rw[← hw1];clear hw1;refine(r1_both a b _).mono ?_;rintro e w2 ⟨⟨v,rfl⟩,k⟩;replace A:=A.kpN k;replace B:=B.kpN k;replace R:=R.kpN k;replace K:=K.thenN k oM;have hzk:=k.size;clear k;by_cases h:v=0
 ·
  subst h;have cA:=A.cell;have cB:=B.cell;go_wp2_with fail
  rw[e1,e2];refine(cc _).mono ?_;rintro e w3 ⟨⟨s,v2,rfl,hs⟩,k⟩;replace R:=R.kpN k;replace K:=K.thenN k oM;have hz3:=k.size;clear k cA cB cc e1 e2;have cR:=R.cell;have fR:=R.frozen;go_wp2_with fail
  clear cR fR;have BR:=(R.set_ 0 (.int .i64 s.lo)).set_ 1 (.int .i64 s.hi);have cR:=BR.cell;exact bodyPost_ret (v:=.tuple #[.agg #[s.lo,s.hi],v2]) (by simp[results,Tryz.results189,go_sem,cR]) rfl ⟨⟨s,_,rfl,hs⟩,(K.setNew (by simp<;>omega) _).setNew (by simp<;>omega) _⟩
 ·
  have cR:=R.cell;have fR:=R.frozen;go_wp2_with fail
  clear cR fR;have BR:=(R.set_ 0 (.int .i64 0)).set_ 1 (.int .i64 0);have cR:=BR.cell;exact bodyPost_ret (v:=.tuple #[.agg #[(0:Int),(0:Int)],v]) (by simp[results,Tryz.results189,go_sem,cR]) rfl ⟨⟨⟨0,0⟩,_,rfl,fit0⟩,(K.setNew (by simp<;>omega) _).setNew (by simp<;>omega) _⟩
theorem r1_size (n:Int) (h1:-9223372036854775808<n) (h2:n<9223372036854775808) (w:World) :
  Calls Tryz.prog 219 #[n] w fun e w'=>e=.returned (.int .u64 ((n.natAbs:Nat):Int))∧Kp w.heap.size none w w':=by
 by_cases h:n<0
 ·
  have e1:=wrapu_neg n h h1;go_enter Tryz.func219,Tryz.ntmps219
  go_wp2
  go_ret
  exact⟨rfl,Kp.refl _ _ _⟩
 ·
  have e1:=wrapu_pos n h h2;go_enter Tryz.func219,Tryz.ntmps219
  go_wp2
  go_ret
  exact⟨rfl,Kp.refl _ _ _⟩
def WideP (w:World) (e:Ending) (w':World):Prop:=(∃ (s:Bool) (H L:Nat),e=.returned (.agg #[.bool s,.int .u64 H,.int .u64 L])∧H<18446744073709551616∧L<18446744073709551616)∧Kp w.heap.size none w w'
theorem u64_lt (n:Nat):n % 18446744073709551616<18446744073709551616:=Nat.mod_lt _ (by decide)
theorem u64_div {a b:Nat} (ha:a<18446744073709551616) (hb:b<18446744073709551616):a * b / 18446744073709551616<18446744073709551616:=by
 have:=Nat.mul_lt_mul'' ha hb;exact Nat.div_lt_of_lt_mul this
theorem wide_fin {Q:World→Prop} {w w4:World} {r:Nat} {T:TypeId} {cs:Array Value} {n:Nat} {x0:Bool} {x1 x2:Value} (R:Blk w4 r T cs) (K:Kp n none w w4) (hr:n≤r)
  (h:∀ (y:Bool) w5,Blk w5 r T (((cs.setIfInBounds 0 (.bool y)).setIfInBounds 1 x1).setIfInBounds 2 x2)→Kp n none w w5→Q w5):Q (((w4.setCell ⟨r,0,none⟩ (.bool x0)).setCell ⟨r,1,none⟩ x1).setCell ⟨r,2,none⟩ x2):=
 h x0 _ (((R.set_ 0 _).set_ 1 x1).set_ 2 x2) (((K.setNew hr _).setNew hr _).setNew hr _)
theorem r1_wideOf (a b:Int) (ha:-9223372036854775808<a∧a<9223372036854775808) (hb:-9223372036854775808<b∧b<9223372036854775808) (w:World) :
  Calls Tryz.prog 217 #[a,b] w (WideP w):=by
 have ca:=fun w=>r1_size a ha.1 ha.2 w;have cb:=fun w=>r1_size b hb.1 hb.2 w;have la:a.natAbs<18446744073709551616:=by omega
 have lb:b.natAbs<18446744073709551616:=by omega
 have cm:=fun w=>Tryz.bits_Mul64 a.natAbs b.natAbs la lb w;have lH:=u64_div la lb;have lL:=u64_lt (a.natAbs * b.natAbs);generalize a.natAbs * b.natAbs / 18446744073709551616=H at *;generalize a.natAbs * b.natAbs % 18446744073709551616=L at *;replace lH:=Lib.hid lH;replace lL:=Lib.hid lL;clear ha hb la lb;obtain⟨w1,hw1,R,K,hz⟩:=box1 w 272 #[.bool false,.int .u64 0,.int .u64 0];by_cases hA:a<0<;>by_cases hB:b<0<;>rcases Nat.eq_zero_or_pos H with rfl|hH<;>rcases Nat.eq_zero_or_pos L with rfl|hL
 all_goals
  go_enter Tryz.func217,Tryz.ntmps217
  go_wp2_with fail
  rw[← hw1];clear hw1;refine mK (ca _) fun w2 k=>?_;replace R:=R.kpN k;replace K:=K.thenN k oM;have hzk:=k.size;clear k;have cR:=R.cell;have fR:=R.frozen;go_wp2_with fail
  refine mK (cb _) fun w3 k=>?_;clear cR fR;replace R:=R.kpN k;replace K:=K.thenN k oM;have hzk:=k.size;clear k;have cR:=R.cell;have fR:=R.frozen;clear ca cb;go_wp2_with (go_at_call 150;refine(cm _).mono ?_;rintro e w4 ⟨rfl,rfl⟩)
  clear cR fR;refine wide_fin (Q:=fun W=>bodyPost _ _ _ _ _ W) R K oM fun y w5 B5 K5=>?_;have cR:=B5.cell;refine bodyPost_ret (v:=.agg #[.bool y,_,_]) ?_ rfl ⟨⟨y,_,_,rfl,lH.out,lL.out⟩,K5⟩;simp[results,Tryz.results217,go_sem,cR]
  try rfl
def QuoP (w:World) (e:Ending) (w':World):Prop:=(∃ (lo hi:Int) (b:Bool),e=.returned (.tuple #[lo,hi,.bool b])∧(b=true→(⟨lo,hi⟩:Sp).fit))∧Kp w.heap.size none w w'
theorem fit_ends {q u:Int} (h0:0≤q) (h1:q≤u) (h2:u≤1152921504606846976):(⟨q,u⟩:Sp).fit∧(⟨-u,-q⟩:Sp).fit:=by
 unfold Sp.fit;dsimp only;omega
theorem quot_big (c:Int) (s:Bool) (H L D:Nat) (w:World)
  (hsz:∀ w,Calls Tryz.prog 219 #[c] w fun e w'=>e=.returned (.int .u64 (D:Int))∧Kp w.heap.size none w w') (a1:(D:Int)≤(H:Int)) :
  Calls Tryz.prog 218 #[.agg #[.bool s,.int .u64 H,.int .u64 L],c] w (QuoP w):=by
 obtain⟨w1,hw1,S,K,hz⟩:=box1 w 272 #[.bool s,.int .u64 H,.int .u64 L];go_enter Tryz.func218,Tryz.ntmps218
 go_wp2_with fail
 rw[← hw1];clear hw1;refine mK (hsz _) fun w2 k=>?_;replace S:=S.kpN k;replace K:=K.thenN k oM;have hzk:=k.size;clear k;have cS:=S.cell;have fS:=S.frozen;go_wp2_with fail
 clear cS fS;exact bodyPost_ret (v:=.tuple #[(0:Int),(0:Int),.bool false]) (by simp[results,Tryz.results218,go_sem]) rfl ⟨⟨_,_,_,rfl,fun h=>by cases h⟩,K⟩
theorem quot_far (c:Int) (s:Bool) (H L D q r:Nat) (w:World)
  (hsz:∀ w,Calls Tryz.prog 219 #[c] w fun e w'=>e=.returned (.int .u64 (D:Int))∧Kp w.heap.size none w w') (a1:¬ (D:Int)≤(H:Int))
  (hdv:∀ w,Calls Tryz.prog 127 #[.int .u64 H,.int .u64 (L:Int),.int .u64 (D:Int)] w fun e w'=>e=.returned (.tuple #[.int .u64 (q:Int),.int .u64 (r:Int)])∧Kp w.heap.size none w w')
  (hq:(1152921504606846976:Int)<(q:Int)) :
  Calls Tryz.prog 218 #[.agg #[.bool s,.int .u64 H,.int .u64 L],c] w (QuoP w):=by
 obtain⟨w1,hw1,S,K,hz⟩:=box1 w 272 #[.bool s,.int .u64 H,.int .u64 L];go_enter Tryz.func218,Tryz.ntmps218
 go_wp2_with fail
 rw[← hw1];clear hw1;refine mK (hsz _) fun w2 k=>?_;replace S:=S.kpN k;replace K:=K.thenN k oM;have hzk:=k.size;clear k;have cS:=S.cell;have fS:=S.frozen;go_wp2_with fail
 refine mK (hdv _) fun w3 k=>?_;clear cS fS;replace S:=S.kpN k;replace K:=K.thenN k oM;have hzk:=k.size;clear k;have cS:=S.cell;have fS:=S.frozen;go_wp2_with fail
 clear cS fS;exact bodyPost_ret (v:=.tuple #[(0:Int),(0:Int),.bool false]) (by simp[results,Tryz.results218,go_sem]) rfl ⟨⟨_,_,_,rfl,fun h=>by cases h⟩,K⟩
theorem quot_edge (c:Int) (s:Bool) (H L D q r:Nat) (w:World)
  (hsz:∀ w,Calls Tryz.prog 219 #[c] w fun e w'=>e=.returned (.int .u64 (D:Int))∧Kp w.heap.size none w w') (a1:¬ (D:Int)≤(H:Int))
  (hdv:∀ w,Calls Tryz.prog 127 #[.int .u64 H,.int .u64 (L:Int),.int .u64 (D:Int)] w fun e w'=>e=.returned (.tuple #[.int .u64 (q:Int),.int .u64 (r:Int)])∧Kp w.heap.size none w w')
  (hq:¬ (1152921504606846976:Int)<(q:Int)) (hq2:((q:Int)==1152921504606846976)=true) (hr:(0:Int)<(r:Int)) :
  Calls Tryz.prog 218 #[.agg #[.bool s,.int .u64 H,.int .u64 L],c] w (QuoP w):=by
 obtain⟨w1,hw1,S,K,hz⟩:=box1 w 272 #[.bool s,.int .u64 H,.int .u64 L];go_enter Tryz.func218,Tryz.ntmps218
 go_wp2_with fail
 rw[← hw1];clear hw1;refine mK (hsz _) fun w2 k=>?_;replace S:=S.kpN k;replace K:=K.thenN k oM;have hzk:=k.size;clear k;have cS:=S.cell;have fS:=S.frozen;go_wp2_with fail
 refine mK (hdv _) fun w3 k=>?_;clear cS fS;replace S:=S.kpN k;replace K:=K.thenN k oM;have hzk:=k.size;clear k;have cS:=S.cell;have fS:=S.frozen;go_wp2_with fail
 clear cS fS;exact bodyPost_ret (v:=.tuple #[(0:Int),(0:Int),.bool false]) (by simp[results,Tryz.results218,go_sem]) rfl ⟨⟨_,_,_,rfl,fun h=>by cases h⟩,K⟩
theorem quot_in (c:Int) (s:Bool) (H L D q r:Nat) (w:World)
  (hsz:∀ w,Calls Tryz.prog 219 #[c] w fun e w'=>e=.returned (.int .u64 (D:Int))∧Kp w.heap.size none w w') (a1:¬ (D:Int)≤(H:Int))
  (hdv:∀ w,Calls Tryz.prog 127 #[.int .u64 H,.int .u64 (L:Int),.int .u64 (D:Int)] w fun e w'=>e=.returned (.tuple #[.int .u64 (q:Int),.int .u64 (r:Int)])∧Kp w.heap.size none w w')
  (hq:¬ (1152921504606846976:Int)<(q:Int)) (eq:wrap64 (q:Int)=(q:Int)) (nq:wrap64 (-(q:Int))=-(q:Int)) (hq2:((q:Int)==1152921504606846976)=false) (hr:(0:Int)<(r:Int)) (hf:Hid ((⟨(q:Int),(q:Int)+1⟩:Sp).fit∧(⟨-((q:Int)+1),-(q:Int)⟩:Sp).fit)) :
  Calls Tryz.prog 218 #[.agg #[.bool s,.int .u64 H,.int .u64 L],c] w (QuoP w):=by
 rcases Int.lt_or_le c 0 with hc|hc
 ·
  cases s
  ·
   obtain⟨w1,hw1,S,K,hz⟩:=box1 w 272 #[.bool false,.int .u64 H,.int .u64 L];go_enter Tryz.func218,Tryz.ntmps218
   go_wp2_with fail
   rw[← hw1];clear hw1;refine mK (hsz _) fun w2 k=>?_;replace S:=S.kpN k;replace K:=K.thenN k oM;have hzk:=k.size;clear k;have cS:=S.cell;have fS:=S.frozen;go_wp2_with fail
   refine mK (hdv _) fun w3 k=>?_;clear cS fS;replace S:=S.kpN k;replace K:=K.thenN k oM;have hzk:=k.size;clear k;have cS:=S.cell;have fS:=S.frozen;go_wp2_with fail
   clear cS fS
   all_goals
    first
     | (refine bodyPost_ret (v:=.tuple #[.int .i64 (q:Int),.int .i64 ((q:Int)+1),.bool true]) ?_ rfl ⟨⟨_,_,_,rfl,fun _=>hf.out.1⟩,K⟩;simp[results,Tryz.results218,go_sem];done)
     | (refine bodyPost_ret (v:=.tuple #[.int .i64 (-((q:Int)+1)),.int .i64 (-(q:Int)),.bool true]) ?_ rfl ⟨⟨_,_,_,rfl,fun _=>hf.out.2⟩,K⟩;simp[results,Tryz.results218,go_sem];done)
  ·
   obtain⟨w1,hw1,S,K,hz⟩:=box1 w 272 #[.bool true,.int .u64 H,.int .u64 L];go_enter Tryz.func218,Tryz.ntmps218
   go_wp2_with fail
   rw[← hw1];clear hw1;refine mK (hsz _) fun w2 k=>?_;replace S:=S.kpN k;replace K:=K.thenN k oM;have hzk:=k.size;clear k;have cS:=S.cell;have fS:=S.frozen;go_wp2_with fail
   refine mK (hdv _) fun w3 k=>?_;clear cS fS;replace S:=S.kpN k;replace K:=K.thenN k oM;have hzk:=k.size;clear k;have cS:=S.cell;have fS:=S.frozen;go_wp2_with fail
   clear cS fS
   all_goals
    first
     | (refine bodyPost_ret (v:=.tuple #[.int .i64 (q:Int),.int .i64 ((q:Int)+1),.bool true]) ?_ rfl ⟨⟨_,_,_,rfl,fun _=>hf.out.1⟩,K⟩;simp[results,Tryz.results218,go_sem];done)
     | (refine bodyPost_ret (v:=.tuple #[.int .i64 (-((q:Int)+1)),.int .i64 (-(q:Int)),.bool true]) ?_ rfl ⟨⟨_,_,_,rfl,fun _=>hf.out.2⟩,K⟩;simp[results,Tryz.results218,go_sem];done)
 ·
  replace hc:¬ c<0:=by omega
  cases s
  ·
   obtain⟨w1,hw1,S,K,hz⟩:=box1 w 272 #[.bool false,.int .u64 H,.int .u64 L];go_enter Tryz.func218,Tryz.ntmps218
   go_wp2_with fail
   rw[← hw1];clear hw1;refine mK (hsz _) fun w2 k=>?_;replace S:=S.kpN k;replace K:=K.thenN k oM;have hzk:=k.size;clear k;have cS:=S.cell;have fS:=S.frozen;go_wp2_with fail
   refine mK (hdv _) fun w3 k=>?_;clear cS fS;replace S:=S.kpN k;replace K:=K.thenN k oM;have hzk:=k.size;clear k;have cS:=S.cell;have fS:=S.frozen;go_wp2_with fail
   clear cS fS
   all_goals
    first
     | (refine bodyPost_ret (v:=.tuple #[.int .i64 (q:Int),.int .i64 ((q:Int)+1),.bool true]) ?_ rfl ⟨⟨_,_,_,rfl,fun _=>hf.out.1⟩,K⟩;simp[results,Tryz.results218,go_sem];done)
     | (refine bodyPost_ret (v:=.tuple #[.int .i64 (-((q:Int)+1)),.int .i64 (-(q:Int)),.bool true]) ?_ rfl ⟨⟨_,_,_,rfl,fun _=>hf.out.2⟩,K⟩;simp[results,Tryz.results218,go_sem];done)
  ·
   obtain⟨w1,hw1,S,K,hz⟩:=box1 w 272 #[.bool true,.int .u64 H,.int .u64 L];go_enter Tryz.func218,Tryz.ntmps218
   go_wp2_with fail
   rw[← hw1];clear hw1;refine mK (hsz _) fun w2 k=>?_;replace S:=S.kpN k;replace K:=K.thenN k oM;have hzk:=k.size;clear k;have cS:=S.cell;have fS:=S.frozen;go_wp2_with fail
   refine mK (hdv _) fun w3 k=>?_;clear cS fS;replace S:=S.kpN k;replace K:=K.thenN k oM;have hzk:=k.size;clear k;have cS:=S.cell;have fS:=S.frozen;go_wp2_with fail
   clear cS fS
   all_goals
    first
     | (refine bodyPost_ret (v:=.tuple #[.int .i64 (q:Int),.int .i64 ((q:Int)+1),.bool true]) ?_ rfl ⟨⟨_,_,_,rfl,fun _=>hf.out.1⟩,K⟩;simp[results,Tryz.results218,go_sem];done)
     | (refine bodyPost_ret (v:=.tuple #[.int .i64 (-((q:Int)+1)),.int .i64 (-(q:Int)),.bool true]) ?_ rfl ⟨⟨_,_,_,rfl,fun _=>hf.out.2⟩,K⟩;simp[results,Tryz.results218,go_sem];done)
theorem quot_on (c:Int) (s:Bool) (H L D q r:Nat) (w:World)
  (hsz:∀ w,Calls Tryz.prog 219 #[c] w fun e w'=>e=.returned (.int .u64 (D:Int))∧Kp w.heap.size none w w') (a1:¬ (D:Int)≤(H:Int))
  (hdv:∀ w,Calls Tryz.prog 127 #[.int .u64 H,.int .u64 (L:Int),.int .u64 (D:Int)] w fun e w'=>e=.returned (.tuple #[.int .u64 (q:Int),.int .u64 (r:Int)])∧Kp w.heap.size none w w')
  (hq:¬ (1152921504606846976:Int)<(q:Int)) (eq:wrap64 (q:Int)=(q:Int)) (nq:wrap64 (-(q:Int))=-(q:Int)) (hq2:((q:Int)==1152921504606846976)=false) (hr:¬ (0:Int)<(r:Int)) (hf:Hid ((⟨(q:Int),(q:Int)⟩:Sp).fit∧(⟨-(q:Int),-(q:Int)⟩:Sp).fit)) :
  Calls Tryz.prog 218 #[.agg #[.bool s,.int .u64 H,.int .u64 L],c] w (QuoP w):=by
 rcases Int.lt_or_le c 0 with hc|hc
 ·
  cases s
  ·
   obtain⟨w1,hw1,S,K,hz⟩:=box1 w 272 #[.bool false,.int .u64 H,.int .u64 L];go_enter Tryz.func218,Tryz.ntmps218
   go_wp2_with fail
   rw[← hw1];clear hw1;refine mK (hsz _) fun w2 k=>?_;replace S:=S.kpN k;replace K:=K.thenN k oM;have hzk:=k.size;clear k;have cS:=S.cell;have fS:=S.frozen;go_wp2_with fail
   refine mK (hdv _) fun w3 k=>?_;clear cS fS;replace S:=S.kpN k;replace K:=K.thenN k oM;have hzk:=k.size;clear k;have cS:=S.cell;have fS:=S.frozen;go_wp2_with fail
   clear cS fS
   all_goals
    first
     | (refine bodyPost_ret (v:=.tuple #[.int .i64 (q:Int),(q),.bool true]) ?_ rfl ⟨⟨_,_,_,rfl,fun _=>hf.out.1⟩,K⟩;simp[results,Tryz.results218,go_sem];done)
     | (refine bodyPost_ret (v:=.tuple #[.int .i64 (-(q)),.int .i64 (-(q:Int)),.bool true]) ?_ rfl ⟨⟨_,_,_,rfl,fun _=>hf.out.2⟩,K⟩;simp[results,Tryz.results218,go_sem];done)
  ·
   obtain⟨w1,hw1,S,K,hz⟩:=box1 w 272 #[.bool true,.int .u64 H,.int .u64 L];go_enter Tryz.func218,Tryz.ntmps218
   go_wp2_with fail
   rw[← hw1];clear hw1;refine mK (hsz _) fun w2 k=>?_;replace S:=S.kpN k;replace K:=K.thenN k oM;have hzk:=k.size;clear k;have cS:=S.cell;have fS:=S.frozen;go_wp2_with fail
   refine mK (hdv _) fun w3 k=>?_;clear cS fS;replace S:=S.kpN k;replace K:=K.thenN k oM;have hzk:=k.size;clear k;have cS:=S.cell;have fS:=S.frozen;go_wp2_with fail
   clear cS fS
   all_goals
    first
     | (refine bodyPost_ret (v:=.tuple #[.int .i64 (q:Int),(q),.bool true]) ?_ rfl ⟨⟨_,_,_,rfl,fun _=>hf.out.1⟩,K⟩;simp[results,Tryz.results218,go_sem];done)
     | (refine bodyPost_ret (v:=.tuple #[.int .i64 (-(q)),.int .i64 (-(q:Int)),.bool true]) ?_ rfl ⟨⟨_,_,_,rfl,fun _=>hf.out.2⟩,K⟩;simp[results,Tryz.results218,go_sem];done)
 ·
  replace hc:¬ c<0:=by omega
  cases s
  ·
   obtain⟨w1,hw1,S,K,hz⟩:=box1 w 272 #[.bool false,.int .u64 H,.int .u64 L];go_enter Tryz.func218,Tryz.ntmps218
   go_wp2_with fail
   rw[← hw1];clear hw1;refine mK (hsz _) fun w2 k=>?_;replace S:=S.kpN k;replace K:=K.thenN k oM;have hzk:=k.size;clear k;have cS:=S.cell;have fS:=S.frozen;go_wp2_with fail
   refine mK (hdv _) fun w3 k=>?_;clear cS fS;replace S:=S.kpN k;replace K:=K.thenN k oM;have hzk:=k.size;clear k;have cS:=S.cell;have fS:=S.frozen;go_wp2_with fail
   clear cS fS
   all_goals
    first
     | (refine bodyPost_ret (v:=.tuple #[.int .i64 (q:Int),(q),.bool true]) ?_ rfl ⟨⟨_,_,_,rfl,fun _=>hf.out.1⟩,K⟩;simp[results,Tryz.results218,go_sem];done)
     | (refine bodyPost_ret (v:=.tuple #[.int .i64 (-(q)),.int .i64 (-(q:Int)),.bool true]) ?_ rfl ⟨⟨_,_,_,rfl,fun _=>hf.out.2⟩,K⟩;simp[results,Tryz.results218,go_sem];done)
  ·
   obtain⟨w1,hw1,S,K,hz⟩:=box1 w 272 #[.bool true,.int .u64 H,.int .u64 L];go_enter Tryz.func218,Tryz.ntmps218
   go_wp2_with fail
   rw[← hw1];clear hw1;refine mK (hsz _) fun w2 k=>?_;replace S:=S.kpN k;replace K:=K.thenN k oM;have hzk:=k.size;clear k;have cS:=S.cell;have fS:=S.frozen;go_wp2_with fail
   refine mK (hdv _) fun w3 k=>?_;clear cS fS;replace S:=S.kpN k;replace K:=K.thenN k oM;have hzk:=k.size;clear k;have cS:=S.cell;have fS:=S.frozen;go_wp2_with fail
   clear cS fS
   all_goals
    first
     | (refine bodyPost_ret (v:=.tuple #[.int .i64 (q:Int),(q),.bool true]) ?_ rfl ⟨⟨_,_,_,rfl,fun _=>hf.out.1⟩,K⟩;simp[results,Tryz.results218,go_sem];done)
     | (refine bodyPost_ret (v:=.tuple #[.int .i64 (-(q)),.int .i64 (-(q:Int)),.bool true]) ?_ rfl ⟨⟨_,_,_,rfl,fun _=>hf.out.2⟩,K⟩;simp[results,Tryz.results218,go_sem];done)
theorem quot_top (c:Int) (s:Bool) (H L D q r:Nat) (w:World)
  (hsz:∀ w,Calls Tryz.prog 219 #[c] w fun e w'=>e=.returned (.int .u64 (D:Int))∧Kp w.heap.size none w w') (a1:¬ (D:Int)≤(H:Int))
  (hdv:∀ w,Calls Tryz.prog 127 #[.int .u64 H,.int .u64 (L:Int),.int .u64 (D:Int)] w fun e w'=>e=.returned (.tuple #[.int .u64 (q:Int),.int .u64 (r:Int)])∧Kp w.heap.size none w w')
  (hq:¬ (1152921504606846976:Int)<(q:Int)) (eq:wrap64 (q:Int)=(q:Int)) (nq:wrap64 (-(q:Int))=-(q:Int)) (hq2:((q:Int)==1152921504606846976)=true) (hr:¬ (0:Int)<(r:Int)) (hf:Hid ((⟨(q:Int),(q:Int)⟩:Sp).fit∧(⟨-(q:Int),-(q:Int)⟩:Sp).fit)) :
  Calls Tryz.prog 218 #[.agg #[.bool s,.int .u64 H,.int .u64 L],c] w (QuoP w):=by
 rcases Int.lt_or_le c 0 with hc|hc
 ·
  cases s
  ·
   obtain⟨w1,hw1,S,K,hz⟩:=box1 w 272 #[.bool false,.int .u64 H,.int .u64 L];go_enter Tryz.func218,Tryz.ntmps218
   go_wp2_with fail
   rw[← hw1];clear hw1;refine mK (hsz _) fun w2 k=>?_;replace S:=S.kpN k;replace K:=K.thenN k oM;have hzk:=k.size;clear k;have cS:=S.cell;have fS:=S.frozen;go_wp2_with fail
   refine mK (hdv _) fun w3 k=>?_;clear cS fS;replace S:=S.kpN k;replace K:=K.thenN k oM;have hzk:=k.size;clear k;have cS:=S.cell;have fS:=S.frozen;go_wp2_with fail
   clear cS fS
   all_goals
    first
     | (refine bodyPost_ret (v:=.tuple #[.int .i64 (q:Int),(q),.bool true]) ?_ rfl ⟨⟨_,_,_,rfl,fun _=>hf.out.1⟩,K⟩;simp[results,Tryz.results218,go_sem];done)
     | (refine bodyPost_ret (v:=.tuple #[.int .i64 (-(q)),.int .i64 (-(q:Int)),.bool true]) ?_ rfl ⟨⟨_,_,_,rfl,fun _=>hf.out.2⟩,K⟩;simp[results,Tryz.results218,go_sem];done)
  ·
   obtain⟨w1,hw1,S,K,hz⟩:=box1 w 272 #[.bool true,.int .u64 H,.int .u64 L];go_enter Tryz.func218,Tryz.ntmps218
   go_wp2_with fail
   rw[← hw1];clear hw1;refine mK (hsz _) fun w2 k=>?_;replace S:=S.kpN k;replace K:=K.thenN k oM;have hzk:=k.size;clear k;have cS:=S.cell;have fS:=S.frozen;go_wp2_with fail
   refine mK (hdv _) fun w3 k=>?_;clear cS fS;replace S:=S.kpN k;replace K:=K.thenN k oM;have hzk:=k.size;clear k;have cS:=S.cell;have fS:=S.frozen;go_wp2_with fail
   clear cS fS
   all_goals
    first
     | (refine bodyPost_ret (v:=.tuple #[.int .i64 (q:Int),(q),.bool true]) ?_ rfl ⟨⟨_,_,_,rfl,fun _=>hf.out.1⟩,K⟩;simp[results,Tryz.results218,go_sem];done)
     | (refine bodyPost_ret (v:=.tuple #[.int .i64 (-(q)),.int .i64 (-(q:Int)),.bool true]) ?_ rfl ⟨⟨_,_,_,rfl,fun _=>hf.out.2⟩,K⟩;simp[results,Tryz.results218,go_sem];done)
 ·
  replace hc:¬ c<0:=by omega
  cases s
  ·
   obtain⟨w1,hw1,S,K,hz⟩:=box1 w 272 #[.bool false,.int .u64 H,.int .u64 L];go_enter Tryz.func218,Tryz.ntmps218
   go_wp2_with fail
   rw[← hw1];clear hw1;refine mK (hsz _) fun w2 k=>?_;replace S:=S.kpN k;replace K:=K.thenN k oM;have hzk:=k.size;clear k;have cS:=S.cell;have fS:=S.frozen;go_wp2_with fail
   refine mK (hdv _) fun w3 k=>?_;clear cS fS;replace S:=S.kpN k;replace K:=K.thenN k oM;have hzk:=k.size;clear k;have cS:=S.cell;have fS:=S.frozen;go_wp2_with fail
   clear cS fS
   all_goals
    first
     | (refine bodyPost_ret (v:=.tuple #[.int .i64 (q:Int),(q),.bool true]) ?_ rfl ⟨⟨_,_,_,rfl,fun _=>hf.out.1⟩,K⟩;simp[results,Tryz.results218,go_sem];done)
     | (refine bodyPost_ret (v:=.tuple #[.int .i64 (-(q)),.int .i64 (-(q:Int)),.bool true]) ?_ rfl ⟨⟨_,_,_,rfl,fun _=>hf.out.2⟩,K⟩;simp[results,Tryz.results218,go_sem];done)
  ·
   obtain⟨w1,hw1,S,K,hz⟩:=box1 w 272 #[.bool true,.int .u64 H,.int .u64 L];go_enter Tryz.func218,Tryz.ntmps218
   go_wp2_with fail
   rw[← hw1];clear hw1;refine mK (hsz _) fun w2 k=>?_;replace S:=S.kpN k;replace K:=K.thenN k oM;have hzk:=k.size;clear k;have cS:=S.cell;have fS:=S.frozen;go_wp2_with fail
   refine mK (hdv _) fun w3 k=>?_;clear cS fS;replace S:=S.kpN k;replace K:=K.thenN k oM;have hzk:=k.size;clear k;have cS:=S.cell;have fS:=S.frozen;go_wp2_with fail
   clear cS fS
   all_goals
    first
     | (refine bodyPost_ret (v:=.tuple #[.int .i64 (q:Int),(q),.bool true]) ?_ rfl ⟨⟨_,_,_,rfl,fun _=>hf.out.1⟩,K⟩;simp[results,Tryz.results218,go_sem];done)
     | (refine bodyPost_ret (v:=.tuple #[.int .i64 (-(q)),.int .i64 (-(q:Int)),.bool true]) ?_ rfl ⟨⟨_,_,_,rfl,fun _=>hf.out.2⟩,K⟩;simp[results,Tryz.results218,go_sem];done)
theorem quo_facts {q:Nat} (h:q≤1152921504606846976):wrap64 (q:Int)=(q:Int)∧wrap64 (-(q:Int))=-(q:Int):=by
 refine⟨?_,?_⟩<;>unfold wrap64<;>omega
theorem r1_quotient (c:Int) (s:Bool) (H L:Nat) (hc:-9223372036854775808<c∧c<9223372036854775808) (hL:L<18446744073709551616) (w:World) :
  Calls Tryz.prog 218 #[.agg #[.bool s,.int .u64 H,.int .u64 L],c] w (QuoP w):=by
 have hs:=fun w=>r1_size c hc.1 hc.2 w;have hD:c.natAbs<18446744073709551616:=by omega
 generalize c.natAbs=D at *;rcases Nat.lt_or_ge H D with h|h
 ·
  have hd:=fun w=>div64_any H L D w h hL hD;generalize (H * 18446744073709551616+L) / D=q at *;generalize (H * 18446744073709551616+L) % D=r at *;have a1:¬ (D:Int)≤(H:Int):=by omega
  rcases Nat.lt_or_ge 1152921504606846976 q with k|k
  · exact quot_far c s H L D q r w hs a1 hd oM
  ·
   obtain⟨e1,e2⟩:=quo_facts k;rcases Nat.eq_zero_or_pos r with hr|hr
   ·
    rcases Nat.lt_or_ge q 1152921504606846976 with k2|k2
    · exact quot_on c s H L D q r w hs a1 hd oM e1 e2 (beq_eq_false_iff_ne.2 oM) oM (Lib.hid (fit_ends oM oM oM))
    · exact quot_top c s H L D q r w hs a1 hd oM e1 e2 (beq_iff_eq.2 oM) oM (Lib.hid (fit_ends oM oM oM))
   ·
    rcases Nat.lt_or_ge q 1152921504606846976 with k2|k2
    · exact quot_in c s H L D q r w hs a1 hd oM e1 e2 (beq_eq_false_iff_ne.2 oM) oM (Lib.hid (fit_ends oM oM oM))
    · exact quot_edge c s H L D q r w hs a1 hd oM (beq_iff_eq.2 oM) oM
 · exact quot_big c s H L D w hs oM
end Go.Proofs.YtdhiappifnflpaaGreatDoor
