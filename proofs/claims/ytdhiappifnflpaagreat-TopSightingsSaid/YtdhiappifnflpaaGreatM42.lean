/- The reference's spans, weakly: whatever they compute, it is a span that fits, and nothing goes wrong. First part. The reference's spans, weakly: wide numbers. Second part. The reference's spans, weakly: quotients of wide numbers. Third part. -/
import Derived.Test.YtdhiappifnflpaaGreatM11
set_option maxHeartbeats 2000000
namespace Go.Proofs.YtdhiappifnflpaaGreat
open Go.RowKit
def ErrP (w:World) (e:Ending) (w':World):Prop:=(∃ v:Int,e=.returned (.int .i64 v))∧Kp w.heap.size none w w'
def BoolP (w:World) (e:Ending) (w':World):Prop:=(∃ v:Bool,e=.returned (.bool v))∧Kp w.heap.size none w w'
def SpP (w:World) (e:Ending) (w':World):Prop:=(∃ (s:Sp) (v:Int),e=.returned (.tuple #[s,v])∧s.fit)∧Kp w.heap.size none w w'
theorem fit0:(⟨0,0⟩:Sp).fit:=by unfold Sp.fit;dsimp only;omega
theorem r1_Check (s:Sp) (w:World):Calls Tryz.prog 237 #[s] w (ErrP w):=by
 obtain⟨w1,hw1,B,K,hz⟩:=box1 w 29 s;go_enter Tryz.func237,Tryz.ntmps237
 go_wp2_with fail
 rw[← hw1];clear hw1;refine mK (bolideref01_fits_any s.lo _) fun w2 k=>?_;replace B:=B.kpN k;replace K:=K.thenN k oM;have hzk:=k.size;clear k;generalize btw s.lo _ _=b1;cases b1
 ·
  have cB:=B.cell;have fB:=B.frozen;go_wp2_with fail
  clear cB fB;go_ret
  exact⟨⟨_,rfl⟩,K⟩
 ·
  have cB:=B.cell;have fB:=B.frozen;go_wp2_with fail
  refine mK (bolideref01_fits_any s.hi _) fun w3 k=>?_;clear cB fB;replace B:=B.kpN k;replace K:=K.thenN k oM;have hzk:=k.size;clear k;generalize btw s.hi _ _=b2;cases b2
  ·
   have cB:=B.cell;have fB:=B.frozen;go_wp2_with fail
   clear cB fB;go_ret
   exact⟨⟨_,rfl⟩,K⟩
  ·
   by_cases h:s.hi<s.lo
   all_goals
    have cB:=B.cell;have fB:=B.frozen;go_wp2_with fail
    clear cB fB;go_ret
    exact⟨⟨_,rfl⟩,K⟩
theorem r1_both (a b:Sp) (w:World):Calls Tryz.prog 221 #[a,b] w (ErrP w):=by
 obtain⟨w1,hw1,A,B,K,hz⟩:=box2 w 29 a 29 b;go_enter Tryz.func221,Tryz.ntmps221
 go_wp2_with fail
 rw[← hw1];clear hw1;refine(r1_Check a _).mono ?_;rintro e w2 ⟨⟨v,rfl⟩,k⟩;replace A:=A.kpN k;replace B:=B.kpN k;replace K:=K.thenN k oM;have hzk:=k.size;clear k;by_cases h:v=0
 ·
  subst h;have cA:=A.cell;have fA:=A.frozen;have cB:=B.cell;have fB:=B.frozen;go_wp2_with fail
  refine(r1_Check b _).mono ?_;rintro e w3 ⟨⟨v2,rfl⟩,k⟩;clear cA fA cB fB;replace A:=A.kpN k;replace B:=B.kpN k;replace K:=K.thenN k oM;have hzk:=k.size;clear k;go_wp2
  go_ret
  exact⟨⟨_,rfl⟩,K⟩
 ·
  have cB:=B.cell;have fB:=B.frozen;go_wp2_with fail
  clear cB fB;go_ret
  exact⟨⟨_,rfl⟩,K⟩
theorem r1_far (n:Int) (w:World):Calls Tryz.prog 222 #[n] w (BoolP w):=by
 go_enter Tryz.func222,Tryz.ntmps222
 go_wp2_with fail
 refine mK (bolideref01_between_any _ _ _ _) fun w1 hk1=>?_;go_wp2
 go_ret
 exact⟨⟨_,rfl⟩,hk1⟩
theorem btw_of {n lo hi:Int} (h:btw n lo hi=true):lo≤n∧n≤hi:=by simpa [btw] using h
theorem r1_result (a b:Int) (h:a≤b) (w:World):Calls Tryz.prog 229 #[a,b] w (SpP w):=by
 obtain⟨w1,hw1,R,K,hz⟩:=box1 w 29 #[(0:Int),(0:Int)];replace h:=Lib.hid h;go_enter Tryz.func229,Tryz.ntmps229
 go_wp2_with fail
 rw[← hw1];clear hw1;refine mK (bolideref01_fits_any a _) fun w2 k=>?_;replace R:=R.kpN k;replace K:=K.thenN k oM;have hzk:=k.size;clear k;obtain⟨b1,hb1⟩:∃ q9,q9=btw a (-1152921504606846976) 1152921504606846976:=⟨_,rfl⟩;rw[← hb1];replace hb1:=Lib.hid hb1;cases b1
 ·
  have cR:=R.cell;have fR:=R.frozen;go_wp2_with fail
  clear cR fR;have BR:=(R.set_ 0 (.int .i64 0)).set_ 1 (.int .i64 0);have cR:=BR.cell;exact bodyPost_ret (v:=.tuple #[.agg #[(0:Int),(0:Int)],(14:Int)]) (by simp[results,Tryz.results229,go_sem,cR]) rfl ⟨⟨⟨0,0⟩,_,rfl,fit0⟩,(K.setNew (by simp<;>omega) _).setNew (by simp<;>omega) _⟩
 ·
  have cR:=R.cell;have fR:=R.frozen;go_wp2_with fail
  refine mK (bolideref01_fits_any b _) fun w3 k=>?_;clear cR fR;replace R:=R.kpN k;replace K:=K.thenN k oM;have hzk:=k.size;clear k;obtain⟨b2,hb2⟩:∃ q9,q9=btw b (-1152921504606846976) 1152921504606846976:=⟨_,rfl⟩;rw[← hb2];replace hb2:=Lib.hid hb2;cases b2
  ·
   have cR:=R.cell;have fR:=R.frozen;go_wp2_with fail
   clear cR fR;have BR:=(R.set_ 0 (.int .i64 0)).set_ 1 (.int .i64 0);have cR:=BR.cell;exact bodyPost_ret (v:=.tuple #[.agg #[(0:Int),(0:Int)],(14:Int)]) (by simp[results,Tryz.results229,go_sem,cR]) rfl ⟨⟨⟨0,0⟩,_,rfl,fit0⟩,(K.setNew (by simp<;>omega) _).setNew (by simp<;>omega) _⟩
  ·
   have cR:=R.cell;have fR:=R.frozen;go_wp2_with fail
   clear cR fR;have BR:=(R.set_ 0 (.int .i64 a)).set_ 1 (.int .i64 b);have cR:=BR.cell;exact bodyPost_ret (v:=.tuple #[.agg #[a,b],(0:Int)]) (by simp[results,Tryz.results229,go_sem,cR]) rfl ⟨⟨⟨a,b⟩,_,rfl,(btw_of hb1.out.symm).1,h.out,(btw_of hb2.out.symm).2⟩,(K.setNew (by simp<;>omega) _).setNew (by simp<;>omega) _⟩
theorem r1_Add (a b:Sp) (ha:a.fit) (hb:b.fit) (w:World):Calls Tryz.prog 207 #[a,b] w (SpP w):=by
 unfold Sp.fit at ha hb;have cc:=fun w=>r1_result (a.lo+b.lo) (a.hi+b.hi) oM w;have e1:wrap64 (a.lo+b.lo)=a.lo+b.lo:=by unfold wrap64;omega
 have e2:wrap64 (a.hi+b.hi)=a.hi+b.hi:=by unfold wrap64;omega
 clear ha hb;obtain⟨w1,hw1,A,B,R,K,hz⟩:=box3 w 29 a 29 b 29 #[(0:Int),(0:Int)];go_enter Tryz.func207,Tryz.ntmps207
 go_wp2_with fail
 rw[← hw1];clear hw1;refine(r1_both a b _).mono ?_;rintro e w2 ⟨⟨v,rfl⟩,k⟩;replace A:=A.kpN k;replace B:=B.kpN k;replace R:=R.kpN k;replace K:=K.thenN k oM;have hzk:=k.size;clear k;by_cases h:v=0
 ·
  subst h;have cA:=A.cell;have cB:=B.cell;go_wp2_with fail
  rw[e1,e2];refine(cc _).mono ?_;rintro e w3 ⟨⟨s,v2,rfl,hs⟩,k⟩;replace R:=R.kpN k;replace K:=K.thenN k oM;have hz3:=k.size;clear k cA cB cc e1 e2;have cR:=R.cell;have fR:=R.frozen;go_wp2_with fail
  clear cR fR;have BR:=(R.set_ 0 (.int .i64 s.lo)).set_ 1 (.int .i64 s.hi);have cR:=BR.cell;exact bodyPost_ret (v:=.tuple #[.agg #[s.lo,s.hi],v2]) (by simp[results,Tryz.results207,go_sem,cR]) rfl ⟨⟨s,_,rfl,hs⟩,(K.setNew (by simp<;>omega) _).setNew (by simp<;>omega) _⟩
 ·
  have cR:=R.cell;have fR:=R.frozen;go_wp2_with fail
  clear cR fR;have BR:=(R.set_ 0 (.int .i64 0)).set_ 1 (.int .i64 0);have cR:=BR.cell;exact bodyPost_ret (v:=.tuple #[.agg #[(0:Int),(0:Int)],v]) (by simp[results,Tryz.results207,go_sem,cR]) rfl ⟨⟨⟨0,0⟩,_,rfl,fit0⟩,(K.setNew (by simp<;>omega) _).setNew (by simp<;>omega) _⟩
theorem r1_size (n:Int) (h1:-9223372036854775808<n) (h2:n<9223372036854775808) (w:World) :
  Calls Tryz.prog 256 #[n] w fun e w'=>e=.returned (.int .u64 ((n.natAbs:Nat):Int))∧Kp w.heap.size none w w':=by
 by_cases h:n<0
 ·
  have e1:=wrapu_neg n h h1;go_enter Tryz.func256,Tryz.ntmps256
  go_wp2
  go_ret
  exact⟨rfl,Kp.refl _ _ _⟩
 ·
  have e1:=wrapu_pos n h h2;go_enter Tryz.func256,Tryz.ntmps256
  go_wp2
  go_ret
  exact⟨rfl,Kp.refl _ _ _⟩
def WideP (w:World) (e:Ending) (w':World):Prop:=(∃ (s:Bool) (H L:Nat),e=.returned (.agg #[.bool s,.int .u64 H,.int .u64 L])∧H<18446744073709551616∧L<18446744073709551616)∧Kp w.heap.size none w w'
theorem u64_lt (n:Nat):n % 18446744073709551616<18446744073709551616:=Nat.mod_lt _ (by decide)
theorem u64_div {a b:Nat} (ha:a<18446744073709551616) (hb:b<18446744073709551616):a * b / 18446744073709551616<18446744073709551616:=by
 have:=Nat.mul_lt_mul'' ha hb;exact Nat.div_lt_of_lt_mul this
theorem wide_fin {Q:World→Prop} {w w4:World} {r:Nat} {T:TypeId} {cs:Array Value} {n:Nat} {x0:Bool} {x1 x2:Value} (R:Blk w4 r T cs) (K:Kp n none w w4) (hr:n≤r)
  (h:∀ (y:Bool) w5,Blk w5 r T (((cs.setIfInBounds 0 (.bool y)).setIfInBounds 1 x1).setIfInBounds 2 x2)→Kp n none w w5→Q w5):Q (((w4.setCell ⟨r,0,none⟩ (.bool x0)).setCell ⟨r,1,none⟩ x1).setCell ⟨r,2,none⟩ x2):=
 h x0 _ (((R.set_ 0 _).set_ 1 x1).set_ 2 x2) (((K.setNew hr _).setNew hr _).setNew hr _)
theorem r1_wideOf (a b:Int) (ha:-9223372036854775808<a∧a<9223372036854775808) (hb:-9223372036854775808<b∧b<9223372036854775808) (w:World) :
  Calls Tryz.prog 245 #[a,b] w (WideP w):=by
 have ca:=fun w=>r1_size a ha.1 ha.2 w;have cb:=fun w=>r1_size b hb.1 hb.2 w;have la:a.natAbs<18446744073709551616:=by omega
 have lb:b.natAbs<18446744073709551616:=by omega
 have cm:=fun w=>Tryz.bits_Mul64 a.natAbs b.natAbs la lb w;have lH:=u64_div la lb;have lL:=u64_lt (a.natAbs * b.natAbs);generalize a.natAbs * b.natAbs / 18446744073709551616=H at *;generalize a.natAbs * b.natAbs % 18446744073709551616=L at *;replace lH:=Lib.hid lH;replace lL:=Lib.hid lL;clear ha hb la lb;obtain⟨w1,hw1,R,K,hz⟩:=box1 w 304 #[.bool false,.int .u64 0,.int .u64 0];by_cases hA:a<0<;>by_cases hB:b<0<;>rcases Nat.eq_zero_or_pos H with rfl|hH<;>rcases Nat.eq_zero_or_pos L with rfl|hL
 all_goals
  go_enter Tryz.func245,Tryz.ntmps245
  go_wp2_with fail
  rw[← hw1];clear hw1;refine mK (ca _) fun w2 k=>?_;replace R:=R.kpN k;replace K:=K.thenN k oM;have hzk:=k.size;clear k;have cR:=R.cell;have fR:=R.frozen;go_wp2_with fail
  refine mK (cb _) fun w3 k=>?_;clear cR fR;replace R:=R.kpN k;replace K:=K.thenN k oM;have hzk:=k.size;clear k;have cR:=R.cell;have fR:=R.frozen;clear ca cb;go_wp2_with (go_at_call 161;refine(cm _).mono ?_;rintro e w4 ⟨rfl,rfl⟩)
  clear cR fR;refine wide_fin (Q:=fun W=>bodyPost _ _ _ _ _ W) R K oM fun y w5 B5 K5=>?_;have cR:=B5.cell;refine bodyPost_ret (v:=.agg #[.bool y,_,_]) ?_ rfl ⟨⟨y,_,_,rfl,lH.out,lL.out⟩,K5⟩;simp[results,Tryz.results245,go_sem,cR]
  try rfl
def QuoP (w:World) (e:Ending) (w':World):Prop:=(∃ (lo hi:Int) (b:Bool),e=.returned (.tuple #[lo,hi,.bool b])∧(b=true→(⟨lo,hi⟩:Sp).fit))∧Kp w.heap.size none w w'
theorem fit_ends {q u:Int} (h0:0≤q) (h1:q≤u) (h2:u≤1152921504606846976):(⟨q,u⟩:Sp).fit∧(⟨-u,-q⟩:Sp).fit:=by
 unfold Sp.fit;dsimp only;omega
theorem quot_big (c:Int) (s:Bool) (H L D:Nat) (w:World)
  (hsz:∀ w,Calls Tryz.prog 256 #[c] w fun e w'=>e=.returned (.int .u64 (D:Int))∧Kp w.heap.size none w w') (a1:(D:Int)≤(H:Int)) :
  Calls Tryz.prog 246 #[.agg #[.bool s,.int .u64 H,.int .u64 L],c] w (QuoP w):=by
 obtain⟨w1,hw1,S,K,hz⟩:=box1 w 304 #[.bool s,.int .u64 H,.int .u64 L];go_enter Tryz.func246,Tryz.ntmps246
 go_wp2_with fail
 rw[← hw1];clear hw1;refine mK (hsz _) fun w2 k=>?_;replace S:=S.kpN k;replace K:=K.thenN k oM;have hzk:=k.size;clear k;have cS:=S.cell;have fS:=S.frozen;go_wp2_with fail
 clear cS fS;exact bodyPost_ret (v:=.tuple #[(0:Int),(0:Int),.bool false]) (by simp[results,Tryz.results246,go_sem]) rfl ⟨⟨_,_,_,rfl,fun h=>by cases h⟩,K⟩
theorem quot_far (c:Int) (s:Bool) (H L D q r:Nat) (w:World)
  (hsz:∀ w,Calls Tryz.prog 256 #[c] w fun e w'=>e=.returned (.int .u64 (D:Int))∧Kp w.heap.size none w w') (a1:¬ (D:Int)≤(H:Int))
  (hdv:∀ w,Calls Tryz.prog 116 #[.int .u64 H,.int .u64 (L:Int),.int .u64 (D:Int)] w fun e w'=>e=.returned (.tuple #[.int .u64 (q:Int),.int .u64 (r:Int)])∧Kp w.heap.size none w w')
  (hq:(1152921504606846976:Int)<(q:Int)) :
  Calls Tryz.prog 246 #[.agg #[.bool s,.int .u64 H,.int .u64 L],c] w (QuoP w):=by
 obtain⟨w1,hw1,S,K,hz⟩:=box1 w 304 #[.bool s,.int .u64 H,.int .u64 L];go_enter Tryz.func246,Tryz.ntmps246
 go_wp2_with fail
 rw[← hw1];clear hw1;refine mK (hsz _) fun w2 k=>?_;replace S:=S.kpN k;replace K:=K.thenN k oM;have hzk:=k.size;clear k;have cS:=S.cell;have fS:=S.frozen;go_wp2_with fail
 refine mK (hdv _) fun w3 k=>?_;clear cS fS;replace S:=S.kpN k;replace K:=K.thenN k oM;have hzk:=k.size;clear k;have cS:=S.cell;have fS:=S.frozen;go_wp2_with fail
 clear cS fS;exact bodyPost_ret (v:=.tuple #[(0:Int),(0:Int),.bool false]) (by simp[results,Tryz.results246,go_sem]) rfl ⟨⟨_,_,_,rfl,fun h=>by cases h⟩,K⟩
theorem quot_edge (c:Int) (s:Bool) (H L D q r:Nat) (w:World)
  (hsz:∀ w,Calls Tryz.prog 256 #[c] w fun e w'=>e=.returned (.int .u64 (D:Int))∧Kp w.heap.size none w w') (a1:¬ (D:Int)≤(H:Int))
  (hdv:∀ w,Calls Tryz.prog 116 #[.int .u64 H,.int .u64 (L:Int),.int .u64 (D:Int)] w fun e w'=>e=.returned (.tuple #[.int .u64 (q:Int),.int .u64 (r:Int)])∧Kp w.heap.size none w w')
  (hq:¬ (1152921504606846976:Int)<(q:Int)) (hq2:((q:Int)==1152921504606846976)=true) (hr:(0:Int)<(r:Int)) :
  Calls Tryz.prog 246 #[.agg #[.bool s,.int .u64 H,.int .u64 L],c] w (QuoP w):=by
 obtain⟨w1,hw1,S,K,hz⟩:=box1 w 304 #[.bool s,.int .u64 H,.int .u64 L];go_enter Tryz.func246,Tryz.ntmps246
 go_wp2_with fail
 rw[← hw1];clear hw1;refine mK (hsz _) fun w2 k=>?_;replace S:=S.kpN k;replace K:=K.thenN k oM;have hzk:=k.size;clear k;have cS:=S.cell;have fS:=S.frozen;go_wp2_with fail
 refine mK (hdv _) fun w3 k=>?_;clear cS fS;replace S:=S.kpN k;replace K:=K.thenN k oM;have hzk:=k.size;clear k;have cS:=S.cell;have fS:=S.frozen;go_wp2_with fail
 clear cS fS;exact bodyPost_ret (v:=.tuple #[(0:Int),(0:Int),.bool false]) (by simp[results,Tryz.results246,go_sem]) rfl ⟨⟨_,_,_,rfl,fun h=>by cases h⟩,K⟩
theorem quot_in (c:Int) (s:Bool) (H L D q r:Nat) (w:World)
  (hsz:∀ w,Calls Tryz.prog 256 #[c] w fun e w'=>e=.returned (.int .u64 (D:Int))∧Kp w.heap.size none w w') (a1:¬ (D:Int)≤(H:Int))
  (hdv:∀ w,Calls Tryz.prog 116 #[.int .u64 H,.int .u64 (L:Int),.int .u64 (D:Int)] w fun e w'=>e=.returned (.tuple #[.int .u64 (q:Int),.int .u64 (r:Int)])∧Kp w.heap.size none w w')
  (hq:¬ (1152921504606846976:Int)<(q:Int)) (eq:wrap64 (q:Int)=(q:Int)) (nq:wrap64 (-(q:Int))=-(q:Int)) (hq2:((q:Int)==1152921504606846976)=false) (hr:(0:Int)<(r:Int)) (hf:Hid ((⟨(q:Int),(q:Int)+1⟩:Sp).fit∧(⟨-((q:Int)+1),-(q:Int)⟩:Sp).fit)) :
  Calls Tryz.prog 246 #[.agg #[.bool s,.int .u64 H,.int .u64 L],c] w (QuoP w):=by
 rcases Int.lt_or_le c 0 with hc|hc
 ·
  cases s
  ·
   obtain⟨w1,hw1,S,K,hz⟩:=box1 w 304 #[.bool false,.int .u64 H,.int .u64 L];go_enter Tryz.func246,Tryz.ntmps246
   go_wp2_with fail
   rw[← hw1];clear hw1;refine mK (hsz _) fun w2 k=>?_;replace S:=S.kpN k;replace K:=K.thenN k oM;have hzk:=k.size;clear k;have cS:=S.cell;have fS:=S.frozen;go_wp2_with fail
   refine mK (hdv _) fun w3 k=>?_;clear cS fS;replace S:=S.kpN k;replace K:=K.thenN k oM;have hzk:=k.size;clear k;have cS:=S.cell;have fS:=S.frozen;go_wp2_with fail
   clear cS fS
   all_goals
    first
     | (refine bodyPost_ret (v:=.tuple #[.int .i64 (q:Int),.int .i64 ((q:Int)+1),.bool true]) ?_ rfl ⟨⟨_,_,_,rfl,fun _=>hf.out.1⟩,K⟩;simp[results,Tryz.results246,go_sem];done)
     | (refine bodyPost_ret (v:=.tuple #[.int .i64 (-((q:Int)+1)),.int .i64 (-(q:Int)),.bool true]) ?_ rfl ⟨⟨_,_,_,rfl,fun _=>hf.out.2⟩,K⟩;simp[results,Tryz.results246,go_sem];done)
  ·
   obtain⟨w1,hw1,S,K,hz⟩:=box1 w 304 #[.bool true,.int .u64 H,.int .u64 L];go_enter Tryz.func246,Tryz.ntmps246
   go_wp2_with fail
   rw[← hw1];clear hw1;refine mK (hsz _) fun w2 k=>?_;replace S:=S.kpN k;replace K:=K.thenN k oM;have hzk:=k.size;clear k;have cS:=S.cell;have fS:=S.frozen;go_wp2_with fail
   refine mK (hdv _) fun w3 k=>?_;clear cS fS;replace S:=S.kpN k;replace K:=K.thenN k oM;have hzk:=k.size;clear k;have cS:=S.cell;have fS:=S.frozen;go_wp2_with fail
   clear cS fS
   all_goals
    first
     | (refine bodyPost_ret (v:=.tuple #[.int .i64 (q:Int),.int .i64 ((q:Int)+1),.bool true]) ?_ rfl ⟨⟨_,_,_,rfl,fun _=>hf.out.1⟩,K⟩;simp[results,Tryz.results246,go_sem];done)
     | (refine bodyPost_ret (v:=.tuple #[.int .i64 (-((q:Int)+1)),.int .i64 (-(q:Int)),.bool true]) ?_ rfl ⟨⟨_,_,_,rfl,fun _=>hf.out.2⟩,K⟩;simp[results,Tryz.results246,go_sem];done)
 ·
  replace hc:¬ c<0:=by omega
  cases s
  ·
   obtain⟨w1,hw1,S,K,hz⟩:=box1 w 304 #[.bool false,.int .u64 H,.int .u64 L];go_enter Tryz.func246,Tryz.ntmps246
   go_wp2_with fail
   rw[← hw1];clear hw1;refine mK (hsz _) fun w2 k=>?_;replace S:=S.kpN k;replace K:=K.thenN k oM;have hzk:=k.size;clear k;have cS:=S.cell;have fS:=S.frozen;go_wp2_with fail
   refine mK (hdv _) fun w3 k=>?_;clear cS fS;replace S:=S.kpN k;replace K:=K.thenN k oM;have hzk:=k.size;clear k;have cS:=S.cell;have fS:=S.frozen;go_wp2_with fail
   clear cS fS
   all_goals
    first
     | (refine bodyPost_ret (v:=.tuple #[.int .i64 (q:Int),.int .i64 ((q:Int)+1),.bool true]) ?_ rfl ⟨⟨_,_,_,rfl,fun _=>hf.out.1⟩,K⟩;simp[results,Tryz.results246,go_sem];done)
     | (refine bodyPost_ret (v:=.tuple #[.int .i64 (-((q:Int)+1)),.int .i64 (-(q:Int)),.bool true]) ?_ rfl ⟨⟨_,_,_,rfl,fun _=>hf.out.2⟩,K⟩;simp[results,Tryz.results246,go_sem];done)
  ·
   obtain⟨w1,hw1,S,K,hz⟩:=box1 w 304 #[.bool true,.int .u64 H,.int .u64 L];go_enter Tryz.func246,Tryz.ntmps246
   go_wp2_with fail
   rw[← hw1];clear hw1;refine mK (hsz _) fun w2 k=>?_;replace S:=S.kpN k;replace K:=K.thenN k oM;have hzk:=k.size;clear k;have cS:=S.cell;have fS:=S.frozen;go_wp2_with fail
   refine mK (hdv _) fun w3 k=>?_;clear cS fS;replace S:=S.kpN k;replace K:=K.thenN k oM;have hzk:=k.size;clear k;have cS:=S.cell;have fS:=S.frozen;go_wp2_with fail
   clear cS fS
   all_goals
    first
     | (refine bodyPost_ret (v:=.tuple #[.int .i64 (q:Int),.int .i64 ((q:Int)+1),.bool true]) ?_ rfl ⟨⟨_,_,_,rfl,fun _=>hf.out.1⟩,K⟩;simp[results,Tryz.results246,go_sem];done)
     | (refine bodyPost_ret (v:=.tuple #[.int .i64 (-((q:Int)+1)),.int .i64 (-(q:Int)),.bool true]) ?_ rfl ⟨⟨_,_,_,rfl,fun _=>hf.out.2⟩,K⟩;simp[results,Tryz.results246,go_sem];done)
theorem quot_on (c:Int) (s:Bool) (H L D q r:Nat) (w:World)
  (hsz:∀ w,Calls Tryz.prog 256 #[c] w fun e w'=>e=.returned (.int .u64 (D:Int))∧Kp w.heap.size none w w') (a1:¬ (D:Int)≤(H:Int))
  (hdv:∀ w,Calls Tryz.prog 116 #[.int .u64 H,.int .u64 (L:Int),.int .u64 (D:Int)] w fun e w'=>e=.returned (.tuple #[.int .u64 (q:Int),.int .u64 (r:Int)])∧Kp w.heap.size none w w')
  (hq:¬ (1152921504606846976:Int)<(q:Int)) (eq:wrap64 (q:Int)=(q:Int)) (nq:wrap64 (-(q:Int))=-(q:Int)) (hq2:((q:Int)==1152921504606846976)=false) (hr:¬ (0:Int)<(r:Int)) (hf:Hid ((⟨(q:Int),(q:Int)⟩:Sp).fit∧(⟨-(q:Int),-(q:Int)⟩:Sp).fit)) :
  Calls Tryz.prog 246 #[.agg #[.bool s,.int .u64 H,.int .u64 L],c] w (QuoP w):=by
 rcases Int.lt_or_le c 0 with hc|hc
 ·
  cases s
  ·
   obtain⟨w1,hw1,S,K,hz⟩:=box1 w 304 #[.bool false,.int .u64 H,.int .u64 L];go_enter Tryz.func246,Tryz.ntmps246
   go_wp2_with fail
   rw[← hw1];clear hw1;refine mK (hsz _) fun w2 k=>?_;replace S:=S.kpN k;replace K:=K.thenN k oM;have hzk:=k.size;clear k;have cS:=S.cell;have fS:=S.frozen;go_wp2_with fail
   refine mK (hdv _) fun w3 k=>?_;clear cS fS;replace S:=S.kpN k;replace K:=K.thenN k oM;have hzk:=k.size;clear k;have cS:=S.cell;have fS:=S.frozen;go_wp2_with fail
   clear cS fS
   all_goals
    first
     | (refine bodyPost_ret (v:=.tuple #[.int .i64 (q:Int),(q),.bool true]) ?_ rfl ⟨⟨_,_,_,rfl,fun _=>hf.out.1⟩,K⟩;simp[results,Tryz.results246,go_sem];done)
     | (refine bodyPost_ret (v:=.tuple #[.int .i64 (-(q)),.int .i64 (-(q:Int)),.bool true]) ?_ rfl ⟨⟨_,_,_,rfl,fun _=>hf.out.2⟩,K⟩;simp[results,Tryz.results246,go_sem];done)
  ·
   obtain⟨w1,hw1,S,K,hz⟩:=box1 w 304 #[.bool true,.int .u64 H,.int .u64 L];go_enter Tryz.func246,Tryz.ntmps246
   go_wp2_with fail
   rw[← hw1];clear hw1;refine mK (hsz _) fun w2 k=>?_;replace S:=S.kpN k;replace K:=K.thenN k oM;have hzk:=k.size;clear k;have cS:=S.cell;have fS:=S.frozen;go_wp2_with fail
   refine mK (hdv _) fun w3 k=>?_;clear cS fS;replace S:=S.kpN k;replace K:=K.thenN k oM;have hzk:=k.size;clear k;have cS:=S.cell;have fS:=S.frozen;go_wp2_with fail
   clear cS fS
   all_goals
    first
     | (refine bodyPost_ret (v:=.tuple #[.int .i64 (q:Int),(q),.bool true]) ?_ rfl ⟨⟨_,_,_,rfl,fun _=>hf.out.1⟩,K⟩;simp[results,Tryz.results246,go_sem];done)
     | (refine bodyPost_ret (v:=.tuple #[.int .i64 (-(q)),.int .i64 (-(q:Int)),.bool true]) ?_ rfl ⟨⟨_,_,_,rfl,fun _=>hf.out.2⟩,K⟩;simp[results,Tryz.results246,go_sem];done)
 ·
  replace hc:¬ c<0:=by omega
  cases s
  ·
   obtain⟨w1,hw1,S,K,hz⟩:=box1 w 304 #[.bool false,.int .u64 H,.int .u64 L];go_enter Tryz.func246,Tryz.ntmps246
   go_wp2_with fail
   rw[← hw1];clear hw1;refine mK (hsz _) fun w2 k=>?_;replace S:=S.kpN k;replace K:=K.thenN k oM;have hzk:=k.size;clear k;have cS:=S.cell;have fS:=S.frozen;go_wp2_with fail
   refine mK (hdv _) fun w3 k=>?_;clear cS fS;replace S:=S.kpN k;replace K:=K.thenN k oM;have hzk:=k.size;clear k;have cS:=S.cell;have fS:=S.frozen;go_wp2_with fail
   clear cS fS
   all_goals
    first
     | (refine bodyPost_ret (v:=.tuple #[.int .i64 (q:Int),(q),.bool true]) ?_ rfl ⟨⟨_,_,_,rfl,fun _=>hf.out.1⟩,K⟩;simp[results,Tryz.results246,go_sem];done)
     | (refine bodyPost_ret (v:=.tuple #[.int .i64 (-(q)),.int .i64 (-(q:Int)),.bool true]) ?_ rfl ⟨⟨_,_,_,rfl,fun _=>hf.out.2⟩,K⟩;simp[results,Tryz.results246,go_sem];done)
  ·
   obtain⟨w1,hw1,S,K,hz⟩:=box1 w 304 #[.bool true,.int .u64 H,.int .u64 L];go_enter Tryz.func246,Tryz.ntmps246
   go_wp2_with fail
   rw[← hw1];clear hw1;refine mK (hsz _) fun w2 k=>?_;replace S:=S.kpN k;replace K:=K.thenN k oM;have hzk:=k.size;clear k;have cS:=S.cell;have fS:=S.frozen;go_wp2_with fail
   refine mK (hdv _) fun w3 k=>?_;clear cS fS;replace S:=S.kpN k;replace K:=K.thenN k oM;have hzk:=k.size;clear k;have cS:=S.cell;have fS:=S.frozen;go_wp2_with fail
   clear cS fS
   all_goals
    first
     | (refine bodyPost_ret (v:=.tuple #[.int .i64 (q:Int),(q),.bool true]) ?_ rfl ⟨⟨_,_,_,rfl,fun _=>hf.out.1⟩,K⟩;simp[results,Tryz.results246,go_sem];done)
     | (refine bodyPost_ret (v:=.tuple #[.int .i64 (-(q)),.int .i64 (-(q:Int)),.bool true]) ?_ rfl ⟨⟨_,_,_,rfl,fun _=>hf.out.2⟩,K⟩;simp[results,Tryz.results246,go_sem];done)
theorem quot_top (c:Int) (s:Bool) (H L D q r:Nat) (w:World)
  (hsz:∀ w,Calls Tryz.prog 256 #[c] w fun e w'=>e=.returned (.int .u64 (D:Int))∧Kp w.heap.size none w w') (a1:¬ (D:Int)≤(H:Int))
  (hdv:∀ w,Calls Tryz.prog 116 #[.int .u64 H,.int .u64 (L:Int),.int .u64 (D:Int)] w fun e w'=>e=.returned (.tuple #[.int .u64 (q:Int),.int .u64 (r:Int)])∧Kp w.heap.size none w w')
  (hq:¬ (1152921504606846976:Int)<(q:Int)) (eq:wrap64 (q:Int)=(q:Int)) (nq:wrap64 (-(q:Int))=-(q:Int)) (hq2:((q:Int)==1152921504606846976)=true) (hr:¬ (0:Int)<(r:Int)) (hf:Hid ((⟨(q:Int),(q:Int)⟩:Sp).fit∧(⟨-(q:Int),-(q:Int)⟩:Sp).fit)) :
  Calls Tryz.prog 246 #[.agg #[.bool s,.int .u64 H,.int .u64 L],c] w (QuoP w):=by
 rcases Int.lt_or_le c 0 with hc|hc
 ·
  cases s
  ·
   obtain⟨w1,hw1,S,K,hz⟩:=box1 w 304 #[.bool false,.int .u64 H,.int .u64 L];go_enter Tryz.func246,Tryz.ntmps246
   go_wp2_with fail
   rw[← hw1];clear hw1;refine mK (hsz _) fun w2 k=>?_;replace S:=S.kpN k;replace K:=K.thenN k oM;have hzk:=k.size;clear k;have cS:=S.cell;have fS:=S.frozen;go_wp2_with fail
   refine mK (hdv _) fun w3 k=>?_;clear cS fS;replace S:=S.kpN k;replace K:=K.thenN k oM;have hzk:=k.size;clear k;have cS:=S.cell;have fS:=S.frozen;go_wp2_with fail
   clear cS fS
   all_goals
    first
     | (refine bodyPost_ret (v:=.tuple #[.int .i64 (q:Int),(q),.bool true]) ?_ rfl ⟨⟨_,_,_,rfl,fun _=>hf.out.1⟩,K⟩;simp[results,Tryz.results246,go_sem];done)
     | (refine bodyPost_ret (v:=.tuple #[.int .i64 (-(q)),.int .i64 (-(q:Int)),.bool true]) ?_ rfl ⟨⟨_,_,_,rfl,fun _=>hf.out.2⟩,K⟩;simp[results,Tryz.results246,go_sem];done)
  ·
   obtain⟨w1,hw1,S,K,hz⟩:=box1 w 304 #[.bool true,.int .u64 H,.int .u64 L];go_enter Tryz.func246,Tryz.ntmps246
   go_wp2_with fail
   rw[← hw1];clear hw1;refine mK (hsz _) fun w2 k=>?_;replace S:=S.kpN k;replace K:=K.thenN k oM;have hzk:=k.size;clear k;have cS:=S.cell;have fS:=S.frozen;go_wp2_with fail
   refine mK (hdv _) fun w3 k=>?_;clear cS fS;replace S:=S.kpN k;replace K:=K.thenN k oM;have hzk:=k.size;clear k;have cS:=S.cell;have fS:=S.frozen;go_wp2_with fail
   clear cS fS
   all_goals
    first
     | (refine bodyPost_ret (v:=.tuple #[.int .i64 (q:Int),(q),.bool true]) ?_ rfl ⟨⟨_,_,_,rfl,fun _=>hf.out.1⟩,K⟩;simp[results,Tryz.results246,go_sem];done)
     | (refine bodyPost_ret (v:=.tuple #[.int .i64 (-(q)),.int .i64 (-(q:Int)),.bool true]) ?_ rfl ⟨⟨_,_,_,rfl,fun _=>hf.out.2⟩,K⟩;simp[results,Tryz.results246,go_sem];done)
 ·
  replace hc:¬ c<0:=by omega
  cases s
  ·
   obtain⟨w1,hw1,S,K,hz⟩:=box1 w 304 #[.bool false,.int .u64 H,.int .u64 L];go_enter Tryz.func246,Tryz.ntmps246
   go_wp2_with fail
   rw[← hw1];clear hw1;refine mK (hsz _) fun w2 k=>?_;replace S:=S.kpN k;replace K:=K.thenN k oM;have hzk:=k.size;clear k;have cS:=S.cell;have fS:=S.frozen;go_wp2_with fail
   refine mK (hdv _) fun w3 k=>?_;clear cS fS;replace S:=S.kpN k;replace K:=K.thenN k oM;have hzk:=k.size;clear k;have cS:=S.cell;have fS:=S.frozen;go_wp2_with fail
   clear cS fS
   all_goals
    first
     | (refine bodyPost_ret (v:=.tuple #[.int .i64 (q:Int),(q),.bool true]) ?_ rfl ⟨⟨_,_,_,rfl,fun _=>hf.out.1⟩,K⟩;simp[results,Tryz.results246,go_sem];done)
     | (refine bodyPost_ret (v:=.tuple #[.int .i64 (-(q)),.int .i64 (-(q:Int)),.bool true]) ?_ rfl ⟨⟨_,_,_,rfl,fun _=>hf.out.2⟩,K⟩;simp[results,Tryz.results246,go_sem];done)
  ·
   obtain⟨w1,hw1,S,K,hz⟩:=box1 w 304 #[.bool true,.int .u64 H,.int .u64 L];go_enter Tryz.func246,Tryz.ntmps246
   go_wp2_with fail
   rw[← hw1];clear hw1;refine mK (hsz _) fun w2 k=>?_;replace S:=S.kpN k;replace K:=K.thenN k oM;have hzk:=k.size;clear k;have cS:=S.cell;have fS:=S.frozen;go_wp2_with fail
   refine mK (hdv _) fun w3 k=>?_;clear cS fS;replace S:=S.kpN k;replace K:=K.thenN k oM;have hzk:=k.size;clear k;have cS:=S.cell;have fS:=S.frozen;go_wp2_with fail
   clear cS fS
   all_goals
    first
     | (refine bodyPost_ret (v:=.tuple #[.int .i64 (q:Int),(q),.bool true]) ?_ rfl ⟨⟨_,_,_,rfl,fun _=>hf.out.1⟩,K⟩;simp[results,Tryz.results246,go_sem];done)
     | (refine bodyPost_ret (v:=.tuple #[.int .i64 (-(q)),.int .i64 (-(q:Int)),.bool true]) ?_ rfl ⟨⟨_,_,_,rfl,fun _=>hf.out.2⟩,K⟩;simp[results,Tryz.results246,go_sem];done)
theorem quo_facts {q:Nat} (h:q≤1152921504606846976):wrap64 (q:Int)=(q:Int)∧wrap64 (-(q:Int))=-(q:Int):=by
 refine⟨?_,?_⟩<;>unfold wrap64<;>omega
theorem r1_quotient (c:Int) (s:Bool) (H L:Nat) (hc:-9223372036854775808<c∧c<9223372036854775808) (hL:L<18446744073709551616) (w:World) :
  Calls Tryz.prog 246 #[.agg #[.bool s,.int .u64 H,.int .u64 L],c] w (QuoP w):=by
 have hs:=fun w=>r1_size c hc.1 hc.2 w;have hD:c.natAbs<18446744073709551616:=by omega
 generalize c.natAbs=D at *;rcases Nat.lt_or_ge H D with h|h
 ·
  have hd:=fun w=>div64_any H L D w h hL hD;generalize (H * 18446744073709551616+L) / D=q at *;generalize (H * 18446744073709551616+L) % D=r at *;have a1:¬ (D:Int)≤(H:Int):=by omega
  rcases Nat.lt_or_ge 1152921504606846976 q with k|k
  · exact quot_far c s H L D q r w hs a1 hd oM
  ·
   obtain⟨e1,e2⟩:=quo_facts k;rcases Nat.eq_zero_or_pos r with hr|hr
   ·
    rcases Nat.lt_or_ge q 1152921504606846976 with k2|k2
    · exact quot_on c s H L D q r w hs a1 hd oM e1 e2 (beq_eq_false_iff_ne.2 oM) oM (Lib.hid (fit_ends oM oM oM))
    · exact quot_top c s H L D q r w hs a1 hd oM e1 e2 (beq_iff_eq.2 oM) oM (Lib.hid (fit_ends oM oM oM))
   ·
    rcases Nat.lt_or_ge q 1152921504606846976 with k2|k2
    · exact quot_in c s H L D q r w hs a1 hd oM e1 e2 (beq_eq_false_iff_ne.2 oM) oM (Lib.hid (fit_ends oM oM oM))
    · exact quot_edge c s H L D q r w hs a1 hd oM (beq_iff_eq.2 oM) oM
 · exact quot_big c s H L D w hs oM
end Go.Proofs.YtdhiappifnflpaaGreat
