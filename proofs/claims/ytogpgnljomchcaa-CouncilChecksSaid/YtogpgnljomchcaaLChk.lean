/- CouncilChecks: the walk. -/
import Derived.Test.YtogpgnljomchcaaOpn
import Derived.Test.YtogpgnljomchcaaRc
import Derived.Test.YtogpgnljomchcaaIt
import Derived.Test.YtogpgnljomchcaaCog
import Derived.Test.YtogpgnljomchcaaLLev
import Derived.Test.YtogpgnljomchcaaTree
import Derived.Deep.DeepCutAuto
import Derived.Deep.CutBlock
namespace Go.Proofs.Ytogpgnljomchcaa
open Go.RowKit

def longB (c : Council) (n : Nat) : Bool := decide (70 < c.members.length ∨ 20 < c.laws.length ∨ 12 < c.levels.length ∨ (200 < n ∧ n ≠ 2001))
set_option maxRecDepth 20000 in
set_option maxHeartbeats 2000000 in
theorem long_any (V : CV) (c : Council) (A : Option Addr) (n cap : Nat) (w : World) :
    Calls Try.prog 12 #[.agg #[.slice V.am c.members.length V.cm, .slice V.al c.laws.length V.cl, .slice V.av c.levels.length V.cv], .slice A n cap] w fun e w' => e = .returned (.bool (longB c n)) ∧ Kp w.heap.size none w w' := by
  obtain ⟨R, hR⟩ : ∃ R, R = longB c n := ⟨_, rfl⟩
  rw [← hR]
  replace hR : Hid (R = decide (70 < c.members.length ∨ 20 < c.laws.length ∨ 12 < c.levels.length ∨ (200 < n ∧ n ≠ 2001))) := Lib.hid hR
  have B := Blk.new w 26 #[.slice V.am c.members.length V.cm, .slice V.al c.laws.length V.cl, .slice V.av c.levels.length V.cv]
  have K := Kp.new w (.cells #[.slice V.am c.members.length V.cm, .slice V.al c.laws.length V.cl, .slice V.av c.levels.length V.cv] 26)
  go_enter Try.func12, Try.ntmps12
  go_upto_region 1 with (fail)
  change Code.wp _ _ _ _ (w.alloc (.cells #[.slice V.am c.members.length V.cm, .slice V.al c.laws.length V.cl, .slice V.av c.levels.length V.cv] 26))
  obtain ⟨b, hb⟩ : ∃ q, q = w.heap.size := ⟨_, rfl⟩
  rw [← hb] at B
  try rw [← hb]
  generalize w.alloc (.cells #[.slice V.am c.members.length V.cm, .slice V.al c.laws.length V.cl, .slice V.av c.levels.length V.cv] 26) = w1 at B K ⊢
  replace hb := Lib.hid hb
  have cc := fun i => B.cell i
  by_cases h1 : 70 < c.members.length
  · have e1 : (70 : Int) < (c.members.length : Int) := by omega
    obtain rfl : R = true := by rw [hR.out]; exact decide_eq_true (.inl h1)
    clear h1
    go_wp2
    go_ret
    exact ⟨rfl, K⟩
  have e1 : ¬ (70 : Int) < (c.members.length : Int) := by omega
  by_cases h2 : 20 < c.laws.length
  · have e2 : (20 : Int) < (c.laws.length : Int) := by omega
    obtain rfl : R = true := by rw [hR.out]; exact decide_eq_true (.inr (.inl h2))
    clear h1 h2
    go_wp2
    go_ret
    exact ⟨rfl, K⟩
  have e2 : ¬ (20 : Int) < (c.laws.length : Int) := by omega
  by_cases h3 : 12 < c.levels.length
  · have e3 : (12 : Int) < (c.levels.length : Int) := by omega
    obtain rfl : R = true := by rw [hR.out]; exact decide_eq_true (.inr (.inr (.inl h3)))
    clear h1 h2 h3
    go_wp2
    go_ret
    exact ⟨rfl, K⟩
  have e3 : ¬ (12 : Int) < (c.levels.length : Int) := by omega
  by_cases h4 : 200 < n
  · have e4 : (200 : Int) < (n : Int) := by omega
    by_cases h5 : n = 2001
    · subst h5
      obtain rfl : R = false := by rw [hR.out]; exact decide_eq_false (by omega)
      clear h1 h2 h3 h4
      go_wp2
      go_ret
      exact ⟨rfl, K⟩
    · have e5 : ((n : Int) == 2001) = false := by simp only [beq_eq_false_iff_ne, ne_eq]; omega
      have e6 : ¬ (n : Int) = 2001 := by omega
      obtain rfl : R = true := by rw [hR.out]; exact decide_eq_true (.inr (.inr (.inr ⟨h4, h5⟩)))
      have e7 : ((n : Int) != 2001) = true := by simp [bne, e5]
      clear h1 h2 h3 h4
      go_wp2
      go_ret
      exact ⟨rfl, K⟩
  · have e4 : ¬ (200 : Int) < (n : Int) := by omega
    obtain rfl : R = false := by rw [hR.out]; exact decide_eq_false (by omega)
    clear h1 h2 h3 h4
    go_wp2
    go_ret
    exact ⟨rfl, K⟩
theorem long_no {c : Council} {n : Nat} (h : longB c n = false) : c.members.length ≤ 70 ∧ c.laws.length ≤ 20 ∧ c.levels.length ≤ 12 ∧ (n ≤ 200 ∨ n = 2001) := by
  have := of_decide_eq_false h
  omega
def encCoun (p : CV × Council) : List Value := [.slice p.1.am p.2.members.length p.1.cm, .slice p.1.al p.2.laws.length p.1.cl, .slice p.1.av p.2.levels.length p.1.cv]
def encCh (x : Chance) : List Value := [.int .i64 x.least, .int .i64 x.most, .int .i64 x.all]
/-- the lists that the rounds go through -/
structure CK (W : World) (g b3 b7 b15 : Nat) (nums : List Int) (k : Nat) (V0 V : CV) (c own : Council) (x y : Chance) (act : Int) (w : World) : Prop where
  ring : RingAt w g nums k
  kp : Kp W.heap.size none W w
  ca : CAt W.heap.size w V0 c
  co : CAt w.heap.size w V own
  far : CFar V (g + 1)
  h3 : Blk w b3 26 #[.slice V0.am c.members.length V0.cm, .slice V0.al c.laws.length V0.cl, .slice V0.av c.levels.length V0.cv, .slice V.am own.members.length V.cm, .slice V.al own.laws.length V.cl, .slice V.av own.levels.length V.cv, .slice V.am own.members.length V.cm, .slice V.al own.laws.length V.cl, .slice V.av own.levels.length V.cv]
  h7 : Blk w b7 29 #[.int .i64 x.least, .int .i64 x.most, .int .i64 x.all, .int .i64 y.least, .int .i64 y.most, .int .i64 y.all, .int .i64 x.least, .int .i64 x.most, .int .i64 x.all]
  h15 : Blk w b15 3 #[.int .i64 act, .int .i64 (own.laws.getD 0 zeroLaw).act, .int .i64 act]
  gW : W.heap.size ≤ g
  g3 : g < b3
  g7 : g < b7
  g15 : g < b15
section
variable {W w w' : World} {g b3 b7 b15 k k' : Nat} {nums : List Int} {V0 V : CV} {c own : Council} {x y : Chance} {act : Int}
theorem CK.kpN (s : CK W g b3 b7 b15 nums k V0 V c own x y act w) (q : Kp w.heap.size none w w') : CK W g b3 b7 b15 nums k V0 V c own x y act w' :=
  ⟨s.ring.kpN q, s.kp.thenN q (Nat.le_refl _), s.ca.kp (q.mono s.kp.size), s.co.next q, s.far, s.h3.kpN q, s.h7.kpN q, s.h15.kpN q, s.gW, s.g3, s.g7, s.g15⟩
theorem CK.turn (s : CK W g b3 b7 b15 nums k V0 V c own x y act w) (r : RingAt w' g nums k') (q : Kp w.heap.size (some g) w w') : CK W g b3 b7 b15 nums k' V0 V c own x y act w' :=
  ⟨r, s.kp.thenOwn q (Nat.le_refl _) s.gW, s.ca.kp ⟨q.os, q.tape, q.output, q.size, fun i hi _ => q.block i (by have := s.kp.size; omega) (fun e => by injection e with e; have := s.gW; omega)⟩, (s.co.turnB q s.far (by omega)).wide q.size, s.far, s.h3.kp q s.h3.lt (sne (by have := s.g3; omega)), s.h7.kp q s.h7.lt (sne (by have := s.g7; omega)), s.h15.kp q s.h15.lt (sne (by have := s.g15; omega)), s.gW, s.g3, s.g7, s.g15⟩
/-- what a round finds -/
structure CF (b3 b7 b15 i : Nat) (Vi : CV) (ci : Council) (xi : Chance) (ai : Int) (w : World) : Prop where
  ca : CAt w.heap.size w Vi ci
  d0 : w.cell? ⟨b3, i * 3, none⟩ = some (.slice Vi.am ci.members.length Vi.cm)
  d1 : w.cell? ⟨b3, i * 3 + 1, none⟩ = some (.slice Vi.al ci.laws.length Vi.cl)
  d2 : w.cell? ⟨b3, i * 3 + 2, none⟩ = some (.slice Vi.av ci.levels.length Vi.cv)
  e0 : w.cell? ⟨b7, i * 3, none⟩ = some (.int .i64 xi.least)
  e1 : w.cell? ⟨b7, i * 3 + 1, none⟩ = some (.int .i64 xi.most)
  e2 : w.cell? ⟨b7, i * 3 + 2, none⟩ = some (.int .i64 xi.all)
  a : w.cell? ⟨b15, i, none⟩ = some (.int .i64 ai)
theorem CK.round {i : Nat} (hi : i < 3) : ∃ Vi ci xi ai, ∀ k w, CK W g b3 b7 b15 nums k V0 V c own x y act w → CF b3 b7 b15 i Vi ci xi ai w := by
  rcases (show i = 0 ∨ i = 1 ∨ i = 2 by omega) with rfl | rfl | rfl
  · exact ⟨V0, c, x, act, fun k w s => ⟨s.ca.wide s.kp.size, s.h3.cell 0, s.h3.cell 1, s.h3.cell 2, s.h7.cell 0, s.h7.cell 1, s.h7.cell 2, s.h15.cell 0⟩⟩
  · exact ⟨V, own, y, _, fun k w s => ⟨s.co, s.h3.cell 3, s.h3.cell 4, s.h3.cell 5, s.h7.cell 3, s.h7.cell 4, s.h7.cell 5, s.h15.cell 1⟩⟩
  · exact ⟨V, own, x, act, fun k w s => ⟨s.co, s.h3.cell 6, s.h3.cell 7, s.h3.cell 8, s.h7.cell 6, s.h7.cell 7, s.h7.cell 8, s.h15.cell 2⟩⟩
end
def ChkAt (W : World) (g : Nat) (nums : List Int) (k : Nat) (V0 V : CV) (c own : Council) (x y : Chance) (act : Int) (p q r : Value) (wx : World) : Prop :=
  ∃ b3 b7 b15, p = .slice (some ⟨b3, 0, none⟩) 3 3 ∧ q = .slice (some ⟨b7, 0, none⟩) 3 3 ∧ r = .slice (some ⟨b15, 0, none⟩) 3 3 ∧ CK W g b3 b7 b15 nums k V0 V c own x y act wx
set_option maxRecDepth 20000 in
set_option maxHeartbeats 8000000 in
theorem law_CouncilChecks_any (V0 : CV) (c : Council) (x : Chance) (act yes no : Int) (A : Option Addr) (cap : Nat) (nums : List Int) (w : World) (hC0 : CAt0 w V0 c) (h : Rd none w 1 (fun x => [Value.int .i64 x]) A nums.length nums) (hn : nums.length ≤ 17592186044416) :
    Calls Try.prog 5 #[.agg #[.slice V0.am c.members.length V0.cm, .slice V0.al c.laws.length V0.cl, .slice V0.av c.levels.length V0.cv], .agg #[.int .i64 x.least, .int .i64 x.most, .int .i64 x.all], .int .i64 act, .int .i64 yes, .int .i64 no, .slice A nums.length cap] w fun e w' => e = .returned (.bool true) ∧ Kp w.heap.size none w w' := by
  have B6 := (Blk.new w 26 #[.slice V0.am c.members.length V0.cm, .slice V0.al c.laws.length V0.cl, .slice V0.av c.levels.length V0.cv]).alloc (.cells #[.int .i64 x.least, .int .i64 x.most, .int .i64 x.all] 29)
  have B7 := Blk.newAt (w.alloc (.cells #[.slice V0.am c.members.length V0.cm, .slice V0.al c.laws.length V0.cl, .slice V0.av c.levels.length V0.cv] 26)) 29 #[.int .i64 x.least, .int .i64 x.most, .int .i64 x.all] (n := w.heap.size + 1) (by simp)
  have K0 := Kp.new2 w (.cells #[.slice V0.am c.members.length V0.cm, .slice V0.al c.laws.length V0.cl, .slice V0.av c.levels.length V0.cv] 26) (.cells #[.int .i64 x.least, .int .i64 x.most, .int .i64 x.all] 29)
  have h1 := h.kpN K0
  clear h
  go_enter Try.func5, Try.ntmps5
  go_upto_region 1 with (fail)
  obtain ⟨b6, hb6⟩ : ∃ q, q = w.heap.size := ⟨_, rfl⟩
  rw [← hb6] at B6 B7
  rw [← hb6]
  have hb6w : w.heap.size ≤ b6 := by omega
  generalize (w.alloc (.cells #[.slice V0.am c.members.length V0.cm, .slice V0.al c.laws.length V0.cl, .slice V0.av c.levels.length V0.cv] 26)).alloc (.cells #[.int .i64 x.least, .int .i64 x.most, .int .i64 x.all] 29) = w1 at B6 B7 K0 h1 ⊢
  replace hb6 := Lib.hid hb6
  have c6 := fun i => B6.cell i
  go_wp2_with fail
  refine (long_any V0 c none 0 0 _).mono ?_
  rintro e w2 ⟨rfl, k2⟩
  replace B6 := B6.kpN k2
  replace B7 := B7.kpN k2
  replace h1 := h1.kpN k2
  replace K0 := K0.thenN k2 (Nat.le_refl _)
  clear k2 c6
  cases hlong : longB c 0 with
  | true =>
    go_wp2_with fail
    refine (awake_any _).mono ?_
    rintro e w3 ⟨rfl, k3⟩
    have K9 := K0.thenN k3 (Nat.le_refl _)
    clear K0 k3 B6 B7 h1
    go_wp2
    go_ret
    exact ⟨rfl, K9⟩
  | false =>
  obtain ⟨n1, n2, n3, -⟩ := long_no hlong
  have hca : CAt w.heap.size w2 V0 c := ((hC0.cat (by omega) (by omega) (by omega)).kp K0)
  clear hlong hC0 n1 n2 n3
  replace hca := Lib.hid hca
  go_wp2_with fail
  refine (newRing_any A cap nums _ h1 hn).mono ?_
  rintro e w3 ⟨g, rfl, hg, hr, k3⟩
  have hgW : w.heap.size ≤ g := Nat.le_trans K0.size hg
  have hb6g : b6 + 1 < g := by have := B7.lt; omega
  replace B6 := B6.kpN k3
  replace B7 := B7.kpN k3
  replace hca := Lib.hid (hca.out.kp (k3.mono K0.size))
  replace K0 := K0.thenN k3 (Nat.le_refl _)
  clear k3 h1
  go_wp2_with fail
  refine (councilOf_any g nums 0 _ hr (by omega)).mono ?_
  rintro e w4 ⟨V, own, k', rfl, hok, hco, hk', hr4, k4, hf⟩
  have hg1 := hr.lt
  have hfar : CFar V (g + 1) := ⟨fun ad e => by have := hf.1 ad e; omega, fun ad e => by have := hf.2.1 ad e; omega, fun ad e => by have := hf.2.2 ad e; omega⟩
  have kb4 : Kp w.heap.size none w3 w4 := ⟨k4.os, k4.tape, k4.output, k4.size, fun i hi _ => k4.block i (by have := K0.size; omega) (fun e => by injection e with e; omega)⟩
  replace B6 := B6.kp k4 B6.lt (sne (by omega))
  replace B7 := B7.kp k4 B7.lt (sne (by omega))
  replace hca := Lib.hid (hca.out.kp kb4)
  replace K0 := K0.trans kb4
  clear k4 kb4 hr hf hg
  go_wp2_with fail
  refine (chanceOf_any g nums _ _ hr4 (by omega)).mono ?_
  rintro e w5 ⟨v, rfl, ⟨y, rfl, -⟩, hr5, k5⟩
  have kb5 : Kp w.heap.size none w4 w5 := ⟨k5.os, k5.tape, k5.output, k5.size, fun i hi _ => k5.block i (by have := K0.size; omega) (fun e => by injection e with e; omega)⟩
  replace B6 := B6.kp k5 B6.lt (sne (by omega))
  replace B7 := B7.kp k5 B7.lt (sne (by omega))
  replace hca := Lib.hid (hca.out.kp kb5)
  replace hco := (hco.turnB k5 hfar (by omega)).wide k5.size
  replace K0 := K0.trans kb5
  clear k5 kb5 hr4
  have hg5 := hr5.lt
  have kk := Kp.new2 w5 (.cells #[.slice V.am own.members.length V.cm, .slice V.al own.laws.length V.cl, .slice V.av own.levels.length V.cv] 26) (.cells #[.int .i64 y.least, .int .i64 y.most, .int .i64 y.all] 29)
  have B14 := (Blk.new w5 26 #[.slice V.am own.members.length V.cm, .slice V.al own.laws.length V.cl, .slice V.av own.levels.length V.cv]).alloc (.cells #[.int .i64 y.least, .int .i64 y.most, .int .i64 y.all] 29)
  have B15 := Blk.newAt (w5.alloc (.cells #[.slice V.am own.members.length V.cm, .slice V.al own.laws.length V.cl, .slice V.av own.levels.length V.cv] 26)) 29 #[.int .i64 y.least, .int .i64 y.most, .int .i64 y.all] (n := w5.heap.size + 1) (by simp)
  replace B6 := B6.kpN kk
  replace B7 := B7.kpN kk
  replace hca := Lib.hid (hca.out.kp (kk.mono K0.size))
  replace hco := hco.next kk
  replace hr5 := hr5.kpN kk
  replace K0 := K0.thenN kk (Nat.le_refl _)
  clear kk
  replace hr5 := Lib.hid hr5
  replace hco := Lib.hid hco
  go_upto_region 5 with (fail)
  obtain ⟨b14, hb14⟩ : ∃ q, q = w5.heap.size := ⟨_, rfl⟩
  rw [← hb14] at B14 B15 hg5
  rw [← hb14]
  generalize (w5.alloc (.cells #[.slice V.am own.members.length V.cm, .slice V.al own.laws.length V.cl, .slice V.av own.levels.length V.cv] 26)).alloc (.cells #[.int .i64 y.least, .int .i64 y.most, .int .i64 y.all] 29) = w6 at B6 B7 B14 B15 hca hco hr5 K0 ⊢
  clear hb14
  go_cut [16, 17, 18] (fun p q r wx => ChkAt w g nums (k' + 3) V0 V c own x y act p q r wx)
  case first =>
    obtain ⟨bl, ol, eL, -, hbl, hcl⟩ := hco.out.l.2 hok.laws
    have ca0 : w6.cell? ⟨bl, ol, none⟩ = some (.int .i64 (own.laws[0]'hok.laws).act) := by have := hcl 0 hok.laws 0 _ rfl; simpa using this
    obtain ⟨a0, ha0⟩ : ∃ q, q = (own.laws.getD 0 zeroLaw).act := ⟨_, rfl⟩
    have ha1 : own.laws[0]'hok.laws = own.laws.getD 0 zeroLaw := by
      rw [List.getD_eq_getElem?_getD, List.getElem?_eq_getElem hok.laws]; rfl
    have hg6 : g < w6.heap.size := by have := B14.lt; omega
    have hlp : (0 : Int) < (own.laws.length : Int) := by have := hok.laws; omega
    rw [ha1, ← ha0] at ca0
    replace ha0 := Lib.hid ha0
    clear hcl ha1
    obtain ⟨am, qm, la, ql, av, qv⟩ := V
    have eL' : la = some ⟨bl, ol, none⟩ := eL
    subst eL'
    clear eL
    have Q5 := (Kp.refl w6.heap.size none w6).drew
    obtain ⟨S0, hS⟩ : ∃ S0 : World → Prop, S0 = fun w' => Blk w' b6 26 #[.slice V0.am c.members.length V0.cm, .slice V0.al c.laws.length V0.cl, .slice V0.av c.levels.length V0.cv] ∧ Blk w' (b6 + 1) 29 #[.int .i64 x.least, .int .i64 x.most, .int .i64 x.all] ∧ Blk w' b14 26 #[.slice am own.members.length qm, .slice (some ⟨bl, ol, none⟩) own.laws.length ql, .slice av own.levels.length qv] ∧ Blk w' (b14 + 1) 29 #[.int .i64 y.least, .int .i64 y.most, .int .i64 y.all] ∧ w'.cell? ⟨bl, ol, none⟩ = some (.int .i64 a0) := ⟨_, rfl⟩
    have hS0 : ∀ w', S0 w' ↔ (Blk w' b6 26 #[.slice V0.am c.members.length V0.cm, .slice V0.al c.laws.length V0.cl, .slice V0.av c.levels.length V0.cv] ∧ Blk w' (b6 + 1) 29 #[.int .i64 x.least, .int .i64 x.most, .int .i64 x.all] ∧ Blk w' b14 26 #[.slice am own.members.length qm, .slice (some ⟨bl, ol, none⟩) own.laws.length ql, .slice av own.levels.length qv] ∧ Blk w' (b14 + 1) 29 #[.int .i64 y.least, .int .i64 y.most, .int .i64 y.all] ∧ w'.cell? ⟨bl, ol, none⟩ = some (.int .i64 a0)) := fun w' => by rw [hS]
    clear hS
    have z6 := fun (q : Ev S0) i => ((hS0 _).1 q.h).1.cell i
    have z7 := fun (q : Ev S0) i => ((hS0 _).1 q.h).2.1.cell i
    have z14 := fun (q : Ev S0) i => ((hS0 _).1 q.h).2.2.1.cell i
    have z15 := fun (q : Ev S0) i => ((hS0 _).1 q.h).2.2.2.1.cell i
    have za := fun (q : Ev S0) => ((hS0 _).1 q.h).2.2.2.2
    have hevT := ev_true
    refine wp_region_tr S0 (.st 0 1 (.st 1 1 (.st 2 1 (.st 4 1 (.st 5 1 (.st 6 1 (.st 8 0 (.st 9 0 (.st 10 1 (.st 11 0 (.st 12 0 (.st 13 1 (.st 14 0 (.b3 3 (.st 16 0 (.b2 7 (.st 17 0 (.st 15 2 (.st 18 0 .nil))) 15 (.st 7 2 (.st 17 0 (.st 18 0 .nil))))) 7 (.b2 3 (.st 16 0 (.st 17 0 (.st 15 2 (.st 18 0 .nil)))) 15 (.st 3 2 (.st 16 0 (.st 17 0 (.st 18 0 .nil))))) 15 (.b2 3 (.st 16 0 (.st 7 2 (.st 17 0 (.st 18 0 .nil)))) 7 (.st 3 2 (.st 16 0 (.st 17 0 (.st 18 0 .nil))))))))))))))))))) (by kernel_rfl) (by kernel_rfl) ((hS0 _).2 ⟨B6.kpN Q5, B7.kpN Q5, B14.kpN Q5, B15.kpN Q5, (Q5.cell bl ol hbl (by simp)).trans ca0⟩) ?_
    intro _hev
    iterate 13 (first | (refine wpTr_v rfl rfl ?_; intro K hK; go_big_quiet_op; go_big_quiet_on) | (refine wpTr_q rfl rfl ?_; intro K hK; go_big_quiet_op; go_big_quiet_on) | refine wpTr_s rfl rfl ?_)
    refine wpTr_b3 ?_ ?_ ?_
    · refine wpOne_l rfl rfl ?_; intro K hK
      generalize w6.drew = wq at Q5 ⊢
      have X3 := Blk.new wq 26 #[.slice V0.am c.members.length V0.cm, .slice V0.al c.laws.length V0.cl, .slice V0.av c.levels.length V0.cv, .slice am own.members.length qm, .slice (some ⟨bl, ol, none⟩) own.laws.length ql, .slice av own.levels.length qv, .slice am own.members.length qm, .slice (some ⟨bl, ol, none⟩) own.laws.length ql, .slice av own.levels.length qv]
      have kq := Kp.new wq (.cells #[.slice V0.am c.members.length V0.cm, .slice V0.al c.laws.length V0.cl, .slice V0.av c.levels.length V0.cv, .slice am own.members.length qm, .slice (some ⟨bl, ol, none⟩) own.laws.length ql, .slice av own.levels.length qv, .slice am own.members.length qm, .slice (some ⟨bl, ol, none⟩) own.laws.length ql, .slice av own.levels.length qv] 26)
      have hsz := Q5.size
      try (replace X7 := X7.kpN kq)
      try (replace X15 := X15.kpN kq)
      replace Q5 := Q5.thenN kq (Nat.le_refl _)
      clear kq
      go_step
      change K _ (World.alloc wq (.cells #[.slice V0.am c.members.length V0.cm, .slice V0.al c.laws.length V0.cl, .slice V0.av c.levels.length V0.cv, .slice am own.members.length qm, .slice (some ⟨bl, ol, none⟩) own.laws.length ql, .slice av own.levels.length qv, .slice am own.members.length qm, .slice (some ⟨bl, ol, none⟩) own.laws.length ql, .slice av own.levels.length qv] 26))
      obtain ⟨b3, hb3⟩ : ∃ q, q = wq.heap.size := ⟨_, rfl⟩
      rw [← hb3] at X3
      rw [← hb3]
      have h3g : g < b3 := by omega
      clear hb3 hsz
      generalize World.alloc wq (.cells #[.slice V0.am c.members.length V0.cm, .slice V0.al c.laws.length V0.cl, .slice V0.av c.levels.length V0.cv, .slice am own.members.length qm, .slice (some ⟨bl, ol, none⟩) own.laws.length ql, .slice av own.levels.length qv, .slice am own.members.length qm, .slice (some ⟨bl, ol, none⟩) own.laws.length ql, .slice av own.levels.length qv] 26) = wq9 at *
      rename World => wq
      refine hK _ _ ((hS0 _).2 ⟨B6.kpN Q5, B7.kpN Q5, B14.kpN Q5, B15.kpN Q5, (Q5.cell bl ol hbl (by simp)).trans ca0⟩) ?_
      clear hK K
      iterate 1 (first | (refine wpTr_v rfl rfl ?_; intro K hK; go_big_quiet_op; go_big_quiet_on) | (refine wpTr_q rfl rfl ?_; intro K hK; go_big_quiet_op; go_big_quiet_on) | refine wpTr_s rfl rfl ?_)
      refine wpTr_b2 ?_ ?_
      · refine wpOne_l rfl rfl ?_; intro K hK
        have X7 := Blk.new wq 29 #[.int .i64 x.least, .int .i64 x.most, .int .i64 x.all, .int .i64 y.least, .int .i64 y.most, .int .i64 y.all, .int .i64 x.least, .int .i64 x.most, .int .i64 x.all]
        have kq := Kp.new wq (.cells #[.int .i64 x.least, .int .i64 x.most, .int .i64 x.all, .int .i64 y.least, .int .i64 y.most, .int .i64 y.all, .int .i64 x.least, .int .i64 x.most, .int .i64 x.all] 29)
        have hsz := Q5.size
        try (replace X3 := X3.kpN kq)
        try (replace X15 := X15.kpN kq)
        replace Q5 := Q5.thenN kq (Nat.le_refl _)
        clear kq
        go_step
        change K _ (World.alloc wq (.cells #[.int .i64 x.least, .int .i64 x.most, .int .i64 x.all, .int .i64 y.least, .int .i64 y.most, .int .i64 y.all, .int .i64 x.least, .int .i64 x.most, .int .i64 x.all] 29))
        obtain ⟨b7, hb7⟩ : ∃ q, q = wq.heap.size := ⟨_, rfl⟩
        rw [← hb7] at X7
        rw [← hb7]
        have h7g : g < b7 := by omega
        clear hb7 hsz
        generalize World.alloc wq (.cells #[.int .i64 x.least, .int .i64 x.most, .int .i64 x.all, .int .i64 y.least, .int .i64 y.most, .int .i64 y.all, .int .i64 x.least, .int .i64 x.most, .int .i64 x.all] 29) = wq9 at *
        rename World => wq
        refine hK _ _ ((hS0 _).2 ⟨B6.kpN Q5, B7.kpN Q5, B14.kpN Q5, B15.kpN Q5, (Q5.cell bl ol hbl (by simp)).trans ca0⟩) ?_
        clear hK K
        iterate 1 (first | (refine wpTr_v rfl rfl ?_; intro K hK; go_big_quiet_op; go_big_quiet_on) | (refine wpTr_q rfl rfl ?_; intro K hK; go_big_quiet_op; go_big_quiet_on) | refine wpTr_s rfl rfl ?_)
        refine wpTr_l rfl rfl ?_; intro K hK
        have X15 := Blk.new wq 3 #[.int .i64 act, .int .i64 a0, .int .i64 act]
        have kq := Kp.new wq (.cells #[.int .i64 act, .int .i64 a0, .int .i64 act] 3)
        have hsz := Q5.size
        try (replace X3 := X3.kpN kq)
        try (replace X7 := X7.kpN kq)
        replace Q5 := Q5.thenN kq (Nat.le_refl _)
        clear kq
        go_step
        change K _ (World.alloc wq (.cells #[.int .i64 act, .int .i64 a0, .int .i64 act] 3))
        obtain ⟨b15, hb15⟩ : ∃ q, q = wq.heap.size := ⟨_, rfl⟩
        rw [← hb15] at X15
        rw [← hb15]
        have h15g : g < b15 := by omega
        clear hb15 hsz
        generalize World.alloc wq (.cells #[.int .i64 act, .int .i64 a0, .int .i64 act] 3) = wq9 at *
        rename World => wq
        refine hK _ _ ((hS0 _).2 ⟨B6.kpN Q5, B7.kpN Q5, B14.kpN Q5, B15.kpN Q5, (Q5.cell bl ol hbl (by simp)).trans ca0⟩) ?_
        clear hK K
        iterate 1 (first | (refine wpTr_v rfl rfl ?_; intro K hK; go_big_quiet_op; go_big_quiet_on) | (refine wpTr_q rfl rfl ?_; intro K hK; go_big_quiet_op; go_big_quiet_on) | refine wpTr_s rfl rfl ?_)
        refine wpTr_nil ?_
        clear hevT _hev
        go_wp2_with fail
        go_meet
        case rel => exact ⟨b3, b7, b15, rfl, rfl, rfl, ⟨hr5.out.kpN Q5, K0.thenN Q5 (Nat.le_refl _), hca.out.kp (Q5.mono K0.size), hco.out.next Q5, hfar, X3, X7, by rw [← ha0.out]; exact X15, hgW, h3g, h7g, h15g⟩⟩
      · refine wpOne_l rfl rfl ?_; intro K hK
        have X15 := Blk.new wq 3 #[.int .i64 act, .int .i64 a0, .int .i64 act]
        have kq := Kp.new wq (.cells #[.int .i64 act, .int .i64 a0, .int .i64 act] 3)
        have hsz := Q5.size
        try (replace X3 := X3.kpN kq)
        try (replace X7 := X7.kpN kq)
        replace Q5 := Q5.thenN kq (Nat.le_refl _)
        clear kq
        go_step
        change K _ (World.alloc wq (.cells #[.int .i64 act, .int .i64 a0, .int .i64 act] 3))
        obtain ⟨b15, hb15⟩ : ∃ q, q = wq.heap.size := ⟨_, rfl⟩
        rw [← hb15] at X15
        rw [← hb15]
        have h15g : g < b15 := by omega
        clear hb15 hsz
        generalize World.alloc wq (.cells #[.int .i64 act, .int .i64 a0, .int .i64 act] 3) = wq9 at *
        rename World => wq
        refine hK _ _ ((hS0 _).2 ⟨B6.kpN Q5, B7.kpN Q5, B14.kpN Q5, B15.kpN Q5, (Q5.cell bl ol hbl (by simp)).trans ca0⟩) ?_
        clear hK K
        refine wpTr_l rfl rfl ?_; intro K hK
        have X7 := Blk.new wq 29 #[.int .i64 x.least, .int .i64 x.most, .int .i64 x.all, .int .i64 y.least, .int .i64 y.most, .int .i64 y.all, .int .i64 x.least, .int .i64 x.most, .int .i64 x.all]
        have kq := Kp.new wq (.cells #[.int .i64 x.least, .int .i64 x.most, .int .i64 x.all, .int .i64 y.least, .int .i64 y.most, .int .i64 y.all, .int .i64 x.least, .int .i64 x.most, .int .i64 x.all] 29)
        have hsz := Q5.size
        try (replace X3 := X3.kpN kq)
        try (replace X15 := X15.kpN kq)
        replace Q5 := Q5.thenN kq (Nat.le_refl _)
        clear kq
        go_step
        change K _ (World.alloc wq (.cells #[.int .i64 x.least, .int .i64 x.most, .int .i64 x.all, .int .i64 y.least, .int .i64 y.most, .int .i64 y.all, .int .i64 x.least, .int .i64 x.most, .int .i64 x.all] 29))
        obtain ⟨b7, hb7⟩ : ∃ q, q = wq.heap.size := ⟨_, rfl⟩
        rw [← hb7] at X7
        rw [← hb7]
        have h7g : g < b7 := by omega
        clear hb7 hsz
        generalize World.alloc wq (.cells #[.int .i64 x.least, .int .i64 x.most, .int .i64 x.all, .int .i64 y.least, .int .i64 y.most, .int .i64 y.all, .int .i64 x.least, .int .i64 x.most, .int .i64 x.all] 29) = wq9 at *
        rename World => wq
        refine hK _ _ ((hS0 _).2 ⟨B6.kpN Q5, B7.kpN Q5, B14.kpN Q5, B15.kpN Q5, (Q5.cell bl ol hbl (by simp)).trans ca0⟩) ?_
        clear hK K
        iterate 2 (first | (refine wpTr_v rfl rfl ?_; intro K hK; go_big_quiet_op; go_big_quiet_on) | (refine wpTr_q rfl rfl ?_; intro K hK; go_big_quiet_op; go_big_quiet_on) | refine wpTr_s rfl rfl ?_)
        refine wpTr_nil ?_
        clear hevT _hev
        go_wp2_with fail
        go_meet
        case rel => exact ⟨b3, b7, b15, rfl, rfl, rfl, ⟨hr5.out.kpN Q5, K0.thenN Q5 (Nat.le_refl _), hca.out.kp (Q5.mono K0.size), hco.out.next Q5, hfar, X3, X7, by rw [← ha0.out]; exact X15, hgW, h3g, h7g, h15g⟩⟩
    · refine wpOne_l rfl rfl ?_; intro K hK
      generalize w6.drew = wq at Q5 ⊢
      have X7 := Blk.new wq 29 #[.int .i64 x.least, .int .i64 x.most, .int .i64 x.all, .int .i64 y.least, .int .i64 y.most, .int .i64 y.all, .int .i64 x.least, .int .i64 x.most, .int .i64 x.all]
      have kq := Kp.new wq (.cells #[.int .i64 x.least, .int .i64 x.most, .int .i64 x.all, .int .i64 y.least, .int .i64 y.most, .int .i64 y.all, .int .i64 x.least, .int .i64 x.most, .int .i64 x.all] 29)
      have hsz := Q5.size
      try (replace X3 := X3.kpN kq)
      try (replace X15 := X15.kpN kq)
      replace Q5 := Q5.thenN kq (Nat.le_refl _)
      clear kq
      go_step
      change K _ (World.alloc wq (.cells #[.int .i64 x.least, .int .i64 x.most, .int .i64 x.all, .int .i64 y.least, .int .i64 y.most, .int .i64 y.all, .int .i64 x.least, .int .i64 x.most, .int .i64 x.all] 29))
      obtain ⟨b7, hb7⟩ : ∃ q, q = wq.heap.size := ⟨_, rfl⟩
      rw [← hb7] at X7
      rw [← hb7]
      have h7g : g < b7 := by omega
      clear hb7 hsz
      generalize World.alloc wq (.cells #[.int .i64 x.least, .int .i64 x.most, .int .i64 x.all, .int .i64 y.least, .int .i64 y.most, .int .i64 y.all, .int .i64 x.least, .int .i64 x.most, .int .i64 x.all] 29) = wq9 at *
      rename World => wq
      refine hK _ _ ((hS0 _).2 ⟨B6.kpN Q5, B7.kpN Q5, B14.kpN Q5, B15.kpN Q5, (Q5.cell bl ol hbl (by simp)).trans ca0⟩) ?_
      clear hK K
      refine wpTr_b2 ?_ ?_
      · refine wpOne_l rfl rfl ?_; intro K hK
        have X3 := Blk.new wq 26 #[.slice V0.am c.members.length V0.cm, .slice V0.al c.laws.length V0.cl, .slice V0.av c.levels.length V0.cv, .slice am own.members.length qm, .slice (some ⟨bl, ol, none⟩) own.laws.length ql, .slice av own.levels.length qv, .slice am own.members.length qm, .slice (some ⟨bl, ol, none⟩) own.laws.length ql, .slice av own.levels.length qv]
        have kq := Kp.new wq (.cells #[.slice V0.am c.members.length V0.cm, .slice V0.al c.laws.length V0.cl, .slice V0.av c.levels.length V0.cv, .slice am own.members.length qm, .slice (some ⟨bl, ol, none⟩) own.laws.length ql, .slice av own.levels.length qv, .slice am own.members.length qm, .slice (some ⟨bl, ol, none⟩) own.laws.length ql, .slice av own.levels.length qv] 26)
        have hsz := Q5.size
        try (replace X7 := X7.kpN kq)
        try (replace X15 := X15.kpN kq)
        replace Q5 := Q5.thenN kq (Nat.le_refl _)
        clear kq
        go_step
        change K _ (World.alloc wq (.cells #[.slice V0.am c.members.length V0.cm, .slice V0.al c.laws.length V0.cl, .slice V0.av c.levels.length V0.cv, .slice am own.members.length qm, .slice (some ⟨bl, ol, none⟩) own.laws.length ql, .slice av own.levels.length qv, .slice am own.members.length qm, .slice (some ⟨bl, ol, none⟩) own.laws.length ql, .slice av own.levels.length qv] 26))
        obtain ⟨b3, hb3⟩ : ∃ q, q = wq.heap.size := ⟨_, rfl⟩
        rw [← hb3] at X3
        rw [← hb3]
        have h3g : g < b3 := by omega
        clear hb3 hsz
        generalize World.alloc wq (.cells #[.slice V0.am c.members.length V0.cm, .slice V0.al c.laws.length V0.cl, .slice V0.av c.levels.length V0.cv, .slice am own.members.length qm, .slice (some ⟨bl, ol, none⟩) own.laws.length ql, .slice av own.levels.length qv, .slice am own.members.length qm, .slice (some ⟨bl, ol, none⟩) own.laws.length ql, .slice av own.levels.length qv] 26) = wq9 at *
        rename World => wq
        refine hK _ _ ((hS0 _).2 ⟨B6.kpN Q5, B7.kpN Q5, B14.kpN Q5, B15.kpN Q5, (Q5.cell bl ol hbl (by simp)).trans ca0⟩) ?_
        clear hK K
        iterate 2 (first | (refine wpTr_v rfl rfl ?_; intro K hK; go_big_quiet_op; go_big_quiet_on) | (refine wpTr_q rfl rfl ?_; intro K hK; go_big_quiet_op; go_big_quiet_on) | refine wpTr_s rfl rfl ?_)
        refine wpTr_l rfl rfl ?_; intro K hK
        have X15 := Blk.new wq 3 #[.int .i64 act, .int .i64 a0, .int .i64 act]
        have kq := Kp.new wq (.cells #[.int .i64 act, .int .i64 a0, .int .i64 act] 3)
        have hsz := Q5.size
        try (replace X3 := X3.kpN kq)
        try (replace X7 := X7.kpN kq)
        replace Q5 := Q5.thenN kq (Nat.le_refl _)
        clear kq
        go_step
        change K _ (World.alloc wq (.cells #[.int .i64 act, .int .i64 a0, .int .i64 act] 3))
        obtain ⟨b15, hb15⟩ : ∃ q, q = wq.heap.size := ⟨_, rfl⟩
        rw [← hb15] at X15
        rw [← hb15]
        have h15g : g < b15 := by omega
        clear hb15 hsz
        generalize World.alloc wq (.cells #[.int .i64 act, .int .i64 a0, .int .i64 act] 3) = wq9 at *
        rename World => wq
        refine hK _ _ ((hS0 _).2 ⟨B6.kpN Q5, B7.kpN Q5, B14.kpN Q5, B15.kpN Q5, (Q5.cell bl ol hbl (by simp)).trans ca0⟩) ?_
        clear hK K
        iterate 1 (first | (refine wpTr_v rfl rfl ?_; intro K hK; go_big_quiet_op; go_big_quiet_on) | (refine wpTr_q rfl rfl ?_; intro K hK; go_big_quiet_op; go_big_quiet_on) | refine wpTr_s rfl rfl ?_)
        refine wpTr_nil ?_
        clear hevT _hev
        go_wp2_with fail
        go_meet
        case rel => exact ⟨b3, b7, b15, rfl, rfl, rfl, ⟨hr5.out.kpN Q5, K0.thenN Q5 (Nat.le_refl _), hca.out.kp (Q5.mono K0.size), hco.out.next Q5, hfar, X3, X7, by rw [← ha0.out]; exact X15, hgW, h3g, h7g, h15g⟩⟩
      · refine wpOne_l rfl rfl ?_; intro K hK
        have X15 := Blk.new wq 3 #[.int .i64 act, .int .i64 a0, .int .i64 act]
        have kq := Kp.new wq (.cells #[.int .i64 act, .int .i64 a0, .int .i64 act] 3)
        have hsz := Q5.size
        try (replace X3 := X3.kpN kq)
        try (replace X7 := X7.kpN kq)
        replace Q5 := Q5.thenN kq (Nat.le_refl _)
        clear kq
        go_step
        change K _ (World.alloc wq (.cells #[.int .i64 act, .int .i64 a0, .int .i64 act] 3))
        obtain ⟨b15, hb15⟩ : ∃ q, q = wq.heap.size := ⟨_, rfl⟩
        rw [← hb15] at X15
        rw [← hb15]
        have h15g : g < b15 := by omega
        clear hb15 hsz
        generalize World.alloc wq (.cells #[.int .i64 act, .int .i64 a0, .int .i64 act] 3) = wq9 at *
        rename World => wq
        refine hK _ _ ((hS0 _).2 ⟨B6.kpN Q5, B7.kpN Q5, B14.kpN Q5, B15.kpN Q5, (Q5.cell bl ol hbl (by simp)).trans ca0⟩) ?_
        clear hK K
        refine wpTr_l rfl rfl ?_; intro K hK
        have X3 := Blk.new wq 26 #[.slice V0.am c.members.length V0.cm, .slice V0.al c.laws.length V0.cl, .slice V0.av c.levels.length V0.cv, .slice am own.members.length qm, .slice (some ⟨bl, ol, none⟩) own.laws.length ql, .slice av own.levels.length qv, .slice am own.members.length qm, .slice (some ⟨bl, ol, none⟩) own.laws.length ql, .slice av own.levels.length qv]
        have kq := Kp.new wq (.cells #[.slice V0.am c.members.length V0.cm, .slice V0.al c.laws.length V0.cl, .slice V0.av c.levels.length V0.cv, .slice am own.members.length qm, .slice (some ⟨bl, ol, none⟩) own.laws.length ql, .slice av own.levels.length qv, .slice am own.members.length qm, .slice (some ⟨bl, ol, none⟩) own.laws.length ql, .slice av own.levels.length qv] 26)
        have hsz := Q5.size
        try (replace X7 := X7.kpN kq)
        try (replace X15 := X15.kpN kq)
        replace Q5 := Q5.thenN kq (Nat.le_refl _)
        clear kq
        go_step
        change K _ (World.alloc wq (.cells #[.slice V0.am c.members.length V0.cm, .slice V0.al c.laws.length V0.cl, .slice V0.av c.levels.length V0.cv, .slice am own.members.length qm, .slice (some ⟨bl, ol, none⟩) own.laws.length ql, .slice av own.levels.length qv, .slice am own.members.length qm, .slice (some ⟨bl, ol, none⟩) own.laws.length ql, .slice av own.levels.length qv] 26))
        obtain ⟨b3, hb3⟩ : ∃ q, q = wq.heap.size := ⟨_, rfl⟩
        rw [← hb3] at X3
        rw [← hb3]
        have h3g : g < b3 := by omega
        clear hb3 hsz
        generalize World.alloc wq (.cells #[.slice V0.am c.members.length V0.cm, .slice V0.al c.laws.length V0.cl, .slice V0.av c.levels.length V0.cv, .slice am own.members.length qm, .slice (some ⟨bl, ol, none⟩) own.laws.length ql, .slice av own.levels.length qv, .slice am own.members.length qm, .slice (some ⟨bl, ol, none⟩) own.laws.length ql, .slice av own.levels.length qv] 26) = wq9 at *
        rename World => wq
        refine hK _ _ ((hS0 _).2 ⟨B6.kpN Q5, B7.kpN Q5, B14.kpN Q5, B15.kpN Q5, (Q5.cell bl ol hbl (by simp)).trans ca0⟩) ?_
        clear hK K
        iterate 3 (first | (refine wpTr_v rfl rfl ?_; intro K hK; go_big_quiet_op; go_big_quiet_on) | (refine wpTr_q rfl rfl ?_; intro K hK; go_big_quiet_op; go_big_quiet_on) | refine wpTr_s rfl rfl ?_)
        refine wpTr_nil ?_
        clear hevT _hev
        go_wp2_with fail
        go_meet
        case rel => exact ⟨b3, b7, b15, rfl, rfl, rfl, ⟨hr5.out.kpN Q5, K0.thenN Q5 (Nat.le_refl _), hca.out.kp (Q5.mono K0.size), hco.out.next Q5, hfar, X3, X7, by rw [← ha0.out]; exact X15, hgW, h3g, h7g, h15g⟩⟩
    · refine wpOne_l rfl rfl ?_; intro K hK
      generalize w6.drew = wq at Q5 ⊢
      have X15 := Blk.new wq 3 #[.int .i64 act, .int .i64 a0, .int .i64 act]
      have kq := Kp.new wq (.cells #[.int .i64 act, .int .i64 a0, .int .i64 act] 3)
      have hsz := Q5.size
      try (replace X3 := X3.kpN kq)
      try (replace X7 := X7.kpN kq)
      replace Q5 := Q5.thenN kq (Nat.le_refl _)
      clear kq
      go_step
      change K _ (World.alloc wq (.cells #[.int .i64 act, .int .i64 a0, .int .i64 act] 3))
      obtain ⟨b15, hb15⟩ : ∃ q, q = wq.heap.size := ⟨_, rfl⟩
      rw [← hb15] at X15
      rw [← hb15]
      have h15g : g < b15 := by omega
      clear hb15 hsz
      generalize World.alloc wq (.cells #[.int .i64 act, .int .i64 a0, .int .i64 act] 3) = wq9 at *
      rename World => wq
      refine hK _ _ ((hS0 _).2 ⟨B6.kpN Q5, B7.kpN Q5, B14.kpN Q5, B15.kpN Q5, (Q5.cell bl ol hbl (by simp)).trans ca0⟩) ?_
      clear hK K
      refine wpTr_b2 ?_ ?_
      · refine wpOne_l rfl rfl ?_; intro K hK
        have X3 := Blk.new wq 26 #[.slice V0.am c.members.length V0.cm, .slice V0.al c.laws.length V0.cl, .slice V0.av c.levels.length V0.cv, .slice am own.members.length qm, .slice (some ⟨bl, ol, none⟩) own.laws.length ql, .slice av own.levels.length qv, .slice am own.members.length qm, .slice (some ⟨bl, ol, none⟩) own.laws.length ql, .slice av own.levels.length qv]
        have kq := Kp.new wq (.cells #[.slice V0.am c.members.length V0.cm, .slice V0.al c.laws.length V0.cl, .slice V0.av c.levels.length V0.cv, .slice am own.members.length qm, .slice (some ⟨bl, ol, none⟩) own.laws.length ql, .slice av own.levels.length qv, .slice am own.members.length qm, .slice (some ⟨bl, ol, none⟩) own.laws.length ql, .slice av own.levels.length qv] 26)
        have hsz := Q5.size
        try (replace X7 := X7.kpN kq)
        try (replace X15 := X15.kpN kq)
        replace Q5 := Q5.thenN kq (Nat.le_refl _)
        clear kq
        go_step
        change K _ (World.alloc wq (.cells #[.slice V0.am c.members.length V0.cm, .slice V0.al c.laws.length V0.cl, .slice V0.av c.levels.length V0.cv, .slice am own.members.length qm, .slice (some ⟨bl, ol, none⟩) own.laws.length ql, .slice av own.levels.length qv, .slice am own.members.length qm, .slice (some ⟨bl, ol, none⟩) own.laws.length ql, .slice av own.levels.length qv] 26))
        obtain ⟨b3, hb3⟩ : ∃ q, q = wq.heap.size := ⟨_, rfl⟩
        rw [← hb3] at X3
        rw [← hb3]
        have h3g : g < b3 := by omega
        clear hb3 hsz
        generalize World.alloc wq (.cells #[.slice V0.am c.members.length V0.cm, .slice V0.al c.laws.length V0.cl, .slice V0.av c.levels.length V0.cv, .slice am own.members.length qm, .slice (some ⟨bl, ol, none⟩) own.laws.length ql, .slice av own.levels.length qv, .slice am own.members.length qm, .slice (some ⟨bl, ol, none⟩) own.laws.length ql, .slice av own.levels.length qv] 26) = wq9 at *
        rename World => wq
        refine hK _ _ ((hS0 _).2 ⟨B6.kpN Q5, B7.kpN Q5, B14.kpN Q5, B15.kpN Q5, (Q5.cell bl ol hbl (by simp)).trans ca0⟩) ?_
        clear hK K
        iterate 1 (first | (refine wpTr_v rfl rfl ?_; intro K hK; go_big_quiet_op; go_big_quiet_on) | (refine wpTr_q rfl rfl ?_; intro K hK; go_big_quiet_op; go_big_quiet_on) | refine wpTr_s rfl rfl ?_)
        refine wpTr_l rfl rfl ?_; intro K hK
        have X7 := Blk.new wq 29 #[.int .i64 x.least, .int .i64 x.most, .int .i64 x.all, .int .i64 y.least, .int .i64 y.most, .int .i64 y.all, .int .i64 x.least, .int .i64 x.most, .int .i64 x.all]
        have kq := Kp.new wq (.cells #[.int .i64 x.least, .int .i64 x.most, .int .i64 x.all, .int .i64 y.least, .int .i64 y.most, .int .i64 y.all, .int .i64 x.least, .int .i64 x.most, .int .i64 x.all] 29)
        have hsz := Q5.size
        try (replace X3 := X3.kpN kq)
        try (replace X15 := X15.kpN kq)
        replace Q5 := Q5.thenN kq (Nat.le_refl _)
        clear kq
        go_step
        change K _ (World.alloc wq (.cells #[.int .i64 x.least, .int .i64 x.most, .int .i64 x.all, .int .i64 y.least, .int .i64 y.most, .int .i64 y.all, .int .i64 x.least, .int .i64 x.most, .int .i64 x.all] 29))
        obtain ⟨b7, hb7⟩ : ∃ q, q = wq.heap.size := ⟨_, rfl⟩
        rw [← hb7] at X7
        rw [← hb7]
        have h7g : g < b7 := by omega
        clear hb7 hsz
        generalize World.alloc wq (.cells #[.int .i64 x.least, .int .i64 x.most, .int .i64 x.all, .int .i64 y.least, .int .i64 y.most, .int .i64 y.all, .int .i64 x.least, .int .i64 x.most, .int .i64 x.all] 29) = wq9 at *
        rename World => wq
        refine hK _ _ ((hS0 _).2 ⟨B6.kpN Q5, B7.kpN Q5, B14.kpN Q5, B15.kpN Q5, (Q5.cell bl ol hbl (by simp)).trans ca0⟩) ?_
        clear hK K
        iterate 2 (first | (refine wpTr_v rfl rfl ?_; intro K hK; go_big_quiet_op; go_big_quiet_on) | (refine wpTr_q rfl rfl ?_; intro K hK; go_big_quiet_op; go_big_quiet_on) | refine wpTr_s rfl rfl ?_)
        refine wpTr_nil ?_
        clear hevT _hev
        go_wp2_with fail
        go_meet
        case rel => exact ⟨b3, b7, b15, rfl, rfl, rfl, ⟨hr5.out.kpN Q5, K0.thenN Q5 (Nat.le_refl _), hca.out.kp (Q5.mono K0.size), hco.out.next Q5, hfar, X3, X7, by rw [← ha0.out]; exact X15, hgW, h3g, h7g, h15g⟩⟩
      · refine wpOne_l rfl rfl ?_; intro K hK
        have X7 := Blk.new wq 29 #[.int .i64 x.least, .int .i64 x.most, .int .i64 x.all, .int .i64 y.least, .int .i64 y.most, .int .i64 y.all, .int .i64 x.least, .int .i64 x.most, .int .i64 x.all]
        have kq := Kp.new wq (.cells #[.int .i64 x.least, .int .i64 x.most, .int .i64 x.all, .int .i64 y.least, .int .i64 y.most, .int .i64 y.all, .int .i64 x.least, .int .i64 x.most, .int .i64 x.all] 29)
        have hsz := Q5.size
        try (replace X3 := X3.kpN kq)
        try (replace X15 := X15.kpN kq)
        replace Q5 := Q5.thenN kq (Nat.le_refl _)
        clear kq
        go_step
        change K _ (World.alloc wq (.cells #[.int .i64 x.least, .int .i64 x.most, .int .i64 x.all, .int .i64 y.least, .int .i64 y.most, .int .i64 y.all, .int .i64 x.least, .int .i64 x.most, .int .i64 x.all] 29))
        obtain ⟨b7, hb7⟩ : ∃ q, q = wq.heap.size := ⟨_, rfl⟩
        rw [← hb7] at X7
        rw [← hb7]
        have h7g : g < b7 := by omega
        clear hb7 hsz
        generalize World.alloc wq (.cells #[.int .i64 x.least, .int .i64 x.most, .int .i64 x.all, .int .i64 y.least, .int .i64 y.most, .int .i64 y.all, .int .i64 x.least, .int .i64 x.most, .int .i64 x.all] 29) = wq9 at *
        rename World => wq
        refine hK _ _ ((hS0 _).2 ⟨B6.kpN Q5, B7.kpN Q5, B14.kpN Q5, B15.kpN Q5, (Q5.cell bl ol hbl (by simp)).trans ca0⟩) ?_
        clear hK K
        refine wpTr_l rfl rfl ?_; intro K hK
        have X3 := Blk.new wq 26 #[.slice V0.am c.members.length V0.cm, .slice V0.al c.laws.length V0.cl, .slice V0.av c.levels.length V0.cv, .slice am own.members.length qm, .slice (some ⟨bl, ol, none⟩) own.laws.length ql, .slice av own.levels.length qv, .slice am own.members.length qm, .slice (some ⟨bl, ol, none⟩) own.laws.length ql, .slice av own.levels.length qv]
        have kq := Kp.new wq (.cells #[.slice V0.am c.members.length V0.cm, .slice V0.al c.laws.length V0.cl, .slice V0.av c.levels.length V0.cv, .slice am own.members.length qm, .slice (some ⟨bl, ol, none⟩) own.laws.length ql, .slice av own.levels.length qv, .slice am own.members.length qm, .slice (some ⟨bl, ol, none⟩) own.laws.length ql, .slice av own.levels.length qv] 26)
        have hsz := Q5.size
        try (replace X7 := X7.kpN kq)
        try (replace X15 := X15.kpN kq)
        replace Q5 := Q5.thenN kq (Nat.le_refl _)
        clear kq
        go_step
        change K _ (World.alloc wq (.cells #[.slice V0.am c.members.length V0.cm, .slice V0.al c.laws.length V0.cl, .slice V0.av c.levels.length V0.cv, .slice am own.members.length qm, .slice (some ⟨bl, ol, none⟩) own.laws.length ql, .slice av own.levels.length qv, .slice am own.members.length qm, .slice (some ⟨bl, ol, none⟩) own.laws.length ql, .slice av own.levels.length qv] 26))
        obtain ⟨b3, hb3⟩ : ∃ q, q = wq.heap.size := ⟨_, rfl⟩
        rw [← hb3] at X3
        rw [← hb3]
        have h3g : g < b3 := by omega
        clear hb3 hsz
        generalize World.alloc wq (.cells #[.slice V0.am c.members.length V0.cm, .slice V0.al c.laws.length V0.cl, .slice V0.av c.levels.length V0.cv, .slice am own.members.length qm, .slice (some ⟨bl, ol, none⟩) own.laws.length ql, .slice av own.levels.length qv, .slice am own.members.length qm, .slice (some ⟨bl, ol, none⟩) own.laws.length ql, .slice av own.levels.length qv] 26) = wq9 at *
        rename World => wq
        refine hK _ _ ((hS0 _).2 ⟨B6.kpN Q5, B7.kpN Q5, B14.kpN Q5, B15.kpN Q5, (Q5.cell bl ol hbl (by simp)).trans ca0⟩) ?_
        clear hK K
        iterate 3 (first | (refine wpTr_v rfl rfl ?_; intro K hK; go_big_quiet_op; go_big_quiet_on) | (refine wpTr_q rfl rfl ?_; intro K hK; go_big_quiet_op; go_big_quiet_on) | refine wpTr_s rfl rfl ?_)
        refine wpTr_nil ?_
        clear hevT _hev
        go_wp2_with fail
        go_meet
        case rel => exact ⟨b3, b7, b15, rfl, rfl, rfl, ⟨hr5.out.kpN Q5, K0.thenN Q5 (Nat.le_refl _), hca.out.kp (Q5.mono K0.size), hco.out.next Q5, hfar, X3, X7, by rw [← ha0.out]; exact X15, hgW, h3g, h7g, h15g⟩⟩
  case rest =>
  clear B6 B7 B14 B15 hca hco hr5 K0 hg5
  rename World => w7
  obtain ⟨b3, b7, b15, rfl, rfl, rfl, U⟩ := hcut
  go_wp2_with fail
  go_loopw [19] (fun n wr => ∃ i k : Nat, n = .int .i64 (i : Int) ∧ i ≤ 3 ∧ k ≤ 100 + 2 * i ∧ CK w g b3 b7 b15 nums k V0 V c own x y act wr) (fun n _ => (3 - intOf n).toNat)
  case atStart => exact ⟨0, _, rfl, by omega, by omega, U⟩
  case round =>
    clear U
    obtain ⟨i, k9, rfl, hi, hk9, U⟩ := hrel
    by_cases hi' : i < 3
    · have hii : (i : Int) < 3 := by omega
      have hii3 : (i : Int) < (3 : Int) := hii
      obtain ⟨Vi, ci, xi, ai, hF⟩ := CK.round (W := w) (g := g) (b3 := b3) (b7 := b7) (b15 := b15) (nums := nums) (V0 := V0) (V := V) (c := c) (own := own) (x := x) (y := y) (act := act) hi'
      go_upto_region 9 with (fail)
      replace U := U.kpN (Kp.refl _ _ _).drew
      have F := hF _ _ U
      obtain ⟨S, hS⟩ : ∃ S : Nat → World → Prop, S = fun _ w' => w'.cell? ⟨b3, i * 3, none⟩ = some (.slice Vi.am ci.members.length Vi.cm) ∧ w'.cell? ⟨b3, i * 3 + 1, none⟩ = some (.slice Vi.al ci.laws.length Vi.cl) ∧ w'.cell? ⟨b3, i * 3 + 2, none⟩ = some (.slice Vi.av ci.levels.length Vi.cv) ∧ w'.cell? ⟨b7, i * 3, none⟩ = some (.int .i64 xi.least) ∧ w'.cell? ⟨b7, i * 3 + 1, none⟩ = some (.int .i64 xi.most) ∧ w'.cell? ⟨b7, i * 3 + 2, none⟩ = some (.int .i64 xi.all) ∧ w'.cell? ⟨b15, i, none⟩ = some (.int .i64 ai) := ⟨_, rfl⟩
      have hS0 : ∀ w', S 0 w' ↔ (w'.cell? ⟨b3, i * 3, none⟩ = some (.slice Vi.am ci.members.length Vi.cm) ∧ w'.cell? ⟨b3, i * 3 + 1, none⟩ = some (.slice Vi.al ci.laws.length Vi.cl) ∧ w'.cell? ⟨b3, i * 3 + 2, none⟩ = some (.slice Vi.av ci.levels.length Vi.cv) ∧ w'.cell? ⟨b7, i * 3, none⟩ = some (.int .i64 xi.least) ∧ w'.cell? ⟨b7, i * 3 + 1, none⟩ = some (.int .i64 xi.most) ∧ w'.cell? ⟨b7, i * 3 + 2, none⟩ = some (.int .i64 xi.all) ∧ w'.cell? ⟨b15, i, none⟩ = some (.int .i64 ai)) := fun w' => by rw [hS]
      clear hS
      have y0 := fun (q : Ev (S 0)) => ((hS0 _).1 q.h).1
      have y1 := fun (q : Ev (S 0)) => ((hS0 _).1 q.h).2.1
      have y2 := fun (q : Ev (S 0)) => ((hS0 _).1 q.h).2.2.1
      have y3 := fun (q : Ev (S 0)) => ((hS0 _).1 q.h).2.2.2.1
      have y4 := fun (q : Ev (S 0)) => ((hS0 _).1 q.h).2.2.2.2.1
      have y5 := fun (q : Ev (S 0)) => ((hS0 _).1 q.h).2.2.2.2.2.1
      have y6 := fun (q : Ev (S 0)) => ((hS0 _).1 q.h).2.2.2.2.2.2
      have hevT := ev_true
      refine wp_region_ord S [(0, 0), (1, 0), (2, 0), (3, 1), (5, 0), (6, 0), (7, 0), (8, 1), (4, 2), (9, 2), (10, 0), (11, 0), (12, 0), (13, 0), (14, 0), (15, 1), (17, 0), (18, 0), (19, 0), (20, 1), (16, 2), (21, 2), (22, 0), (23, 0), (24, 0), (25, 0), (26, 0), (27, 0), (28, 1), (29, 0), (30, 0), (31, 0), (32, 1), (34, 0), (35, 0), (36, 0), (37, 1), (38, 0), (39, 0), (40, 0), (41, 1), (33, 2), (42, 2), (43, 0), (44, 0)] [] (by kernel_rfl) (by kernel_rfl) ((hS0 _).2 ⟨F.d0, F.d1, F.d2, F.e0, F.e1, F.e2, F.a⟩) ?_
      intro _hev
      iterate 8 (first | (refine wpOrd_v rfl rfl ?_; intro K hK; go_big_quiet_op; go_big_quiet_on) | (refine wpOrd_q rfl rfl ?_; intro K hK; go_big_quiet_op; go_big_quiet_on) | refine wpOrd_s (by decide) rfl rfl ?_)
      refine wpOrd_l rfl rfl ?_; intro K hK
      go_step
      refine (council_Check_any _ Vi ci _ F.ca).mono ?_
      rintro e w9 ⟨rfl, k9⟩
      skip
      replace U := U.kpN k9
      replace F := hF _ _ U
      refine hK _ _ ((hS0 _).2 ⟨F.d0, F.d1, F.d2, F.e0, F.e1, F.e2, F.a⟩) ?_
      clear hK K k9
      refine wpOrd_l rfl rfl ?_; intro K hK
      go_step
      refine (ref_Check_any _ Vi ci _ F.ca).mono ?_
      rintro e w9 ⟨rfl, k9⟩
      skip
      replace U := U.kpN k9
      replace F := hF _ _ U
      refine hK _ _ ((hS0 _).2 ⟨F.d0, F.d1, F.d2, F.e0, F.e1, F.e2, F.a⟩) ?_
      clear hK K k9
      iterate 10 (first | (refine wpOrd_v rfl rfl ?_; intro K hK; go_big_quiet_op; go_big_quiet_on) | (refine wpOrd_q rfl rfl ?_; intro K hK; go_big_quiet_op; go_big_quiet_on) | refine wpOrd_s (by decide) rfl rfl ?_)
      refine wpOrd_l rfl rfl ?_; intro K hK
      go_step
      refine (council_CheckChance_any xi _).mono ?_
      rintro e w9 ⟨rfl, k9⟩
      skip
      replace U := U.kpN k9
      replace F := hF _ _ U
      refine hK _ _ ((hS0 _).2 ⟨F.d0, F.d1, F.d2, F.e0, F.e1, F.e2, F.a⟩) ?_
      clear hK K k9
      refine wpOrd_l rfl rfl ?_; intro K hK
      go_step
      refine (ref_CheckChance_any xi _).mono ?_
      rintro e w9 ⟨rfl, k9⟩
      skip
      replace U := U.kpN k9
      replace F := hF _ _ U
      refine hK _ _ ((hS0 _).2 ⟨F.d0, F.d1, F.d2, F.e0, F.e1, F.e2, F.a⟩) ?_
      clear hK K k9
      iterate 19 (first | (refine wpOrd_v rfl rfl ?_; intro K hK; go_big_quiet_op; go_big_quiet_on) | (refine wpOrd_q rfl rfl ?_; intro K hK; go_big_quiet_op; go_big_quiet_on) | refine wpOrd_s (by decide) rfl rfl ?_)
      refine wpOrd_l rfl rfl ?_; intro K hK
      go_step
      refine (council_Level_any xi _ Vi ci _ F.ca).mono ?_
      rintro e w9 ⟨rfl, k9⟩
      skip
      replace U := U.kpN k9
      replace F := hF _ _ U
      refine hK _ _ ((hS0 _).2 ⟨F.d0, F.d1, F.d2, F.e0, F.e1, F.e2, F.a⟩) ?_
      clear hK K k9
      refine wpOrd_l rfl rfl ?_; intro K hK
      go_step
      refine (ref_Level_any xi _ Vi ci _ F.ca).mono ?_
      rintro e w9 ⟨rfl, k9⟩
      skip
      replace U := U.kpN k9
      replace F := hF _ _ U
      refine hK _ _ ((hS0 _).2 ⟨F.d0, F.d1, F.d2, F.e0, F.e1, F.e2, F.a⟩) ?_
      clear hK K k9
      iterate 2 (first | (refine wpOrd_v rfl rfl ?_; intro K hK; go_big_quiet_op; go_big_quiet_on) | (refine wpOrd_q rfl rfl ?_; intro K hK; go_big_quiet_op; go_big_quiet_on) | refine wpOrd_s (by decide) rfl rfl ?_)
      refine wpOrd_nil ?_
      clear hevT _hev
      clear hS0 S y0 y1 y2 y3 y4 y5 y6
      clear F
      go_wp2_with fail
      refine (range_any g nums k9 0 120 _ U.ring (by omega) (by omega) (by omega) (by omega) (by omega)).mono ?_
      rintro e w9 ⟨v, rfl, ⟨p1, rfl, -, -⟩, hr9, q9⟩
      replace U := U.turn hr9 q9
      clear hr9 q9
      go_wp2_with fail
      refine (range_any g nums (k9 + 1) 0 120 _ U.ring (by omega) (by omega) (by omega) (by omega) (by omega)).mono ?_
      rintro e w10 ⟨v, rfl, ⟨p2, rfl, -, -⟩, hr9, q9⟩
      replace U := U.turn hr9 q9
      clear hr9 q9
      go_upto_region 12 with (fail)
      replace U := U.kpN (Kp.refl _ _ _).drew
      have F := hF _ _ U
      obtain ⟨S, hS⟩ : ∃ S : Nat → World → Prop, S = fun _ w' => w'.cell? ⟨b3, i * 3, none⟩ = some (.slice Vi.am ci.members.length Vi.cm) ∧ w'.cell? ⟨b3, i * 3 + 1, none⟩ = some (.slice Vi.al ci.laws.length Vi.cl) ∧ w'.cell? ⟨b3, i * 3 + 2, none⟩ = some (.slice Vi.av ci.levels.length Vi.cv) ∧ w'.cell? ⟨b7, i * 3, none⟩ = some (.int .i64 xi.least) ∧ w'.cell? ⟨b7, i * 3 + 1, none⟩ = some (.int .i64 xi.most) ∧ w'.cell? ⟨b7, i * 3 + 2, none⟩ = some (.int .i64 xi.all) ∧ w'.cell? ⟨b15, i, none⟩ = some (.int .i64 ai) := ⟨_, rfl⟩
      have hS0 : ∀ w', S 0 w' ↔ (w'.cell? ⟨b3, i * 3, none⟩ = some (.slice Vi.am ci.members.length Vi.cm) ∧ w'.cell? ⟨b3, i * 3 + 1, none⟩ = some (.slice Vi.al ci.laws.length Vi.cl) ∧ w'.cell? ⟨b3, i * 3 + 2, none⟩ = some (.slice Vi.av ci.levels.length Vi.cv) ∧ w'.cell? ⟨b7, i * 3, none⟩ = some (.int .i64 xi.least) ∧ w'.cell? ⟨b7, i * 3 + 1, none⟩ = some (.int .i64 xi.most) ∧ w'.cell? ⟨b7, i * 3 + 2, none⟩ = some (.int .i64 xi.all) ∧ w'.cell? ⟨b15, i, none⟩ = some (.int .i64 ai)) := fun w' => by rw [hS]
      clear hS
      have y0 := fun (q : Ev (S 0)) => ((hS0 _).1 q.h).1
      have y1 := fun (q : Ev (S 0)) => ((hS0 _).1 q.h).2.1
      have y2 := fun (q : Ev (S 0)) => ((hS0 _).1 q.h).2.2.1
      have y3 := fun (q : Ev (S 0)) => ((hS0 _).1 q.h).2.2.2.1
      have y4 := fun (q : Ev (S 0)) => ((hS0 _).1 q.h).2.2.2.2.1
      have y5 := fun (q : Ev (S 0)) => ((hS0 _).1 q.h).2.2.2.2.2.1
      have y6 := fun (q : Ev (S 0)) => ((hS0 _).1 q.h).2.2.2.2.2.2
      have hevT := ev_true
      refine wp_region_ord S [(0, 0), (1, 0), (2, 0), (3, 1), (4, 0), (5, 0), (6, 0), (7, 1), (8, 0), (9, 0), (11, 0), (12, 0), (13, 0), (14, 1), (15, 0), (16, 0), (17, 0), (18, 1), (19, 0), (20, 0), (10, 2), (21, 2), (22, 0), (23, 0), (24, 0), (25, 0), (26, 0), (27, 1), (28, 0), (29, 0), (30, 0), (31, 1), (32, 0), (33, 0), (35, 0), (36, 0), (37, 0), (38, 1), (39, 0), (40, 0), (41, 0), (42, 1), (43, 0), (44, 0), (34, 2), (45, 2), (46, 0), (47, 0)] [] (by kernel_rfl) (by kernel_rfl) ((hS0 _).2 ⟨F.d0, F.d1, F.d2, F.e0, F.e1, F.e2, F.a⟩) ?_
      intro _hev
      iterate 20 (first | (refine wpOrd_v rfl rfl ?_; intro K hK; go_big_quiet_op; go_big_quiet_on) | (refine wpOrd_q rfl rfl ?_; intro K hK; go_big_quiet_op; go_big_quiet_on) | refine wpOrd_s (by decide) rfl rfl ?_)
      refine wpOrd_l rfl rfl ?_; intro K hK
      go_step
      refine (council_Votes_any ai yes no _ Vi ci _ F.ca).mono ?_
      rintro e w9 ⟨rfl, k9⟩
      skip
      replace U := U.kpN k9
      replace F := hF _ _ U
      refine hK _ _ ((hS0 _).2 ⟨F.d0, F.d1, F.d2, F.e0, F.e1, F.e2, F.a⟩) ?_
      clear hK K k9
      refine wpOrd_l rfl rfl ?_; intro K hK
      go_step
      refine (ref_Votes_any ai yes no _ Vi ci _ F.ca).mono ?_
      rintro e w9 ⟨rfl, k9⟩
      skip
      replace U := U.kpN k9
      replace F := hF _ _ U
      refine hK _ _ ((hS0 _).2 ⟨F.d0, F.d1, F.d2, F.e0, F.e1, F.e2, F.a⟩) ?_
      clear hK K k9
      iterate 22 (first | (refine wpOrd_v rfl rfl ?_; intro K hK; go_big_quiet_op; go_big_quiet_on) | (refine wpOrd_q rfl rfl ?_; intro K hK; go_big_quiet_op; go_big_quiet_on) | refine wpOrd_s (by decide) rfl rfl ?_)
      refine wpOrd_l rfl rfl ?_; intro K hK
      go_step
      refine (council_Votes_any ai p1 p2 _ Vi ci _ F.ca).mono ?_
      rintro e w9 ⟨rfl, k9⟩
      skip
      replace U := U.kpN k9
      replace F := hF _ _ U
      refine hK _ _ ((hS0 _).2 ⟨F.d0, F.d1, F.d2, F.e0, F.e1, F.e2, F.a⟩) ?_
      clear hK K k9
      refine wpOrd_l rfl rfl ?_; intro K hK
      go_step
      refine (ref_Votes_any ai p1 p2 _ Vi ci _ F.ca).mono ?_
      rintro e w9 ⟨rfl, k9⟩
      skip
      replace U := U.kpN k9
      replace F := hF _ _ U
      refine hK _ _ ((hS0 _).2 ⟨F.d0, F.d1, F.d2, F.e0, F.e1, F.e2, F.a⟩) ?_
      clear hK K k9
      iterate 2 (first | (refine wpOrd_v rfl rfl ?_; intro K hK; go_big_quiet_op; go_big_quiet_on) | (refine wpOrd_q rfl rfl ?_; intro K hK; go_big_quiet_op; go_big_quiet_on) | refine wpOrd_s (by decide) rfl rfl ?_)
      refine wpOrd_nil ?_
      clear hevT _hev
      clear hS0 S y0 y1 y2 y3 y4 y5 y6 F
      replace U := Lib.hid U
      go_wp2
      go_roundw
      case rel => exact ⟨i + 1, _, by congr 1, by omega, by omega, U.out⟩
      case measure => simp [intOf]; omega
    · have hii : ¬ (i : Int) < 3 := by omega
      have hst := U.kp
      clear U
      go_wp2_with fail
      refine (awake_any _).mono ?_
      rintro e w9 ⟨rfl, k9⟩
      have K9 := hst.thenN k9 (Nat.le_refl _)
      clear hst k9
      go_wp2
      go_ret
      exact ⟨rfl, K9⟩
end Go.Proofs.Ytogpgnljomchcaa
