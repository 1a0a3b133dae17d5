/- What spans compute of numbers that are not below 0, in the program and in the reference. -/
import Derived.Test.YtdiigflbohbndaaDoorDiv2
import Derived.Test.YtdiigflbohbndaaDoorKit3
namespace Go.Proofs.YtdiigflbohbndaaDoor
open Go.RowKit

/-- lo ≤ n ≤ hi -/
def btw (n lo hi : Int) : Bool := decide (lo ≤ n) && decide (n ≤ hi)

theorem span_within_any (n lo hi : Int) (w : World) :
    Calls Tryd.prog 131 #[.int .i64 n, .int .i64 lo, .int .i64 hi] w fun e w' => e = .returned (.bool (btw n lo hi)) ∧ Kp w.heap.size none w w' := by
  go_enter Tryd.func131, Tryd.ntmps131
  go_wp2
  all_goals
    go_ret
    refine ⟨ret_bool ?_, Kp.refl _ _ _⟩
    rw [Bool.eq_iff_iff]
    simp [btw]
    try omega

theorem blast_within_any (n lo hi : Int) (w : World) :
    Calls Tryd.prog 88 #[.int .i64 n, .int .i64 lo, .int .i64 hi] w fun e w' => e = .returned (.bool (btw n lo hi)) ∧ Kp w.heap.size none w w' := by
  go_enter Tryd.func88, Tryd.ntmps88
  go_wp2
  all_goals
    go_ret
    refine ⟨ret_bool ?_, Kp.refl _ _ _⟩
    rw [Bool.eq_iff_iff]
    simp [btw]
    try omega

theorem bolideref01_between_any (n lo hi : Int) (w : World) :
    Calls Tryd.prog 127 #[.int .i64 n, .int .i64 lo, .int .i64 hi] w fun e w' => e = .returned (.bool (btw n lo hi)) ∧ Kp w.heap.size none w w' := by
  go_enter Tryd.func127, Tryd.ntmps127
  go_wp2
  all_goals
    go_ret
    refine ⟨ret_bool ?_, Kp.refl _ _ _⟩
    rw [Bool.eq_iff_iff]
    simp [btw]
    try omega

theorem bolideref07_between_any (n lo hi : Int) (w : World) :
    Calls Tryd.prog 90 #[.int .i64 n, .int .i64 lo, .int .i64 hi] w fun e w' => e = .returned (.bool (btw n lo hi)) ∧ Kp w.heap.size none w w' := by
  go_enter Tryd.func90, Tryd.ntmps90
  go_wp2
  all_goals
    go_ret
    refine ⟨ret_bool ?_, Kp.refl _ _ _⟩
    rw [Bool.eq_iff_iff]
    simp [btw]
    try omega

theorem span_fits_any (n : Int) (w : World) :
    Calls Tryd.prog 124 #[.int .i64 n] w fun e w' => e = .returned (.bool (btw n (-1152921504606846976) 1152921504606846976)) ∧ Kp w.heap.size none w w' := by
  go_enter Tryd.func124, Tryd.ntmps124
  go_wp2_with fail
  refine (span_within_any _ _ _ _).mono ?_
  rintro e w1 ⟨rfl, hk1⟩
  go_wp2
  go_ret
  exact ⟨rfl, hk1⟩

theorem bolideref01_fits_any (n : Int) (w : World) :
    Calls Tryd.prog 121 #[.int .i64 n] w fun e w' => e = .returned (.bool (btw n (-1152921504606846976) 1152921504606846976)) ∧ Kp w.heap.size none w w' := by
  go_enter Tryd.func121, Tryd.ntmps121
  go_wp2_with fail
  refine (bolideref01_between_any _ _ _ _).mono ?_
  rintro e w1 ⟨rfl, hk1⟩
  go_wp2
  go_ret
  exact ⟨rfl, hk1⟩

theorem span_size_any (n : Nat) (hn : n < 9223372036854775808) (w : World) :
    Calls Tryd.prog 133 #[.int .i64 n] w fun e w' => e = .returned (.int .u64 n) ∧ Kp w.heap.size none w w' := by
  have e1 : IntKind.u64.wrap (n : Int) = (n : Int) := by rw [wrapu]; omega
  have e2 : ¬ (n : Int) < 0 := by omega
  go_enter Tryd.func133, Tryd.ntmps133
  go_wp2
  go_ret
  exact ⟨rfl, Kp.refl _ _ _⟩

theorem bolideref01_size_any (n : Nat) (hn : n < 9223372036854775808) (w : World) :
    Calls Tryd.prog 129 #[.int .i64 n] w fun e w' => e = .returned (.int .u64 n) ∧ Kp w.heap.size none w w' := by
  have e1 : IntKind.u64.wrap (n : Int) = (n : Int) := by rw [wrapu]; omega
  have e2 : ¬ (n : Int) < 0 := by omega
  go_enter Tryd.func129, Tryd.ntmps129
  go_wp2
  go_ret
  exact ⟨rfl, Kp.refl _ _ _⟩


/-- the two words of a product, and a quotient of it -/
structure Words (a b c H L q r u : Nat) : Prop where
  eH : H = a * b / 18446744073709551616
  eL : L = a * b % 18446744073709551616
  eq : q = (H * 18446744073709551616 + L) / c
  er : r = (H * 18446744073709551616 + L) % c
  al : a < 9223372036854775808
  bl : b < 9223372036854775808
  c0 : 0 < c
  cl : c < 9223372036854775808
  Hc : H < c
  Ll : L < 18446744073709551616
  ql : q < 1152921504606846976
  qe : q = a * b / c
  re : r = a * b % c
  eu : u = q + if 0 < r then 1 else 0
theorem words_of (a b c : Nat) (al : a < 9223372036854775808) (bl : b < 9223372036854775808) (c0 : 0 < c) (cl : c < 9223372036854775808) (h : a * b / c < 1152921504606846976) :
    ∃ H L q r u, Words a b c H L q r u := by
  have e : a * b / 18446744073709551616 * 18446744073709551616 + a * b % 18446744073709551616 = a * b := by have := Nat.div_add_mod (a * b) 18446744073709551616; omega
  refine ⟨_, _, _, _, _, rfl, rfl, rfl, rfl, al, bl, c0, cl, ?_, Nat.mod_lt _ (by decide), ?_, ?_, ?_, rfl⟩
  · rw [Nat.div_lt_iff_lt_mul (by decide)]
    rw [Nat.div_lt_iff_lt_mul c0] at h
    generalize a * b = X at h
    omega
  · rw [e]; exact h
  · rw [e]
  · rw [e]

theorem span_times_any (a b c H L q r u : Nat) (h : Hid (Words a b c H L q r u)) (w : World) :
    Calls Tryd.prog 132 #[.int .u64 a, .int .u64 b] w fun e w' => e = .returned (.agg #[.int .u64 H, .int .u64 L]) ∧ Kp w.heap.size none w w' := by
  go_enter Tryd.func132, Tryd.ntmps132
  go_wp2_with (go_at_call 128; refine (Tryd.bits_Mul64 a b (by have := h.out.al; omega) (by have := h.out.bl; omega) _).mono ?_; rintro e w1 ⟨he, rfl⟩; rw [← h.out.eH, ← h.out.eL] at he; subst he)
  exact bodyPost_ret (by simp [results, Tryd.results132, go_sem]) rfl ⟨rfl, (Kp.refl _ _ _).alloc (Nat.le_refl _) _⟩
set_option maxHeartbeats 400000 in
theorem span_product_any (a b c H L q r u : Nat) (h : Hid (Words a b c H L q r u)) (w : World) :
    Calls Tryd.prog 125 #[.int .i64 a, .int .i64 b] w fun e w' => e = .returned (.agg #[.int .u64 H, .int .u64 L, .bool false]) ∧ Kp w.heap.size none w w' := by
  have a1 : ¬ (a : Int) < 0 := by omega
  have a2 : ¬ (b : Int) < 0 := by omega
  have a3 : decide ((a : Int) < 0) = false := by simp
  have a4 : decide ((b : Int) < 0) = false := by simp
  have hB := Blk.new w 161 #[.int .u64 0, .int .u64 0, .bool false]
  have K := (Kp.refl w.heap.size none w).alloc (Nat.le_refl _) (.cells #[.int .u64 0, .int .u64 0, .bool false] 161)
  go_enter Tryd.func125, Tryd.ntmps125
  go_wp2_with fail
  refine (span_size_any a h.out.al _).mono ?_
  rintro e w1 ⟨rfl, k1⟩
  replace hB := hB.kp k1 hB.lt (by simp)
  replace K := K.then_ k1 (by simp)
  go_wp2_with fail
  refine (span_size_any b h.out.bl _).mono ?_
  rintro e w2 ⟨rfl, k2⟩
  replace hB := hB.kp k2 hB.lt (by simp)
  replace K := K.then_ k2 (by have := hB.lt; omega)
  go_wp2_with fail
  refine (span_times_any a b c H L q r u h _).mono ?_
  rintro e w3 ⟨rfl, k3⟩
  replace hB := hB.kp k3 hB.lt (by simp)
  replace K := K.then_ k3 (by have := hB.lt; omega)
  have cc := fun i => hB.cell i
  have f := fun i => hB.frozen i
  go_wp2_with fail
  have hB' := ((hB.set_ 0 (.int .u64 H)).set_ 1 (.int .u64 L)).set_ 2 (.bool false)
  have cc' := fun i => hB'.cell i
  exact bodyPost_ret (by simp [results, Tryd.results125, go_sem, cc']) rfl ⟨rfl, ((K.setNew (Nat.le_refl _) _).setNew (Nat.le_refl _) _).setNew (Nat.le_refl _) _⟩
set_option maxHeartbeats 400000 in
theorem span_divide_any (a b c H L q r u : Nat) (h : Hid (Words a b c H L q r u)) (w : World) :
    Calls Tryd.prog 126 #[.agg #[.int .u64 H, .int .u64 L, .bool false], .int .i64 c] w fun e w' => e = .returned (.tuple #[.int .i64 q, .int .i64 u, .int .i64 0]) ∧ Kp w.heap.size none w w' := by
  have a1 : ¬ (c : Int) < 0 := by omega
  have a3 : decide ((c : Int) < 0) = false := by simp
  have hB := Blk.new w 161 #[.int .u64 H, .int .u64 L, .bool false]
  have K := (Kp.refl w.heap.size none w).alloc (Nat.le_refl _) (.cells #[.int .u64 H, .int .u64 L, .bool false] 161)
  have a2 : ¬ (c : Int) ≤ (H : Int) := by have := h.out.Hc; omega
  go_enter Tryd.func126, Tryd.ntmps126
  go_wp2_with fail
  refine (span_size_any c h.out.cl _).mono ?_
  rintro e w1 ⟨rfl, k1⟩
  replace hB := hB.kp k1 hB.lt (by simp)
  replace K := K.then_ k1 (by simp)
  have cc := fun i => hB.cell i
  go_wp2_with fail
  refine (div64_any H L c _ h.out.Hc h.out.Ll (by have := h.out.cl; omega)).mono ?_
  rintro e w2 ⟨he, k2⟩
  rw [← h.out.eq, ← h.out.er] at he
  subst he
  replace hB := hB.kp k2 hB.lt (by simp)
  replace K := K.then_ k2 (by have := hB.lt; omega)
  have cc := fun i => hB.cell i
  have d1 : ¬ (1152921504606846976 : Int) < (q : Int) := by have := h.out.ql; omega
  have d4 : wrap64 (q : Int) = (q : Int) := by have := h.out.ql; unfold wrap64; omega
  have d5 : wrap64 (u : Int) = (u : Int) := by have := h.out.ql; have := h.out.eu; unfold wrap64; split at this <;> omega
  have d6 : ¬ (1152921504606846976 : Int) < (u : Int) := by have := h.out.ql; have := h.out.eu; split at this <;> omega
  by_cases hr : 0 < r
  · have hr' : (0 : Int) < (r : Int) := by omega
    have d7 : IntKind.u64.wrap ((q : Int) + 1) = (u : Int) := by have := h.out.ql; have := h.out.eu; rw [if_pos hr] at this; rw [wrapu]; omega
    go_wp2_with fail
    exact bodyPost_ret (by simp [results, Tryd.results126, go_sem]) rfl ⟨rfl, K⟩
  · have hr' : ¬ (0 : Int) < (r : Int) := by omega
    have d7 : u = q := by have := h.out.eu; rw [if_neg hr] at this; exact this
    subst d7
    go_wp2_with fail
    exact bodyPost_ret (by simp [results, Tryd.results126, go_sem]) rfl ⟨rfl, K⟩
set_option maxHeartbeats 400000 in
theorem span_MulDiv_any (a b c H L q r u : Nat) (h : Hid (Words a b c H L q r u)) (ha : a ≤ 1152921504606846976) (hb : b ≤ 1152921504606846976) (hc : c ≤ 1152921504606846976) (w : World) :
    Calls Tryd.prog 119 #[.int .i64 a, .int .i64 b, .int .i64 c] w fun e w' => e = .returned (.tuple #[.int .i64 q, .int .i64 u, .int .i64 0]) ∧ Kp w.heap.size none w w' := by
  have b1 : btw (a : Int) (-1152921504606846976) 1152921504606846976 = true := by simp [btw]; omega
  have b2 : btw (b : Int) (-1152921504606846976) 1152921504606846976 = true := by simp [btw]; omega
  have b3 : btw (c : Int) (-1152921504606846976) 1152921504606846976 = true := by simp [btw]; omega
  have c0 : ((c : Int) == 0) = false := by have := h.out.c0; rw [beq_eq_false_iff_ne]; omega
  have K := Kp.refl w.heap.size none w
  go_enter Tryd.func119, Tryd.ntmps119
  go_wp2_with fail
  refine (span_fits_any _ _).mono ?_
  rintro e w1 ⟨rfl, k1⟩
  replace K := K.then_ k1 (by have := K.size; omega)
  go_wp2_with fail
  refine (span_fits_any _ _).mono ?_
  rintro e w2 ⟨rfl, k2⟩
  replace K := K.then_ k2 (by have := K.size; omega)
  go_wp2_with fail
  refine (span_fits_any _ _).mono ?_
  rintro e w3 ⟨rfl, k3⟩
  replace K := K.then_ k3 (by have := K.size; omega)
  go_wp2_with fail
  refine (span_product_any a b c H L q r u h _).mono ?_
  rintro e w4 ⟨rfl, k4⟩
  replace K := K.then_ k4 (by have := K.size; omega)
  go_wp2_with fail
  refine (span_divide_any a b c H L q r u h _).mono ?_
  rintro e w5 ⟨rfl, k5⟩
  replace K := K.then_ k5 (by have := K.size; omega)
  go_wp2_with fail
  exact bodyPost_ret (by simp [results, Tryd.results119, go_sem]) rfl ⟨rfl, K⟩

set_option maxHeartbeats 400000 in
theorem ref_wideOf_any (a b c H L q r u : Nat) (h : Hid (Words a b c H L q r u)) (w : World) :
    Calls Tryd.prog 122 #[.int .i64 a, .int .i64 b] w fun e w' => e = .returned (.agg #[.bool false, .int .u64 H, .int .u64 L]) ∧ Kp w.heap.size none w w' := by
  have a1 : ¬ (a : Int) < 0 := by omega
  have a2 : ¬ (b : Int) < 0 := by omega
  have a3 : decide ((a : Int) < 0) = false := by simp
  have a4 : decide ((b : Int) < 0) = false := by simp
  have hB := Blk.new w 155 #[.bool false, .int .u64 0, .int .u64 0]
  have K := (Kp.refl w.heap.size none w).alloc (Nat.le_refl _) (.cells #[.bool false, .int .u64 0, .int .u64 0] 155)
  go_enter Tryd.func122, Tryd.ntmps122
  go_wp2_with fail
  refine (bolideref01_size_any a h.out.al _).mono ?_
  rintro e w1 ⟨rfl, k1⟩
  replace hB := hB.kp k1 hB.lt (by simp)
  replace K := K.then_ k1 (by simp)
  go_wp2_with fail
  refine (bolideref01_size_any b h.out.bl _).mono ?_
  rintro e w2 ⟨rfl, k2⟩
  replace hB := hB.kp k2 hB.lt (by simp)
  replace K := K.then_ k2 (by have := hB.lt; omega)
  have cc := fun i => hB.cell i
  have f := fun i => hB.frozen i
  go_wp2_with (go_at_call 128; refine (Tryd.bits_Mul64 a b (by have := h.out.al; omega) (by have := h.out.bl; omega) _).mono ?_; rintro e w1 ⟨he, rfl⟩; rw [← h.out.eH, ← h.out.eL] at he; subst he)
  have hB' := ((hB.set_ 0 (.bool false)).set_ 1 (.int .u64 H)).set_ 2 (.int .u64 L)
  have cc' := fun i => hB'.cell i
  exact bodyPost_ret (by simp [results, Tryd.results122, go_sem, cc']) rfl ⟨rfl, ((K.setNew (Nat.le_refl _) _).setNew (Nat.le_refl _) _).setNew (Nat.le_refl _) _⟩
set_option maxHeartbeats 400000 in
theorem ref_quotient_any (a b c H L q r u : Nat) (h : Hid (Words a b c H L q r u)) (w : World) :
    Calls Tryd.prog 123 #[.agg #[.bool false, .int .u64 H, .int .u64 L], .int .i64 c] w fun e w' => e = .returned (.tuple #[.int .i64 q, .int .i64 u, .bool true]) ∧ Kp w.heap.size none w w' := by
  have a1 : ¬ (c : Int) < 0 := by omega
  have a3 : decide ((c : Int) < 0) = false := by simp
  have hB := Blk.new w 155 #[.bool false, .int .u64 H, .int .u64 L]
  have K := (Kp.refl w.heap.size none w).alloc (Nat.le_refl _) (.cells #[.bool false, .int .u64 H, .int .u64 L] 155)
  have a2 : ¬ (c : Int) ≤ (H : Int) := by have := h.out.Hc; omega
  go_enter Tryd.func123, Tryd.ntmps123
  go_wp2_with fail
  refine (bolideref01_size_any c h.out.cl _).mono ?_
  rintro e w1 ⟨rfl, k1⟩
  replace hB := hB.kp k1 hB.lt (by simp)
  replace K := K.then_ k1 (by simp)
  have cc := fun i => hB.cell i
  go_wp2_with fail
  refine (div64_any H L c _ h.out.Hc h.out.Ll (by have := h.out.cl; omega)).mono ?_
  rintro e w2 ⟨he, k2⟩
  rw [← h.out.eq, ← h.out.er] at he
  subst he
  replace hB := hB.kp k2 hB.lt (by simp)
  replace K := K.then_ k2 (by have := hB.lt; omega)
  have cc := fun i => hB.cell i
  have d0 : ((q : Int) == 1152921504606846976) = false := by have := h.out.ql; rw [beq_eq_false_iff_ne]; omega
  have d1 : ¬ (1152921504606846976 : Int) < (q : Int) := by have := h.out.ql; omega
  have d4 : wrap64 (q : Int) = (q : Int) := by have := h.out.ql; unfold wrap64; omega
  have d5 : wrap64 (u : Int) = (u : Int) := by have := h.out.ql; have := h.out.eu; unfold wrap64; split at this <;> omega
  have dd : (q : Int) ≠ 1152921504606846976 := by have := h.out.ql; omega
  by_cases hr : 0 < r
  · have hr' : (0 : Int) < (r : Int) := by omega
    have d7 : wrap64 ((q : Int) + 1) = (u : Int) := by have := h.out.ql; have := h.out.eu; rw [if_pos hr] at this; unfold wrap64; omega
    have d8 : (q : Int) + 1 = (u : Int) := by have := h.out.eu; rw [if_pos hr] at this; omega
    replace d8 := Lib.hid d8
    go_wp2_with fail
    exact bodyPost_ret (by simp [results, Tryd.results123, go_sem, d8.out]) rfl ⟨rfl, K⟩
  · have hr' : ¬ (0 : Int) < (r : Int) := by omega
    have d7 : u = q := by have := h.out.eu; rw [if_neg hr] at this; exact this
    subst d7
    go_wp2_with fail
    exact bodyPost_ret (by simp [results, Tryd.results123, go_sem]) rfl ⟨rfl, K⟩
set_option maxHeartbeats 400000 in
theorem ref_MulDiv_any (a b c H L q r u : Nat) (h : Hid (Words a b c H L q r u)) (ha : a ≤ 1152921504606846976) (hb : b ≤ 1152921504606846976) (hc : c ≤ 1152921504606846976) (w : World) :
    Calls Tryd.prog 114 #[.int .i64 a, .int .i64 b, .int .i64 c] w fun e w' => e = .returned (.tuple #[.int .i64 q, .int .i64 u, .int .i64 0]) ∧ Kp w.heap.size none w w' := by
  have b1 : btw (a : Int) (-1152921504606846976) 1152921504606846976 = true := by simp [btw]; omega
  have b2 : btw (b : Int) (-1152921504606846976) 1152921504606846976 = true := by simp [btw]; omega
  have b3 : btw (c : Int) (-1152921504606846976) 1152921504606846976 = true := by simp [btw]; omega
  have c0 : ((c : Int) == 0) = false := by have := h.out.c0; rw [beq_eq_false_iff_ne]; omega
  have K := Kp.refl w.heap.size none w
  go_enter Tryd.func114, Tryd.ntmps114
  go_wp2_with fail
  refine (bolideref01_fits_any _ _).mono ?_
  rintro e w1 ⟨rfl, k1⟩
  replace K := K.then_ k1 (by have := K.size; omega)
  go_wp2_with fail
  refine (bolideref01_fits_any _ _).mono ?_
  rintro e w2 ⟨rfl, k2⟩
  replace K := K.then_ k2 (by have := K.size; omega)
  go_wp2_with fail
  refine (bolideref01_fits_any _ _).mono ?_
  rintro e w3 ⟨rfl, k3⟩
  replace K := K.then_ k3 (by have := K.size; omega)
  go_wp2_with fail
  refine (ref_wideOf_any a b c H L q r u h _).mono ?_
  rintro e w4 ⟨rfl, k4⟩
  replace K := K.then_ k4 (by have := K.size; omega)
  go_wp2_with fail
  refine (ref_quotient_any a b c H L q r u h _).mono ?_
  rintro e w5 ⟨rfl, k5⟩
  replace K := K.then_ k5 (by have := K.size; omega)
  go_wp2_with fail
  exact bodyPost_ret (by simp [results, Tryd.results114, go_sem]) rfl ⟨rfl, K⟩

end Go.Proofs.YtdiigflbohbndaaDoor
