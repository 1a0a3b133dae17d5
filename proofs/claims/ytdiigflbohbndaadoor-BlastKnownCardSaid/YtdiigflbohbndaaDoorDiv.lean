import Derived.Test.YtdiigflbohbndaaDoorBits
import Derived.Test.YtdiigflbohbndaaDoorMem
import Derived.Laws.BitsAllLaws
import Derived.Lib.ItoaNum
namespace Go.Proofs.YtdiigflbohbndaaDoor
open Go.RowKit
theorem wrapu (x : Int) : IntKind.u64.wrap x = x % 18446744073709551616 := by simp [IntKind.wrap, IntKind.bits, IntKind.signed]
/-- The numbers of a long division of two words by one, after its shift. -/
structure Norm (hi lo y s v a b u c d : Nat) : Prop where
  hs : s ≤ 63
  hv : v = y * 2 ^ s
  vl : v < 18446744073709551616
  va : v = a * 4294967296 + b
  al : 2147483648 ≤ a
  ah : a < 4294967296
  bl : b < 4294967296
  ul : u < v
  cl : c < 4294967296
  dl : d < 4294967296
  tot : u * 18446744073709551616 + (c * 4294967296 + d) = (hi * 18446744073709551616 + lo) * 2 ^ s

theorem tot_aux (A B C : Nat) (h : 18446744073709551616 * C + A % 18446744073709551616 = A) : B * 18446744073709551616 + C * 18446744073709551616 + A % 18446744073709551616 = B * 18446744073709551616 + A := by omega
theorem norm_shift (hi lo y s : Nat) (hs : s ≤ 63) (hh : hi < y) (hlo : lo < 18446744073709551616) (hy : y * 2 ^ s < 18446744073709551616) (hy2 : 9223372036854775808 ≤ y * 2 ^ s) :
    let v := y * 2 ^ s
    let t := lo * 2 ^ s % 18446744073709551616
    Norm hi lo y s v (v / 4294967296) (v % 4294967296) ((hi * 2 ^ s) ||| (lo / 2 ^ (64 - s))) (t / 4294967296) (t % 4294967296)
      ∧ ((hi * 2 ^ s) ||| (lo / 2 ^ (64 - s))) = hi * 2 ^ s + lo / 2 ^ (64 - s) := by
  intro v t
  have e1 : 2 ^ (64 - s) * 2 ^ s = 18446744073709551616 := by rw [← Nat.pow_add]; rw [show 64 - s + s = 64 by omega]
  have hp : 0 < 2 ^ s := Nat.two_pow_pos s
  have hq : 0 < 2 ^ (64 - s) := Nat.two_pow_pos _
  have hl : lo / 2 ^ (64 - s) < 2 ^ s := by rw [Nat.div_lt_iff_lt_mul hq, Nat.mul_comm, e1]; exact hlo
  have hor : ((hi * 2 ^ s) ||| (lo / 2 ^ (64 - s))) = hi * 2 ^ s + lo / 2 ^ (64 - s) := by
    rw [Nat.mul_comm hi]; exact (Nat.two_pow_add_eq_or_of_lt hl hi).symm
  have hd : lo * 2 ^ s / 18446744073709551616 = lo / 2 ^ (64 - s) := by rw [← e1]; exact Nat.mul_div_mul_right _ _ hp
  have hdm := Nat.div_add_mod (lo * 2 ^ s) 18446744073709551616
  rw [hd] at hdm
  have hup : (hi + 1) * 2 ^ s ≤ y * 2 ^ s := Nat.mul_le_mul_right _ hh
  rw [Nat.add_mul, Nat.one_mul] at hup
  refine ⟨⟨hs, rfl, hy, ?_, ?_, ?_, ?_, ?_, ?_, ?_, ?_⟩, hor⟩
  · show v = v / 4294967296 * 4294967296 + v % 4294967296; omega
  · show 2147483648 ≤ v / 4294967296; omega
  · show v / 4294967296 < 4294967296; omega
  · exact Nat.mod_lt _ (by decide)
  · rw [hor]; show _ < y * 2 ^ s; omega
  · have : t < 18446744073709551616 := Nat.mod_lt _ (by decide); omega
  · exact Nat.mod_lt _ (by decide)
  · rw [hor, Nat.add_mul, Nat.add_mul, Nat.mul_right_comm hi]
    have ht : t / 4294967296 * 4294967296 + t % 4294967296 = lo * 2 ^ s % 18446744073709551616 := by show _ = t; omega
    rw [ht, Nat.mul_right_comm hi 18446744073709551616]
    exact tot_aux _ _ _ hdm

/-- One guess of a digit: `q` is at least the digit and at most the word's base and one. -/
structure Guess (v a b u c q r : Nat) : Prop where
  eq : q * a + r = u
  lo : (u * 4294967296 + c) / v ≤ q
  hi : q ≤ 4294967297
  rl : r < 4294967296

theorem guess_start {v a b u c : Nat} (va : v = a * 4294967296 + b) (al : 2147483648 ≤ a) (ah : a < 4294967296) (bl : b < 4294967296) (ul : u < v) (cl : c < 4294967296) :
    Guess v a b u c (u / a) (u - u / a * a) := by
  have h0 : 0 < a := by omega
  have e := Nat.div_add_mod u a
  have hm := Nat.mod_lt u h0
  rw [Nat.mul_comm] at e
  refine ⟨by omega, ?_, ?_, by omega⟩
  · apply Nat.le_of_lt_succ
    rw [Nat.div_lt_iff_lt_mul (by omega), va]
    have hu : u + 1 ≤ (u / a + 1) * a := by rw [Nat.add_mul]; omega
    have := Nat.mul_le_mul_right 4294967296 hu
    have h2 : (u / a + 1) * (a * 4294967296 + b) = (u / a + 1) * a * 4294967296 + (u / a + 1) * b := by rw [Nat.mul_add, Nat.mul_assoc]
    show _ < (u / a + 1) * _
    rw [h2]
    omega
  · apply Nat.le_of_lt_succ
    rw [Nat.div_lt_iff_lt_mul h0]
    omega

theorem guess_more {v a b u c q r : Nat} (va : v = a * 4294967296 + b) (ul : u < v) (cl : c < 4294967296) (g : Guess v a b u c q r)
    (ht : 4294967296 ≤ q ∨ 4294967296 * r + c < q * b) : 0 < q ∧ (u * 4294967296 + c) / v ≤ q - 1 := by
  have h0 : 0 < q := by
    rcases ht with h | h
    · omega
    · rcases Nat.eq_zero_or_pos q with rfl | h'
      · omega
      · exact h'
  refine ⟨h0, ?_⟩
  have : (u * 4294967296 + c) / v < q := by
    rw [Nat.div_lt_iff_lt_mul (by omega), va]
    have h2 : q * (a * 4294967296 + b) = q * a * 4294967296 + q * b := by rw [Nat.mul_add, Nat.mul_assoc]
    have ge := g.eq
    rcases ht with h | h
    · have h3 := Nat.mul_le_mul_right v h
      rw [← va]; omega
    · rw [h2, ← g.eq]; omega
  omega

theorem guess_done {v a b u c q r : Nat} (va : v = a * 4294967296 + b) (al : 2147483648 ≤ a) (g : Guess v a b u c q r)
    (h2 : q * b ≤ 4294967296 * r + c) : q = (u * 4294967296 + c) / v := by
  apply Nat.le_antisymm _ g.lo
  rw [Nat.le_div_iff_mul_le (by omega), va]
  have e : q * (a * 4294967296 + b) = q * a * 4294967296 + q * b := by rw [Nat.mul_add, Nat.mul_assoc]
  rw [e, ← g.eq]; omega

theorem guess_step {q a r u : Nat} (h : q * a + r = u) (h0 : 0 < q) : (q - 1) * a + (r + a) = u := by
  obtain ⟨k, rfl⟩ : ∃ k, q = k + 1 := ⟨q - 1, by omega⟩
  rw [Nat.add_mul, Nat.one_mul] at h
  rw [Nat.add_sub_cancel]; omega
theorem un_rest {u c v Q R : Nat} (hQ : Q = (u * 4294967296 + c) / v) (hR : R = (u * 4294967296 + c) % v) (h0 : 0 < v) (vl : v < 18446744073709551616) :
    R < v ∧ v * Q + R = u * 4294967296 + c ∧ IntKind.u64.wrap (IntKind.u64.wrap (IntKind.u64.wrap ((u : Int) * 4294967296) + (c : Int)) - IntKind.u64.wrap ((Q : Int) * (v : Int))) = (R : Int) := by
  have h1 : R < v := by rw [hR]; exact Nat.mod_lt _ h0
  have h2 : v * Q + R = u * 4294967296 + c := by rw [hQ, hR]; exact Nat.div_add_mod _ _
  refine ⟨h1, h2, ?_⟩
  have h3 : ((v * Q : Nat) : Int) = (Q : Int) * (v : Int) := by push_cast; rw [Int.mul_comm]
  rw [← h3]
  generalize v * Q = A at h2
  simp only [wrapu]
  omega
theorem guess_break {v a b u c q r : Nat} (va : v = a * 4294967296 + b) (al : 2147483648 ≤ a) (bl : b < 4294967296) (he : q * a + r = u) (hlo : (u * 4294967296 + c) / v ≤ q) (hq : q ≤ 4294967296)
    (hr : 4294967296 ≤ r) : q = (u * 4294967296 + c) / v := by
  apply Nat.le_antisymm _ hlo
  rw [Nat.le_div_iff_mul_le (by omega), va]
  have e : q * (a * 4294967296 + b) = q * a * 4294967296 + q * b := by rw [Nat.mul_add, Nat.mul_assoc]
  have e2 : q * b ≤ 4294967296 * 4294967295 := Nat.mul_le_mul hq (by omega)
  rw [e, ← he]; omega

theorem digit_lt {v u c : Nat} (h0 : 0 < v) (ul : u < v) (cl : c < 4294967296) : (u * 4294967296 + c) / v < 4294967296 := by
  rw [Nat.div_lt_iff_lt_mul h0]
  have := Nat.mul_le_mul_right 4294967296 (show u + 1 ≤ v from ul)
  rw [Nat.mul_comm 4294967296]; omega

theorem key_aux (u c d r1 r0 A B : Nat) (d1 : A + r1 = u * 4294967296 + c) (d0 : B + r0 = r1 * 4294967296 + d) :
    u * 18446744073709551616 + (c * 4294967296 + d) = A * 4294967296 + B + r0 := by omega
/-- Two digits make the quotient, and the last rest is the remainder, shifted. -/
theorem digits (N y s v u c d q1 r1 q0 r0 : Nat) (hvy : v = y * 2 ^ s) (hy : 0 < v) (tot : u * 18446744073709551616 + (c * 4294967296 + d) = N * 2 ^ s)
    (d1 : v * q1 + r1 = u * 4294967296 + c) (d0 : v * q0 + r0 = r1 * 4294967296 + d) (hr : r0 < v) :
    q1 * 4294967296 + q0 = N / y ∧ r0 / 2 ^ s = N % y := by
  have hp : 0 < 2 ^ s := Nat.two_pow_pos s
  have key : N * 2 ^ s = v * (q1 * 4294967296 + q0) + r0 := by
    rw [← tot, Nat.mul_add, ← Nat.mul_assoc]
    exact key_aux _ _ _ _ _ _ _ d1 d0
  have hq : N / y = q1 * 4294967296 + q0 := by
    rw [← Nat.mul_div_mul_right _ y hp, key, ← hvy, Nat.mul_add_div hy, Nat.div_eq_of_lt hr, Nat.add_zero]
  refine ⟨hq.symm, ?_⟩
  have hm : N % y * 2 ^ s = r0 := by
    rw [← Nat.mul_mod_mul_right, key, ← hvy, Nat.mul_add_mod, Nat.mod_eq_of_lt hr]
  rw [← hm, Nat.mul_div_cancel _ hp]

theorem norm_of (y : Nat) (hy0 : 0 < y) (hy : y < 18446744073709551616) : ∃ s : Nat, s ≤ 63 ∧ 64 - (Lib.bitLen y : Int) = s ∧ y * 2 ^ s < 18446744073709551616 ∧ 9223372036854775808 ≤ y * 2 ^ s := by
  obtain ⟨h1, h2, h3⟩ := Go.Lib.bitLenAux_bounds 64 y (by simpa using hy) (by omega)
  have h4 : Lib.bitLen y ≤ 64 := Lib.bitLen_le y 64 (by omega) (by simpa using hy)
  have h1' : 1 ≤ Lib.bitLen y := h1
  have h2' : 2 ^ (Lib.bitLen y - 1) ≤ y := h2
  have h3' : y < 2 ^ Lib.bitLen y := h3
  refine ⟨64 - Lib.bitLen y, by omega, by omega, ?_, ?_⟩
  · have := Nat.mul_lt_mul_of_pos_right h3' (Nat.two_pow_pos (64 - Lib.bitLen y))
    rw [← Nat.pow_add, show Lib.bitLen y + (64 - Lib.bitLen y) = 64 by omega] at this
    exact this
  · have := Nat.mul_le_mul_right (2 ^ (64 - Lib.bitLen y)) h2'
    rw [← Nat.pow_add, show Lib.bitLen y - 1 + (64 - Lib.bitLen y) = 63 by omega] at this
    exact this
end Go.Proofs.YtdiigflbohbndaaDoor
