/- Square roots, in the program and in the reference. -/
import Derived.Test.YtdiigflbohbndaaDoorSpan
import Derived.LoopTactic
namespace Go.Proofs.YtdiigflbohbndaaDoor
open Go.RowKit

structure RootSt (n j out bit : Nat) : Prop where
  jl : j ≤ 32
  bt : bit = 2 ^ j / 2
  mul : ∃ m, out = 2 ^ j * m
  lo : out * out ≤ n
  hi : n < (out + 2 ^ j) * (out + 2 ^ j)
  top : out + 2 ^ j ≤ 4294967296

theorem RootSt.start {n : Nat} (h : n < 18446744073709551616) : RootSt n 32 0 2147483648 :=
  ⟨Nat.le_refl _, rfl, ⟨0, rfl⟩, Nat.zero_le _, by rw [Nat.zero_add]; exact h, by decide⟩
theorem RootSt.step {n j out bit : Nat} (h : RootSt n j out bit) (hb : 0 < bit) :
    out ||| bit = out + bit ∧ out + bit < 4294967296 ∧ ((out + bit) * (out + bit) ≤ n → RootSt n (j - 1) (out + bit) (bit / 2)) ∧ (n < (out + bit) * (out + bit) → RootSt n (j - 1) out (bit / 2)) := by
  obtain ⟨h1, h2, ⟨m, h3⟩, h4, h5, h6⟩ := h
  cases j with
  | zero => simp at h2; omega
  | succ i =>
    have e : 2 ^ (i + 1) = 2 * 2 ^ i := by rw [Nat.pow_succ, Nat.mul_comm]
    have hp := Nat.two_pow_pos i
    have hbit : bit = 2 ^ i := by rw [h2, e]; omega
    refine ⟨?_, by omega, fun hx => ⟨by omega, by rw [hbit]; rfl, ⟨2 * m + 1, ?_⟩, hx, ?_, ?_⟩, fun hx => ⟨by omega, by rw [hbit]; rfl, ⟨2 * m, ?_⟩, h4, ?_, ?_⟩⟩
    · rw [h3]; exact (Nat.two_pow_add_eq_or_of_lt (by rw [hbit, e]; omega) m).symm
    · rw [h3, hbit, e, Nat.add_sub_cancel, Nat.mul_add, Nat.mul_one, Nat.mul_comm 2 (2 ^ i), Nat.mul_assoc]
    · rw [Nat.add_sub_cancel, ← hbit, Nat.add_assoc, ← Nat.two_mul, hbit, ← e]; exact h5
    · rw [Nat.add_sub_cancel, hbit]; omega
    · rw [h3, e, Nat.add_sub_cancel, Nat.mul_comm 2 (2 ^ i), Nat.mul_assoc]
    · rw [Nat.add_sub_cancel, ← hbit]; exact hx
    · rw [Nat.add_sub_cancel]; omega
theorem RootSt.done {n j out bit : Nat} (h : RootSt n j out bit) (hb : bit = 0) : out * out ≤ n ∧ n < (out + 1) * (out + 1) := by
  obtain ⟨h1, h2, _, h4, h5, h6⟩ := h
  cases j with
  | zero => exact ⟨h4, h5⟩
  | succ i =>
    have e : 2 ^ (i + 1) = 2 * 2 ^ i := by rw [Nat.pow_succ, Nat.mul_comm]
    have hp := Nat.two_pow_pos i
    omega
theorem root_one {n a b : Nat} (h1 : a * a ≤ n) (h2 : n < (a + 1) * (a + 1)) (h3 : b * b ≤ n) (h4 : n < (b + 1) * (b + 1)) : a = b := by
  rcases Nat.lt_trichotomy a b with h | h | h
  · have := Nat.mul_le_mul (show a + 1 ≤ b from h) (show a + 1 ≤ b from h); omega
  · exact h
  · have := Nat.mul_le_mul (show b + 1 ≤ a from h) (show b + 1 ≤ a from h); omega
def RootAt (n : Nat) (k : IntKind) (w : World) (vo vb : Value) (wr : World) : Prop := ∃ j out bit : Nat, vo = .int k out ∧ vb = .int k bit ∧ RootSt n j out bit ∧ Kp w.heap.size none w wr
def IsRoot (n r : Nat) : Prop := r * r ≤ n ∧ n < (r + 1) * (r + 1)

set_option maxHeartbeats 400000 in
theorem span_root_any (n : Nat) (hn : n < 9223372036854775808) (w : World) :
    Calls Tryd.prog 111 #[.int .u64 n] w fun e w' => (∃ r : Nat, e = .returned (.int .u64 r) ∧ IsRoot n r) ∧ Kp w.heap.size none w w' := by
  go_enter Tryd.func111, Tryd.ntmps111
  go_wp2_with fail
  go_loopw [3, 4] (fun vo vb wr => RootAt n .u64 w vo vb wr) (fun _ vb _ => (intOf vb).toNat)
  case atStart => exact ⟨32, 0, 2147483648, rfl, rfl, RootSt.start (by omega), Kp.refl _ _ _⟩
  case round =>
    obtain ⟨j, out, bit, rfl, rfl, st, KK⟩ := hrel
    by_cases hb : 0 < bit
    · obtain ⟨s1, s2, s3, s4⟩ := st.step hb
      obtain ⟨x, hx⟩ : ∃ x, x = out + bit := ⟨_, rfl⟩
      obtain ⟨y, hy⟩ : ∃ y, y = x * x := ⟨_, rfl⟩
      obtain ⟨b2, hb2⟩ : ∃ b2, b2 = bit / 2 := ⟨_, rfl⟩
      have hb' : (0 : Int) < (bit : Int) := by omega
      have eor : bits .or .u64 (out : Int) (bit : Int) = (x : Int) := by rw [u64_or_nat _ _ (by omega) (by omega), s1, hx]
      rw [← hx, ← hy, ← hb2] at s3 s4
      rw [← hx] at s2
      have emul : IntKind.u64.wrap ((x : Int) * (x : Int)) = (y : Int) := by
        have h5 : x * x ≤ 4294967295 * 4294967295 := Nat.mul_le_mul (by omega) (by omega)
        have h6 : (y : Int) = (x : Int) * (x : Int) := by rw [hy]; push_cast; rfl
        rw [← h6, wrapu]; omega
      have eb : (bit : Int) / 2 = (b2 : Int) := by omega
      have hlt : b2 < bit := by omega
      replace st := Lib.hid st
      by_cases hyn : y ≤ n
      · have hyi : (y : Int) ≤ (n : Int) := by omega
        have st' := Lib.hid (s3 hyn)
        replace hlt := Lib.hid hlt
        clear s1 s2 s3 s4 hx hy hb2 hb hyn
        go_wp2
        go_roundw
        case rel => exact ⟨j - 1, x, b2, rfl, rfl, st'.out, KK⟩
        case measure => exact (show (b2 : Int).toNat < (bit : Int).toNat by have := hlt.out; omega)
      · have hyi : ¬ (y : Int) ≤ (n : Int) := by omega
        have st' := Lib.hid (s4 (by omega))
        replace hlt := Lib.hid hlt
        clear s1 s2 s3 s4 hx hy hb2 hb hyn
        go_wp2
        go_roundw
        case rel => exact ⟨j - 1, out, b2, rfl, rfl, st'.out, KK⟩
        case measure => exact (show (b2 : Int).toNat < (bit : Int).toNat by have := hlt.out; omega)
    · have hb' : ¬ (0 : Int) < (bit : Int) := by omega
      have hd := Lib.hid (st.done (by omega))
      clear hb
      go_wp2
      exact bodyPost_ret (by simp [results, Tryd.results111, go_sem]) rfl ⟨⟨out, rfl, hd.out⟩, KK⟩
set_option maxHeartbeats 400000 in
theorem ref_Root_any (n : Nat) (hn : n < 9223372036854775808) (w : World) :
    Calls Tryd.prog 97 #[.int .i64 n] w fun e w' => (∃ r : Nat, e = .returned (.int .i64 r) ∧ IsRoot n r) ∧ Kp w.heap.size none w w' := by
  go_enter Tryd.func97, Tryd.ntmps97
  go_wp2_with fail
  go_loopw [3, 4] (fun vo vb wr => RootAt n .i64 w vo vb wr) (fun _ vb _ => (intOf vb).toNat)
  case atStart => exact ⟨32, 0, 2147483648, rfl, rfl, RootSt.start (by omega), Kp.refl _ _ _⟩
  case round =>
    obtain ⟨j, out, bit, rfl, rfl, st, KK⟩ := hrel
    by_cases hb : 0 < bit
    · obtain ⟨s1, s2, s3, s4⟩ := st.step hb
      obtain ⟨x, hx⟩ : ∃ x, x = out + bit := ⟨_, rfl⟩
      obtain ⟨y, hy⟩ : ∃ y, y = x * x := ⟨_, rfl⟩
      obtain ⟨b2, hb2⟩ : ∃ b2, b2 = bit / 2 := ⟨_, rfl⟩
      have hb' : (0 : Int) < (bit : Int) := by omega
      have eadd : wrap64 ((out : Int) + (bit : Int)) = (x : Int) := by unfold wrap64; omega
      rw [← hx, ← hy, ← hb2] at s3 s4
      rw [← hx] at s2
      have h6 : (y : Int) = (x : Int) * (x : Int) := by rw [hy]; push_cast; rfl
      have eb : (bit : Int) / 2 = (b2 : Int) := by omega
      have eb2 : Int.tdiv (bit : Int) 2 = (b2 : Int) := by rw [hb2]; rfl
      have hlt : b2 < bit := by omega
      have ew := Lib.hid (show wrap64 (b2 : Int) = (b2 : Int) by unfold wrap64; omega)
      replace st := Lib.hid st
      by_cases hx5 : x ≤ 3037000499
      · have hx5' : (x : Int) ≤ 3037000499 := by omega
        have emul : wrap64 ((x : Int) * (x : Int)) = (y : Int) := by
          have h5 : x * x ≤ 3037000499 * 3037000499 := Nat.mul_le_mul (by omega) (by omega)
          rw [← h6]; unfold wrap64; omega
        replace emul := Lib.hid emul
        by_cases hyn : y ≤ n
        · have hyi : (y : Int) ≤ (n : Int) := by omega
          have st' := Lib.hid (s3 hyn)
          replace hlt := Lib.hid hlt
          clear s1 s2 s3 s4 hx hy hb2 hb hyn h6 hx5
          replace emul := emul.out
          go_wp2
          go_roundw
          case rel => exact ⟨j - 1, x, b2, by rw [eadd], by rw [ew.out], st'.out, KK⟩
          case measure => rw [ew.out]; exact (show (b2 : Int).toNat < (bit : Int).toNat by have := hlt.out; omega)
        · have hyi : ¬ (y : Int) ≤ (n : Int) := by omega
          have st' := Lib.hid (s4 (by omega))
          replace hlt := Lib.hid hlt
          clear s1 s2 s3 s4 hx hy hb2 hb hyn h6 hx5
          replace emul := emul.out
          go_wp2
          go_roundw
          case rel => exact ⟨j - 1, out, b2, rfl, by rw [ew.out], st'.out, KK⟩
          case measure => rw [ew.out]; exact (show (b2 : Int).toNat < (bit : Int).toNat by have := hlt.out; omega)
      · have hx5' : ¬ (x : Int) ≤ 3037000499 := by omega
        have h5 := Nat.mul_le_mul (show 3037000500 ≤ x by omega) (show 3037000500 ≤ x by omega)
        rw [← hy] at h5
        have h7 : n < y := Nat.lt_of_lt_of_le (Nat.lt_trans hn (by decide)) h5
        have st' := Lib.hid (s4 h7)
        replace hlt := Lib.hid hlt
        clear s1 s2 s3 s4 hx hy hb2 hb h6 hx5 h5 h7
        go_wp2
        go_roundw
        case rel => exact ⟨j - 1, out, b2, rfl, by rw [ew.out], st'.out, KK⟩
        case measure => rw [ew.out]; exact (show (b2 : Int).toNat < (bit : Int).toNat by have := hlt.out; omega)
    · have hb' : ¬ (0 : Int) < (bit : Int) := by omega
      have hd := Lib.hid (st.done (by omega))
      clear hb
      go_wp2
      exact bodyPost_ret (by simp [results, Tryd.results97, go_sem]) rfl ⟨⟨out, rfl, hd.out⟩, KK⟩
set_option maxHeartbeats 400000 in
theorem span_Root_any (n : Nat) (hn : n < 9223372036854775808) (w : World) :
    Calls Tryd.prog 79 #[.int .i64 n] w fun e w' => (∃ r : Nat, e = .returned (.int .i64 r) ∧ IsRoot n r) ∧ Kp w.heap.size none w w' := by
  have e2 : ¬ (n : Int) < 0 := by omega
  have e1 : IntKind.u64.wrap (n : Int) = (n : Int) := by rw [wrapu]; omega
  go_enter Tryd.func79, Tryd.ntmps79
  go_wp2_with fail
  refine (span_root_any n hn _).mono ?_
  rintro e w1 ⟨⟨r, rfl, h1, h2⟩, k1⟩
  have h3 : r ≤ 3037000499 := by
    rcases Nat.lt_or_ge 3037000499 r with h | h
    · have := Nat.mul_le_mul (show 3037000500 ≤ r from h) (show 3037000500 ≤ r from h); omega
    · exact h
  have e3 : wrap64 (r : Int) = (r : Int) := by unfold wrap64; omega
  replace h1 := Lib.hid h1
  replace h2 := Lib.hid h2
  go_wp2
  exact bodyPost_ret (by simp [results, Tryd.results79, go_sem]) rfl ⟨⟨r, rfl, h1.out, h2.out⟩, k1⟩
end Go.Proofs.YtdiigflbohbndaaDoor
