/- Which stones are valid. -/
import Derived.Test.YtdiigflbohbndaaDoorStone
import Derived.Test.YtdiigflbohbndaaDoorReg
namespace Go.Proofs.YtdiigflbohbndaaDoor
open Go.RowKit

/-- The numbers of a stone and their bounds, by their place. -/
def stoneNum (s : Stone) : Nat → Int
  | 0 => s.size | 1 => s.dens | 2 => s.strong | 3 => s.spin | 4 => s.shape | 5 => s.speed | _ => s.slope
def bLo : Nat → Int
  | 0 => 1 | 1 => 1 | 2 => 0 | 3 => 0 | 4 => 500 | 5 => 1 | _ => 1
def bHi : Nat → Int
  | 0 => 1000 | 1 => 9000 | 2 => 1099511627776 | 3 => 1000 | 4 => 2000 | 5 => 8000 | _ => 1000
def arr7 (f : Nat → Int) : Array Value := #[.int .i64 (f 0), .int .i64 (f 1), .int .i64 (f 2), .int .i64 (f 3), .int .i64 (f 4), .int .i64 (f 5), .int .i64 (f 6)]
theorem arr7_at (f : Nat → Int) (i : Nat) (hi : i < 7) : (arr7 f)[i]? = some (.int .i64 (f i)) := by
  rcases i with _ | _ | _ | _ | _ | _ | _ | i
  all_goals first | rfl | omega
theorem index7 (f : Nat → Int) (i : Nat) (hi : i < 7) (w : World) : (Instr.index 121 (.agg (arr7 f)) (.int .i64 (i : Int))).run Tryd.prog w = .ok (.int .i64 (f i)) w := by
  rcases i with _ | _ | _ | _ | _ | _ | _ | i
  all_goals first | omega | kernel_rfl
/-- The laid variable. -/
def Bnd (w : World) : Prop := 0 < w.heap.size ∧ ∀ j, j < 7 → w.cell? ⟨0, j * 2, none⟩ = some (.int .i64 (bLo j)) ∧ w.cell? ⟨0, j * 2 + 1, none⟩ = some (.int .i64 (bHi j))
theorem Bnd.kp {w w' : World} {B : Nat} {row : Option Nat} (h : Bnd w) (k : Kp B row w w') (hB : 0 < B) (hr : row ≠ some 0) : Bnd w' :=
  ⟨Nat.lt_of_lt_of_le h.1 k.size, fun j hj => ⟨(k.cell 0 _ hB (fun e => hr e.symm)).trans (h.2 j hj).1, (k.cell 0 _ hB (fun e => hr e.symm)).trans (h.2 j hj).2⟩⟩
theorem Bnd.kpN {w w' : World} (h : Bnd w) (k : Kp w.heap.size none w w') : Bnd w' := h.kp k h.1 (by simp)
theorem stoneOk_iff (s : Stone) : StoneOk s ↔ ∀ j, j < 7 → bLo j ≤ stoneNum s j ∧ stoneNum s j ≤ bHi j := by
  constructor
  · rintro ⟨h0, h1, h2, h3, h4, h5, h6⟩ j hj
    rcases j with _ | _ | _ | _ | _ | _ | _ | j
    · exact h0
    · exact h1
    · exact h2
    · exact h3
    · exact h4
    · exact h5
    · exact h6
    · omega
  · intro h
    exact ⟨h 0 (by omega), h 1 (by omega), h 2 (by omega), h 3 (by omega), h 4 (by omega), h 5 (by omega), h 6 (by omega)⟩
theorem btw_true (n lo hi : Int) : btw n lo hi = true ↔ lo ≤ n ∧ n ≤ hi := by simp [btw]
def StoneChk (s : Stone) (n : Int) : Prop := (n = 0 ∧ StoneOk s) ∨ (n = 2 ∧ ¬ StoneOk s)

set_option maxHeartbeats 400000 in
theorem blast_numbers_any (s : Stone) (w : World) :
    Calls Tryd.prog 87 #[.agg #[.int .i64 s.size, .int .i64 s.dens, .int .i64 s.strong, .int .i64 s.spin, .int .i64 s.shape, .bool s.pile, .int .i64 s.speed, .int .i64 s.slope]] w fun e w' => e = .returned (.agg (arr7 (stoneNum s))) ∧ Kp w.heap.size none w w' := by
  have K := (Kp.refl w.heap.size none w).alloc (Nat.le_refl _) (.cells #[.int .i64 s.size, .int .i64 s.dens, .int .i64 s.strong, .int .i64 s.spin, .int .i64 s.shape, .bool s.pile, .int .i64 s.speed, .int .i64 s.slope] 36)
  go_enter Tryd.func87, Tryd.ntmps87
  go_wp2
  exact bodyPost_ret (by simp [results, Tryd.results87, go_sem]; rfl) rfl ⟨rfl, K.alloc (by simp) _⟩
def ChkAt (f : Nat → Int) (w : World) (v : Value) (wr : World) : Prop := ∃ i : Nat, v = .int .i64 i ∧ i ≤ 7 ∧ (∀ j, j < i → bLo j ≤ f j ∧ f j ≤ bHi j) ∧ Kp w.heap.size none w wr
set_option maxRecDepth 100000 in
set_option maxHeartbeats 400000 in
theorem blast_CheckStone_any (s : Stone) (w : World) (hb : Bnd w) :
    Calls Tryd.prog 33 #[.agg #[.int .i64 s.size, .int .i64 s.dens, .int .i64 s.strong, .int .i64 s.spin, .int .i64 s.shape, .bool s.pile, .int .i64 s.speed, .int .i64 s.slope]] w fun e w' => (∃ n, e = .returned (.int .i64 n) ∧ StoneChk s n) ∧ Kp w.heap.size none w w' := by
  go_enter Tryd.func33, Tryd.ntmps33
  go_wp2_with fail
  refine (blast_numbers_any s _).mono ?_
  rintro e w1 ⟨rfl, k1⟩
  have K1 := ((Kp.refl w.heap.size none w).alloc (Nat.le_refl _) (.cells #[.int .i64 s.size, .int .i64 s.dens, .int .i64 s.strong, .int .i64 s.spin, .int .i64 s.shape, .bool s.pile, .int .i64 s.speed, .int .i64 s.slope] 36)).then_ k1 (by simp)
  clear k1
  go_wp2_with fail
  go_loopw [7] (fun v wr => ChkAt (stoneNum s) w v wr) (fun v _ => 7 - (intOf v).toNat)
  case atStart => exact ⟨0, rfl, by omega, fun j hj => absurd hj (by omega), K1⟩
  case round =>
    obtain ⟨i, rfl, hi, hj, KK⟩ := hrel
    by_cases h7 : i < 7
    · have ha := index7 (stoneNum s) i h7
      obtain ⟨hl, hh⟩ := (hb.kpN KK).2 i h7
      have hB0 : 0 < wr.drew.heap.size := (hb.kpN KK).1
      have hst : (bLo i ≤ stoneNum s i ∧ stoneNum s i ≤ bHi i) → ∀ j, j < i + 1 → bLo j ≤ stoneNum s j ∧ stoneNum s j ≤ bHi j := fun h j hj' => by
        rcases Nat.lt_or_ge j i with h1 | h1
        · exact hj j h1
        · rw [show j = i from by omega]; exact h
      have hbad : btw (stoneNum s i) (bLo i) (bHi i) = false → ¬ StoneOk s := fun h k => by
        have := (btw_true _ _ _).2 ((stoneOk_iff s).1 k i h7)
        rw [h] at this; cases this
      replace hst := Lib.hid hst
      replace hbad := Lib.hid hbad
      replace hj := Lib.hid hj
      have hb := Lib.hid hb
      generalize arr7 (stoneNum s) = cs at ha
      generalize stoneNum s i = n at ha hst hbad
      generalize bLo i = lo at hl hst hbad
      generalize bHi i = hi' at hh hst hbad
      have h7' : (i : Int) < 7 := by omega
      have hi0 : (0 : Int) ≤ (i : Int) := by omega
      clear hi h7
      go_wp2_with fail
      obtain ⟨S, hS⟩ : ∃ S : Nat → World → Prop, S = fun n w' => if n = 0 then w'.cell? ⟨0, i * 2, none⟩ = some (.int .i64 lo) ∧ w'.cell? ⟨0, i * 2 + 1, none⟩ = some (.int .i64 hi') else True := ⟨_, rfl⟩
      have hS0 : ∀ w', S 0 w' ↔ (w'.cell? ⟨0, i * 2, none⟩ = some (.int .i64 lo) ∧ w'.cell? ⟨0, i * 2 + 1, none⟩ = some (.int .i64 hi')) := fun w' => by rw [hS]; exact Iff.rfl
      have hS1 : ∀ w', S 1 w' ↔ (True) := fun w' => by rw [hS]; exact Iff.rfl
      clear hS
      have cx := fun (x : Ev (S 0)) => ((hS0 _).1 x.h).1
      have cy := fun (x : Ev (S 0)) => ((hS0 _).1 x.h).2
      have hevT := ev_true
      refine wp_region_ord S [(0, 0), (1, 0), (2, 0), (3, 0), (4, 1), (5, 0), (6, 0), (7, 0), (8, 1), (9, 2), (10, 0)] [] (by kernel_rfl) (by kernel_rfl) ((hS0 _).2 ⟨hl, hh⟩) ?_
      intro _hev
      iterate 9 (first | (refine wpOrd_v rfl rfl ?_; intro K hK; go_big_quiet_op; go_big_quiet_on) | (refine wpOrd_q rfl rfl ?_; intro K hK; go_big_quiet_op; go_big_quiet_on) | refine wpOrd_s (by decide) rfl rfl ?_)
      refine wpOrd_l rfl rfl ?_; intro K hK
      go_step
      refine (blast_within_any n lo hi' _).mono ?_
      rintro e w2 ⟨rfl, hk2⟩
      have K2 := KK.drew.thenN hk2 (Nat.le_refl _)
      refine hK _ _ ((hS0 _).2 ⟨(hk2.cell 0 _ hB0 (by simp)).trans hl, (hk2.cell 0 _ hB0 (by simp)).trans hh⟩) ?_
      clear hK K
      iterate 1 (first | (refine wpOrd_v rfl rfl ?_; intro K hK; go_big_quiet_op; go_big_quiet_on) | (refine wpOrd_q rfl rfl ?_; intro K hK; go_big_quiet_op; go_big_quiet_on) | refine wpOrd_s (by decide) rfl rfl ?_)
      refine wpOrd_nil ?_
      clear hevT _hev
      cases hbt : btw n lo hi'
      · have hno : ¬ StoneOk s := hbad.out hbt
        replace hno := Lib.hid hno
        go_wp2
        exact bodyPost_ret (by simp [results, Tryd.results33, go_sem]) rfl ⟨⟨2, rfl, .inr ⟨rfl, hno.out⟩⟩, K2⟩
      · have hst' := Lib.hid (hst.out ((btw_true n lo hi').1 hbt))
        go_wp2
        go_roundw
        case rel => exact ⟨i + 1, rfl, by omega, hst'.out, K2⟩
        case measure => simp [intOf]; omega
    · have he : i = 7 := by omega
      subst he
      have hok := Lib.hid hj
      clear hj hi h7
      go_wp2
      exact bodyPost_ret (by simp [results, Tryd.results33, go_sem]) rfl ⟨⟨0, rfl, .inl ⟨rfl, (stoneOk_iff s).2 hok.out⟩⟩, KK⟩
end Go.Proofs.YtdiigflbohbndaaDoor
