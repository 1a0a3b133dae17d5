/- Which airs are valid. -/
import Derived.Test.YtdiigflbohbndaaDoorCheck
namespace Go.Proofs.YtdiigflbohbndaaDoor
open Go.RowKit

def LayOk (x : Layer) : Prop := (1 ≤ x.thick ∧ x.thick ≤ 1000) ∧ 0 ≤ x.dens ∧ x.dens ≤ 1000
def AirOk (ls : List Layer) : Prop := ls.length ≤ 32 ∧ ∀ i (hi : i < ls.length), LayOk ls[i]
def AirChk (ls : List Layer) (n : Int) : Prop := (n = 0 ∧ AirOk ls) ∨ (n = 8 ∧ 32 < ls.length) ∨ (n = 2 ∧ ls.length ≤ 32 ∧ ¬ AirOk ls)
theorem layOk_iff (x : Layer) : LayOk x ↔ btw x.thick 1 1000 = true ∧ btw x.dens 0 1000 = true := by
  rw [btw_true, btw_true]; exact Iff.rfl
def AirAt (ls : List Layer) (w : World) (v : Value) (wr : World) : Prop := ∃ i : Nat, v = .int .i64 i ∧ i ≤ ls.length ∧ (∀ j (hj : j < ls.length), j < i → LayOk ls[j]) ∧ Kp w.heap.size none w wr
set_option maxRecDepth 100000 in
set_option maxHeartbeats 400000 in
theorem blast_CheckAir_any (A : Option Addr) (cap : Nat) (ls : List Layer) (w : World) (h : Rd none w 2 encLayer A ls.length ls) :
    Calls Tryd.prog 40 #[.slice A ls.length cap] w fun e w' => (∃ n, e = .returned (.int .i64 n) ∧ AirChk ls n) ∧ Kp w.heap.size none w w' := by
  go_enter Tryd.func40, Tryd.ntmps40
  rcases Nat.lt_or_ge 32 ls.length with hl | hl
  · have hl' : (32 : Int) < (ls.length : Int) := by omega
    have hc : AirChk ls 8 := .inr (.inl ⟨rfl, hl⟩)
    replace hc := Lib.hid hc
    clear hl
    go_wp2
    exact bodyPost_ret (by simp [results, Tryd.results40, go_sem]) rfl ⟨⟨8, rfl, hc.out⟩, Kp.refl _ _ _⟩
  · have hl' : ¬ (32 : Int) < (ls.length : Int) := by omega
    go_wp2_with fail
    go_loopw [10] (fun v wr => AirAt ls w v wr) (fun v _ => ls.length - (intOf v).toNat)
    case atStart => exact ⟨0, rfl, by omega, fun j _ hj => absurd hj (by omega), Kp.refl _ _ _⟩
    case round =>
      obtain ⟨i, rfl, hi, hj, KK⟩ := hrel
      by_cases h7 : i < ls.length
      · obtain ⟨b, o, rfl, hb, -, hc⟩ := (h.kpN KK).at_ (by omega)
        have c0 : wr.cell? ⟨b, o + i * 2, none⟩ = some (.int .i64 ls[i].thick) := hc i h7 0 _ rfl
        have c1 : wr.cell? ⟨b, o + i * 2 + 1, none⟩ = some (.int .i64 ls[i].dens) := hc i h7 1 _ rfl
        have hi' : (i : Int) < (ls.length : Int) := by omega
        have hst : LayOk ls[i] → ∀ j (hj : j < ls.length), j < i + 1 → LayOk ls[j] := fun h j hjl hj' => by
          rcases Nat.lt_or_ge j i with h1 | h1
          · exact hj j hjl h1
          · have : j = i := by omega
            subst this; exact h
        have hbad : ¬ LayOk ls[i] → AirChk ls 2 := fun h => .inr (.inr ⟨rfl, hl, fun k => h (k.2 i h7)⟩)
        generalize ls[i] = x at c0 c1 hst hbad
        have K1 : Kp w.heap.size none w (wr.alloc (.cells #[.int .i64 x.thick, .int .i64 x.dens] 43)) := KK.alloc KK.size _
        have B1 := Blk.new wr 43 #[.int .i64 x.thick, .int .i64 x.dens]
        replace hst := Lib.hid hst
        replace hbad := Lib.hid hbad
        replace h := Lib.hid h
        clear hj hc hb KK hl hi
        replace h7 := Lib.hid h7
        go_wp2_with fail
        refine (blast_within_any _ _ _ _).mono ?_
        rintro e w2 ⟨rfl, k2⟩
        have B2 := B1.kp k2 B1.lt (by simp)
        have K2 := K1.then_ k2 (Nat.le_refl _)
        have c2 := fun i => B2.cell i
        have f2 := fun i => B2.frozen i
        cases hb1 : btw x.thick 1 1000
        · have hno := Lib.hid (hbad.out (fun k => by rw [((layOk_iff x).1 k).1] at hb1; cases hb1))
          clear k2
          go_wp2
          exact bodyPost_ret (by simp [results, Tryd.results40, go_sem]) rfl ⟨⟨2, rfl, hno.out⟩, K2⟩
        · clear k2
          go_wp2_with fail
          refine (blast_within_any _ _ _ _).mono ?_
          rintro e w3 ⟨rfl, k3⟩
          have K3 := K2.then_ k3 (Nat.le_refl _)
          clear k3 c2 f2
          cases hb2 : btw x.dens 0 1000
          · have hno := Lib.hid (hbad.out (fun k => by rw [((layOk_iff x).1 k).2] at hb2; cases hb2))
            go_wp2
            exact bodyPost_ret (by simp [results, Tryd.results40, go_sem]) rfl ⟨⟨2, rfl, hno.out⟩, K3⟩
          · have hok := Lib.hid (hst.out ((layOk_iff x).2 ⟨hb1, hb2⟩))
            go_wp2
            go_roundw
            case rel => exact ⟨i + 1, rfl, h7.out, hok.out, K3⟩
            case measure => have := h7.out; simp [intOf]; omega
      · have he : i = ls.length := by omega
        have hok : AirChk ls 0 := .inl ⟨rfl, hl, fun j hjl => hj j hjl (by omega)⟩
        replace hok := Lib.hid hok
        have hi' : ¬ (i : Int) < (ls.length : Int) := by omega
        clear hj hi h7 hl
        go_wp2
        exact bodyPost_ret (by simp [results, Tryd.results40, go_sem]) rfl ⟨⟨0, rfl, hok.out⟩, KK⟩

theorem stoneChk_one {s : Stone} {n m : Int} (h : StoneChk s n) (k : StoneChk s m) : n = m := by
  rcases h with ⟨rfl, h⟩ | ⟨rfl, h⟩ <;> rcases k with ⟨rfl, k⟩ | ⟨rfl, k⟩
  · rfl
  · exact absurd h k
  · exact absurd k h
  · rfl
theorem airChk_one {ls : List Layer} {n m : Int} (h : AirChk ls n) (k : AirChk ls m) : n = m := by
  rcases h with ⟨rfl, h⟩ | ⟨rfl, h⟩ | ⟨rfl, h1, h⟩ <;> rcases k with ⟨rfl, k⟩ | ⟨rfl, k⟩ | ⟨rfl, k1, k⟩ <;> first | rfl | (exfalso; first | exact absurd h k | exact absurd k h | (have := h.1; omega) | (have := k.1; omega) | omega)
/-- valid, so no error. -/
theorem stone_ok (s : Stone) (hs : StoneOk s) (w : World) (hb : Bnd w) : Calls Tryd.prog 33 #[.agg #[.int .i64 s.size, .int .i64 s.dens, .int .i64 s.strong, .int .i64 s.spin, .int .i64 s.shape, .bool s.pile, .int .i64 s.speed, .int .i64 s.slope]] w fun e w' => e = .returned (.int .i64 0) ∧ Kp w.heap.size none w w' :=
  (blast_CheckStone_any s w hb).mono fun e w' ⟨⟨n, h1, h2⟩, h3⟩ => ⟨by rw [h1, stoneChk_one h2 (.inl ⟨rfl, hs⟩)], h3⟩
theorem air_ok (A : Option Addr) (cap : Nat) (ls : List Layer) (w : World) (h : Rd none w 2 encLayer A ls.length ls) (ho : AirOk ls) : Calls Tryd.prog 40 #[.slice A ls.length cap] w fun e w' => e = .returned (.int .i64 0) ∧ Kp w.heap.size none w w' :=
  (blast_CheckAir_any A cap ls w h).mono fun e w' ⟨⟨n, h1, h2⟩, h3⟩ => ⟨by rw [h1, airChk_one h2 (.inl ⟨rfl, ho⟩)], h3⟩
set_option maxHeartbeats 400000 in
theorem blast_Mass_any (s : Stone) (w : World) (hb : Bnd w) :
    Calls Tryd.prog 37 #[.agg #[.int .i64 s.size, .int .i64 s.dens, .int .i64 s.strong, .int .i64 s.spin, .int .i64 s.shape, .bool s.pile, .int .i64 s.speed, .int .i64 s.slope]] w fun e w' => (∃ n, e = .returned (.int .i64 n) ∧ ((StoneOk s ∧ n = massOf s.size s.dens) ∨ (¬ StoneOk s ∧ n = 0))) ∧ Kp w.heap.size none w w' := by
  have K0 := (Kp.refl w.heap.size none w).alloc (Nat.le_refl _) (.cells #[.int .i64 s.size, .int .i64 s.dens, .int .i64 s.strong, .int .i64 s.spin, .int .i64 s.shape, .bool s.pile, .int .i64 s.speed, .int .i64 s.slope] 36)
  have B0 := Blk.new w 36 #[.int .i64 s.size, .int .i64 s.dens, .int .i64 s.strong, .int .i64 s.spin, .int .i64 s.shape, .bool s.pile, .int .i64 s.speed, .int .i64 s.slope]
  go_enter Tryd.func37, Tryd.ntmps37
  go_wp2_with fail
  refine (blast_CheckStone_any s _ (hb.kpN K0)).mono ?_
  rintro e w1 ⟨⟨n, rfl, hn⟩, k1⟩
  have K1 := K0.then_ k1 (by simp)
  have B1 := B0.kp k1 B0.lt (by simp)
  have c1 := fun i => B1.cell i
  clear k1 B0 K0
  rcases hn with ⟨rfl, hs⟩ | ⟨rfl, hs⟩
  · replace hs := Lib.hid hs
    go_wp2_with fail
    refine (blast_mass_any s hs.out _).mono ?_
    rintro e w2 ⟨rfl, k2⟩
    have K2 := K1.then_ k2 (by simp)
    clear c1 B1
    go_wp2
    exact bodyPost_ret (by simp [results, Tryd.results37, go_sem]) rfl ⟨⟨_, rfl, .inl ⟨hs.out, rfl⟩⟩, K2⟩
  · replace hs := Lib.hid hs
    go_wp2
    exact bodyPost_ret (by simp [results, Tryd.results37, go_sem]) rfl ⟨⟨0, rfl, .inr ⟨hs.out, rfl⟩⟩, K1⟩
set_option maxHeartbeats 400000 in
theorem blast_Holds_any (s : Stone) (w : World) (hb : Bnd w) :
    Calls Tryd.prog 23 #[.agg #[.int .i64 s.size, .int .i64 s.dens, .int .i64 s.strong, .int .i64 s.spin, .int .i64 s.shape, .bool s.pile, .int .i64 s.speed, .int .i64 s.slope]] w fun e w' => (∃ n, e = .returned (.int .i64 n) ∧ ((StoneOk s ∧ n = holdOf s.strong s.spin s.pile) ∨ (¬ StoneOk s ∧ n = 0))) ∧ Kp w.heap.size none w w' := by
  have K0 := (Kp.refl w.heap.size none w).alloc (Nat.le_refl _) (.cells #[.int .i64 s.size, .int .i64 s.dens, .int .i64 s.strong, .int .i64 s.spin, .int .i64 s.shape, .bool s.pile, .int .i64 s.speed, .int .i64 s.slope] 36)
  have B0 := Blk.new w 36 #[.int .i64 s.size, .int .i64 s.dens, .int .i64 s.strong, .int .i64 s.spin, .int .i64 s.shape, .bool s.pile, .int .i64 s.speed, .int .i64 s.slope]
  go_enter Tryd.func23, Tryd.ntmps23
  go_wp2_with fail
  refine (blast_CheckStone_any s _ (hb.kpN K0)).mono ?_
  rintro e w1 ⟨⟨n, rfl, hn⟩, k1⟩
  have K1 := K0.then_ k1 (by simp)
  have B1 := B0.kp k1 B0.lt (by simp)
  have c1 := fun i => B1.cell i
  clear k1 B0 K0
  rcases hn with ⟨rfl, hs⟩ | ⟨rfl, hs⟩
  · replace hs := Lib.hid hs
    go_wp2_with fail
    refine (blast_hold_any s hs.out _).mono ?_
    rintro e w2 ⟨rfl, k2⟩
    have K2 := K1.then_ k2 (by simp)
    clear c1 B1
    go_wp2
    exact bodyPost_ret (by simp [results, Tryd.results23, go_sem]) rfl ⟨⟨_, rfl, .inl ⟨hs.out, rfl⟩⟩, K2⟩
  · replace hs := Lib.hid hs
    go_wp2
    exact bodyPost_ret (by simp [results, Tryd.results23, go_sem]) rfl ⟨⟨0, rfl, .inr ⟨hs.out, rfl⟩⟩, K1⟩
end Go.Proofs.YtdiigflbohbndaaDoor
