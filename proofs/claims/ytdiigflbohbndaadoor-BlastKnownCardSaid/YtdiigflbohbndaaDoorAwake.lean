/- The examples that every law of the chapter asks. -/
import Derived.Test.YtdiigflbohbndaaDoorWave
namespace Go.Proofs.YtdiigflbohbndaaDoor
open Go.RowKit

theorem Rd.of_blk {α : Type} {w : World} {b : Nat} {t : TypeId} {sz : Nat} {enc : α → List Value} (xs : List α) (he : ∀ x, (enc x).length = sz) {cs : Array Value} (hc : cs.toList = xs.flatMap enc) (hB : Blk w b t cs) (row : Option Nat) (hr : some b ≠ row) :
    Rd row w sz enc (some ⟨b, 0, none⟩) xs.length xs := by
  refine ⟨rfl, fun _ => ⟨b, 0, rfl, hB.lt, hr, fun i hi j v hv => ?_⟩⟩
  have hj : j < sz := by
    have := (List.getElem?_eq_some_iff.1 hv).1
    rwa [he] at this
  rw [Nat.zero_add, hB.cell, ← Array.getElem?_toList, hc, flat_at he xs i hi j hj]
  exact hv
def exStone : Stone := ⟨10, 1000, 1000000, 0, 1000, false, 100, 1000⟩
def exAir : List Layer := [⟨100, 1⟩, ⟨100, 10⟩]
def exPeople : List Int := [10, 20, 30, 40, 50]
def exWater : List Bool := [false, false, true, true, false]
theorem ex_stone : StoneOk exStone := ⟨by decide, by decide, by decide, by decide, by decide, by decide, by decide⟩
theorem ex_air : AirOk exAir := by
  refine ⟨by decide, fun i hi => ?_⟩
  rcases i with _ | _ | i
  · exact (show LayOk ⟨100, 1⟩ from ⟨by decide, by decide⟩)
  · exact (show LayOk ⟨100, 10⟩ from ⟨by decide, by decide⟩)
  · simp [exAir] at hi
    omega
theorem ex_land : LandOk exPeople exWater.length := ⟨by decide, by decide, rfl, by decide⟩
theorem ex_ends : endsOf exAir exStone = (2, 8910000) := by decide
theorem ex_harm : harmOf exPeople 0 1 = 30 := by decide
theorem ex_wave : waveOf exPeople exWater 3 5 = 140 := by decide
set_option maxHeartbeats 400000 in
theorem law_stone_any (w : World) : Calls Tryd.prog 68 #[] w fun e w' => e = .returned (.agg #[.int .i64 exStone.size, .int .i64 exStone.dens, .int .i64 exStone.strong, .int .i64 exStone.spin, .int .i64 exStone.shape, .bool exStone.pile, .int .i64 exStone.speed, .int .i64 exStone.slope]) ∧ Kp w.heap.size none w w' := by
  have K0 := (Kp.refl w.heap.size none w).alloc (Nat.le_refl _) (.cells #[.int .i64 exStone.size, .int .i64 exStone.dens, .int .i64 exStone.strong, .int .i64 exStone.spin, .int .i64 exStone.shape, .bool exStone.pile, .int .i64 exStone.speed, .int .i64 exStone.slope] 36)
  go_enter Tryd.func68, Tryd.ntmps68
  go_wp2
  exact bodyPost_ret (v := .agg #[.int .i64 exStone.size, .int .i64 exStone.dens, .int .i64 exStone.strong, .int .i64 exStone.spin, .int .i64 exStone.shape, .bool exStone.pile, .int .i64 exStone.speed, .int .i64 exStone.slope]) (by simp [results, Tryd.results68, go_sem]; decide) rfl ⟨rfl, K0⟩
set_option maxHeartbeats 400000 in
theorem law_air_any (w : World) : Calls Tryd.prog 69 #[] w fun e w' => (∃ A c, e = .returned (.slice A exAir.length c) ∧ Rd none w' 2 encLayer A exAir.length exAir) ∧ Kp w.heap.size none w w' := by
  have K0 := (Kp.refl w.heap.size none w).alloc (Nat.le_refl _) (.cells #[.int .i64 100, .int .i64 1, .int .i64 100, .int .i64 10] 43)
  have B0 := Blk.new w 43 #[.int .i64 100, .int .i64 1, .int .i64 100, .int .i64 10]
  have R0 := Rd.of_blk (enc := encLayer) (sz := 2) exAir (fun _ => rfl) rfl B0 none (by simp)
  go_enter Tryd.func69, Tryd.ntmps69
  go_wp2
  exact bodyPost_ret (v := .slice (some ⟨w.heap.size, 0, none⟩) 2 2) (by simp [results, Tryd.results69, go_sem]) rfl ⟨⟨_, 2, rfl, R0⟩, K0⟩
set_option maxHeartbeats 400000 in
theorem law_land_any (w : World) : Calls Tryd.prog 72 #[] w fun e w' => (∃ A c A' c', e = .returned (.agg #[.slice A exPeople.length c, .slice A' exWater.length c']) ∧ Rd none w' 1 encI A exPeople.length exPeople ∧ Rd none w' 1 encB A' exWater.length exWater ∧ exPeople.length ≤ c) ∧ Kp w.heap.size none w w' := by
  have K0 := (((Kp.refl w.heap.size none w).alloc (Nat.le_refl _) (.cells #[.slice (some ⟨w.heap.size + 1, 0, none⟩) 5 5, .slice (some ⟨w.heap.size + 1 + 1, 0, none⟩) 5 5] 54)).alloc (by simp) (.cells #[.int .i64 10, .int .i64 20, .int .i64 30, .int .i64 40, .int .i64 50] 2)).alloc (by simp; omega) (.cells #[.bool false, .bool false, .bool true, .bool true, .bool false] 4)
  have B0 := (Blk.newAt (w.alloc (.cells #[.slice (some ⟨w.heap.size + 1, 0, none⟩) 5 5, .slice (some ⟨w.heap.size + 1 + 1, 0, none⟩) 5 5] 54)) 2 #[.int .i64 10, .int .i64 20, .int .i64 30, .int .i64 40, .int .i64 50] (n := w.heap.size + 1) (by simp)).alloc (.cells #[.bool false, .bool false, .bool true, .bool true, .bool false] 4)
  have B1 := Blk.newAt ((w.alloc (.cells #[.slice (some ⟨w.heap.size + 1, 0, none⟩) 5 5, .slice (some ⟨w.heap.size + 1 + 1, 0, none⟩) 5 5] 54)).alloc (.cells #[.int .i64 10, .int .i64 20, .int .i64 30, .int .i64 40, .int .i64 50] 2)) 4 #[.bool false, .bool false, .bool true, .bool true, .bool false] (n := w.heap.size + 1 + 1) (by simp)
  have R0 := Rd.of_blk (enc := encI) (sz := 1) exPeople (fun _ => rfl) rfl B0 none (by simp)
  have R1 := Rd.of_blk (enc := encB) (sz := 1) exWater (fun _ => rfl) rfl B1 none (by simp)
  go_enter Tryd.func72, Tryd.ntmps72
  go_wp2
  exact bodyPost_ret (v := .agg #[.slice (some ⟨w.heap.size + 1, 0, none⟩) 5 5, .slice (some ⟨w.heap.size + 1 + 1, 0, none⟩) 5 5]) (by simp [results, Tryd.results72, go_sem]) rfl ⟨⟨_, 5, _, 5, rfl, R0, R1, by decide⟩, K0⟩
set_option maxRecDepth 100000 in
set_option maxHeartbeats 1000000 in
theorem awake_any (w : World) (hb : Bnd w) : Calls Tryd.prog 22 #[] w fun e w' => e = .returned (.bool true) ∧ Kp w.heap.size none w w' := by
  go_enter Tryd.func22, Tryd.ntmps22
  go_wp2_with fail
  refine (law_air_any _).mono ?_
  rintro e w1 ⟨⟨A, c, rfl, R1⟩, K1⟩
  go_wp2_with fail
  refine (law_stone_any _).mono ?_
  rintro e w2 ⟨rfl, k2⟩
  have R2 := R1.kpN k2
  have K2 := K1.then_ k2 (Nat.le_refl _)
  clear k2 K1 R1
  go_wp2_with fail
  refine (blast_Ends_any A c exAir exStone _ R2 (hb.kpN K2)).mono ?_
  rintro e w3 ⟨⟨n, x, y, rfl, hE⟩, k3⟩
  have K3 := K2.then_ k3 (Nat.le_refl _)
  have he : n = 2 ∧ x = 8910000 ∧ y = 0 := by
    rcases hE with ⟨_, _, h1, h2, h3⟩ | ⟨h1, _⟩
    · rw [ex_ends] at h1 h2
      exact ⟨h1, h2, h3⟩
    · exact absurd ⟨ex_air, ex_stone⟩ h1
  obtain ⟨rfl, rfl, rfl⟩ := he
  clear k3 K2 R2 hE
  go_wp2_with fail
  refine (law_land_any _).mono ?_
  rintro e w4 ⟨⟨A1, c1, A2, c2, rfl, RA, RB, hc⟩, k4⟩
  have K4 := K3.then_ k4 (Nat.le_refl _)
  clear k4 K3
  go_wp2_with fail
  refine (blast_Harm_any A1 A2 c1 _ c2 exPeople 0 1 _ RA hc).mono ?_
  rintro e w5 ⟨⟨v, rfl, hv⟩, k5⟩
  have K5 := K4.then_ k5 (Nat.le_refl _)
  have hv0 : v = 30 := by
    rcases hv with ⟨_, h⟩ | ⟨h, _⟩
    · rw [h]; exact ex_harm
    · exact absurd ⟨ex_land, by decide, by decide, by decide⟩ h
  subst hv0
  clear k5 K4 hv RA RB hc
  go_wp2_with fail
  refine (law_land_any _).mono ?_
  rintro e w6 ⟨⟨A3, c3, A4, c4, rfl, RA, RB, hc⟩, k6⟩
  have K6 := K5.then_ k6 (Nat.le_refl _)
  clear k6 K5
  go_wp2_with fail
  refine (blast_Wave_any A3 A4 c3 c4 exPeople exWater 3 5 _ RA RB hc).mono ?_
  rintro e w7 ⟨⟨v, rfl, hv⟩, k7⟩
  have K7 := K6.then_ k7 (Nat.le_refl _)
  have hv0 : v = 140 := by
    rcases hv with ⟨_, _, h⟩ | ⟨h, _⟩
    · rw [h]; exact ex_wave
    · exact absurd ⟨⟨ex_land, by decide, by decide, by decide⟩, by decide⟩ h
  subst hv0
  clear k7 K6 hv RA RB hc
  go_wp2
  exact bodyPost_ret (v := .bool true) (by simp [results, Tryd.results22, go_sem]) rfl ⟨rfl, K7⟩
end Go.Proofs.YtdiigflbohbndaaDoor
