/- How far a blow reaches; which lands are valid; whom a blow harms. -/
import Derived.Test.YtdiigflbohbndaaDoorGround
namespace Go.Proofs.YtdiigflbohbndaaDoor
open Go.RowKit

theorem gradesChk_one {gs : List Grade} {n m : Int} (h : GradesChk gs n) (k : GradesChk gs m) : n = m := by
  rcases h with ⟨h1, rfl⟩ | ⟨h1, rfl⟩ | ⟨h1, h2, h⟩ <;> rcases k with ⟨k1, rfl⟩ | ⟨k1, rfl⟩ | ⟨k1, k2, k⟩ <;> first | rfl | (exfalso; omega) | skip
  rcases h with ⟨rfl, h⟩ | ⟨i, hi, hn, h⟩ <;> rcases k with ⟨rfl, k⟩ | ⟨j, hj, km, k⟩
  · rfl
  · rw [h j hj] at km; cases km
  · rw [k i hi] at hn; cases hn
  · rcases Nat.lt_trichotomy i j with hij | hij | hij
    · rw [k i hi hij] at hn; cases hn
    · subst hij; rw [hn] at km; injection km
    · rw [h j hj hij] at km; cases km
def reachOf (en : Int) : List Grade → Int → Int
  | [], far => far
  | g :: gs, far => if en < g.energy then far else reachOf en gs g.reach
theorem reach_cons (en : Int) (g : Grade) (gs : List Grade) (far : Int) : reachOf en (g :: gs) far = if en < g.energy then far else reachOf en gs g.reach := rfl
def ReachAt (gs : List Grade) (en : Int) (w : World) (vf vi : Value) (wr : World) : Prop :=
  ∃ (i : Nat) (far : Int), vi = .int .i64 i ∧ i ≤ gs.length ∧ vf = .int .i64 far ∧ reachOf en gs 0 = reachOf en (gs.drop i) far ∧ Kp w.heap.size none w wr
set_option maxRecDepth 100000 in
set_option maxHeartbeats 400000 in
theorem blast_reach_any (A : Option Addr) (cap : Nat) (gs : List Grade) (en : Int) (w : World) (h : Rd none w 2 encGrade A gs.length gs) (hl : gs.length ≤ 32) :
    Calls Tryd.prog 83 #[.slice A gs.length cap, .int .i64 en] w fun e w' => e = .returned (.int .i64 (reachOf en gs 0)) ∧ Kp w.heap.size none w w' := by
  go_enter Tryd.func83, Tryd.ntmps83
  go_wp2_with fail
  go_loopw [5, 10] (fun vf v wr => ReachAt gs en w vf v wr) (fun _ v _ => gs.length - (intOf v).toNat)
  case atStart => exact ⟨0, 0, rfl, by omega, rfl, rfl, Kp.refl _ _ _⟩
  case round =>
    obtain ⟨i, far, rfl, hi, rfl, hf, KK⟩ := hrel
    by_cases h7 : i < gs.length
    · obtain ⟨b, o, rfl, hbl, -, hc⟩ := (h.kpN KK).at_ (by omega)
      have c0 : wr.cell? ⟨b, o + i * 2, none⟩ = some (.int .i64 gs[i].energy) := hc i h7 0 _ rfl
      have c1 : wr.cell? ⟨b, o + i * 2 + 1, none⟩ = some (.int .i64 gs[i].reach) := hc i h7 1 _ rfl
      have hi' : (i : Int) < (gs.length : Int) := by omega
      have hlen : (gs.length : Int) ≤ 32 := by omega
      rw [List.drop_eq_getElem_cons h7] at hf
      rw [reach_cons] at hf
      generalize gs[i] = x at c0 c1 hf
      have K1 : Kp w.heap.size none w (wr.alloc (.cells #[.int .i64 x.energy, .int .i64 x.reach] 112)) := KK.alloc KK.size _
      clear hc hbl hi
      replace h7 := Lib.hid h7
      replace h := Lib.hid h
      by_cases hb : en < x.energy
      · have hf2 : reachOf en gs 0 = far := by
          rw [if_pos hb] at hf; exact hf
        replace hf2 := Lib.hid hf2
        clear hf
        go_wp2
        exact bodyPost_ret (v := .int .i64 far) (by simp [results, Tryd.results83, go_sem]) rfl ⟨by rw [hf2.out], K1⟩
      · have hf2 : reachOf en gs 0 = reachOf en (gs.drop (i + 1)) x.reach := by
          rw [if_neg hb] at hf; exact hf
        replace hf2 := Lib.hid hf2
        clear hf
        go_wp2
        go_roundw
        case rel => exact ⟨i + 1, x.reach, rfl, h7.out, rfl, hf2.out, K1⟩
        case measure => have := h7.out; simp [intOf]; omega
    · have he : i = gs.length := by omega
      have hi' : ¬ (i : Int) < (gs.length : Int) := by omega
      rw [he, List.drop_length] at hf
      have hf2 : reachOf en gs 0 = far := hf
      replace hf2 := Lib.hid hf2
      clear hf h hi h7
      go_wp2
      exact bodyPost_ret (v := .int .i64 far) (by simp [results, Tryd.results83, go_sem]) rfl ⟨by rw [hf2.out], KK⟩
set_option maxHeartbeats 400000 in
theorem blast_Reach_any (A : Option Addr) (cap : Nat) (gs : List Grade) (en : Int) (w : World) (h : Rd none w 2 encGrade A gs.length gs) :
    Calls Tryd.prog 30 #[.slice A gs.length cap, .int .i64 en] w fun e w' => (∃ v, e = .returned (.int .i64 v) ∧ ((GradesChk gs 0 ∧ v = reachOf en gs 0) ∨ (¬ GradesChk gs 0 ∧ v = 0))) ∧ Kp w.heap.size none w w' := by
  go_enter Tryd.func30, Tryd.ntmps30
  go_wp2_with fail
  refine (blast_CheckGrades_any A cap gs _ h).mono ?_
  rintro e w1 ⟨⟨n, rfl, hn⟩, k1⟩
  by_cases hn0 : n = 0
  · subst hn0
    have hl : gs.length ≤ 32 := by
      rcases hn with ⟨h1, h2⟩ | ⟨h1, h2⟩ | ⟨h1, h2, h3⟩
      · omega
      · omega
      · exact h2
    replace hn := Lib.hid hn
    go_wp2_with fail
    refine (blast_reach_any A cap gs en _ (h.kpN k1) hl).mono ?_
    rintro e w2 ⟨rfl, k2⟩
    have K2 := k1.then_ k2 (Nat.le_refl _)
    clear k1 k2 h
    go_wp2
    exact bodyPost_ret (by simp [results, Tryd.results30, go_sem]) rfl ⟨⟨_, rfl, .inl ⟨hn.out, rfl⟩⟩, K2⟩
  · have hno : ¬ GradesChk gs 0 := fun k => hn0 (gradesChk_one hn k)
    replace hno := Lib.hid hno
    clear hn h
    go_wp2
    exact bodyPost_ret (by simp [results, Tryd.results30, go_sem]) rfl ⟨⟨0, rfl, .inr ⟨hno.out, rfl⟩⟩, k1⟩

/-! ### Lands -/
structure LandOk (ps : List Int) (m : Nat) : Prop where
  l1 : 1 ≤ ps.length
  l4 : ps.length ≤ 400
  m : m = ps.length
  p : ∀ x ∈ ps, 0 ≤ x ∧ x ≤ 4294967296
def LandChk (ps : List Int) (m : Nat) (n : Int) : Prop :=
  (n = 0 ∧ LandOk ps m) ∨ (ps.length = 0 ∧ n = 6) ∨ (400 < ps.length ∧ n = 8) ∨ (1 ≤ ps.length ∧ ps.length ≤ 400 ∧ ((m ≠ ps.length ∧ n = 3) ∨ (m = ps.length ∧ ¬ LandOk ps m ∧ n = 2)))
theorem landChk_one {ps : List Int} {m : Nat} {n k : Int} (h : LandChk ps m n) (g : LandChk ps m k) : n = k := by
  rcases h with ⟨rfl, h⟩ | ⟨h1, rfl⟩ | ⟨h1, rfl⟩ | ⟨h1, h2, ⟨h3, rfl⟩ | ⟨h3, h4, rfl⟩⟩ <;> rcases g with ⟨rfl, g⟩ | ⟨g1, rfl⟩ | ⟨g1, rfl⟩ | ⟨g1, g2, ⟨g3, rfl⟩ | ⟨g3, g4, rfl⟩⟩ <;>
    first | rfl | (exfalso; first | omega | (have := h.l1; omega) | (have := h.l4; omega) | (have := g.l1; omega) | (have := g.l4; omega) | exact absurd h.m g3 | exact absurd g.m h3 | exact h4 g | exact g4 h)
def LandAt (ps : List Int) (w : World) (v : Value) (wr : World) : Prop := ∃ i : Nat, v = .int .i64 i ∧ i ≤ ps.length ∧ (∀ j (hj : j < ps.length), j < i → 0 ≤ ps[j] ∧ ps[j] ≤ 4294967296) ∧ Kp w.heap.size none w wr
set_option maxRecDepth 100000 in
set_option maxHeartbeats 1000000 in
theorem blast_CheckLand_any (A A' : Option Addr) (c m c' : Nat) (ps : List Int) (w : World) (h : Rd none w 1 encI A ps.length ps) :
    Calls Tryd.prog 48 #[.agg #[.slice A ps.length c, .slice A' m c']] w fun e w' => (∃ n, e = .returned (.int .i64 n) ∧ LandChk ps m n) ∧ Kp w.heap.size none w w' := by
  have K0 := (Kp.refl w.heap.size none w).alloc (Nat.le_refl _) (.cells #[.slice A ps.length c, .slice A' m c'] 54)
  have B0 := Blk.new w 54 #[.slice A ps.length c, .slice A' m c']
  go_enter Tryd.func48, Tryd.ntmps48
  rcases Nat.eq_zero_or_pos ps.length with h0 | h0
  · have hc : LandChk ps m 6 := .inr (.inl ⟨h0, rfl⟩)
    replace hc := Lib.hid hc
    have h0' : (ps.length : Int) = 0 := by omega
    rw [h0] at K0
    clear h B0
    go_wp2
    exact bodyPost_ret (by simp [results, Tryd.results48, go_sem]) rfl ⟨⟨6, rfl, hc.out⟩, K0⟩
  have h0' : ¬ (ps.length : Int) = 0 := by omega
  rcases Nat.lt_or_ge 400 ps.length with hl | hl
  · have hl' : (400 : Int) < (ps.length : Int) := by omega
    have hc : LandChk ps m 8 := .inr (.inr (.inl ⟨hl, rfl⟩))
    replace hc := Lib.hid hc
    clear h hl B0
    go_wp2
    exact bodyPost_ret (by simp [results, Tryd.results48, go_sem]) rfl ⟨⟨8, rfl, hc.out⟩, K0⟩
  have hl' : ¬ (400 : Int) < (ps.length : Int) := by omega
  by_cases hm : m = ps.length
  · subst hm
    go_wp2_with fail
    go_loopw [24] (fun v wr => LandAt ps w v wr) (fun v _ => ps.length - (intOf v).toNat)
    case atStart => exact ⟨0, rfl, by omega, fun j _ hj => absurd hj (by omega), K0⟩
    case round =>
      obtain ⟨i, rfl, hi, hj, KK⟩ := hrel
      by_cases h7 : i < ps.length
      · obtain ⟨b, o, rfl, hbl, -, hc⟩ := (h.kpN KK).at_ (by omega)
        have c0 : wr.cell? ⟨b, o + i, none⟩ = some (.int .i64 ps[i]) := Rd.cell1 (fun _ => rfl) hc i h7
        have hi' : (i : Int) < (ps.length : Int) := by omega
        have hlen : (ps.length : Int) ≤ 400 := by omega
        have hst : (0 ≤ ps[i] ∧ ps[i] ≤ 4294967296) → ∀ j (hj : j < ps.length), j < i + 1 → 0 ≤ ps[j] ∧ ps[j] ≤ 4294967296 := fun h j hjl hj' => by
          rcases Nat.lt_or_ge j i with h1 | h1
          · exact hj j hjl h1
          · have : j = i := by omega
            subst this; exact h
        have hbad : ¬ (0 ≤ ps[i] ∧ ps[i] ≤ 4294967296) → LandChk ps ps.length 2 := fun h => .inr (.inr (.inr ⟨h0, hl, .inr ⟨rfl, fun k => h (k.p _ (List.getElem_mem h7)), rfl⟩⟩))
        generalize ps[i] = x at c0 hst hbad
        replace hst := Lib.hid hst
        replace hbad := Lib.hid hbad
        replace h := Lib.hid h
        clear hj hc hbl hl hi h0
        replace h7 := Lib.hid h7
        go_wp2_with fail
        refine (blast_within_any _ _ _ _).mono ?_
        rintro e w2 ⟨rfl, k2⟩
        have K2 := KK.then_ k2 (Nat.le_refl _)
        clear k2
        cases hb1 : btw x 0 4294967296
        · have hno := Lib.hid (hbad.out (fun k => by rw [(btw_true _ _ _).2 k] at hb1; cases hb1))
          go_wp2
          exact bodyPost_ret (by simp [results, Tryd.results48, go_sem]) rfl ⟨⟨2, rfl, hno.out⟩, K2⟩
        · have hok := Lib.hid (hst.out ((btw_true _ _ _).1 hb1))
          go_wp2
          go_roundw
          case rel => exact ⟨i + 1, rfl, h7.out, hok.out, K2⟩
          case measure => have := h7.out; simp [intOf]; omega
      · have he : i = ps.length := by omega
        have hok : LandChk ps ps.length 0 := .inl ⟨rfl, h0, hl, rfl, fun x hx => by
          obtain ⟨j, hjl, rfl⟩ := List.getElem_of_mem hx
          exact hj j hjl (by omega)⟩
        replace hok := Lib.hid hok
        have hi' : ¬ (i : Int) < (ps.length : Int) := by omega
        clear hj hi h7 hl h
        go_wp2
        exact bodyPost_ret (by simp [results, Tryd.results48, go_sem]) rfl ⟨⟨0, rfl, hok.out⟩, KK⟩
  · have hm' : ¬ (m : Int) = (ps.length : Int) := by omega
    have hc : LandChk ps m 3 := .inr (.inr (.inr ⟨h0, hl, .inl ⟨hm, rfl⟩⟩))
    replace hc := Lib.hid hc
    clear h hl B0 hm
    go_wp2
    exact bodyPost_ret (by simp [results, Tryd.results48, go_sem]) rfl ⟨⟨3, rfl, hc.out⟩, K0⟩
end Go.Proofs.YtdiigflbohbndaaDoor
