/- The reference: CheckLand, right, harm, wave, Harm, Wave. -/
import Derived.Test.YtdiigflbohbndaaDoorWave
import Derived.Test.YtdiigflbohbndaaDoorRefLand
namespace Go.Proofs.YtdiigflbohbndaaDoor
open Go.RowKit

set_option maxRecDepth 100000 in
set_option maxHeartbeats 1000000 in
theorem ref_CheckLand_any (A A' : Option Addr) (c m c' : Nat) (ps : List Int) (w : World) (h : Rd none w 1 encI A ps.length ps) :
    Calls Tryd.prog 49 #[.agg #[.slice A ps.length c, .slice A' m c']] w fun e w' => (∃ n, e = .returned (.int .i64 n) ∧ LandChk ps m n) ∧ Kp w.heap.size none w w' := by
  have K0 := (Kp.refl w.heap.size none w).alloc (Nat.le_refl _) (.cells #[.slice A ps.length c, .slice A' m c'] 54)
  have B0 := Blk.new w 54 #[.slice A ps.length c, .slice A' m c']
  generalize hw0 : w.alloc (.cells #[.slice A ps.length c, .slice A' m c'] 54) = w0 at B0 K0
  go_enter Tryd.func49, Tryd.ntmps49
  have cB := fun i => B0.cell i
  rcases Nat.eq_zero_or_pos ps.length with h0 | h0
  · have hc : LandChk ps m 6 := .inr (.inl ⟨h0, rfl⟩)
    replace hc := Lib.hid hc
    have h0' : (ps.length : Int) = 0 := by omega
    rw [← hw0, h0] at K0
    clear h
    go_wp2
    exact bodyPost_ret (by simp [results, Tryd.results49, go_sem]) rfl ⟨⟨6, rfl, hc.out⟩, K0⟩
  have h0' : ¬ (ps.length : Int) = 0 := by omega
  rcases Nat.lt_or_ge 400 ps.length with hl | hl
  · have hl' : (400 : Int) < (ps.length : Int) := by omega
    have hc : LandChk ps m 8 := .inr (.inr (.inl ⟨hl, rfl⟩))
    replace hc := Lib.hid hc
    clear h hl
    go_wp2
    exact bodyPost_ret (by simp [results, Tryd.results49, go_sem]) rfl ⟨⟨8, rfl, hc.out⟩, K0⟩
  have hl' : ¬ (400 : Int) < (ps.length : Int) := by omega
  by_cases hm : m = ps.length
  · subst hm
    go_wp2_with fail
    clear hw0 cB
    go_loopw [3] (fun v wr => LandAt ps w0 v wr) (fun v _ => ps.length - (intOf v).toNat)
    case atStart => exact ⟨0, rfl, by omega, fun j _ hj => absurd hj (by omega), Kp.refl _ _ _⟩
    case round =>
      obtain ⟨i, rfl, hi, hj, KK⟩ := hrel
      have cB := fun i => (B0.kpN KK).cell i
      have K1 := K0.thenN KK (Nat.le_refl _)
      have h1 := (h.kpN K1)
      by_cases h7 : i < ps.length
      · obtain ⟨b, o, rfl, hbl, -, hc⟩ := h1.at_ (by omega)
        have c0 : wr.cell? ⟨b, o + i, none⟩ = some (.int .i64 ps[i]) := Rd.cell1 (fun _ => rfl) hc i h7
        have hi' : (i : Int) < (ps.length : Int) := by omega
        have hlen : (ps.length : Int) ≤ 400 := by omega
        have hst : (0 ≤ ps[i] ∧ ps[i] ≤ 4294967296) → ∀ j (hj : j < ps.length), j < i + 1 → 0 ≤ ps[j] ∧ ps[j] ≤ 4294967296 := fun h j hjl hj' => by
          rcases Nat.lt_or_ge j i with h1 | h1
          · exact hj j hjl h1
          · have : j = i := by omega
            subst this; exact h
        have hbad : ¬ (0 ≤ ps[i] ∧ ps[i] ≤ 4294967296) → LandChk ps ps.length 2 := fun h => .inr (.inr (.inr ⟨h0, hl, .inr ⟨rfl, fun k => h (k.p _ (List.getElem_mem h7)), rfl⟩⟩))
        generalize ps[i] = x at c0 hst hbad
        replace hst := Lib.hid hst
        replace hbad := Lib.hid hbad
        replace h := Lib.hid h
        clear hj hc hbl hl hi h0 h1
        replace h7 := Lib.hid h7
        go_wp2_with fail
        refine (bolideref07_between_any _ _ _ _).mono ?_
        rintro e w2 ⟨rfl, k2⟩
        have K2 := K1.thenN k2 (Nat.le_refl _)
        have KK2 := KK.thenN k2 (Nat.le_refl _)
        clear k2 cB
        cases hb1 : btw x 0 4294967296
        · have hno := Lib.hid (hbad.out (fun k => by rw [(btw_true _ _ _).2 k] at hb1; cases hb1))
          go_wp2
          exact bodyPost_ret (by simp [results, Tryd.results49, go_sem]) rfl ⟨⟨2, rfl, hno.out⟩, K2⟩
        · have hok := Lib.hid (hst.out ((btw_true _ _ _).1 hb1))
          go_wp2
          go_roundw
          case rel => exact ⟨i + 1, rfl, h7.out, hok.out, KK2⟩
          case measure => have := h7.out; simp [intOf]; omega
      · have he : i = ps.length := by omega
        have hok : LandChk ps ps.length 0 := .inl ⟨rfl, h0, hl, rfl, fun x hx => by
          obtain ⟨j, hjl, rfl⟩ := List.getElem_of_mem hx
          exact hj j hjl (by omega)⟩
        replace hok := Lib.hid hok
        have hi' : ¬ (i : Int) < (ps.length : Int) := by omega
        clear hj hi h7 hl h h1
        go_wp2
        exact bodyPost_ret (by simp [results, Tryd.results49, go_sem]) rfl ⟨⟨0, rfl, hok.out⟩, K1⟩
  · have hm' : ¬ (m : Int) = (ps.length : Int) := by omega
    have hc : LandChk ps m 3 := .inr (.inr (.inr ⟨h0, hl, .inl ⟨hm, rfl⟩⟩))
    replace hc := Lib.hid hc
    clear h hl hm
    go_wp2
    exact bodyPost_ret (by simp [results, Tryd.results49, go_sem]) rfl ⟨⟨3, rfl, hc.out⟩, K0⟩
def RightOf (ps : List Int) (m : Nat) (a : Int) : Prop := LandOk ps m ∧ 0 ≤ a ∧ a < ps.length
set_option maxRecDepth 100000 in
set_option maxHeartbeats 400000 in
theorem ref_right_any (A A' : Option Addr) (c m c' : Nat) (ps : List Int) (a : Int) (w : World) (h : Rd none w 1 encI A ps.length ps) :
    Calls Tryd.prog 94 #[.agg #[.slice A ps.length c, .slice A' m c'], .int .i64 a] w fun e w' => (∃ b, e = .returned (.bool b) ∧ (b = true ↔ RightOf ps m a)) ∧ Kp w.heap.size none w w' := by
  have K0 := (Kp.refl w.heap.size none w).alloc (Nat.le_refl _) (.cells #[.slice A ps.length c, .slice A' m c'] 54)
  have B0 := Blk.new w 54 #[.slice A ps.length c, .slice A' m c']
  go_enter Tryd.func94, Tryd.ntmps94
  go_wp2_with fail
  refine (ref_CheckLand_any A A' c m c' ps _ (h.kpN K0)).mono ?_
  rintro e w1 ⟨⟨n, rfl, hn⟩, k1⟩
  have K1 := K0.then_ k1 (by simp)
  have B1 := B0.kp k1 B0.lt (by simp)
  have cB := fun i => B1.cell i
  clear k1 B0 K0 h
  by_cases hn0 : n = 0
  · subst hn0
    have hok : LandOk ps m := by
      rcases hn with ⟨h1, h2⟩ | ⟨h1, h2⟩ | ⟨h1, h2⟩ | ⟨h1, h2, ⟨h3, h4⟩ | ⟨h3, h5, h4⟩⟩
      · exact h2
      · omega
      · omega
      · omega
      · omega
    replace hok := Lib.hid hok
    clear hn
    by_cases ha : 0 ≤ a
    · by_cases hal : a < (ps.length : Int)
      · have hT := Lib.hid (show RightOf ps m a from ⟨hok.out, ha, hal⟩)
        go_wp2
        exact bodyPost_ret (v := .bool true) (by simp [results, Tryd.results94, go_sem] <;> omega) rfl ⟨⟨true, rfl, fun _ => hT.out, fun _ => rfl⟩, K1⟩
      · have hT := Lib.hid (show ¬ RightOf ps m a from fun k => hal k.2.2)
        go_wp2
        first | exact bodyPost_ret (v := .bool false) (by simp [results, Tryd.results94, go_sem] <;> omega) rfl ⟨⟨false, rfl, fun k => Bool.noConfusion k, fun k => absurd k hT.out⟩, K1⟩ | exact bodyPost_ret (v := .bool false) (by simp [results, Tryd.results94, go_sem] <;> omega) rfl ⟨.inl ⟨rfl, hT.out⟩, K1⟩
    · have hT := Lib.hid (show ¬ RightOf ps m a from fun k => ha k.2.1)
      go_wp2
      first | exact bodyPost_ret (v := .bool false) (by simp [results, Tryd.results94, go_sem] <;> omega) rfl ⟨⟨false, rfl, fun k => Bool.noConfusion k, fun k => absurd k hT.out⟩, K1⟩ | exact bodyPost_ret (v := .bool false) (by simp [results, Tryd.results94, go_sem] <;> omega) rfl ⟨.inl ⟨rfl, hT.out⟩, K1⟩
  · have hT := Lib.hid (show ¬ RightOf ps m a from fun k => hn0 (landChk_one hn (.inl ⟨rfl, k.1⟩)))
    clear hn
    go_wp2
    first | exact bodyPost_ret (v := .bool false) (by simp [results, Tryd.results94, go_sem] <;> omega) rfl ⟨⟨false, rfl, fun k => Bool.noConfusion k, fun k => absurd k hT.out⟩, K1⟩ | exact bodyPost_ret (v := .bool false) (by simp [results, Tryd.results94, go_sem] <;> omega) rfl ⟨.inl ⟨rfl, hT.out⟩, K1⟩

/-! ### The harm -/
def pre (ps : List Int) (i : Nat) : Int := (ps.take i).sum
theorem pre_succ (ps : List Int) (i : Nat) (hi : i < ps.length) : pre ps (i + 1) = pre ps i + ps[i] := sum_take_succ ps i hi
theorem people_pre (ps : List Int) (f t : Nat) (h : f ≤ t + 1) : peopleOf ps f t = pre ps (t + 1) - pre ps f := by
  unfold peopleOf pre
  have h1 : ps.take (t + 1) = ps.take f ++ (ps.drop f).take (t + 1 - f) := by
    rw [← List.take_add, show f + (t + 1 - f) = t + 1 by omega]
  rw [h1, List.sum_append]
  omega
theorem pre_bd (ps : List Int) (hl : ps.length ≤ 400) (hb : ∀ x ∈ ps, 0 ≤ x ∧ x ≤ 4294967296) (i : Nat) : 0 ≤ pre ps i ∧ pre ps i ≤ 1717986918400 := by
  have h := sum_bd (ps.take i) fun y hy => hb y (List.mem_of_mem_take hy)
  have h2 : (ps.take i).length ≤ 400 := by rw [List.length_take]; omega
  unfold pre
  omega
def harmPart (ps : List Int) (f t i : Nat) : Int := pre ps (max f (min i (t + 1))) - pre ps f
theorem harmPart_in (ps : List Int) (f t i : Nat) (hi : i < ps.length) (h1 : f ≤ i) (h2 : i ≤ t) : harmPart ps f t (i + 1) = harmPart ps f t i + ps[i] := by
  unfold harmPart
  rw [show max f (min (i + 1) (t + 1)) = i + 1 by omega, show max f (min i (t + 1)) = i by omega, pre_succ ps i hi]
  omega
theorem harmPart_out (ps : List Int) (f t i : Nat) (h : i < f ∨ t < i) : harmPart ps f t (i + 1) = harmPart ps f t i := by
  unfold harmPart
  rw [show max f (min (i + 1) (t + 1)) = max f (min i (t + 1)) by omega]
def RefHarmAt (ps : List Int) (f t : Nat) (w : World) (vs vi : Value) (wr : World) : Prop :=
  ∃ i : Nat, vi = .int .i64 i ∧ i ≤ ps.length ∧ vs = .int .i64 (harmPart ps f t i) ∧ Kp w.heap.size none w wr
set_option maxRecDepth 100000 in
set_option maxHeartbeats 1000000 in
theorem ref_harm_any (A A' : Option Addr) (c n' c' : Nat) (ps : List Int) (a F : Nat) (w : World) (h : Rd none w 1 encI A ps.length ps) (hl : ps.length ≤ 400) (hb : ∀ x ∈ ps, 0 ≤ x ∧ x ≤ 4294967296)
    (ha : a < ps.length) (hF : F ≤ 400) :
    Calls Tryd.prog 95 #[.agg #[.slice A ps.length c, .slice A' n' c'], .int .i64 a, .int .i64 F] w fun e w' => e = .returned (.int .i64 (harmOf ps a F)) ∧ Kp w.heap.size none w w' := by
  have K0 := (Kp.refl w.heap.size none w).alloc (Nat.le_refl _) (.cells #[.slice A ps.length c, .slice A' n' c'] 54)
  have B0 := Blk.new w 54 #[.slice A ps.length c, .slice A' n' c']
  generalize hw0 : w.alloc (.cells #[.slice A ps.length c, .slice A' n' c'] 54) = w0 at B0 K0
  obtain ⟨f, hf⟩ : ∃ f, f = a - F := ⟨_, rfl⟩
  obtain ⟨t, ht⟩ : ∃ t, t = min (ps.length - 1) (a + F) := ⟨_, rfl⟩
  have hfin : harmPart ps f t ps.length = harmOf ps a F := by
    unfold harmPart harmOf
    rw [← hf, ← ht, people_pre ps f t (by omega), show max f (min ps.length (t + 1)) = t + 1 by omega]
  have hini : harmPart ps f t 0 = 0 := by
    unfold harmPart
    rw [show max f (min 0 (t + 1)) = f by omega]; omega
  replace hfin := Lib.hid hfin
  replace hf := Lib.hid hf
  replace ht := Lib.hid ht
  replace hini := Lib.hid hini
  go_enter Tryd.func95, Tryd.ntmps95
  go_wp2_with fail
  clear hw0
  go_loopw [7, 8] (fun vs v wr => RefHarmAt ps f t w0 vs v wr) (fun _ v _ => ps.length - (intOf v).toNat)
  case atStart => exact ⟨0, rfl, by omega, by rw [hini.out], Kp.refl _ _ _⟩
  case round =>
    obtain ⟨i, rfl, hi, rfl, KK⟩ := hrel
    have B1 := B0.kpN KK
    have cB := fun i => B1.cell i
    have K1 := K0.thenN KK (Nat.le_refl _)
    have h1 := h.kpN K1
    have hli : (ps.length : Int) ≤ 400 := by omega
    by_cases h7 : i < ps.length
    · have hi' : (i : Int) < (ps.length : Int) := by omega
      have hai : (a : Int) < (ps.length : Int) := by omega
      have hFi : (F : Int) ≤ 400 := by omega
      go_wp2_with fail
      refine (bolideref07_between_any _ _ _ _).mono ?_
      rintro e w2 ⟨rfl, k2⟩
      have K2 := K1.thenN k2 (Nat.le_refl _)
      have KK2 := KK.thenN k2 (Nat.le_refl _)
      have B2 := B1.kpN k2
      have h2 := h1.kpN k2
      have cB := fun i => B2.cell i
      clear k2 B1 h1 K1 KK
      obtain ⟨b, o, rfl, hbl, -, hc⟩ := h2.at_ (by omega)
      have c0 : w2.cell? ⟨b, o + i, none⟩ = some (.int .i64 ps[i]) := Rd.cell1 (fun _ => rfl) hc i h7
      cases hbt : btw ((i : Int) - (a : Int)) (-(F : Int)) (F : Int)
      · have hn : ¬ (-(F : Int) ≤ (i : Int) - a ∧ (i : Int) - a ≤ F) := fun k => by rw [(btw_true _ _ _).2 k] at hbt; cases hbt
        have hp := Lib.hid (harmPart_out ps f t i (by have := hf.out; have := ht.out; omega))
        clear hc c0 hn hbt
        replace h7 := Lib.hid h7
        go_wp2
        go_roundw
        case rel => exact ⟨i + 1, rfl, h7.out, by rw [hp.out], KK2⟩
        case measure => have := h7.out; simp [intOf]; omega
      · have hn := (btw_true _ _ _).1 hbt
        have hp := harmPart_in ps f t i h7 (by have := hf.out; omega) (by have := ht.out; omega)
        have b1 := pre_bd ps hl hb (max f (min i (t + 1)))
        have b2 := pre_bd ps hl hb f
        have b3 := hb ps[i] (List.getElem_mem h7)
        have hw : wrap64 (harmPart ps f t i + ps[i]) = harmPart ps f t (i + 1) := by
          rw [hp]; unfold wrap64 harmPart; omega
        generalize ps[i] = x at c0 hw
        generalize harmPart ps f t i = y at hw
        clear hc hbt hn hp b1 b2 b3 hf ht
        replace hw := Lib.hid hw
        replace h7 := Lib.hid h7
        go_wp2
        go_roundw
        case rel => exact ⟨i + 1, rfl, h7.out, by rw [hw.out], KK2⟩
        case measure => have := h7.out; simp [intOf]; omega
    · have he : i = ps.length := by omega
      have hi' : ¬ (i : Int) < (ps.length : Int) := by omega
      have hout := Lib.hid (show harmPart ps f t i = harmOf ps a F by rw [he]; exact hfin.out)
      clear he hi h7 hf ht h1
      go_wp2
      exact bodyPost_ret (v := .int .i64 (harmPart ps f t i)) (by simp [results, Tryd.results95, go_sem]) rfl ⟨by rw [hout.out], K1⟩
end Go.Proofs.YtdiigflbohbndaaDoor
