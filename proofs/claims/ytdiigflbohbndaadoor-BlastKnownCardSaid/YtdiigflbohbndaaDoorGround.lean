/- Sums of people, grades, lands. -/
import Derived.Test.YtdiigflbohbndaaDoorEnds
import Derived.Test.YtdiigflbohbndaaDoorLists3
namespace Go.Proofs.YtdiigflbohbndaaDoor
open Go.RowKit

theorem sum_bd (xs : List Int) (h : ∀ x ∈ xs, 0 ≤ x ∧ x ≤ 4294967296) : 0 ≤ xs.sum ∧ xs.sum ≤ 4294967296 * xs.length := by
  induction xs with
  | nil => simp
  | cons x xs ih =>
    have h1 := ih fun y hy => h y (List.mem_cons_of_mem _ hy)
    have h2 := h x (List.mem_cons_self)
    simp only [List.sum_cons, List.length_cons]
    push_cast
    omega
theorem sum_take_succ (xs : List Int) (i : Nat) (hi : i < xs.length) : (xs.take (i + 1)).sum = (xs.take i).sum + xs[i] := by
  rw [List.take_add_one, List.getElem?_eq_getElem hi, List.sum_append]
  simp only [Option.toList, List.sum_cons, List.sum_nil, Int.add_zero]
def SumAt (xs : List Int) (w : World) (vo vi : Value) (wr : World) : Prop := ∃ i : Nat, vi = .int .i64 i ∧ i ≤ xs.length ∧ vo = .int .i64 (xs.take i).sum ∧ Kp w.heap.size none w wr
set_option maxRecDepth 100000 in
set_option maxHeartbeats 400000 in
theorem blast_sum_any (A : Option Addr) (cap : Nat) (xs : List Int) (w : World) (h : Rd none w 1 encI A xs.length xs) (hl : xs.length ≤ 400) (hb : ∀ x ∈ xs, 0 ≤ x ∧ x ≤ 4294967296) :
    Calls Tryd.prog 120 #[.slice A xs.length cap] w fun e w' => e = .returned (.int .i64 xs.sum) ∧ Kp w.heap.size none w w' := by
  go_enter Tryd.func120, Tryd.ntmps120
  go_wp2_with fail
  go_loopw [3, 8] (fun vo v wr => SumAt xs w vo v wr) (fun _ v _ => xs.length - (intOf v).toNat)
  case atStart => exact ⟨0, rfl, by omega, rfl, Kp.refl _ _ _⟩
  case round =>
    obtain ⟨i, rfl, hi, rfl, KK⟩ := hrel
    by_cases h7 : i < xs.length
    · obtain ⟨b, o, rfl, hbl, -, hc⟩ := (h.kpN KK).at_ (by omega)
      have c0 : wr.cell? ⟨b, o + i, none⟩ = some (.int .i64 xs[i]) := Rd.cell1 (fun _ => rfl) hc i h7
      have hi' : (i : Int) < (xs.length : Int) := by omega
      have hlen : (xs.length : Int) ≤ 400 := by omega
      have hs := Lib.hid (sum_take_succ xs i h7)
      have b1 := sum_bd (xs.take i) fun y hy => hb y (List.mem_of_mem_take hy)
      have b2 := hb xs[i] (List.getElem_mem h7)
      have b3 : (xs.take i).length ≤ 400 := by rw [List.length_take]; omega
      have hw : wrap64 ((xs.take i).sum + xs[i]) = (xs.take (i + 1)).sum := by
        rw [hs.out]; unfold wrap64; omega
      replace hw := Lib.hid hw
      generalize xs[i] = x at c0 hw
      generalize (xs.take i).sum = y at hw
      clear hc hs b1 b2 b3 hi hb
      replace h7 := Lib.hid h7
      replace h := Lib.hid h
      go_wp2
      go_roundw
      case rel => exact ⟨i + 1, rfl, h7.out, by rw [hw.out], KK⟩
      case measure => have := h7.out; simp [intOf]; omega
    · have he : i = xs.length := by omega
      have hi' : ¬ (i : Int) < (xs.length : Int) := by omega
      have hts : (xs.take i).sum = xs.sum := by rw [he, List.take_length]
      rw [hts]
      clear hb hts
      go_wp2
      exact bodyPost_ret (by simp [results, Tryd.results120, go_sem]) rfl ⟨rfl, KK⟩

/-- The people from a cell to another one, both counted. -/
def peopleOf (ps : List Int) (f t : Nat) : Int := ((ps.drop f).take (t + 1 - f)).sum
theorem Rd.sub {α : Type} {row : Option Nat} {w : World} {enc : α → List Value} {b o n : Nat} {xs : List α} (h : Rd row w 1 enc (some ⟨b, o, none⟩) n xs) (f m : Nat) (hf : f + m ≤ n) :
    Rd row w 1 enc (some ⟨b, o + f, none⟩) m ((xs.drop f).take m) := by
  have hl := h.1
  refine ⟨by rw [List.length_take, List.length_drop]; omega, fun hm => ?_⟩
  obtain ⟨b', o', e, hb, hr, hc⟩ := h.2 (by omega)
  injection e with e; injection e with e1 e2
  subst e1 e2
  refine ⟨_, _, rfl, hb, hr, fun i hi j v hv => ?_⟩
  have hi' : i < m := by rw [List.length_take] at hi; omega
  have := hc (f + i) (by omega) j v (by simpa using hv)
  rw [show o + f + (i * 1 + j) = o + ((f + i) * 1 + j) by omega]
  exact this
set_option maxRecDepth 100000 in
set_option maxHeartbeats 400000 in
theorem blast_people_any (A A' : Option Addr) (c n' c' : Nat) (ps : List Int) (f t : Nat) (w : World) (h : Rd none w 1 encI A ps.length ps) (hl : ps.length ≤ 400) (hc : ps.length ≤ c) (hb : ∀ x ∈ ps, 0 ≤ x ∧ x ≤ 4294967296)
    (hf : f ≤ t) (ht : t < ps.length) :
    Calls Tryd.prog 112 #[.agg #[.slice A ps.length c, .slice A' n' c'], .int .i64 f, .int .i64 t] w fun e w' => e = .returned (.int .i64 (peopleOf ps f t)) ∧ Kp w.heap.size none w w' := by
  have K0 := (Kp.refl w.heap.size none w).alloc (Nat.le_refl _) (.cells #[.slice A ps.length c, .slice A' n' c'] 54)
  obtain ⟨b, o, rfl, hbl, -, -⟩ := h.at_ (by omega)
  have R0 := (h.kpN K0).sub f (t + 1 - f) (by omega)
  have hf' : (f : Int) ≤ (t : Int) := by omega
  have ht' : (t : Int) < (ps.length : Int) := by omega
  have hl' : (ps.length : Int) ≤ 400 := by omega
  have hc' : (ps.length : Int) ≤ (c : Int) := by omega
  replace R0 := Lib.hid R0
  replace hb := Lib.hid hb
  clear h hbl
  go_enter Tryd.func112, Tryd.ntmps112
  go_wp2_with fail
  have hlen := R0.out.1
  have call := blast_sum_any (some ⟨b, o + f, none⟩) (t + 1 - f) ((ps.drop f).take (t + 1 - f)) _ (by rw [hlen]; exact R0.out) (by rw [hlen]; omega) (fun x hx => hb.out x (List.mem_of_mem_drop (List.mem_of_mem_take hx)))
  rw [hlen] at call
  refine call.mono ?_
  rintro e w1 ⟨rfl, k1⟩
  have K1 := K0.then_ k1 (by simp)
  clear K0 call hlen R0 hb k1
  go_wp2
  exact bodyPost_ret (v := .int .i64 (peopleOf ps f t)) (by simp [results, Tryd.results112, go_sem, peopleOf]) rfl ⟨rfl, K1⟩
/-- Whom a blow harms: as far as so many cells. -/
def harmOf (ps : List Int) (a F : Nat) : Int := peopleOf ps (a - F) (min (ps.length - 1) (a + F))
set_option maxRecDepth 100000 in
set_option maxHeartbeats 400000 in
theorem blast_harm_any (A A' : Option Addr) (c n' c' : Nat) (ps : List Int) (a : Nat) (r : Int) (w : World) (h : Rd none w 1 encI A ps.length ps) (hl : ps.length ≤ 400) (hc : ps.length ≤ c) (hb : ∀ x ∈ ps, 0 ≤ x ∧ x ≤ 4294967296)
    (ha : a < ps.length) (hr : 0 ≤ r) :
    Calls Tryd.prog 81 #[.agg #[.slice A ps.length c, .slice A' n' c'], .int .i64 a, .int .i64 r] w fun e w' => e = .returned (.int .i64 (harmOf ps a (min r 400).toNat)) ∧ Kp w.heap.size none w w' := by
  have K0 := (Kp.refl w.heap.size none w).alloc (Nat.le_refl _) (.cells #[.slice A ps.length c, .slice A' n' c'] 54)
  have B0 := Blk.new w 54 #[.slice A ps.length c, .slice A' n' c']
  obtain ⟨F, hF⟩ : ∃ F : Nat, F = (min r 400).toNat := ⟨_, rfl⟩
  have hFi : (F : Int) = min r 400 := by omega
  have hF4 : F ≤ 400 := by omega
  have hai : (a : Int) < (ps.length : Int) := by omega
  have hli : (ps.length : Int) ≤ 400 := by omega
  rw [← hF]
  have R0 := Lib.hid (h.kpN K0)
  replace hb := Lib.hid hb
  replace hc := Lib.hid hc
  clear h hF
  go_enter Tryd.func81, Tryd.ntmps81
  go_wp2_with fail
  rw [show max 0 ((a : Int) - min r 400) = ((a - F : Nat) : Int) from by omega, show min ((ps.length : Int) - 1) ((a : Int) + min r 400) = ((min (ps.length - 1) (a + F) : Nat) : Int) from by omega]
  refine (blast_people_any A A' c n' c' ps (a - F) (min (ps.length - 1) (a + F)) _ R0.out hl hc.out hb.out (by omega) (by omega)).mono ?_
  rintro e w1 ⟨rfl, k1⟩
  have K1 := K0.then_ k1 (by simp)
  clear K0 R0 hb k1 B0
  go_wp2
  exact bodyPost_ret (v := .int .i64 (harmOf ps a F)) (by simp [results, Tryd.results81, go_sem, harmOf]) rfl ⟨rfl, K1⟩

/-! ### Grades -/
def GradeOk1 (x : Grade) : Prop := (0 ≤ x.energy ∧ x.energy ≤ 1152921504606846976) ∧ 0 ≤ x.reach ∧ x.reach ≤ 400
/-- The error at grade i, if there is one. -/
def gradeErr (gs : List Grade) (i : Nat) (hi : i < gs.length) : Option Int :=
  if ¬ (btw gs[i].energy 0 1152921504606846976 = true ∧ btw gs[i].reach 0 400 = true) then some 2
  else if gs[i].energy ≤ (if h : 0 < i then gs[i - 1].energy else -1) ∨ gs[i].reach < (if h : 0 < i then gs[i - 1].reach else 0) then some 11 else none
def GradesChk (gs : List Grade) (n : Int) : Prop :=
  (gs.length = 0 ∧ n = 6) ∨ (32 < gs.length ∧ n = 8) ∨ (1 ≤ gs.length ∧ gs.length ≤ 32 ∧ ((n = 0 ∧ ∀ i (hi : i < gs.length), gradeErr gs i hi = none) ∨ ∃ i, ∃ hi : i < gs.length, gradeErr gs i hi = some n ∧ ∀ j (hj : j < gs.length), j < i → gradeErr gs j hj = none))
def lastOf (gs : List Grade) (i : Nat) : Grade := if h : 0 < i ∧ i - 1 < gs.length then gs[i - 1] else ⟨-1, 0⟩
def ChkGr (gs : List Grade) (W : World) (vi : Value) (wr : World) : Prop :=
  ∃ i : Nat, vi = .int .i64 i ∧ i ≤ gs.length ∧ (∀ j (hj : j < gs.length), j < i → gradeErr gs j hj = none) ∧ Blk wr W.heap.size 112 #[.int .i64 (lastOf gs i).energy, .int .i64 (lastOf gs i).reach] ∧ Kp W.heap.size none W wr
theorem lastOf_succ (gs : List Grade) (i : Nat) (hi : i < gs.length) : lastOf gs (i + 1) = gs[i] := by
  unfold lastOf; rw [dif_pos ⟨by omega, by simpa using hi⟩]; rfl
theorem gradeErr_last (gs : List Grade) (i : Nat) (hi : i < gs.length) : gradeErr gs i hi =
    if ¬ (btw gs[i].energy 0 1152921504606846976 = true ∧ btw gs[i].reach 0 400 = true) then some 2 else if gs[i].energy ≤ (lastOf gs i).energy ∨ gs[i].reach < (lastOf gs i).reach then some 11 else none := by
  unfold gradeErr lastOf
  rcases Nat.eq_zero_or_pos i with h0 | h0
  · subst h0; rfl
  · rw [dif_pos h0, dif_pos h0, dif_pos ⟨h0, by omega⟩]
set_option maxRecDepth 100000 in
set_option maxHeartbeats 1000000 in
theorem blast_CheckGrades_any (A : Option Addr) (cap : Nat) (gs : List Grade) (w : World) (h : Rd none w 2 encGrade A gs.length gs) :
    Calls Tryd.prog 45 #[.slice A gs.length cap] w fun e w' => (∃ n, e = .returned (.int .i64 n) ∧ GradesChk gs n) ∧ Kp w.heap.size none w w' := by
  go_enter Tryd.func45, Tryd.ntmps45
  rcases Nat.eq_zero_or_pos gs.length with h0 | h0
  · have hc : GradesChk gs 6 := .inl ⟨h0, rfl⟩
    replace hc := Lib.hid hc
    have h0' : (gs.length : Int) = 0 := by omega
    clear h
    go_wp2
    exact bodyPost_ret (by simp [results, Tryd.results45, go_sem]) rfl ⟨⟨6, rfl, hc.out⟩, Kp.refl _ _ _⟩
  have h0' : ¬ (gs.length : Int) = 0 := by omega
  rcases Nat.lt_or_ge 32 gs.length with hl | hl
  · have hl' : (32 : Int) < (gs.length : Int) := by omega
    have hc : GradesChk gs 8 := .inr (.inl ⟨hl, rfl⟩)
    replace hc := Lib.hid hc
    clear h hl
    go_wp2
    exact bodyPost_ret (by simp [results, Tryd.results45, go_sem]) rfl ⟨⟨8, rfl, hc.out⟩, Kp.refl _ _ _⟩
  have hl' : ¬ (32 : Int) < (gs.length : Int) := by omega
  have B0 : Blk (w.alloc (.cells #[.int .i64 (-1), .int .i64 0] 112)) w.heap.size 112 #[.int .i64 (-1), .int .i64 0] := Blk.new _ _ _
  have K0 := (Kp.refl w.heap.size none w).alloc (Nat.le_refl _) (.cells #[.int .i64 (-1), .int .i64 0] 112)
  go_wp2_with fail
  go_loopw [17] (fun v wr => ChkGr gs w v wr) (fun v _ => gs.length - (intOf v).toNat)
  case atStart => exact ⟨0, rfl, by omega, fun j _ hj => absurd hj (by omega), B0, K0⟩
  case round =>
    obtain ⟨i, rfl, hi, hj, BB, KK⟩ := hrel
    by_cases h7 : i < gs.length
    · obtain ⟨b, o, rfl, hbl, -, hc⟩ := (h.kpN KK).at_ (by omega)
      have c0 : wr.cell? ⟨b, o + i * 2, none⟩ = some (.int .i64 gs[i].energy) := hc i h7 0 _ rfl
      have c1 : wr.cell? ⟨b, o + i * 2 + 1, none⟩ = some (.int .i64 gs[i].reach) := hc i h7 1 _ rfl
      have hi' : (i : Int) < (gs.length : Int) := by omega
      have hlen : (gs.length : Int) ≤ 32 := by omega
      have hge := gradeErr_last gs i h7
      have hst : gradeErr gs i h7 = none → ∀ j (hj : j < gs.length), j < i + 1 → gradeErr gs j hj = none := fun h j hjl hj' => by
        rcases Nat.lt_or_ge j i with h1 | h1
        · exact hj j hjl h1
        · have : j = i := by omega
          subst this; exact h
      have hbad : ∀ n, gradeErr gs i h7 = some n → GradesChk gs n := fun n h => .inr (.inr ⟨h0, hl, .inr ⟨i, h7, h, hj⟩⟩)
      have hls := lastOf_succ gs i h7
      generalize gradeErr gs i h7 = ge at hge hst hbad
      generalize gs[i] = x at c0 c1 hge hls
      obtain ⟨la, lb⟩ : ∃ l, l = lastOf gs i := ⟨_, rfl⟩
      rw [← lb] at BB hge
      have K1 : Kp w.heap.size none w (wr.alloc (.cells #[.int .i64 x.energy, .int .i64 x.reach] 112)) := KK.alloc KK.size _
      have B1 := Blk.new wr 112 #[.int .i64 x.energy, .int .i64 x.reach]
      have L1 := BB.alloc (.cells #[.int .i64 x.energy, .int .i64 x.reach] 112)
      have hz : w.heap.size < wr.heap.size := BB.lt
      replace hls := Lib.hid hls
      replace hst := Lib.hid hst
      replace hbad := Lib.hid hbad
      replace hge := Lib.hid hge
      replace h := Lib.hid h
      clear hj hc hbl KK hl hi lb BB h0
      replace h7 := Lib.hid h7
      go_wp2_with fail
      refine (blast_within_any _ _ _ _).mono ?_
      rintro e w2 ⟨rfl, k2⟩
      have B2 := B1.kp k2 B1.lt (by simp)
      have L2 := L1.kp k2 L1.lt (by simp)
      have K2 := K1.then_ k2 (Nat.le_refl _)
      have c2 := fun i => B2.cell i
      have d2 := fun i => L2.cell i
      cases hb1 : btw x.energy 0 1152921504606846976
      · have hno := Lib.hid (hbad.out 2 (by rw [hge.out, if_pos (fun k => by rw [k.1] at hb1; cases hb1)]))
        clear k2
        go_wp2
        exact bodyPost_ret (by simp [results, Tryd.results45, go_sem]) rfl ⟨⟨2, rfl, hno.out⟩, K2⟩
      · clear k2
        go_wp2_with fail
        refine (blast_within_any _ _ _ _).mono ?_
        rintro e w3 ⟨rfl, k3⟩
        have B3 := B2.kp k3 B2.lt (by simp)
        have L3 := L2.kp k3 L2.lt (by simp)
        have K3 := K2.then_ k3 (Nat.le_refl _)
        have c3 := fun i => B3.cell i
        have d3 := fun i => L3.cell i
        have f3 := fun i => L3.frozen i
        clear k3 c2 d2 B2 L2
        cases hb2 : btw x.reach 0 400
        · have hno := Lib.hid (hbad.out 2 (by rw [hge.out, if_pos (fun k => by rw [k.2] at hb2; cases hb2)]))
          go_wp2
          exact bodyPost_ret (by simp [results, Tryd.results45, go_sem]) rfl ⟨⟨2, rfl, hno.out⟩, K3⟩
        · have hg2 := hge.out
          rw [if_neg (fun k => k ⟨hb1, hb2⟩)] at hg2
          by_cases hb3 : x.energy ≤ la.energy
          · have hno := Lib.hid (hbad.out 11 (by rw [hg2, if_pos (.inl hb3)]))
            clear hg2
            go_wp2
            exact bodyPost_ret (by simp [results, Tryd.results45, go_sem]) rfl ⟨⟨11, rfl, hno.out⟩, K3⟩
          · by_cases hb4 : x.reach < la.reach
            · have hno := Lib.hid (hbad.out 11 (by rw [hg2, if_pos (.inr hb4)]))
              clear hg2
              go_wp2
              exact bodyPost_ret (by simp [results, Tryd.results45, go_sem]) rfl ⟨⟨11, rfl, hno.out⟩, K3⟩
            · have hok := Lib.hid (hst.out (by rw [hg2, if_neg (fun k => k.elim hb3 hb4)]))
              have L4 := (L3.set_ 0 (.int .i64 x.energy)).set_ 1 (.int .i64 x.reach)
              simp only [List.setIfInBounds_toArray, List.set_cons_zero, List.set_cons_succ] at L4
              have K4 := (K3.setNew (p := ⟨w.heap.size, 0, none⟩) (Nat.le_refl _) (.int .i64 x.energy)).setNew (p := ⟨w.heap.size, 1, none⟩) (Nat.le_refl _) (.int .i64 x.reach)
              clear hg2
              go_wp2
              go_roundw
              case rel => exact ⟨i + 1, rfl, h7.out, hok.out, by rw [hls.out]; exact L4, K4⟩
              case measure => have := h7.out; simp [intOf]; omega
    · have he : i = gs.length := by omega
      have hok : GradesChk gs 0 := .inr (.inr ⟨h0, hl, .inl ⟨rfl, fun j hjl => hj j hjl (by omega)⟩⟩)
      replace hok := Lib.hid hok
      have hi' : ¬ (i : Int) < (gs.length : Int) := by omega
      clear hj hi h7 hl BB h
      go_wp2
      exact bodyPost_ret (by simp [results, Tryd.results45, go_sem]) rfl ⟨⟨0, rfl, hok.out⟩, KK⟩
end Go.Proofs.YtdiigflbohbndaaDoor
