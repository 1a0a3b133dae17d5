/- The reference: CheckGrades, reach, Reach. -/
import Derived.Test.YtdiigflbohbndaaDoorGround2
import Derived.Test.YtdiigflbohbndaaDoorRefRock
namespace Go.Proofs.YtdiigflbohbndaaDoor
open Go.RowKit

def RefGr (gs : List Grade) (W : World) (vi : Value) (wr : World) : Prop :=
  ∃ i : Nat, vi = .int .i64 i ∧ i ≤ gs.length ∧ (∀ j (hj : j < gs.length), j < i → gradeErr gs j hj = none) ∧ Kp W.heap.size none W wr
set_option maxRecDepth 100000 in
set_option maxHeartbeats 2000000 in
theorem ref_CheckGrades_any (A : Option Addr) (cap : Nat) (gs : List Grade) (w : World) (h : Rd none w 2 encGrade A gs.length gs) :
    Calls Tryd.prog 46 #[.slice A gs.length cap] w fun e w' => (∃ n, e = .returned (.int .i64 n) ∧ GradesChk gs n) ∧ Kp w.heap.size none w w' := by
  go_enter Tryd.func46, Tryd.ntmps46
  rcases Nat.eq_zero_or_pos gs.length with h0 | h0
  · have hc : GradesChk gs 6 := .inl ⟨h0, rfl⟩
    replace hc := Lib.hid hc
    have h0' : (gs.length : Int) = 0 := by omega
    clear h
    go_wp2
    exact bodyPost_ret (by simp [results, Tryd.results46, go_sem]) rfl ⟨⟨6, rfl, hc.out⟩, Kp.refl _ _ _⟩
  have h0' : ¬ (gs.length : Int) = 0 := by omega
  rcases Nat.lt_or_ge 32 gs.length with hl | hl
  · have hl' : (32 : Int) < (gs.length : Int) := by omega
    have hc : GradesChk gs 8 := .inr (.inl ⟨hl, rfl⟩)
    replace hc := Lib.hid hc
    clear h hl
    go_wp2
    exact bodyPost_ret (by simp [results, Tryd.results46, go_sem]) rfl ⟨⟨8, rfl, hc.out⟩, Kp.refl _ _ _⟩
  have hl' : ¬ (32 : Int) < (gs.length : Int) := by omega
  go_wp2_with fail
  go_loopw [3] (fun v wr => RefGr gs w v wr) (fun v _ => gs.length - (intOf v).toNat)
  case atStart => exact ⟨0, rfl, by omega, fun j _ hj => absurd hj (by omega), Kp.refl _ _ _⟩
  case round =>
    obtain ⟨i, rfl, hi, hj, KK⟩ := hrel
    by_cases h7 : i < gs.length
    · obtain ⟨b, o, rfl, hbl, -, hc⟩ := (h.kpN KK).at_ (by omega)
      have c0 : wr.cell? ⟨b, o + i * 2, none⟩ = some (.int .i64 gs[i].energy) := hc i h7 0 _ rfl
      have c1 : wr.cell? ⟨b, o + i * 2 + 1, none⟩ = some (.int .i64 gs[i].reach) := hc i h7 1 _ rfl
      have hi' : (i : Int) < (gs.length : Int) := by omega
      have hlen : (gs.length : Int) ≤ 32 := by omega
      obtain ⟨q, hq⟩ : ∃ q, q = i - 1 := ⟨_, rfl⟩
      have hq7 : q < gs.length := by omega
      have c2 : wr.cell? ⟨b, o + q * 2, none⟩ = some (.int .i64 gs[q].energy) := hc q hq7 0 _ rfl
      have c3 : wr.cell? ⟨b, o + q * 2 + 1, none⟩ = some (.int .i64 gs[q].reach) := hc q hq7 1 _ rfl
      have hge := gradeErr_last gs i h7
      have hls : 0 < i → lastOf gs i = gs[q] := fun hp => by
        subst hq
        unfold lastOf; rw [dif_pos ⟨hp, by omega⟩]
      have hlz : i = 0 → lastOf gs i = ⟨-1, 0⟩ := fun hp => by
        subst hp
        unfold lastOf; rw [dif_neg (by omega)]
      have hst : gradeErr gs i h7 = none → ∀ j (hj : j < gs.length), j < i + 1 → gradeErr gs j hj = none := fun h j hjl hj' => by
        rcases Nat.lt_or_ge j i with h1 | h1
        · exact hj j hjl h1
        · have : j = i := by omega
          subst this; exact h
      have hbad : ∀ n, gradeErr gs i h7 = some n → GradesChk gs n := fun n h => .inr (.inr ⟨h0, hl, .inr ⟨i, h7, h, hj⟩⟩)
      generalize gradeErr gs i h7 = ge at hge hst hbad
      generalize gs[i] = x at c0 c1 hge
      generalize gs[q] = y at c2 c3 hls
      generalize lastOf gs i = la at hge hls hlz
      obtain ⟨xe, xr⟩ := x
      obtain ⟨ye, yr⟩ := y
      simp only at c0 c1 c2 c3 hge
      replace hls := Lib.hid hls
      replace hlz := Lib.hid hlz
      replace hst := Lib.hid hst
      replace hbad := Lib.hid hbad
      replace hge := Lib.hid hge
      replace h := Lib.hid h
      clear hj hc hl hi h0
      replace h7 := Lib.hid h7
      replace hq := Lib.hid hq
      go_wp2_with fail
      refine (bolideref07_between_any _ _ _ _).mono ?_
      rintro e w2 ⟨rfl, k2⟩
      have K2 := KK.thenN k2 (Nat.le_refl _)
      have e0 := (k2.cell _ _ hbl (by simp)).trans c0
      have e1 := (k2.cell _ _ hbl (by simp)).trans c1
      have e2 := (k2.cell _ _ hbl (by simp)).trans c2
      have e3 := (k2.cell _ _ hbl (by simp)).trans c3
      have hbl2 := Nat.lt_of_lt_of_le hbl k2.size
      clear c0 c1 c2 c3 KK
      cases hb1 : btw xe 0 1152921504606846976
      · have hno := Lib.hid (hbad.out 2 (by rw [hge.out, if_pos (fun k => by rw [k.1] at hb1; cases hb1)]))
        clear k2
        go_wp2
        exact bodyPost_ret (by simp [results, Tryd.results46, go_sem]) rfl ⟨⟨2, rfl, hno.out⟩, K2⟩
      · clear k2
        go_wp2_with fail
        refine (bolideref07_between_any _ _ _ _).mono ?_
        rintro e w3 ⟨rfl, k3⟩
        have K3 := K2.thenN k3 (Nat.le_refl _)
        have d0 := (k3.cell _ _ hbl2 (by simp)).trans e0
        have d1 := (k3.cell _ _ hbl2 (by simp)).trans e1
        have d2 := (k3.cell _ _ hbl2 (by simp)).trans e2
        have d3 := (k3.cell _ _ hbl2 (by simp)).trans e3
        clear k3 e0 e1 e2 e3 K2
        cases hb2 : btw xr 0 400
        · have hno := Lib.hid (hbad.out 2 (by rw [hge.out, if_pos (fun k => by rw [k.2] at hb2; cases hb2)]))
          go_wp2
          exact bodyPost_ret (by simp [results, Tryd.results46, go_sem]) rfl ⟨⟨2, rfl, hno.out⟩, K3⟩
        · have hg2 := hge.out
          rw [if_neg (fun k => k ⟨hb1, hb2⟩)] at hg2
          have hx1 := (btw_true _ _ _).1 hb1
          have hx2 := (btw_true _ _ _).1 hb2
          rcases Nat.eq_zero_or_pos i with hz | hz
          · rw [hlz.out hz] at hg2
            rw [if_neg (by simp only; omega)] at hg2
            have hok := Lib.hid (hst.out hg2)
            have hiz : ¬ (0 : Int) < (i : Int) := by omega
            have hizN : ¬ 0 < i := by omega
            have hizP : (0 < i) = False := eq_false hizN
            clear hg2 hx1 hx2 hb1 hb2 hz
            go_wp2_with fail
            obtain ⟨S, hS⟩ : ∃ S : Nat → World → Prop, S = fun _ w' => (w'.cell? ⟨b, o + i * 2, none⟩ = some (.int .i64 xe) ∧ w'.cell? ⟨b, o + i * 2 + 1, none⟩ = some (.int .i64 xr)) ∧ w'.cell? ⟨b, o + q * 2, none⟩ = some (.int .i64 ye) ∧ w'.cell? ⟨b, o + q * 2 + 1, none⟩ = some (.int .i64 yr) := ⟨_, rfl⟩
            have hS0 : ∀ w', S 0 w' ↔ ((w'.cell? ⟨b, o + i * 2, none⟩ = some (.int .i64 xe) ∧ w'.cell? ⟨b, o + i * 2 + 1, none⟩ = some (.int .i64 xr)) ∧ w'.cell? ⟨b, o + q * 2, none⟩ = some (.int .i64 ye) ∧ w'.cell? ⟨b, o + q * 2 + 1, none⟩ = some (.int .i64 yr)) := fun w' => by rw [hS]
            clear hS
            have cx := fun (x : Ev (S 0)) => ((hS0 _).1 x.h).1.1
            have cx2 := fun (x : Ev (S 0)) => ((hS0 _).1 x.h).1.2
            have cy := fun (x : Ev (S 0)) => ((hS0 _).1 x.h).2.1
            have cz := fun (x : Ev (S 0)) => ((hS0 _).1 x.h).2.2
            have hevT := ev_true
            refine wp_region_ord S [(0, 0), (1, 0), (2, 0), (3, 0), (4, 0), (5, 0), (6, 0), (7, 1), (8, 0), (9, 0), (10, 0), (11, 0), (12, 0), (13, 1), (14, 0), (15, 0), (16, 0), (17, 0), (18, 0), (19, 0), (20, 1), (21, 0), (22, 0), (23, 0), (24, 0), (25, 0), (26, 1), (27, 0), (28, 0), (29, 0)] [] (by kernel_rfl) (by kernel_rfl) ((hS0 _).2 ⟨⟨d0, d1⟩, d2, d3⟩) ?_
            intro _hev
            first | (refine wpOrd_v rfl rfl ?_; intro K hK; go_big_quiet_op; go_big_quiet_on) | (refine wpOrd_q rfl rfl ?_; intro K hK; go_big_quiet_op; go_big_quiet_on)
            first | (refine wpOrd_v rfl rfl ?_; intro K hK; go_big_quiet_op; go_big_quiet_on) | (refine wpOrd_q rfl rfl ?_; intro K hK; go_big_quiet_op; go_big_quiet_on)
            first | (refine wpOrd_v rfl rfl ?_; intro K hK; go_big_quiet_op; go_big_quiet_on) | (refine wpOrd_q rfl rfl ?_; intro K hK; go_big_quiet_op; go_big_quiet_on)
            refine wpOrd_s2 (by decide) rfl rfl rfl ?_; intro K hK; go_big_quiet_op; go_big_quiet_on
            refine wpOrd_s2 (by decide) rfl rfl rfl ?_; intro K hK; go_big_quiet_op; go_big_quiet_on
            refine wpOrd_s2 (by decide) rfl rfl rfl ?_; intro K hK; go_big_quiet_op; go_big_quiet_on
            refine wpOrd_s2 (by decide) rfl rfl rfl ?_; intro K hK; go_big_quiet_op; go_big_quiet_on
            refine wpOrd_s2 (by decide) rfl rfl rfl ?_; intro K hK; go_big_quiet_op; go_big_quiet_on
            refine wpOrd_s2 (by decide) rfl rfl rfl ?_; intro K hK; go_big_quiet_op; go_big_quiet_on
            refine wpOrd_s2 (by decide) rfl rfl rfl ?_; intro K hK; go_big_quiet_op; go_big_quiet_on
            refine wpOrd_s2 (by decide) rfl rfl rfl ?_; intro K hK; go_big_quiet_op; go_big_quiet_on
            refine wpOrd_s2 (by decide) rfl rfl rfl ?_; intro K hK; go_big_quiet_op; go_big_quiet_on
            refine wpOrd_s2 (by decide) rfl rfl rfl ?_; intro K hK; go_big_quiet_op; go_big_quiet_on
            refine wpOrd_s2 (by decide) rfl rfl rfl ?_; intro K hK; go_big_quiet_op; go_big_quiet_on
            refine wpOrd_s2 (by decide) rfl rfl rfl ?_; intro K hK; go_big_quiet_op; go_big_quiet_on
            refine wpOrd_s2 (by decide) rfl rfl rfl ?_; intro K hK; go_big_quiet_op; go_big_quiet_on
            refine wpOrd_s2 (by decide) rfl rfl rfl ?_; intro K hK; go_big_quiet_op; go_big_quiet_on
            refine wpOrd_s2 (by decide) rfl rfl rfl ?_; intro K hK; go_big_quiet_op; go_big_quiet_on
            refine wpOrd_s2 (by decide) rfl rfl rfl ?_; intro K hK; go_big_quiet_op; go_big_quiet_on
            refine wpOrd_s2 (by decide) rfl rfl rfl ?_; intro K hK; go_big_quiet_op; go_big_quiet_on
            refine wpOrd_s2 (by decide) rfl rfl rfl ?_; intro K hK; go_big_quiet_op; go_big_quiet_on
            refine wpOrd_s2 (by decide) rfl rfl rfl ?_; intro K hK; go_big_quiet_op; go_big_quiet_on
            refine wpOrd_s2 (by decide) rfl rfl rfl ?_; intro K hK; go_big_quiet_op; go_big_quiet_on
            refine wpOrd_s2 (by decide) rfl rfl rfl ?_; intro K hK; go_big_quiet_op; go_big_quiet_on
            refine wpOrd_s2 (by decide) rfl rfl rfl ?_; intro K hK; go_big_quiet_op; go_big_quiet_on
            refine wpOrd_s2 (by decide) rfl rfl rfl ?_; intro K hK; go_big_quiet_op; go_big_quiet_on
            refine wpOrd_s2 (by decide) rfl rfl rfl ?_; intro K hK; go_big_quiet_op; go_big_quiet_on
            refine wpOrd_s2 (by decide) rfl rfl rfl ?_; intro K hK; go_big_quiet_op; go_big_quiet_on
            refine wpOrd_s2 (by decide) rfl rfl rfl ?_; intro K hK; go_big_quiet_op; go_big_quiet_on
            first | (refine wpOrd_v rfl rfl ?_; intro K hK; go_big_quiet_op; go_big_quiet_on) | (refine wpOrd_q rfl rfl ?_; intro K hK; go_big_quiet_op; go_big_quiet_on)
            refine wpOrd_nil ?_
            clear hevT _hev
            clear cx cx2 cy cz hS0 S
            go_wp2
            go_roundw
            case rel => exact ⟨i + 1, rfl, h7.out, hok.out, K3.drew⟩
            case measure => have := h7.out; simp [intOf]; omega
          · have hiz : (0 : Int) < (i : Int) := by omega
            have hizP : (0 < i) = True := eq_true hz
            have hiq : (i : Int) - 1 = (q : Int) := by have := hq.out; omega
            have hq7' : (q : Int) < (gs.length : Int) := by omega
            rw [hls.out hz] at hg2
            simp only at hg2
            clear hx1 hx2 hb1 hb2 hz
            by_cases h3 : xe ≤ ye
            · have hno := Lib.hid (hbad.out 11 (by rw [hg2, if_pos (.inl h3)]))
              have g3 : (xe ≤ ye) = True := eq_true h3
              clear hg2
              go_wp2_with fail
              obtain ⟨S, hS⟩ : ∃ S : Nat → World → Prop, S = fun _ w' => (w'.cell? ⟨b, o + i * 2, none⟩ = some (.int .i64 xe) ∧ w'.cell? ⟨b, o + i * 2 + 1, none⟩ = some (.int .i64 xr)) ∧ w'.cell? ⟨b, o + q * 2, none⟩ = some (.int .i64 ye) ∧ w'.cell? ⟨b, o + q * 2 + 1, none⟩ = some (.int .i64 yr) := ⟨_, rfl⟩
              have hS0 : ∀ w', S 0 w' ↔ ((w'.cell? ⟨b, o + i * 2, none⟩ = some (.int .i64 xe) ∧ w'.cell? ⟨b, o + i * 2 + 1, none⟩ = some (.int .i64 xr)) ∧ w'.cell? ⟨b, o + q * 2, none⟩ = some (.int .i64 ye) ∧ w'.cell? ⟨b, o + q * 2 + 1, none⟩ = some (.int .i64 yr)) := fun w' => by rw [hS]
              clear hS
              have cx := fun (x : Ev (S 0)) => ((hS0 _).1 x.h).1.1
              have cx2 := fun (x : Ev (S 0)) => ((hS0 _).1 x.h).1.2
              have cy := fun (x : Ev (S 0)) => ((hS0 _).1 x.h).2.1
              have cz := fun (x : Ev (S 0)) => ((hS0 _).1 x.h).2.2
              have hevT := ev_true
              refine wp_region_ord S [(0, 0), (1, 0), (2, 0), (3, 0), (4, 0), (5, 0), (6, 0), (7, 1), (8, 0), (9, 0), (10, 0), (11, 0), (12, 0), (13, 1), (14, 0), (15, 0), (16, 0), (17, 0), (18, 0), (19, 0), (20, 1), (21, 0), (22, 0), (23, 0), (24, 0), (25, 0), (26, 1), (27, 0), (28, 0), (29, 0)] [] (by kernel_rfl) (by kernel_rfl) ((hS0 _).2 ⟨⟨d0, d1⟩, d2, d3⟩) ?_
              intro _hev
              first | (refine wpOrd_v rfl rfl ?_; intro K hK; go_big_quiet_op; go_big_quiet_on) | (refine wpOrd_q rfl rfl ?_; intro K hK; go_big_quiet_op; go_big_quiet_on)
              first | (refine wpOrd_v rfl rfl ?_; intro K hK; go_big_quiet_op; go_big_quiet_on) | (refine wpOrd_q rfl rfl ?_; intro K hK; go_big_quiet_op; go_big_quiet_on)
              first | (refine wpOrd_v rfl rfl ?_; intro K hK; go_big_quiet_op; go_big_quiet_on) | (refine wpOrd_q rfl rfl ?_; intro K hK; go_big_quiet_op; go_big_quiet_on)
              first | (refine wpOrd_v rfl rfl ?_; intro K hK; go_big_quiet_op; go_big_quiet_on) | (refine wpOrd_q rfl rfl ?_; intro K hK; go_big_quiet_op; go_big_quiet_on)
              first | (refine wpOrd_v rfl rfl ?_; intro K hK; go_big_quiet_op; go_big_quiet_on) | (refine wpOrd_q rfl rfl ?_; intro K hK; go_big_quiet_op; go_big_quiet_on)
              first | (refine wpOrd_v rfl rfl ?_; intro K hK; go_big_quiet_op; go_big_quiet_on) | (refine wpOrd_q rfl rfl ?_; intro K hK; go_big_quiet_op; go_big_quiet_on)
              first | (refine wpOrd_v rfl rfl ?_; intro K hK; go_big_quiet_op; go_big_quiet_on) | (refine wpOrd_q rfl rfl ?_; intro K hK; go_big_quiet_op; go_big_quiet_on)
              first | (refine wpOrd_v rfl rfl ?_; intro K hK; go_big_quiet_op; go_big_quiet_on) | (refine wpOrd_q rfl rfl ?_; intro K hK; go_big_quiet_op; go_big_quiet_on)
              first | (refine wpOrd_v rfl rfl ?_; intro K hK; go_big_quiet_op; go_big_quiet_on) | (refine wpOrd_q rfl rfl ?_; intro K hK; go_big_quiet_op; go_big_quiet_on)
              first | (refine wpOrd_v rfl rfl ?_; intro K hK; go_big_quiet_op; go_big_quiet_on) | (refine wpOrd_q rfl rfl ?_; intro K hK; go_big_quiet_op; go_big_quiet_on)
              first | (refine wpOrd_v rfl rfl ?_; intro K hK; go_big_quiet_op; go_big_quiet_on) | (refine wpOrd_q rfl rfl ?_; intro K hK; go_big_quiet_op; go_big_quiet_on)
              first | (refine wpOrd_v rfl rfl ?_; intro K hK; go_big_quiet_op; go_big_quiet_on) | (refine wpOrd_q rfl rfl ?_; intro K hK; go_big_quiet_op; go_big_quiet_on)
              first | (refine wpOrd_v rfl rfl ?_; intro K hK; go_big_quiet_op; go_big_quiet_on) | (refine wpOrd_q rfl rfl ?_; intro K hK; go_big_quiet_op; go_big_quiet_on)
              first | (refine wpOrd_v rfl rfl ?_; intro K hK; go_big_quiet_op; go_big_quiet_on) | (refine wpOrd_q rfl rfl ?_; intro K hK; go_big_quiet_op; go_big_quiet_on)
              first | (refine wpOrd_v rfl rfl ?_; intro K hK; go_big_quiet_op; go_big_quiet_on) | (refine wpOrd_q rfl rfl ?_; intro K hK; go_big_quiet_op; go_big_quiet_on)
              first | (refine wpOrd_v rfl rfl ?_; intro K hK; go_big_quiet_op; go_big_quiet_on) | (refine wpOrd_q rfl rfl ?_; intro K hK; go_big_quiet_op; go_big_quiet_on)
              refine wpOrd_s2 (by decide) rfl rfl rfl ?_; intro K hK; go_big_quiet_op; go_big_quiet_on
              refine wpOrd_s2 (by decide) rfl rfl rfl ?_; intro K hK; go_big_quiet_op; go_big_quiet_on
              refine wpOrd_s2 (by decide) rfl rfl rfl ?_; intro K hK; go_big_quiet_op; go_big_quiet_on
              refine wpOrd_s2 (by decide) rfl rfl rfl ?_; intro K hK; go_big_quiet_op; go_big_quiet_on
              refine wpOrd_s2 (by decide) rfl rfl rfl ?_; intro K hK; go_big_quiet_op; go_big_quiet_on
              refine wpOrd_s2 (by decide) rfl rfl rfl ?_; intro K hK; go_big_quiet_op; go_big_quiet_on
              refine wpOrd_s2 (by decide) rfl rfl rfl ?_; intro K hK; go_big_quiet_op; go_big_quiet_on
              refine wpOrd_s2 (by decide) rfl rfl rfl ?_; intro K hK; go_big_quiet_op; go_big_quiet_on
              refine wpOrd_s2 (by decide) rfl rfl rfl ?_; intro K hK; go_big_quiet_op; go_big_quiet_on
              refine wpOrd_s2 (by decide) rfl rfl rfl ?_; intro K hK; go_big_quiet_op; go_big_quiet_on
              refine wpOrd_s2 (by decide) rfl rfl rfl ?_; intro K hK; go_big_quiet_op; go_big_quiet_on
              refine wpOrd_s2 (by decide) rfl rfl rfl ?_; intro K hK; go_big_quiet_op; go_big_quiet_on
              first | (refine wpOrd_v rfl rfl ?_; intro K hK; go_big_quiet_op; go_big_quiet_on) | (refine wpOrd_q rfl rfl ?_; intro K hK; go_big_quiet_op; go_big_quiet_on)
              first | (refine wpOrd_v rfl rfl ?_; intro K hK; go_big_quiet_op; go_big_quiet_on) | (refine wpOrd_q rfl rfl ?_; intro K hK; go_big_quiet_op; go_big_quiet_on)
              refine wpOrd_nil ?_
              clear hevT _hev
              clear cx cx2 cy cz hS0 S
              go_wp2
              exact bodyPost_ret (by simp [results, Tryd.results46, go_sem]) rfl ⟨⟨11, rfl, hno.out⟩, K3.drew⟩
            · have g3 : (xe ≤ ye) = False := eq_false h3
              by_cases h4 : xr < yr
              · have hno := Lib.hid (hbad.out 11 (by rw [hg2, if_pos (.inr h4)]))
                have g4 : (xr < yr) = True := eq_true h4
                clear hg2
                go_wp2_with fail
                obtain ⟨S, hS⟩ : ∃ S : Nat → World → Prop, S = fun _ w' => (w'.cell? ⟨b, o + i * 2, none⟩ = some (.int .i64 xe) ∧ w'.cell? ⟨b, o + i * 2 + 1, none⟩ = some (.int .i64 xr)) ∧ w'.cell? ⟨b, o + q * 2, none⟩ = some (.int .i64 ye) ∧ w'.cell? ⟨b, o + q * 2 + 1, none⟩ = some (.int .i64 yr) := ⟨_, rfl⟩
                have hS0 : ∀ w', S 0 w' ↔ ((w'.cell? ⟨b, o + i * 2, none⟩ = some (.int .i64 xe) ∧ w'.cell? ⟨b, o + i * 2 + 1, none⟩ = some (.int .i64 xr)) ∧ w'.cell? ⟨b, o + q * 2, none⟩ = some (.int .i64 ye) ∧ w'.cell? ⟨b, o + q * 2 + 1, none⟩ = some (.int .i64 yr)) := fun w' => by rw [hS]
                clear hS
                have cx := fun (x : Ev (S 0)) => ((hS0 _).1 x.h).1.1
                have cx2 := fun (x : Ev (S 0)) => ((hS0 _).1 x.h).1.2
                have cy := fun (x : Ev (S 0)) => ((hS0 _).1 x.h).2.1
                have cz := fun (x : Ev (S 0)) => ((hS0 _).1 x.h).2.2
                have hevT := ev_true
                refine wp_region_ord S [(0, 0), (1, 0), (2, 0), (3, 0), (4, 0), (5, 0), (6, 0), (7, 1), (8, 0), (9, 0), (10, 0), (11, 0), (12, 0), (13, 1), (14, 0), (15, 0), (16, 0), (17, 0), (18, 0), (19, 0), (20, 1), (21, 0), (22, 0), (23, 0), (24, 0), (25, 0), (26, 1), (27, 0), (28, 0), (29, 0)] [] (by kernel_rfl) (by kernel_rfl) ((hS0 _).2 ⟨⟨d0, d1⟩, d2, d3⟩) ?_
                intro _hev
                iterate 30 (first | (refine wpOrd_v rfl rfl ?_; intro K hK; go_big_quiet_op; go_big_quiet_on) | (refine wpOrd_q rfl rfl ?_; intro K hK; go_big_quiet_op; go_big_quiet_on) | refine wpOrd_s (by decide) rfl rfl ?_)
                refine wpOrd_nil ?_
                clear hevT _hev
                clear cx cx2 cy cz hS0 S
                go_wp2
                exact bodyPost_ret (by simp [results, Tryd.results46, go_sem]) rfl ⟨⟨11, rfl, hno.out⟩, K3.drew⟩
              · have hok := Lib.hid (hst.out (by rw [hg2, if_neg (fun k => k.elim h3 h4)]))
                have g4 : (xr < yr) = False := eq_false h4
                clear hg2
                go_wp2_with fail
                obtain ⟨S, hS⟩ : ∃ S : Nat → World → Prop, S = fun _ w' => (w'.cell? ⟨b, o + i * 2, none⟩ = some (.int .i64 xe) ∧ w'.cell? ⟨b, o + i * 2 + 1, none⟩ = some (.int .i64 xr)) ∧ w'.cell? ⟨b, o + q * 2, none⟩ = some (.int .i64 ye) ∧ w'.cell? ⟨b, o + q * 2 + 1, none⟩ = some (.int .i64 yr) := ⟨_, rfl⟩
                have hS0 : ∀ w', S 0 w' ↔ ((w'.cell? ⟨b, o + i * 2, none⟩ = some (.int .i64 xe) ∧ w'.cell? ⟨b, o + i * 2 + 1, none⟩ = some (.int .i64 xr)) ∧ w'.cell? ⟨b, o + q * 2, none⟩ = some (.int .i64 ye) ∧ w'.cell? ⟨b, o + q * 2 + 1, none⟩ = some (.int .i64 yr)) := fun w' => by rw [hS]
                clear hS
                have cx := fun (x : Ev (S 0)) => ((hS0 _).1 x.h).1.1
                have cx2 := fun (x : Ev (S 0)) => ((hS0 _).1 x.h).1.2
                have cy := fun (x : Ev (S 0)) => ((hS0 _).1 x.h).2.1
                have cz := fun (x : Ev (S 0)) => ((hS0 _).1 x.h).2.2
                have hevT := ev_true
                refine wp_region_ord S [(0, 0), (1, 0), (2, 0), (3, 0), (4, 0), (5, 0), (6, 0), (7, 1), (8, 0), (9, 0), (10, 0), (11, 0), (12, 0), (13, 1), (14, 0), (15, 0), (16, 0), (17, 0), (18, 0), (19, 0), (20, 1), (21, 0), (22, 0), (23, 0), (24, 0), (25, 0), (26, 1), (27, 0), (28, 0), (29, 0)] [] (by kernel_rfl) (by kernel_rfl) ((hS0 _).2 ⟨⟨d0, d1⟩, d2, d3⟩) ?_
                intro _hev
                iterate 30 (first | (refine wpOrd_v rfl rfl ?_; intro K hK; go_big_quiet_op; go_big_quiet_on) | (refine wpOrd_q rfl rfl ?_; intro K hK; go_big_quiet_op; go_big_quiet_on) | refine wpOrd_s (by decide) rfl rfl ?_)
                refine wpOrd_nil ?_
                clear hevT _hev
                clear cx cx2 cy cz hS0 S
                go_wp2
                go_roundw
                case rel => exact ⟨i + 1, rfl, h7.out, hok.out, K3.drew⟩
                case measure => have := h7.out; simp [intOf]; omega
    · have he : i = gs.length := by omega
      have hok : GradesChk gs 0 := .inr (.inr ⟨h0, hl, .inl ⟨rfl, fun j hjl => hj j hjl (by omega)⟩⟩)
      replace hok := Lib.hid hok
      have hi' : ¬ (i : Int) < (gs.length : Int) := by omega
      clear hj hi h7 hl h
      go_wp2
      exact bodyPost_ret (by simp [results, Tryd.results46, go_sem]) rfl ⟨⟨0, rfl, hok.out⟩, KK⟩

/-! ### The reach -/
/-- What the reference reckons. -/
def reachRef (en : Int) : List Grade → Int → Int
  | [], far => far
  | g :: gs, far => reachRef en gs (if g.energy ≤ en then g.reach else far)
def Rising : List Grade → Prop
  | [] => True
  | g :: gs => (∀ x ∈ gs, g.energy < x.energy) ∧ Rising gs
theorem reachRef_stop (en : Int) : ∀ (gs : List Grade) (far : Int), (∀ x ∈ gs, en < x.energy) → reachRef en gs far = far
  | [], _, _ => rfl
  | g :: gs, far, h => by
    unfold reachRef
    rw [if_neg (by have := h g (List.mem_cons_self); omega)]
    exact reachRef_stop en gs far fun x hx => h x (List.mem_cons_of_mem _ hx)
theorem reachRef_eq (en : Int) : ∀ (gs : List Grade) (far : Int), Rising gs → reachRef en gs far = reachOf en gs far
  | [], _, _ => rfl
  | g :: gs, far, h => by
    rw [reach_cons]
    unfold reachRef
    by_cases hg : en < g.energy
    · rw [if_pos hg, if_neg (by omega)]
      exact reachRef_stop en gs far fun x hx => by have := h.1 x hx; omega
    · rw [if_neg hg, if_pos (by omega)]
      exact reachRef_eq en gs _ h.2
theorem rising_of : ∀ (gs : List Grade), (∀ i (hi : i + 1 < gs.length), gs[i].energy < gs[i + 1].energy) → Rising gs
  | [], _ => trivial
  | g :: gs, h => by
    have ht := rising_of gs fun i hi => h (i + 1) (by simp; omega)
    refine ⟨?_, ht⟩
    cases gs with
    | nil => intro x hx; cases hx
    | cons a gs =>
      have h0 : g.energy < a.energy := h 0 (by simp)
      intro x hx
      rcases List.mem_cons.1 hx with rfl | hx
      · exact h0
      · have := ht.1 x hx; omega
theorem grades_rising {gs : List Grade} (h : GradesChk gs 0) : Rising gs := by
  refine rising_of gs fun i hi => ?_
  rcases h with ⟨_, h⟩ | ⟨_, h⟩ | ⟨_, _, ⟨_, h⟩ | ⟨j, hj, h, _⟩⟩
  · cases h
  · cases h
  · have := h (i + 1) hi
    rw [gradeErr_last, lastOf_succ gs i (by omega)] at this
    by_cases h1 : ¬ (btw gs[i + 1].energy 0 1152921504606846976 = true ∧ btw gs[i + 1].reach 0 400 = true)
    · rw [if_pos h1] at this; cases this
    · rw [if_neg h1] at this
      by_cases h2 : gs[i + 1].energy ≤ gs[i].energy ∨ gs[i + 1].reach < gs[i].reach
      · rw [if_pos h2] at this; cases this
      · have : ¬ gs[i + 1].energy ≤ gs[i].energy := fun k => h2 (.inl k)
        omega
  · rw [gradeErr_last] at h
    by_cases h1 : ¬ (btw gs[j].energy 0 1152921504606846976 = true ∧ btw gs[j].reach 0 400 = true)
    · rw [if_pos h1] at h; injection h with h; cases h
    · rw [if_neg h1] at h
      by_cases h2 : gs[j].energy ≤ (lastOf gs j).energy ∨ gs[j].reach < (lastOf gs j).reach
      · rw [if_pos h2] at h; injection h with h; cases h
      · rw [if_neg h2] at h; cases h
def RefReachAt (gs : List Grade) (en : Int) (w : World) (vf vi : Value) (wr : World) : Prop :=
  ∃ (i : Nat) (far : Int), vi = .int .i64 i ∧ i ≤ gs.length ∧ vf = .int .i64 far ∧ reachRef en gs 0 = reachRef en (gs.drop i) far ∧ Kp w.heap.size none w wr
set_option maxRecDepth 100000 in
set_option maxHeartbeats 400000 in
theorem ref_reach_any (A : Option Addr) (cap : Nat) (gs : List Grade) (en : Int) (w : World) (h : Rd none w 2 encGrade A gs.length gs) (hk : GradesChk gs 0) :
    Calls Tryd.prog 93 #[.slice A gs.length cap, .int .i64 en] w fun e w' => e = .returned (.int .i64 (reachOf en gs 0)) ∧ Kp w.heap.size none w w' := by
  have hl : gs.length ≤ 32 := by
    rcases hk with ⟨h1, h2⟩ | ⟨h1, h2⟩ | ⟨h1, h2, h3⟩
    · omega
    · omega
    · exact h2
  rw [← reachRef_eq en gs 0 (grades_rising hk)]
  clear hk
  go_enter Tryd.func93, Tryd.ntmps93
  go_wp2_with fail
  go_loopw [5, 6] (fun vf v wr => RefReachAt gs en w vf v wr) (fun _ v _ => gs.length - (intOf v).toNat)
  case atStart => exact ⟨0, 0, rfl, by omega, rfl, rfl, Kp.refl _ _ _⟩
  case round =>
    obtain ⟨i, far, rfl, hi, rfl, hf, KK⟩ := hrel
    by_cases h7 : i < gs.length
    · obtain ⟨b, o, rfl, hbl, -, hc⟩ := (h.kpN KK).at_ (by omega)
      have c0 : wr.cell? ⟨b, o + i * 2, none⟩ = some (.int .i64 gs[i].energy) := hc i h7 0 _ rfl
      have c1 : wr.cell? ⟨b, o + i * 2 + 1, none⟩ = some (.int .i64 gs[i].reach) := hc i h7 1 _ rfl
      have hi' : (i : Int) < (gs.length : Int) := by omega
      have hlen : (gs.length : Int) ≤ 32 := by omega
      rw [List.drop_eq_getElem_cons h7] at hf
      have hcons : ∀ g l, reachRef en (g :: l) far = reachRef en l (if g.energy ≤ en then g.reach else far) := fun _ _ => rfl
      rw [hcons] at hf
      generalize gs[i] = x at c0 c1 hf
      clear hc hbl hi hcons
      replace h7 := Lib.hid h7
      replace h := Lib.hid h
      by_cases hb : x.energy ≤ en
      · rw [if_pos hb] at hf
        replace hf := Lib.hid hf
        go_wp2
        go_roundw
        case rel => exact ⟨i + 1, x.reach, rfl, h7.out, rfl, hf.out, KK⟩
        case measure => have := h7.out; simp [intOf]; omega
      · rw [if_neg hb] at hf
        replace hf := Lib.hid hf
        go_wp2
        go_roundw
        case rel => exact ⟨i + 1, far, rfl, h7.out, rfl, hf.out, KK⟩
        case measure => have := h7.out; simp [intOf]; omega
    · have he : i = gs.length := by omega
      have hi' : ¬ (i : Int) < (gs.length : Int) := by omega
      rw [he, List.drop_length] at hf
      have hf2 : reachRef en gs 0 = far := hf
      replace hf2 := Lib.hid hf2
      clear hf h hi h7
      go_wp2
      exact bodyPost_ret (v := .int .i64 far) (by simp [results, Tryd.results93, go_sem]) rfl ⟨by rw [hf2.out], KK⟩
set_option maxHeartbeats 400000 in
theorem ref_Reach_any (A : Option Addr) (cap : Nat) (gs : List Grade) (en : Int) (w : World) (h : Rd none w 2 encGrade A gs.length gs) :
    Calls Tryd.prog 47 #[.slice A gs.length cap, .int .i64 en] w fun e w' => (∃ v, e = .returned (.int .i64 v) ∧ ((GradesChk gs 0 ∧ v = reachOf en gs 0) ∨ (¬ GradesChk gs 0 ∧ v = 0))) ∧ Kp w.heap.size none w w' := by
  go_enter Tryd.func47, Tryd.ntmps47
  go_wp2_with fail
  refine (ref_CheckGrades_any A cap gs _ h).mono ?_
  rintro e w1 ⟨⟨n, rfl, hn⟩, k1⟩
  by_cases hn0 : n = 0
  · subst hn0
    replace hn := Lib.hid hn
    go_wp2_with fail
    refine (ref_reach_any A cap gs en _ (h.kpN k1) hn.out).mono ?_
    rintro e w2 ⟨rfl, k2⟩
    have K2 := k1.then_ k2 (Nat.le_refl _)
    clear k1 k2 h
    go_wp2
    exact bodyPost_ret (by simp [results, Tryd.results47, go_sem]) rfl ⟨⟨_, rfl, .inl ⟨hn.out, rfl⟩⟩, K2⟩
  · have hno : ¬ GradesChk gs 0 := fun k => hn0 (gradesChk_one hn k)
    replace hno := Lib.hid hno
    clear hn h
    go_wp2
    exact bodyPost_ret (by simp [results, Tryd.results47, go_sem]) rfl ⟨⟨0, rfl, .inr ⟨hno.out, rfl⟩⟩, k1⟩
end Go.Proofs.YtdiigflbohbndaaDoor
