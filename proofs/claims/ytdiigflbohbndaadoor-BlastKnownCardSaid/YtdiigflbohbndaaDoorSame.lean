/- Equal lists of blows. -/
import Derived.Test.YtdiigflbohbndaaDoorBlow3
namespace Go.Proofs.YtdiigflbohbndaaDoor
open Go.RowKit

theorem blow_eq (a b : Blow) : a = b ↔ a.layer = b.layer ∧ a.lo = b.lo ∧ a.hi = b.hi := by
  constructor
  · rintro rfl; exact ⟨rfl, rfl, rfl⟩
  · obtain ⟨a1, a2, a3⟩ := a
    obtain ⟨b1, b2, b3⟩ := b
    rintro ⟨h1, h2, h3⟩
    simp_all
def SamePost (xs ys : List Blow) (w : World) (e : Ending) (w' : World) : Prop := (∃ b, e = .returned (.bool b) ∧ (b = true ↔ xs = ys)) ∧ Kp w.heap.size none w w'
def SameAt (xs ys : List Blow) (w : World) (v : Value) (wr : World) : Prop := ∃ i : Nat, v = .int .i64 i ∧ i ≤ xs.length ∧ (∀ j (hj : j < xs.length) (hk : j < ys.length), j < i → xs[j] = ys[j]) ∧ Kp w.heap.size none w wr
set_option maxRecDepth 100000 in
set_option maxHeartbeats 1000000 in
theorem kit_SameBlows_any (A B : Option Addr) (c d : Nat) (xs ys : List Blow) (w0 : World) (h : Rd none w0 3 encBlow A xs.length xs) (k : Rd none w0 3 encBlow B ys.length ys) (hl : xs.length ≤ 100) :
    Calls Tryd.prog 56 #[.slice A xs.length c, .slice B ys.length d] w0 (SamePost xs ys w0) := by
  go_enter Tryd.func56, Tryd.ntmps56
  rcases (show xs.length ≠ ys.length ∨ xs.length = ys.length by omega) with hne | heq
  · have hne' : ¬ (xs.length : Int) = (ys.length : Int) := by omega
    have hc := Lib.hid (show ¬ xs = ys from fun e => hne (by rw [e]))
    clear hne h k
    go_wp2
    exact bodyPost_ret (v := .bool false) (by simp [results, Tryd.results56, go_sem]) rfl ⟨⟨false, rfl, ⟨fun e => (by cases e), fun e => absurd e hc.out⟩⟩, Kp.refl _ _ _⟩
  · have heq' : (xs.length : Int) = (ys.length : Int) := by omega
    rw [← heq] at k
    rw [← heq]
    replace heq := Lib.hid heq
    clear heq'
    go_wp2_with fail
    go_loopw [5] (fun v wr => SameAt xs ys w0 v wr) (fun v _ => xs.length - (intOf v).toNat)
    case atStart => exact ⟨0, rfl, by omega, fun j _ _ hj => absurd hj (by omega), Kp.refl _ _ _⟩
    case round =>
      obtain ⟨i, rfl, hi, hj, KK⟩ := hrel
      by_cases h7 : i < xs.length
      · have h8 : i < ys.length := by rw [← heq.out]; exact h7
        obtain ⟨b, o, rfl, hbl, -, hc⟩ := (h.kpN KK).at_ (by omega)
        obtain ⟨b', o', rfl, hbl', -, hc'⟩ := (k.kpN KK).at_ (by omega)
        have c0 : wr.cell? ⟨b, o + i * 3, none⟩ = some (.int .i64 xs[i].layer) := hc i h7 0 _ rfl
        have c1 : wr.cell? ⟨b, o + i * 3 + 1, none⟩ = some (.int .i64 xs[i].lo) := hc i h7 1 _ rfl
        have c2 : wr.cell? ⟨b, o + i * 3 + 2, none⟩ = some (.int .i64 xs[i].hi) := hc i h7 2 _ rfl
        have d0 : wr.cell? ⟨b', o' + i * 3, none⟩ = some (.int .i64 ys[i].layer) := hc' i h8 0 _ rfl
        have d1 : wr.cell? ⟨b', o' + i * 3 + 1, none⟩ = some (.int .i64 ys[i].lo) := hc' i h8 1 _ rfl
        have d2 : wr.cell? ⟨b', o' + i * 3 + 2, none⟩ = some (.int .i64 ys[i].hi) := hc' i h8 2 _ rfl
        have hi' : (i : Int) < (xs.length : Int) := by omega
        have hlen : (xs.length : Int) ≤ 100 := by omega
        have hst : xs[i] = ys[i] → ∀ j (hj : j < xs.length) (hk : j < ys.length), j < i + 1 → xs[j] = ys[j] := fun h j hjl hkl hj' => by
          rcases Nat.lt_or_ge j i with h1 | h1
          · exact hj j hjl hkl h1
          · have : j = i := by omega
            subst this; exact h
        have hbad : xs[i] ≠ ys[i] → ¬ xs = ys := fun h e => h (by subst e; rfl)
        rw [blow_eq] at hst
        rw [Ne, blow_eq] at hbad
        generalize xs[i] = x at c0 c1 c2 hst hbad
        generalize ys[i] = y at d0 d1 d2 hst hbad
        obtain ⟨x1, x2, x3⟩ := x
        obtain ⟨y1, y2, y3⟩ := y
        dsimp only at *
        clear hc hc' hj
        replace hst := Lib.hid hst
        replace hbad := Lib.hid hbad
        replace h7 := Lib.hid h7
        replace h8 := Lib.hid h8
        replace h := Lib.hid h
        replace k := Lib.hid k
        go_wp2_with fail
        rcases (show (x1 = y1 ∧ x2 = y2 ∧ x3 = y3) ∨ x1 ≠ y1 ∨ (x1 = y1 ∧ x2 ≠ y2) ∨ (x1 = y1 ∧ x2 = y2 ∧ x3 ≠ y3) by omega) with ⟨q1, q2, q3⟩ | q1 | ⟨q1, q2⟩ | ⟨q1, q2, q3⟩
        · have hn9 := Lib.hid (hst.out ⟨q1, q2, q3⟩)
          subst q1 q2 q3
          refine wp_region_inv (Γ := Unit) [none, none, none, none, none, none, none, none, none, none, none, none, none, none, none, none, none, some 0, some 1, some 2, some 3, some 4, some 5, some 6, some 7, some 8] [[], [], [0, 1], [0, 1, 2], [], [], [4, 5], [4, 5, 6], [0, 1, 2, 3, 4, 5, 6, 7]] [[1, 4, 5, 6, 7], [0, 4, 5, 6, 7], [0, 1, 4, 5, 6, 7], [0, 1, 2, 4, 5, 6, 7], [0, 1, 2, 3, 5], [0, 1, 2, 3, 4], [0, 1, 2, 3, 4, 5], [0, 1, 2, 3, 4, 5, 6], [0, 1, 2, 3, 4, 5, 6, 7]] (fun γ => [.slice (some ⟨b, o, none⟩) xs.length c, .int .i64 i, .pointer (some ⟨b, o + i * 3, none⟩), .agg #[.int .i64 x1, .int .i64 x2, .int .i64 x3], .slice (some ⟨b', o', none⟩) xs.length d, .int .i64 i, .pointer (some ⟨b', o' + i * 3, none⟩), .agg #[.int .i64 x1, .int .i64 x2, .int .i64 x3], .bool false]) (fun γ => [none, none, none, none, none, none, none, none, none, none, none, none, none, none, none, none, none, some (.slice (some ⟨b, o, none⟩) xs.length c), some (.int .i64 i), some (.pointer (some ⟨b, o + i * 3, none⟩)), some (.agg #[.int .i64 x1, .int .i64 x2, .int .i64 x3]), some (.slice (some ⟨b', o', none⟩) xs.length d), some (.int .i64 i), some (.pointer (some ⟨b', o' + i * 3, none⟩)), some (.agg #[.int .i64 x1, .int .i64 x2, .int .i64 x3]), some (.bool false)]) ?A6_1 (fun n D γ w => w.os = w.os ∧ (w.cell? ⟨b, o + i * 3, none⟩ = some (.int .i64 x1) ∧ w.cell? ⟨b, o + i * 3 + 1, none⟩ = some (.int .i64 x2) ∧ w.cell? ⟨b, o + i * 3 + 2, none⟩ = some (.int .i64 x3)) ∧ (w.cell? ⟨b', o' + i * 3, none⟩ = some (.int .i64 x1) ∧ w.cell? ⟨b', o' + i * 3 + 1, none⟩ = some (.int .i64 x2) ∧ w.cell? ⟨b', o' + i * 3 + 2, none⟩ = some (.int .i64 x3)) ∧ Kp w0.heap.size none w0 w) (fun k γ w => True) () (by kernel_rfl) (fun _ => rfl) ?hA6_1 (by kernel_rfl) ?hB06_1 ?hop6_1 ?hend6_1
          case hA6_1 => intro γ; dsimp only [fullV]; rfl
          case hB06_1 =>
            exact ⟨rfl, ⟨c0, c1, c2⟩, ⟨d0, d1, d2⟩, KK.drew⟩
          case hop6_1 =>
            intro hA
            refine ⟨?_, ?_, ?_, ?_, ?_, ?_, ?_, ?_, ?_, trivial⟩
            · refine opOk_v hA (fun _ => rfl) (fun _ _ => trivial) ?_ ?_
              · intro n D γ w hn h
                replace hn : n < 9 := hn
                try dsimp only at h
                exact h
              intro n D γ w hB hU K hK
              try dsimp only at hB
              try dsimp only
              clear hB hU
              go_step
              exact hK _ rfl
            · refine opOk_v hA (fun _ => rfl) (fun _ _ => trivial) ?_ ?_
              · intro n D γ w hn h
                replace hn : n < 9 := hn
                try dsimp only at h
                exact h
              intro n D γ w hB hU K hK
              try dsimp only at hB
              try dsimp only
              clear hB hU
              go_step
              exact hK _ rfl
            · refine opOk_v hA (fun _ => rfl) (fun _ _ => trivial) ?_ ?_
              · intro n D γ w hn h
                replace hn : n < 9 := hn
                try dsimp only at h
                exact h
              intro n D γ w hB hU K hK
              try dsimp only at hB
              try dsimp only
              clear hB hU
              go_step
              exact hK _ rfl
            · refine opOk_v hA (fun _ => rfl) (fun _ _ => trivial) ?_ ?_
              · intro n D γ w hn h
                replace hn : n < 9 := hn
                try dsimp only at h
                exact h
              intro n D γ w hB hU K hK
              try dsimp only at hB
              try dsimp only
              have e0 := hB.2.1.1
              have e1 := hB.2.1.2.1
              have e2 := hB.2.1.2.2
              have e3 := hB.2.2.1.1
              have e4 := hB.2.2.1.2.1
              have e5 := hB.2.2.1.2.2
              clear hB hU
              go_step
              exact hK _ rfl
            · refine opOk_v hA (fun _ => rfl) (fun _ _ => trivial) ?_ ?_
              · intro n D γ w hn h
                replace hn : n < 9 := hn
                try dsimp only at h
                exact h
              intro n D γ w hB hU K hK
              try dsimp only at hB
              try dsimp only
              clear hB hU
              go_step
              exact hK _ rfl
            · refine opOk_v hA (fun _ => rfl) (fun _ _ => trivial) ?_ ?_
              · intro n D γ w hn h
                replace hn : n < 9 := hn
                try dsimp only at h
                exact h
              intro n D γ w hB hU K hK
              try dsimp only at hB
              try dsimp only
              clear hB hU
              go_step
              exact hK _ rfl
            · refine opOk_v hA (fun _ => rfl) (fun _ _ => trivial) ?_ ?_
              · intro n D γ w hn h
                replace hn : n < 9 := hn
                try dsimp only at h
                exact h
              intro n D γ w hB hU K hK
              try dsimp only at hB
              try dsimp only
              clear hB hU
              go_step
              exact hK _ rfl
            · refine opOk_v hA (fun _ => rfl) (fun _ _ => trivial) ?_ ?_
              · intro n D γ w hn h
                replace hn : n < 9 := hn
                try dsimp only at h
                exact h
              intro n D γ w hB hU K hK
              try dsimp only at hB
              try dsimp only
              have e0 := hB.2.1.1
              have e1 := hB.2.1.2.1
              have e2 := hB.2.1.2.2
              have e3 := hB.2.2.1.1
              have e4 := hB.2.2.1.2.1
              have e5 := hB.2.2.1.2.2
              clear hB hU
              go_step
              exact hK _ rfl
            · refine opOk_v hA (fun _ => rfl) (fun _ _ => trivial) ?_ ?_
              · intro n D γ w hn h
                replace hn : n < 9 := hn
                try dsimp only at h
                exact h
              intro n D γ w hB hU K hK
              try dsimp only at hB
              try dsimp only
              clear hB hU
              go_step
              exact hK _ rfl
          case hend6_1 =>
            intro n D γ w hn hD hB hF
            replace hF := fun k (hk : k < 9) => hF k hk
            try dsimp only at hB
            try dsimp only at hF
            replace hn : n ≤ 9 := hn
            try dsimp only
            obtain ⟨-, -, -, K9⟩ := hB
            clear hD hF hn
            go_wp2
            go_roundw
            case rel => exact ⟨i + 1, rfl, h7.out, hn9.out, K9⟩
            case measure => have := h7.out; simp [intOf]; omega
        · have hn9 := Lib.hid (hbad.out (fun e => q1 e.1))
          refine wp_region_inv (Γ := Unit) [none, none, none, none, none, none, none, none, none, none, none, none, none, none, none, none, none, some 0, some 1, some 2, some 3, some 4, some 5, some 6, some 7, some 8] [[], [], [0, 1], [0, 1, 2], [], [], [4, 5], [4, 5, 6], [0, 1, 2, 3, 4, 5, 6, 7]] [[1, 4, 5, 6, 7], [0, 4, 5, 6, 7], [0, 1, 4, 5, 6, 7], [0, 1, 2, 4, 5, 6, 7], [0, 1, 2, 3, 5], [0, 1, 2, 3, 4], [0, 1, 2, 3, 4, 5], [0, 1, 2, 3, 4, 5, 6], [0, 1, 2, 3, 4, 5, 6, 7]] (fun γ => [.slice (some ⟨b, o, none⟩) xs.length c, .int .i64 i, .pointer (some ⟨b, o + i * 3, none⟩), .agg #[.int .i64 x1, .int .i64 x2, .int .i64 x3], .slice (some ⟨b', o', none⟩) xs.length d, .int .i64 i, .pointer (some ⟨b', o' + i * 3, none⟩), .agg #[.int .i64 y1, .int .i64 y2, .int .i64 y3], .bool true]) (fun γ => [none, none, none, none, none, none, none, none, none, none, none, none, none, none, none, none, none, some (.slice (some ⟨b, o, none⟩) xs.length c), some (.int .i64 i), some (.pointer (some ⟨b, o + i * 3, none⟩)), some (.agg #[.int .i64 x1, .int .i64 x2, .int .i64 x3]), some (.slice (some ⟨b', o', none⟩) xs.length d), some (.int .i64 i), some (.pointer (some ⟨b', o' + i * 3, none⟩)), some (.agg #[.int .i64 y1, .int .i64 y2, .int .i64 y3]), some (.bool true)]) ?A6_2 (fun n D γ w => w.os = w.os ∧ (w.cell? ⟨b, o + i * 3, none⟩ = some (.int .i64 x1) ∧ w.cell? ⟨b, o + i * 3 + 1, none⟩ = some (.int .i64 x2) ∧ w.cell? ⟨b, o + i * 3 + 2, none⟩ = some (.int .i64 x3)) ∧ (w.cell? ⟨b', o' + i * 3, none⟩ = some (.int .i64 y1) ∧ w.cell? ⟨b', o' + i * 3 + 1, none⟩ = some (.int .i64 y2) ∧ w.cell? ⟨b', o' + i * 3 + 2, none⟩ = some (.int .i64 y3)) ∧ Kp w0.heap.size none w0 w) (fun k γ w => True) () (by kernel_rfl) (fun _ => rfl) ?hA6_2 (by kernel_rfl) ?hB06_2 ?hop6_2 ?hend6_2
          case hA6_2 => intro γ; dsimp only [fullV]; rfl
          case hB06_2 =>
            exact ⟨rfl, ⟨c0, c1, c2⟩, ⟨d0, d1, d2⟩, KK.drew⟩
          case hop6_2 =>
            intro hA
            refine ⟨?_, ?_, ?_, ?_, ?_, ?_, ?_, ?_, ?_, trivial⟩
            · refine opOk_v hA (fun _ => rfl) (fun _ _ => trivial) ?_ ?_
              · intro n D γ w hn h
                replace hn : n < 9 := hn
                try dsimp only at h
                exact h
              intro n D γ w hB hU K hK
              try dsimp only at hB
              try dsimp only
              clear hB hU
              go_step
              exact hK _ rfl
            · refine opOk_v hA (fun _ => rfl) (fun _ _ => trivial) ?_ ?_
              · intro n D γ w hn h
                replace hn : n < 9 := hn
                try dsimp only at h
                exact h
              intro n D γ w hB hU K hK
              try dsimp only at hB
              try dsimp only
              clear hB hU
              go_step
              exact hK _ rfl
            · refine opOk_v hA (fun _ => rfl) (fun _ _ => trivial) ?_ ?_
              · intro n D γ w hn h
                replace hn : n < 9 := hn
                try dsimp only at h
                exact h
              intro n D γ w hB hU K hK
              try dsimp only at hB
              try dsimp only
              clear hB hU
              go_step
              exact hK _ rfl
            · refine opOk_v hA (fun _ => rfl) (fun _ _ => trivial) ?_ ?_
              · intro n D γ w hn h
                replace hn : n < 9 := hn
                try dsimp only at h
                exact h
              intro n D γ w hB hU K hK
              try dsimp only at hB
              try dsimp only
              have e0 := hB.2.1.1
              have e1 := hB.2.1.2.1
              have e2 := hB.2.1.2.2
              have e3 := hB.2.2.1.1
              have e4 := hB.2.2.1.2.1
              have e5 := hB.2.2.1.2.2
              clear hB hU
              go_step
              exact hK _ rfl
            · refine opOk_v hA (fun _ => rfl) (fun _ _ => trivial) ?_ ?_
              · intro n D γ w hn h
                replace hn : n < 9 := hn
                try dsimp only at h
                exact h
              intro n D γ w hB hU K hK
              try dsimp only at hB
              try dsimp only
              clear hB hU
              go_step
              exact hK _ rfl
            · refine opOk_v hA (fun _ => rfl) (fun _ _ => trivial) ?_ ?_
              · intro n D γ w hn h
                replace hn : n < 9 := hn
                try dsimp only at h
                exact h
              intro n D γ w hB hU K hK
              try dsimp only at hB
              try dsimp only
              clear hB hU
              go_step
              exact hK _ rfl
            · refine opOk_v hA (fun _ => rfl) (fun _ _ => trivial) ?_ ?_
              · intro n D γ w hn h
                replace hn : n < 9 := hn
                try dsimp only at h
                exact h
              intro n D γ w hB hU K hK
              try dsimp only at hB
              try dsimp only
              clear hB hU
              go_step
              exact hK _ rfl
            · refine opOk_v hA (fun _ => rfl) (fun _ _ => trivial) ?_ ?_
              · intro n D γ w hn h
                replace hn : n < 9 := hn
                try dsimp only at h
                exact h
              intro n D γ w hB hU K hK
              try dsimp only at hB
              try dsimp only
              have e0 := hB.2.1.1
              have e1 := hB.2.1.2.1
              have e2 := hB.2.1.2.2
              have e3 := hB.2.2.1.1
              have e4 := hB.2.2.1.2.1
              have e5 := hB.2.2.1.2.2
              clear hB hU
              go_step
              exact hK _ rfl
            · refine opOk_v hA (fun _ => rfl) (fun _ _ => trivial) ?_ ?_
              · intro n D γ w hn h
                replace hn : n < 9 := hn
                try dsimp only at h
                exact h
              intro n D γ w hB hU K hK
              try dsimp only at hB
              try dsimp only
              clear hB hU
              go_step
              exact hK _ rfl
          case hend6_2 =>
            intro n D γ w hn hD hB hF
            replace hF := fun k (hk : k < 9) => hF k hk
            try dsimp only at hB
            try dsimp only at hF
            replace hn : n ≤ 9 := hn
            try dsimp only
            obtain ⟨-, -, -, K9⟩ := hB
            clear hD hF hn
            go_wp2
            exact bodyPost_ret (v := .bool false) (by simp [results, Tryd.results56, go_sem]) rfl ⟨⟨false, rfl, ⟨fun e => (by cases e), fun e => absurd e hn9.out⟩⟩, K9⟩
        · have hn9 := Lib.hid (hbad.out (fun e => q2 e.2.1))
          subst q1
          refine wp_region_inv (Γ := Unit) [none, none, none, none, none, none, none, none, none, none, none, none, none, none, none, none, none, some 0, some 1, some 2, some 3, some 4, some 5, some 6, some 7, some 8] [[], [], [0, 1], [0, 1, 2], [], [], [4, 5], [4, 5, 6], [0, 1, 2, 3, 4, 5, 6, 7]] [[1, 4, 5, 6, 7], [0, 4, 5, 6, 7], [0, 1, 4, 5, 6, 7], [0, 1, 2, 4, 5, 6, 7], [0, 1, 2, 3, 5], [0, 1, 2, 3, 4], [0, 1, 2, 3, 4, 5], [0, 1, 2, 3, 4, 5, 6], [0, 1, 2, 3, 4, 5, 6, 7]] (fun γ => [.slice (some ⟨b, o, none⟩) xs.length c, .int .i64 i, .pointer (some ⟨b, o + i * 3, none⟩), .agg #[.int .i64 x1, .int .i64 x2, .int .i64 x3], .slice (some ⟨b', o', none⟩) xs.length d, .int .i64 i, .pointer (some ⟨b', o' + i * 3, none⟩), .agg #[.int .i64 x1, .int .i64 y2, .int .i64 y3], .bool true]) (fun γ => [none, none, none, none, none, none, none, none, none, none, none, none, none, none, none, none, none, some (.slice (some ⟨b, o, none⟩) xs.length c), some (.int .i64 i), some (.pointer (some ⟨b, o + i * 3, none⟩)), some (.agg #[.int .i64 x1, .int .i64 x2, .int .i64 x3]), some (.slice (some ⟨b', o', none⟩) xs.length d), some (.int .i64 i), some (.pointer (some ⟨b', o' + i * 3, none⟩)), some (.agg #[.int .i64 x1, .int .i64 y2, .int .i64 y3]), some (.bool true)]) ?A6_3 (fun n D γ w => w.os = w.os ∧ (w.cell? ⟨b, o + i * 3, none⟩ = some (.int .i64 x1) ∧ w.cell? ⟨b, o + i * 3 + 1, none⟩ = some (.int .i64 x2) ∧ w.cell? ⟨b, o + i * 3 + 2, none⟩ = some (.int .i64 x3)) ∧ (w.cell? ⟨b', o' + i * 3, none⟩ = some (.int .i64 x1) ∧ w.cell? ⟨b', o' + i * 3 + 1, none⟩ = some (.int .i64 y2) ∧ w.cell? ⟨b', o' + i * 3 + 2, none⟩ = some (.int .i64 y3)) ∧ Kp w0.heap.size none w0 w) (fun k γ w => True) () (by kernel_rfl) (fun _ => rfl) ?hA6_3 (by kernel_rfl) ?hB06_3 ?hop6_3 ?hend6_3
          case hA6_3 => intro γ; dsimp only [fullV]; rfl
          case hB06_3 =>
            exact ⟨rfl, ⟨c0, c1, c2⟩, ⟨d0, d1, d2⟩, KK.drew⟩
          case hop6_3 =>
            intro hA
            refine ⟨?_, ?_, ?_, ?_, ?_, ?_, ?_, ?_, ?_, trivial⟩
            · refine opOk_v hA (fun _ => rfl) (fun _ _ => trivial) ?_ ?_
              · intro n D γ w hn h
                replace hn : n < 9 := hn
                try dsimp only at h
                exact h
              intro n D γ w hB hU K hK
              try dsimp only at hB
              try dsimp only
              clear hB hU
              go_step
              exact hK _ rfl
            · refine opOk_v hA (fun _ => rfl) (fun _ _ => trivial) ?_ ?_
              · intro n D γ w hn h
                replace hn : n < 9 := hn
                try dsimp only at h
                exact h
              intro n D γ w hB hU K hK
              try dsimp only at hB
              try dsimp only
              clear hB hU
              go_step
              exact hK _ rfl
            · refine opOk_v hA (fun _ => rfl) (fun _ _ => trivial) ?_ ?_
              · intro n D γ w hn h
                replace hn : n < 9 := hn
                try dsimp only at h
                exact h
              intro n D γ w hB hU K hK
              try dsimp only at hB
              try dsimp only
              clear hB hU
              go_step
              exact hK _ rfl
            · refine opOk_v hA (fun _ => rfl) (fun _ _ => trivial) ?_ ?_
              · intro n D γ w hn h
                replace hn : n < 9 := hn
                try dsimp only at h
                exact h
              intro n D γ w hB hU K hK
              try dsimp only at hB
              try dsimp only
              have e0 := hB.2.1.1
              have e1 := hB.2.1.2.1
              have e2 := hB.2.1.2.2
              have e3 := hB.2.2.1.1
              have e4 := hB.2.2.1.2.1
              have e5 := hB.2.2.1.2.2
              clear hB hU
              go_step
              exact hK _ rfl
            · refine opOk_v hA (fun _ => rfl) (fun _ _ => trivial) ?_ ?_
              · intro n D γ w hn h
                replace hn : n < 9 := hn
                try dsimp only at h
                exact h
              intro n D γ w hB hU K hK
              try dsimp only at hB
              try dsimp only
              clear hB hU
              go_step
              exact hK _ rfl
            · refine opOk_v hA (fun _ => rfl) (fun _ _ => trivial) ?_ ?_
              · intro n D γ w hn h
                replace hn : n < 9 := hn
                try dsimp only at h
                exact h
              intro n D γ w hB hU K hK
              try dsimp only at hB
              try dsimp only
              clear hB hU
              go_step
              exact hK _ rfl
            · refine opOk_v hA (fun _ => rfl) (fun _ _ => trivial) ?_ ?_
              · intro n D γ w hn h
                replace hn : n < 9 := hn
                try dsimp only at h
                exact h
              intro n D γ w hB hU K hK
              try dsimp only at hB
              try dsimp only
              clear hB hU
              go_step
              exact hK _ rfl
            · refine opOk_v hA (fun _ => rfl) (fun _ _ => trivial) ?_ ?_
              · intro n D γ w hn h
                replace hn : n < 9 := hn
                try dsimp only at h
                exact h
              intro n D γ w hB hU K hK
              try dsimp only at hB
              try dsimp only
              have e0 := hB.2.1.1
              have e1 := hB.2.1.2.1
              have e2 := hB.2.1.2.2
              have e3 := hB.2.2.1.1
              have e4 := hB.2.2.1.2.1
              have e5 := hB.2.2.1.2.2
              clear hB hU
              go_step
              exact hK _ rfl
            · refine opOk_v hA (fun _ => rfl) (fun _ _ => trivial) ?_ ?_
              · intro n D γ w hn h
                replace hn : n < 9 := hn
                try dsimp only at h
                exact h
              intro n D γ w hB hU K hK
              try dsimp only at hB
              try dsimp only
              clear hB hU
              go_step
              exact hK _ rfl
          case hend6_3 =>
            intro n D γ w hn hD hB hF
            replace hF := fun k (hk : k < 9) => hF k hk
            try dsimp only at hB
            try dsimp only at hF
            replace hn : n ≤ 9 := hn
            try dsimp only
            obtain ⟨-, -, -, K9⟩ := hB
            clear hD hF hn
            go_wp2
            exact bodyPost_ret (v := .bool false) (by simp [results, Tryd.results56, go_sem]) rfl ⟨⟨false, rfl, ⟨fun e => (by cases e), fun e => absurd e hn9.out⟩⟩, K9⟩
        · have hn9 := Lib.hid (hbad.out (fun e => q3 e.2.2))
          subst q1 q2
          refine wp_region_inv (Γ := Unit) [none, none, none, none, none, none, none, none, none, none, none, none, none, none, none, none, none, some 0, some 1, some 2, some 3, some 4, some 5, some 6, some 7, some 8] [[], [], [0, 1], [0, 1, 2], [], [], [4, 5], [4, 5, 6], [0, 1, 2, 3, 4, 5, 6, 7]] [[1, 4, 5, 6, 7], [0, 4, 5, 6, 7], [0, 1, 4, 5, 6, 7], [0, 1, 2, 4, 5, 6, 7], [0, 1, 2, 3, 5], [0, 1, 2, 3, 4], [0, 1, 2, 3, 4, 5], [0, 1, 2, 3, 4, 5, 6], [0, 1, 2, 3, 4, 5, 6, 7]] (fun γ => [.slice (some ⟨b, o, none⟩) xs.length c, .int .i64 i, .pointer (some ⟨b, o + i * 3, none⟩), .agg #[.int .i64 x1, .int .i64 x2, .int .i64 x3], .slice (some ⟨b', o', none⟩) xs.length d, .int .i64 i, .pointer (some ⟨b', o' + i * 3, none⟩), .agg #[.int .i64 x1, .int .i64 x2, .int .i64 y3], .bool true]) (fun γ => [none, none, none, none, none, none, none, none, none, none, none, none, none, none, none, none, none, some (.slice (some ⟨b, o, none⟩) xs.length c), some (.int .i64 i), some (.pointer (some ⟨b, o + i * 3, none⟩)), some (.agg #[.int .i64 x1, .int .i64 x2, .int .i64 x3]), some (.slice (some ⟨b', o', none⟩) xs.length d), some (.int .i64 i), some (.pointer (some ⟨b', o' + i * 3, none⟩)), some (.agg #[.int .i64 x1, .int .i64 x2, .int .i64 y3]), some (.bool true)]) ?A6_4 (fun n D γ w => w.os = w.os ∧ (w.cell? ⟨b, o + i * 3, none⟩ = some (.int .i64 x1) ∧ w.cell? ⟨b, o + i * 3 + 1, none⟩ = some (.int .i64 x2) ∧ w.cell? ⟨b, o + i * 3 + 2, none⟩ = some (.int .i64 x3)) ∧ (w.cell? ⟨b', o' + i * 3, none⟩ = some (.int .i64 x1) ∧ w.cell? ⟨b', o' + i * 3 + 1, none⟩ = some (.int .i64 x2) ∧ w.cell? ⟨b', o' + i * 3 + 2, none⟩ = some (.int .i64 y3)) ∧ Kp w0.heap.size none w0 w) (fun k γ w => True) () (by kernel_rfl) (fun _ => rfl) ?hA6_4 (by kernel_rfl) ?hB06_4 ?hop6_4 ?hend6_4
          case hA6_4 => intro γ; dsimp only [fullV]; rfl
          case hB06_4 =>
            exact ⟨rfl, ⟨c0, c1, c2⟩, ⟨d0, d1, d2⟩, KK.drew⟩
          case hop6_4 =>
            intro hA
            refine ⟨?_, ?_, ?_, ?_, ?_, ?_, ?_, ?_, ?_, trivial⟩
            · refine opOk_v hA (fun _ => rfl) (fun _ _ => trivial) ?_ ?_
              · intro n D γ w hn h
                replace hn : n < 9 := hn
                try dsimp only at h
                exact h
              intro n D γ w hB hU K hK
              try dsimp only at hB
              try dsimp only
              clear hB hU
              go_step
              exact hK _ rfl
            · refine opOk_v hA (fun _ => rfl) (fun _ _ => trivial) ?_ ?_
              · intro n D γ w hn h
                replace hn : n < 9 := hn
                try dsimp only at h
                exact h
              intro n D γ w hB hU K hK
              try dsimp only at hB
              try dsimp only
              clear hB hU
              go_step
              exact hK _ rfl
            · refine opOk_v hA (fun _ => rfl) (fun _ _ => trivial) ?_ ?_
              · intro n D γ w hn h
                replace hn : n < 9 := hn
                try dsimp only at h
                exact h
              intro n D γ w hB hU K hK
              try dsimp only at hB
              try dsimp only
              clear hB hU
              go_step
              exact hK _ rfl
            · refine opOk_v hA (fun _ => rfl) (fun _ _ => trivial) ?_ ?_
              · intro n D γ w hn h
                replace hn : n < 9 := hn
                try dsimp only at h
                exact h
              intro n D γ w hB hU K hK
              try dsimp only at hB
              try dsimp only
              have e0 := hB.2.1.1
              have e1 := hB.2.1.2.1
              have e2 := hB.2.1.2.2
              have e3 := hB.2.2.1.1
              have e4 := hB.2.2.1.2.1
              have e5 := hB.2.2.1.2.2
              clear hB hU
              go_step
              exact hK _ rfl
            · refine opOk_v hA (fun _ => rfl) (fun _ _ => trivial) ?_ ?_
              · intro n D γ w hn h
                replace hn : n < 9 := hn
                try dsimp only at h
                exact h
              intro n D γ w hB hU K hK
              try dsimp only at hB
              try dsimp only
              clear hB hU
              go_step
              exact hK _ rfl
            · refine opOk_v hA (fun _ => rfl) (fun _ _ => trivial) ?_ ?_
              · intro n D γ w hn h
                replace hn : n < 9 := hn
                try dsimp only at h
                exact h
              intro n D γ w hB hU K hK
              try dsimp only at hB
              try dsimp only
              clear hB hU
              go_step
              exact hK _ rfl
            · refine opOk_v hA (fun _ => rfl) (fun _ _ => trivial) ?_ ?_
              · intro n D γ w hn h
                replace hn : n < 9 := hn
                try dsimp only at h
                exact h
              intro n D γ w hB hU K hK
              try dsimp only at hB
              try dsimp only
              clear hB hU
              go_step
              exact hK _ rfl
            · refine opOk_v hA (fun _ => rfl) (fun _ _ => trivial) ?_ ?_
              · intro n D γ w hn h
                replace hn : n < 9 := hn
                try dsimp only at h
                exact h
              intro n D γ w hB hU K hK
              try dsimp only at hB
              try dsimp only
              have e0 := hB.2.1.1
              have e1 := hB.2.1.2.1
              have e2 := hB.2.1.2.2
              have e3 := hB.2.2.1.1
              have e4 := hB.2.2.1.2.1
              have e5 := hB.2.2.1.2.2
              clear hB hU
              go_step
              exact hK _ rfl
            · refine opOk_v hA (fun _ => rfl) (fun _ _ => trivial) ?_ ?_
              · intro n D γ w hn h
                replace hn : n < 9 := hn
                try dsimp only at h
                exact h
              intro n D γ w hB hU K hK
              try dsimp only at hB
              try dsimp only
              clear hB hU
              go_step
              exact hK _ rfl
          case hend6_4 =>
            intro n D γ w hn hD hB hF
            replace hF := fun k (hk : k < 9) => hF k hk
            try dsimp only at hB
            try dsimp only at hF
            replace hn : n ≤ 9 := hn
            try dsimp only
            obtain ⟨-, -, -, K9⟩ := hB
            clear hD hF hn
            go_wp2
            exact bodyPost_ret (v := .bool false) (by simp [results, Tryd.results56, go_sem]) rfl ⟨⟨false, rfl, ⟨fun e => (by cases e), fun e => absurd e hn9.out⟩⟩, K9⟩
      · have he : i = xs.length := by omega
        subst he
        have hni : ¬ (xs.length : Int) < (xs.length : Int) := by omega
        have hfin : xs = ys := List.ext_getElem heq.out fun j h1 h2 => hj j h1 h2 h1
        replace hfin := Lib.hid hfin
        clear hj hi h7
        go_wp2
        exact bodyPost_ret (v := .bool true) (by simp [results, Tryd.results56, go_sem]) rfl ⟨⟨true, rfl, ⟨fun _ => hfin.out, fun _ => rfl⟩⟩, KK⟩
end Go.Proofs.YtdiigflbohbndaaDoor
