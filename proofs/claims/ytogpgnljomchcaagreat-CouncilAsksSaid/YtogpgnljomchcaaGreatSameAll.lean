/- slices.Equal at what is known, alarms and numbers: equal lists. (Written by gen_eq.py.) council.Same: equal houses. (Written by gen_sm.py.) -/
import Derived.Test.YtogpgnljomchcaaGreatAw
import Derived.Test.YtogpgnljomchcaaGreatReg
import Derived.Test.YtogpgnljomchcaaGreatSn
namespace Go.Proofs.YtogpgnljomchcaaGreat
open Go.RowKit

/-- two lists, equal up to a place -/
def EqAt {α : Type} (xs ys : List α) (w : World) (v : Value) (wr : World) : Prop := ∃ i : Nat, v = .int .i64 i ∧ i ≤ xs.length ∧ xs.take i = ys.take i ∧ Kp w.heap.size none w wr
theorem take_more {α : Type} {xs ys : List α} {i : Nat} (h : xs.take i = ys.take i) (hi : i < xs.length) (hj : i < ys.length) (e : xs[i] = ys[i]) : xs.take (i + 1) = ys.take (i + 1) := by
  rw [List.take_succ_eq_append_getElem hi, List.take_succ_eq_append_getElem hj, h, e]
theorem neq_at {α : Type} {xs ys : List α} {i : Nat} (hi : i < xs.length) (hj : i < ys.length) (e : xs[i] ≠ ys[i]) : xs ≠ ys := by
  rintro rfl; exact e rfl
set_option maxRecDepth 20000 in
set_option maxHeartbeats 2000000 in
theorem equalInt_any (A A2 : Option Addr) (cap cap2 : Nat) (xs ys : List Int) (w : World) (hr : Rd none w 1 encI A xs.length xs) (hr2 : Rd none w 1 encI A2 ys.length ys) (hn : xs.length ≤ 17592186044416) (hn2 : ys.length ≤ 17592186044416) :
    Calls Tryz.prog 72 #[.slice A xs.length cap, .slice A2 ys.length cap2] w fun e w' => e = .returned (.bool (decide (xs = ys))) ∧ Kp w.heap.size none w w' := by
  obtain ⟨R, hR⟩ : ∃ R, R = decide (xs = ys) := ⟨_, rfl⟩
  rw [← hR]
  by_cases hl : xs.length = ys.length
  case neg =>
    obtain rfl : R = false := by rw [hR]; exact decide_eq_false fun e => hl (by rw [e])
    clear hR
    have hl' : ((xs.length : Int) == (ys.length : Int)) = false := by simp only [beq_eq_false_iff_ne, ne_eq]; omega
    have hl2 : ¬ (xs.length : Int) = (ys.length : Int) := by omega
    clear hl
    go_enter Tryz.func72, Tryz.ntmps72
    go_wp2
    go_ret
    exact ⟨rfl, Kp.refl _ _ _⟩
  case pos =>
    rw [← hl] at hr2 ⊢
    replace hR := Lib.hid hR
    replace hl := Lib.hid hl
    go_enter Tryz.func72, Tryz.ntmps72
    go_wp2_with fail
    go_loopw [13] (fun v wr => EqAt xs ys w v wr) (fun v _ => xs.length - (intOf v).toNat)
    case atStart => exact ⟨0, rfl, by omega, rfl, Kp.refl _ _ _⟩
    case round =>
      obtain ⟨i, rfl, hi, hj, KK⟩ := hrel
      by_cases h7 : i < xs.length
      case neg =>
        have hi' : ¬ (i : Int) < (xs.length : Int) := by omega
        have hl9 := hl.out
        have e : R = true := by
          rw [hR.out]
          rw [List.take_of_length_le (by omega), List.take_of_length_le (by omega)] at hj
          simpa using hj
        subst e
        clear h7 hi hj hl hl9 hR
        go_wp2
        go_ret
        exact ⟨rfl, KK⟩
      case pos =>
        obtain ⟨b, o, rfl, hb, -, hc⟩ := (hr.kpN KK).at_ (by omega)
        obtain ⟨b2, o2, rfl, hb2, -, hc2⟩ := (hr2.kpN KK).at_ (by omega)
        have h8 : i < ys.length := by have := hl.out; omega
        have c0 : wr.cell? ⟨b, o + i, none⟩ = some (.int .i64 xs[i]) := by simpa using hc i h7 0 _ rfl
        have d0 : wr.cell? ⟨b2, o2 + i, none⟩ = some (.int .i64 ys[i]) := by simpa using hc2 i h8 0 _ rfl
        have hi' : (i : Int) < (xs.length : Int) := by omega
        have q1 := take_more hj h7 h8
        have q2 := neq_at (xs := xs) (ys := ys) h7 h8
        clear hc hc2 hj hr hr2
        generalize xs[i] = x at c0 q1 q2
        generalize ys[i] = y at d0 q1 q2
        replace KK := KK.drew
        replace hb := Lib.hid hb
        replace hb2 := Lib.hid hb2
        replace q1 := Lib.hid q1
        replace q2 := Lib.hid q2
        replace KK := Lib.hid KK
        clear h8 hi hn2
        replace h7 := Lib.hid h7
        go_upto_region 6 with (fail)
        by_cases g0 : y = x
        case neg =>
          have hne : x ≠ y := fun e => g0 (by rw [e])
          have f0 : (x == y) = false := by simpa using Ne.symm g0
          clear g0
          obtain ⟨S, hS⟩ : ∃ S : Nat → World → Prop, S = fun _ w' => w' = wr.drew := ⟨_, rfl⟩
          have hS0 : ∀ w', S 0 w' ↔ w' = wr.drew := fun w' => by rw [hS]
          clear hS
          have cc0 : ∀ q : Ev (S 0), q.w.cell? ⟨b, o + i, none⟩ = some (.int .i64 x) := fun q => by rw [(hS0 _).1 q.h]; exact c0
          have dd0 : ∀ q : Ev (S 0), q.w.cell? ⟨b2, o2 + i, none⟩ = some (.int .i64 y) := fun q => by rw [(hS0 _).1 q.h]; exact d0
          clear c0 d0
          have hevT := ev_true
          refine wp_region_ord S [(0, 0), (1, 0), (2, 0), (3, 1), (4, 0), (5, 0), (6, 0), (7, 1), (8, 0)] [] (by kernel_rfl) (by kernel_rfl) ((hS0 _).2 rfl) ?_
          intro _hev
          iterate 9 (first | (refine wpOrd_v rfl rfl ?_; intro K hK; go_big_quiet_op; go_big_quiet_on) | (refine wpOrd_q rfl rfl ?_; intro K hK; go_big_quiet_op; go_big_quiet_on) | refine wpOrd_s (by decide) rfl rfl ?_)
          refine wpOrd_nil ?_
          clear hevT _hev
          clear hS0 S cc0 dd0
          obtain rfl : R = false := by rw [hR.out]; exact decide_eq_false (q2.out hne)
          go_wp2
          go_ret
          exact ⟨rfl, KK.out⟩
        case pos =>
          rw [g0] at d0
          replace g0 := Lib.hid g0
          have he : x = y := by
            have p0 := g0.out
            exact p0.symm
          replace q1 := Lib.hid (q1.out he)
          clear he q2 g0
          obtain ⟨S, hS⟩ : ∃ S : Nat → World → Prop, S = fun _ w' => w' = wr.drew := ⟨_, rfl⟩
          have hS0 : ∀ w', S 0 w' ↔ w' = wr.drew := fun w' => by rw [hS]
          clear hS
          have cc0 : ∀ q : Ev (S 0), q.w.cell? ⟨b, o + i, none⟩ = some (.int .i64 x) := fun q => by rw [(hS0 _).1 q.h]; exact c0
          have dd0 : ∀ q : Ev (S 0), q.w.cell? ⟨b2, o2 + i, none⟩ = some (.int .i64 x) := fun q => by rw [(hS0 _).1 q.h]; exact d0
          clear c0 d0
          have hevT := ev_true
          refine wp_region_ord S [(0, 0), (1, 0), (2, 0), (3, 1), (4, 0), (5, 0), (6, 0), (7, 1), (8, 0)] [] (by kernel_rfl) (by kernel_rfl) ((hS0 _).2 rfl) ?_
          intro _hev
          iterate 9 (first | (refine wpOrd_v rfl rfl ?_; intro K hK; go_big_quiet_op; go_big_quiet_on) | (refine wpOrd_q rfl rfl ?_; intro K hK; go_big_quiet_op; go_big_quiet_on) | refine wpOrd_s (by decide) rfl rfl ?_)
          refine wpOrd_nil ?_
          clear hevT _hev
          clear hS0 S cc0 dd0
          go_wp2
          go_roundw
          case rel => exact ⟨i + 1, by congr 1, h7.out, q1.out, KK.out⟩
          case measure => have := h7.out; simp [intOf]; omega
set_option maxRecDepth 20000 in
set_option maxHeartbeats 2000000 in
theorem equalKnown_any (A A2 : Option Addr) (cap cap2 : Nat) (xs ys : List Known) (w : World) (hr : Rd none w 6 encKnown A xs.length xs) (hr2 : Rd none w 6 encKnown A2 ys.length ys) (hn : xs.length ≤ 17592186044416) (hn2 : ys.length ≤ 17592186044416) :
    Calls Tryz.prog 58 #[.slice A xs.length cap, .slice A2 ys.length cap2] w fun e w' => e = .returned (.bool (decide (xs = ys))) ∧ Kp w.heap.size none w w' := by
  obtain ⟨R, hR⟩ : ∃ R, R = decide (xs = ys) := ⟨_, rfl⟩
  rw [← hR]
  by_cases hl : xs.length = ys.length
  case neg =>
    obtain rfl : R = false := by rw [hR]; exact decide_eq_false fun e => hl (by rw [e])
    clear hR
    have hl' : ((xs.length : Int) == (ys.length : Int)) = false := by simp only [beq_eq_false_iff_ne, ne_eq]; omega
    have hl2 : ¬ (xs.length : Int) = (ys.length : Int) := by omega
    clear hl
    go_enter Tryz.func58, Tryz.ntmps58
    go_wp2
    go_ret
    exact ⟨rfl, Kp.refl _ _ _⟩
  case pos =>
    rw [← hl] at hr2 ⊢
    replace hR := Lib.hid hR
    replace hl := Lib.hid hl
    go_enter Tryz.func58, Tryz.ntmps58
    go_wp2_with fail
    go_loopw [13] (fun v wr => EqAt xs ys w v wr) (fun v _ => xs.length - (intOf v).toNat)
    case atStart => exact ⟨0, rfl, by omega, rfl, Kp.refl _ _ _⟩
    case round =>
      obtain ⟨i, rfl, hi, hj, KK⟩ := hrel
      by_cases h7 : i < xs.length
      case neg =>
        have hi' : ¬ (i : Int) < (xs.length : Int) := by omega
        have hl9 := hl.out
        have e : R = true := by
          rw [hR.out]
          rw [List.take_of_length_le (by omega), List.take_of_length_le (by omega)] at hj
          simpa using hj
        subst e
        clear h7 hi hj hl hl9 hR
        go_wp2
        go_ret
        exact ⟨rfl, KK⟩
      case pos =>
        obtain ⟨b, o, rfl, hb, -, hc⟩ := (hr.kpN KK).at_ (by omega)
        obtain ⟨b2, o2, rfl, hb2, -, hc2⟩ := (hr2.kpN KK).at_ (by omega)
        have h8 : i < ys.length := by have := hl.out; omega
        have c0 : wr.cell? ⟨b, o + i * 6, none⟩ = some (.int .i64 xs[i].target) := hc i h7 0 _ rfl
        have d0 : wr.cell? ⟨b2, o2 + i * 6, none⟩ = some (.int .i64 ys[i].target) := hc2 i h8 0 _ rfl
        have c1 : wr.cell? ⟨b, o + i * 6 + 1, none⟩ = some (.int .i64 xs[i].level) := by rw [Nat.add_assoc]; exact hc i h7 1 _ rfl
        have d1 : wr.cell? ⟨b2, o2 + i * 6 + 1, none⟩ = some (.int .i64 ys[i].level) := by rw [Nat.add_assoc]; exact hc2 i h8 1 _ rfl
        have c2 : wr.cell? ⟨b, o + i * 6 + 2, none⟩ = some (.int .i64 xs[i].item) := by rw [Nat.add_assoc]; exact hc i h7 2 _ rfl
        have d2 : wr.cell? ⟨b2, o2 + i * 6 + 2, none⟩ = some (.int .i64 ys[i].item) := by rw [Nat.add_assoc]; exact hc2 i h8 2 _ rfl
        have c3 : wr.cell? ⟨b, o + i * 6 + 3, none⟩ = some (.int .i64 xs[i].chance.least) := by rw [Nat.add_assoc]; exact hc i h7 3 _ rfl
        have d3 : wr.cell? ⟨b2, o2 + i * 6 + 3, none⟩ = some (.int .i64 ys[i].chance.least) := by rw [Nat.add_assoc]; exact hc2 i h8 3 _ rfl
        have c4 : wr.cell? ⟨b, o + i * 6 + 4, none⟩ = some (.int .i64 xs[i].chance.most) := by rw [Nat.add_assoc]; exact hc i h7 4 _ rfl
        have d4 : wr.cell? ⟨b2, o2 + i * 6 + 4, none⟩ = some (.int .i64 ys[i].chance.most) := by rw [Nat.add_assoc]; exact hc2 i h8 4 _ rfl
        have c5 : wr.cell? ⟨b, o + i * 6 + 5, none⟩ = some (.int .i64 xs[i].chance.all) := by rw [Nat.add_assoc]; exact hc i h7 5 _ rfl
        have d5 : wr.cell? ⟨b2, o2 + i * 6 + 5, none⟩ = some (.int .i64 ys[i].chance.all) := by rw [Nat.add_assoc]; exact hc2 i h8 5 _ rfl
        have hi' : (i : Int) < (xs.length : Int) := by omega
        have q1 := take_more hj h7 h8
        have q2 := neq_at (xs := xs) (ys := ys) h7 h8
        clear hc hc2 hj hr hr2
        generalize xs[i] = x at c0 c1 c2 c3 c4 c5 q1 q2
        generalize ys[i] = y at d0 d1 d2 d3 d4 d5 q1 q2
        replace KK := KK.drew
        replace hb := Lib.hid hb
        replace hb2 := Lib.hid hb2
        replace q1 := Lib.hid q1
        replace q2 := Lib.hid q2
        replace KK := Lib.hid KK
        clear h8 hi hn2
        replace h7 := Lib.hid h7
        go_upto_region 6 with (fail)
        by_cases g0 : y.target = x.target
        case neg =>
          have hne : x ≠ y := fun e => g0 (by rw [e])
          have f0 : (x.target == y.target) = false := by simpa using Ne.symm g0
          clear g0
          obtain ⟨S, hS⟩ : ∃ S : Nat → World → Prop, S = fun _ w' => w' = wr.drew := ⟨_, rfl⟩
          have hS0 : ∀ w', S 0 w' ↔ w' = wr.drew := fun w' => by rw [hS]
          clear hS
          have cc0 : ∀ q : Ev (S 0), q.w.cell? ⟨b, o + i * 6, none⟩ = some (.int .i64 x.target) := fun q => by rw [(hS0 _).1 q.h]; exact c0
          have cc1 : ∀ q : Ev (S 0), q.w.cell? ⟨b, o + i * 6 + 1, none⟩ = some (.int .i64 x.level) := fun q => by rw [(hS0 _).1 q.h]; exact c1
          have cc2 : ∀ q : Ev (S 0), q.w.cell? ⟨b, o + i * 6 + 2, none⟩ = some (.int .i64 x.item) := fun q => by rw [(hS0 _).1 q.h]; exact c2
          have cc3 : ∀ q : Ev (S 0), q.w.cell? ⟨b, o + i * 6 + 3, none⟩ = some (.int .i64 x.chance.least) := fun q => by rw [(hS0 _).1 q.h]; exact c3
          have cc4 : ∀ q : Ev (S 0), q.w.cell? ⟨b, o + i * 6 + 4, none⟩ = some (.int .i64 x.chance.most) := fun q => by rw [(hS0 _).1 q.h]; exact c4
          have cc5 : ∀ q : Ev (S 0), q.w.cell? ⟨b, o + i * 6 + 5, none⟩ = some (.int .i64 x.chance.all) := fun q => by rw [(hS0 _).1 q.h]; exact c5
          have dd0 : ∀ q : Ev (S 0), q.w.cell? ⟨b2, o2 + i * 6, none⟩ = some (.int .i64 y.target) := fun q => by rw [(hS0 _).1 q.h]; exact d0
          have dd1 : ∀ q : Ev (S 0), q.w.cell? ⟨b2, o2 + i * 6 + 1, none⟩ = some (.int .i64 y.level) := fun q => by rw [(hS0 _).1 q.h]; exact d1
          have dd2 : ∀ q : Ev (S 0), q.w.cell? ⟨b2, o2 + i * 6 + 2, none⟩ = some (.int .i64 y.item) := fun q => by rw [(hS0 _).1 q.h]; exact d2
          have dd3 : ∀ q : Ev (S 0), q.w.cell? ⟨b2, o2 + i * 6 + 3, none⟩ = some (.int .i64 y.chance.least) := fun q => by rw [(hS0 _).1 q.h]; exact d3
          have dd4 : ∀ q : Ev (S 0), q.w.cell? ⟨b2, o2 + i * 6 + 4, none⟩ = some (.int .i64 y.chance.most) := fun q => by rw [(hS0 _).1 q.h]; exact d4
          have dd5 : ∀ q : Ev (S 0), q.w.cell? ⟨b2, o2 + i * 6 + 5, none⟩ = some (.int .i64 y.chance.all) := fun q => by rw [(hS0 _).1 q.h]; exact d5
          clear c0 c1 c2 c3 c4 c5 d0 d1 d2 d3 d4 d5
          have hevT := ev_true
          refine wp_region_ord S [(0, 0), (1, 0), (2, 0), (3, 1), (4, 0), (5, 0), (6, 0), (7, 1), (8, 0)] [] (by kernel_rfl) (by kernel_rfl) ((hS0 _).2 rfl) ?_
          intro _hev
          iterate 9 (first | (refine wpOrd_v rfl rfl ?_; intro K hK; go_big_quiet_op; go_big_quiet_on) | (refine wpOrd_q rfl rfl ?_; intro K hK; go_big_quiet_op; go_big_quiet_on) | refine wpOrd_s (by decide) rfl rfl ?_)
          refine wpOrd_nil ?_
          clear hevT _hev
          clear hS0 S cc0 dd0 cc1 dd1 cc2 dd2 cc3 dd3 cc4 dd4 cc5 dd5
          obtain rfl : R = false := by rw [hR.out]; exact decide_eq_false (q2.out hne)
          go_wp2
          go_ret
          exact ⟨rfl, KK.out⟩
        case pos =>
          rw [g0] at d0
          replace g0 := Lib.hid g0
          by_cases g1 : y.level = x.level
          case neg =>
            have hne : x ≠ y := fun e => g1 (by rw [e])
            have f1 : (x.level == y.level) = false := by simpa using Ne.symm g1
            clear g1
            obtain ⟨S, hS⟩ : ∃ S : Nat → World → Prop, S = fun _ w' => w' = wr.drew := ⟨_, rfl⟩
            have hS0 : ∀ w', S 0 w' ↔ w' = wr.drew := fun w' => by rw [hS]
            clear hS
            have cc0 : ∀ q : Ev (S 0), q.w.cell? ⟨b, o + i * 6, none⟩ = some (.int .i64 x.target) := fun q => by rw [(hS0 _).1 q.h]; exact c0
            have cc1 : ∀ q : Ev (S 0), q.w.cell? ⟨b, o + i * 6 + 1, none⟩ = some (.int .i64 x.level) := fun q => by rw [(hS0 _).1 q.h]; exact c1
            have cc2 : ∀ q : Ev (S 0), q.w.cell? ⟨b, o + i * 6 + 2, none⟩ = some (.int .i64 x.item) := fun q => by rw [(hS0 _).1 q.h]; exact c2
            have cc3 : ∀ q : Ev (S 0), q.w.cell? ⟨b, o + i * 6 + 3, none⟩ = some (.int .i64 x.chance.least) := fun q => by rw [(hS0 _).1 q.h]; exact c3
            have cc4 : ∀ q : Ev (S 0), q.w.cell? ⟨b, o + i * 6 + 4, none⟩ = some (.int .i64 x.chance.most) := fun q => by rw [(hS0 _).1 q.h]; exact c4
            have cc5 : ∀ q : Ev (S 0), q.w.cell? ⟨b, o + i * 6 + 5, none⟩ = some (.int .i64 x.chance.all) := fun q => by rw [(hS0 _).1 q.h]; exact c5
            have dd0 : ∀ q : Ev (S 0), q.w.cell? ⟨b2, o2 + i * 6, none⟩ = some (.int .i64 x.target) := fun q => by rw [(hS0 _).1 q.h]; exact d0
            have dd1 : ∀ q : Ev (S 0), q.w.cell? ⟨b2, o2 + i * 6 + 1, none⟩ = some (.int .i64 y.level) := fun q => by rw [(hS0 _).1 q.h]; exact d1
            have dd2 : ∀ q : Ev (S 0), q.w.cell? ⟨b2, o2 + i * 6 + 2, none⟩ = some (.int .i64 y.item) := fun q => by rw [(hS0 _).1 q.h]; exact d2
            have dd3 : ∀ q : Ev (S 0), q.w.cell? ⟨b2, o2 + i * 6 + 3, none⟩ = some (.int .i64 y.chance.least) := fun q => by rw [(hS0 _).1 q.h]; exact d3
            have dd4 : ∀ q : Ev (S 0), q.w.cell? ⟨b2, o2 + i * 6 + 4, none⟩ = some (.int .i64 y.chance.most) := fun q => by rw [(hS0 _).1 q.h]; exact d4
            have dd5 : ∀ q : Ev (S 0), q.w.cell? ⟨b2, o2 + i * 6 + 5, none⟩ = some (.int .i64 y.chance.all) := fun q => by rw [(hS0 _).1 q.h]; exact d5
            clear c0 c1 c2 c3 c4 c5 d0 d1 d2 d3 d4 d5
            have hevT := ev_true
            refine wp_region_ord S [(0, 0), (1, 0), (2, 0), (3, 1), (4, 0), (5, 0), (6, 0), (7, 1), (8, 0)] [] (by kernel_rfl) (by kernel_rfl) ((hS0 _).2 rfl) ?_
            intro _hev
            iterate 9 (first | (refine wpOrd_v rfl rfl ?_; intro K hK; go_big_quiet_op; go_big_quiet_on) | (refine wpOrd_q rfl rfl ?_; intro K hK; go_big_quiet_op; go_big_quiet_on) | refine wpOrd_s (by decide) rfl rfl ?_)
            refine wpOrd_nil ?_
            clear hevT _hev
            clear hS0 S cc0 dd0 cc1 dd1 cc2 dd2 cc3 dd3 cc4 dd4 cc5 dd5
            obtain rfl : R = false := by rw [hR.out]; exact decide_eq_false (q2.out hne)
            go_wp2
            go_ret
            exact ⟨rfl, KK.out⟩
          case pos =>
            rw [g1] at d1
            replace g1 := Lib.hid g1
            by_cases g2 : y.item = x.item
            case neg =>
              have hne : x ≠ y := fun e => g2 (by rw [e])
              have f2 : (x.item == y.item) = false := by simpa using Ne.symm g2
              clear g2
              obtain ⟨S, hS⟩ : ∃ S : Nat → World → Prop, S = fun _ w' => w' = wr.drew := ⟨_, rfl⟩
              have hS0 : ∀ w', S 0 w' ↔ w' = wr.drew := fun w' => by rw [hS]
              clear hS
              have cc0 : ∀ q : Ev (S 0), q.w.cell? ⟨b, o + i * 6, none⟩ = some (.int .i64 x.target) := fun q => by rw [(hS0 _).1 q.h]; exact c0
              have cc1 : ∀ q : Ev (S 0), q.w.cell? ⟨b, o + i * 6 + 1, none⟩ = some (.int .i64 x.level) := fun q => by rw [(hS0 _).1 q.h]; exact c1
              have cc2 : ∀ q : Ev (S 0), q.w.cell? ⟨b, o + i * 6 + 2, none⟩ = some (.int .i64 x.item) := fun q => by rw [(hS0 _).1 q.h]; exact c2
              have cc3 : ∀ q : Ev (S 0), q.w.cell? ⟨b, o + i * 6 + 3, none⟩ = some (.int .i64 x.chance.least) := fun q => by rw [(hS0 _).1 q.h]; exact c3
              have cc4 : ∀ q : Ev (S 0), q.w.cell? ⟨b, o + i * 6 + 4, none⟩ = some (.int .i64 x.chance.most) := fun q => by rw [(hS0 _).1 q.h]; exact c4
              have cc5 : ∀ q : Ev (S 0), q.w.cell? ⟨b, o + i * 6 + 5, none⟩ = some (.int .i64 x.chance.all) := fun q => by rw [(hS0 _).1 q.h]; exact c5
              have dd0 : ∀ q : Ev (S 0), q.w.cell? ⟨b2, o2 + i * 6, none⟩ = some (.int .i64 x.target) := fun q => by rw [(hS0 _).1 q.h]; exact d0
              have dd1 : ∀ q : Ev (S 0), q.w.cell? ⟨b2, o2 + i * 6 + 1, none⟩ = some (.int .i64 x.level) := fun q => by rw [(hS0 _).1 q.h]; exact d1
              have dd2 : ∀ q : Ev (S 0), q.w.cell? ⟨b2, o2 + i * 6 + 2, none⟩ = some (.int .i64 y.item) := fun q => by rw [(hS0 _).1 q.h]; exact d2
              have dd3 : ∀ q : Ev (S 0), q.w.cell? ⟨b2, o2 + i * 6 + 3, none⟩ = some (.int .i64 y.chance.least) := fun q => by rw [(hS0 _).1 q.h]; exact d3
              have dd4 : ∀ q : Ev (S 0), q.w.cell? ⟨b2, o2 + i * 6 + 4, none⟩ = some (.int .i64 y.chance.most) := fun q => by rw [(hS0 _).1 q.h]; exact d4
              have dd5 : ∀ q : Ev (S 0), q.w.cell? ⟨b2, o2 + i * 6 + 5, none⟩ = some (.int .i64 y.chance.all) := fun q => by rw [(hS0 _).1 q.h]; exact d5
              clear c0 c1 c2 c3 c4 c5 d0 d1 d2 d3 d4 d5
              have hevT := ev_true
              refine wp_region_ord S [(0, 0), (1, 0), (2, 0), (3, 1), (4, 0), (5, 0), (6, 0), (7, 1), (8, 0)] [] (by kernel_rfl) (by kernel_rfl) ((hS0 _).2 rfl) ?_
              intro _hev
              iterate 9 (first | (refine wpOrd_v rfl rfl ?_; intro K hK; go_big_quiet_op; go_big_quiet_on) | (refine wpOrd_q rfl rfl ?_; intro K hK; go_big_quiet_op; go_big_quiet_on) | refine wpOrd_s (by decide) rfl rfl ?_)
              refine wpOrd_nil ?_
              clear hevT _hev
              clear hS0 S cc0 dd0 cc1 dd1 cc2 dd2 cc3 dd3 cc4 dd4 cc5 dd5
              obtain rfl : R = false := by rw [hR.out]; exact decide_eq_false (q2.out hne)
              go_wp2
              go_ret
              exact ⟨rfl, KK.out⟩
            case pos =>
              rw [g2] at d2
              replace g2 := Lib.hid g2
              by_cases g3 : y.chance.least = x.chance.least
              case neg =>
                have hne : x ≠ y := fun e => g3 (by rw [e])
                have f3 : (x.chance.least == y.chance.least) = false := by simpa using Ne.symm g3
                clear g3
                obtain ⟨S, hS⟩ : ∃ S : Nat → World → Prop, S = fun _ w' => w' = wr.drew := ⟨_, rfl⟩
                have hS0 : ∀ w', S 0 w' ↔ w' = wr.drew := fun w' => by rw [hS]
                clear hS
                have cc0 : ∀ q : Ev (S 0), q.w.cell? ⟨b, o + i * 6, none⟩ = some (.int .i64 x.target) := fun q => by rw [(hS0 _).1 q.h]; exact c0
                have cc1 : ∀ q : Ev (S 0), q.w.cell? ⟨b, o + i * 6 + 1, none⟩ = some (.int .i64 x.level) := fun q => by rw [(hS0 _).1 q.h]; exact c1
                have cc2 : ∀ q : Ev (S 0), q.w.cell? ⟨b, o + i * 6 + 2, none⟩ = some (.int .i64 x.item) := fun q => by rw [(hS0 _).1 q.h]; exact c2
                have cc3 : ∀ q : Ev (S 0), q.w.cell? ⟨b, o + i * 6 + 3, none⟩ = some (.int .i64 x.chance.least) := fun q => by rw [(hS0 _).1 q.h]; exact c3
                have cc4 : ∀ q : Ev (S 0), q.w.cell? ⟨b, o + i * 6 + 4, none⟩ = some (.int .i64 x.chance.most) := fun q => by rw [(hS0 _).1 q.h]; exact c4
                have cc5 : ∀ q : Ev (S 0), q.w.cell? ⟨b, o + i * 6 + 5, none⟩ = some (.int .i64 x.chance.all) := fun q => by rw [(hS0 _).1 q.h]; exact c5
                have dd0 : ∀ q : Ev (S 0), q.w.cell? ⟨b2, o2 + i * 6, none⟩ = some (.int .i64 x.target) := fun q => by rw [(hS0 _).1 q.h]; exact d0
                have dd1 : ∀ q : Ev (S 0), q.w.cell? ⟨b2, o2 + i * 6 + 1, none⟩ = some (.int .i64 x.level) := fun q => by rw [(hS0 _).1 q.h]; exact d1
                have dd2 : ∀ q : Ev (S 0), q.w.cell? ⟨b2, o2 + i * 6 + 2, none⟩ = some (.int .i64 x.item) := fun q => by rw [(hS0 _).1 q.h]; exact d2
                have dd3 : ∀ q : Ev (S 0), q.w.cell? ⟨b2, o2 + i * 6 + 3, none⟩ = some (.int .i64 y.chance.least) := fun q => by rw [(hS0 _).1 q.h]; exact d3
                have dd4 : ∀ q : Ev (S 0), q.w.cell? ⟨b2, o2 + i * 6 + 4, none⟩ = some (.int .i64 y.chance.most) := fun q => by rw [(hS0 _).1 q.h]; exact d4
                have dd5 : ∀ q : Ev (S 0), q.w.cell? ⟨b2, o2 + i * 6 + 5, none⟩ = some (.int .i64 y.chance.all) := fun q => by rw [(hS0 _).1 q.h]; exact d5
                clear c0 c1 c2 c3 c4 c5 d0 d1 d2 d3 d4 d5
                have hevT := ev_true
                refine wp_region_ord S [(0, 0), (1, 0), (2, 0), (3, 1), (4, 0), (5, 0), (6, 0), (7, 1), (8, 0)] [] (by kernel_rfl) (by kernel_rfl) ((hS0 _).2 rfl) ?_
                intro _hev
                iterate 9 (first | (refine wpOrd_v rfl rfl ?_; intro K hK; go_big_quiet_op; go_big_quiet_on) | (refine wpOrd_q rfl rfl ?_; intro K hK; go_big_quiet_op; go_big_quiet_on) | refine wpOrd_s (by decide) rfl rfl ?_)
                refine wpOrd_nil ?_
                clear hevT _hev
                clear hS0 S cc0 dd0 cc1 dd1 cc2 dd2 cc3 dd3 cc4 dd4 cc5 dd5
                obtain rfl : R = false := by rw [hR.out]; exact decide_eq_false (q2.out hne)
                go_wp2
                go_ret
                exact ⟨rfl, KK.out⟩
              case pos =>
                rw [g3] at d3
                replace g3 := Lib.hid g3
                by_cases g4 : y.chance.most = x.chance.most
                case neg =>
                  have hne : x ≠ y := fun e => g4 (by rw [e])
                  have f4 : (x.chance.most == y.chance.most) = false := by simpa using Ne.symm g4
                  clear g4
                  obtain ⟨S, hS⟩ : ∃ S : Nat → World → Prop, S = fun _ w' => w' = wr.drew := ⟨_, rfl⟩
                  have hS0 : ∀ w', S 0 w' ↔ w' = wr.drew := fun w' => by rw [hS]
                  clear hS
                  have cc0 : ∀ q : Ev (S 0), q.w.cell? ⟨b, o + i * 6, none⟩ = some (.int .i64 x.target) := fun q => by rw [(hS0 _).1 q.h]; exact c0
                  have cc1 : ∀ q : Ev (S 0), q.w.cell? ⟨b, o + i * 6 + 1, none⟩ = some (.int .i64 x.level) := fun q => by rw [(hS0 _).1 q.h]; exact c1
                  have cc2 : ∀ q : Ev (S 0), q.w.cell? ⟨b, o + i * 6 + 2, none⟩ = some (.int .i64 x.item) := fun q => by rw [(hS0 _).1 q.h]; exact c2
                  have cc3 : ∀ q : Ev (S 0), q.w.cell? ⟨b, o + i * 6 + 3, none⟩ = some (.int .i64 x.chance.least) := fun q => by rw [(hS0 _).1 q.h]; exact c3
                  have cc4 : ∀ q : Ev (S 0), q.w.cell? ⟨b, o + i * 6 + 4, none⟩ = some (.int .i64 x.chance.most) := fun q => by rw [(hS0 _).1 q.h]; exact c4
                  have cc5 : ∀ q : Ev (S 0), q.w.cell? ⟨b, o + i * 6 + 5, none⟩ = some (.int .i64 x.chance.all) := fun q => by rw [(hS0 _).1 q.h]; exact c5
                  have dd0 : ∀ q : Ev (S 0), q.w.cell? ⟨b2, o2 + i * 6, none⟩ = some (.int .i64 x.target) := fun q => by rw [(hS0 _).1 q.h]; exact d0
                  have dd1 : ∀ q : Ev (S 0), q.w.cell? ⟨b2, o2 + i * 6 + 1, none⟩ = some (.int .i64 x.level) := fun q => by rw [(hS0 _).1 q.h]; exact d1
                  have dd2 : ∀ q : Ev (S 0), q.w.cell? ⟨b2, o2 + i * 6 + 2, none⟩ = some (.int .i64 x.item) := fun q => by rw [(hS0 _).1 q.h]; exact d2
                  have dd3 : ∀ q : Ev (S 0), q.w.cell? ⟨b2, o2 + i * 6 + 3, none⟩ = some (.int .i64 x.chance.least) := fun q => by rw [(hS0 _).1 q.h]; exact d3
                  have dd4 : ∀ q : Ev (S 0), q.w.cell? ⟨b2, o2 + i * 6 + 4, none⟩ = some (.int .i64 y.chance.most) := fun q => by rw [(hS0 _).1 q.h]; exact d4
                  have dd5 : ∀ q : Ev (S 0), q.w.cell? ⟨b2, o2 + i * 6 + 5, none⟩ = some (.int .i64 y.chance.all) := fun q => by rw [(hS0 _).1 q.h]; exact d5
                  clear c0 c1 c2 c3 c4 c5 d0 d1 d2 d3 d4 d5
                  have hevT := ev_true
                  refine wp_region_ord S [(0, 0), (1, 0), (2, 0), (3, 1), (4, 0), (5, 0), (6, 0), (7, 1), (8, 0)] [] (by kernel_rfl) (by kernel_rfl) ((hS0 _).2 rfl) ?_
                  intro _hev
                  iterate 9 (first | (refine wpOrd_v rfl rfl ?_; intro K hK; go_big_quiet_op; go_big_quiet_on) | (refine wpOrd_q rfl rfl ?_; intro K hK; go_big_quiet_op; go_big_quiet_on) | refine wpOrd_s (by decide) rfl rfl ?_)
                  refine wpOrd_nil ?_
                  clear hevT _hev
                  clear hS0 S cc0 dd0 cc1 dd1 cc2 dd2 cc3 dd3 cc4 dd4 cc5 dd5
                  obtain rfl : R = false := by rw [hR.out]; exact decide_eq_false (q2.out hne)
                  go_wp2
                  go_ret
                  exact ⟨rfl, KK.out⟩
                case pos =>
                  rw [g4] at d4
                  replace g4 := Lib.hid g4
                  by_cases g5 : y.chance.all = x.chance.all
                  case neg =>
                    have hne : x ≠ y := fun e => g5 (by rw [e])
                    have f5 : (x.chance.all == y.chance.all) = false := by simpa using Ne.symm g5
                    clear g5
                    obtain ⟨S, hS⟩ : ∃ S : Nat → World → Prop, S = fun _ w' => w' = wr.drew := ⟨_, rfl⟩
                    have hS0 : ∀ w', S 0 w' ↔ w' = wr.drew := fun w' => by rw [hS]
                    clear hS
                    have cc0 : ∀ q : Ev (S 0), q.w.cell? ⟨b, o + i * 6, none⟩ = some (.int .i64 x.target) := fun q => by rw [(hS0 _).1 q.h]; exact c0
                    have cc1 : ∀ q : Ev (S 0), q.w.cell? ⟨b, o + i * 6 + 1, none⟩ = some (.int .i64 x.level) := fun q => by rw [(hS0 _).1 q.h]; exact c1
                    have cc2 : ∀ q : Ev (S 0), q.w.cell? ⟨b, o + i * 6 + 2, none⟩ = some (.int .i64 x.item) := fun q => by rw [(hS0 _).1 q.h]; exact c2
                    have cc3 : ∀ q : Ev (S 0), q.w.cell? ⟨b, o + i * 6 + 3, none⟩ = some (.int .i64 x.chance.least) := fun q => by rw [(hS0 _).1 q.h]; exact c3
                    have cc4 : ∀ q : Ev (S 0), q.w.cell? ⟨b, o + i * 6 + 4, none⟩ = some (.int .i64 x.chance.most) := fun q => by rw [(hS0 _).1 q.h]; exact c4
                    have cc5 : ∀ q : Ev (S 0), q.w.cell? ⟨b, o + i * 6 + 5, none⟩ = some (.int .i64 x.chance.all) := fun q => by rw [(hS0 _).1 q.h]; exact c5
                    have dd0 : ∀ q : Ev (S 0), q.w.cell? ⟨b2, o2 + i * 6, none⟩ = some (.int .i64 x.target) := fun q => by rw [(hS0 _).1 q.h]; exact d0
                    have dd1 : ∀ q : Ev (S 0), q.w.cell? ⟨b2, o2 + i * 6 + 1, none⟩ = some (.int .i64 x.level) := fun q => by rw [(hS0 _).1 q.h]; exact d1
                    have dd2 : ∀ q : Ev (S 0), q.w.cell? ⟨b2, o2 + i * 6 + 2, none⟩ = some (.int .i64 x.item) := fun q => by rw [(hS0 _).1 q.h]; exact d2
                    have dd3 : ∀ q : Ev (S 0), q.w.cell? ⟨b2, o2 + i * 6 + 3, none⟩ = some (.int .i64 x.chance.least) := fun q => by rw [(hS0 _).1 q.h]; exact d3
                    have dd4 : ∀ q : Ev (S 0), q.w.cell? ⟨b2, o2 + i * 6 + 4, none⟩ = some (.int .i64 x.chance.most) := fun q => by rw [(hS0 _).1 q.h]; exact d4
                    have dd5 : ∀ q : Ev (S 0), q.w.cell? ⟨b2, o2 + i * 6 + 5, none⟩ = some (.int .i64 y.chance.all) := fun q => by rw [(hS0 _).1 q.h]; exact d5
                    clear c0 c1 c2 c3 c4 c5 d0 d1 d2 d3 d4 d5
                    have hevT := ev_true
                    refine wp_region_ord S [(0, 0), (1, 0), (2, 0), (3, 1), (4, 0), (5, 0), (6, 0), (7, 1), (8, 0)] [] (by kernel_rfl) (by kernel_rfl) ((hS0 _).2 rfl) ?_
                    intro _hev
                    iterate 9 (first | (refine wpOrd_v rfl rfl ?_; intro K hK; go_big_quiet_op; go_big_quiet_on) | (refine wpOrd_q rfl rfl ?_; intro K hK; go_big_quiet_op; go_big_quiet_on) | refine wpOrd_s (by decide) rfl rfl ?_)
                    refine wpOrd_nil ?_
                    clear hevT _hev
                    clear hS0 S cc0 dd0 cc1 dd1 cc2 dd2 cc3 dd3 cc4 dd4 cc5 dd5
                    obtain rfl : R = false := by rw [hR.out]; exact decide_eq_false (q2.out hne)
                    go_wp2
                    go_ret
                    exact ⟨rfl, KK.out⟩
                  case pos =>
                    rw [g5] at d5
                    replace g5 := Lib.hid g5
                    have he : x = y := by
                      have p0 := g0.out; have p1 := g1.out; have p2 := g2.out; have p3 := g3.out; have p4 := g4.out; have p5 := g5.out
                      obtain ⟨a, b, c, d, e, f⟩ := x; obtain ⟨a2, b2, c2, d2, e2, f2⟩ := y; simp only at p0 p1 p2 p3 p4 p5; subst p0 p1 p2 p3 p4 p5; rfl
                    replace q1 := Lib.hid (q1.out he)
                    clear he q2 g0 g1 g2 g3 g4 g5
                    obtain ⟨S, hS⟩ : ∃ S : Nat → World → Prop, S = fun _ w' => w' = wr.drew := ⟨_, rfl⟩
                    have hS0 : ∀ w', S 0 w' ↔ w' = wr.drew := fun w' => by rw [hS]
                    clear hS
                    have cc0 : ∀ q : Ev (S 0), q.w.cell? ⟨b, o + i * 6, none⟩ = some (.int .i64 x.target) := fun q => by rw [(hS0 _).1 q.h]; exact c0
                    have cc1 : ∀ q : Ev (S 0), q.w.cell? ⟨b, o + i * 6 + 1, none⟩ = some (.int .i64 x.level) := fun q => by rw [(hS0 _).1 q.h]; exact c1
                    have cc2 : ∀ q : Ev (S 0), q.w.cell? ⟨b, o + i * 6 + 2, none⟩ = some (.int .i64 x.item) := fun q => by rw [(hS0 _).1 q.h]; exact c2
                    have cc3 : ∀ q : Ev (S 0), q.w.cell? ⟨b, o + i * 6 + 3, none⟩ = some (.int .i64 x.chance.least) := fun q => by rw [(hS0 _).1 q.h]; exact c3
                    have cc4 : ∀ q : Ev (S 0), q.w.cell? ⟨b, o + i * 6 + 4, none⟩ = some (.int .i64 x.chance.most) := fun q => by rw [(hS0 _).1 q.h]; exact c4
                    have cc5 : ∀ q : Ev (S 0), q.w.cell? ⟨b, o + i * 6 + 5, none⟩ = some (.int .i64 x.chance.all) := fun q => by rw [(hS0 _).1 q.h]; exact c5
                    have dd0 : ∀ q : Ev (S 0), q.w.cell? ⟨b2, o2 + i * 6, none⟩ = some (.int .i64 x.target) := fun q => by rw [(hS0 _).1 q.h]; exact d0
                    have dd1 : ∀ q : Ev (S 0), q.w.cell? ⟨b2, o2 + i * 6 + 1, none⟩ = some (.int .i64 x.level) := fun q => by rw [(hS0 _).1 q.h]; exact d1
                    have dd2 : ∀ q : Ev (S 0), q.w.cell? ⟨b2, o2 + i * 6 + 2, none⟩ = some (.int .i64 x.item) := fun q => by rw [(hS0 _).1 q.h]; exact d2
                    have dd3 : ∀ q : Ev (S 0), q.w.cell? ⟨b2, o2 + i * 6 + 3, none⟩ = some (.int .i64 x.chance.least) := fun q => by rw [(hS0 _).1 q.h]; exact d3
                    have dd4 : ∀ q : Ev (S 0), q.w.cell? ⟨b2, o2 + i * 6 + 4, none⟩ = some (.int .i64 x.chance.most) := fun q => by rw [(hS0 _).1 q.h]; exact d4
                    have dd5 : ∀ q : Ev (S 0), q.w.cell? ⟨b2, o2 + i * 6 + 5, none⟩ = some (.int .i64 x.chance.all) := fun q => by rw [(hS0 _).1 q.h]; exact d5
                    clear c0 c1 c2 c3 c4 c5 d0 d1 d2 d3 d4 d5
                    have hevT := ev_true
                    refine wp_region_ord S [(0, 0), (1, 0), (2, 0), (3, 1), (4, 0), (5, 0), (6, 0), (7, 1), (8, 0)] [] (by kernel_rfl) (by kernel_rfl) ((hS0 _).2 rfl) ?_
                    intro _hev
                    iterate 9 (first | (refine wpOrd_v rfl rfl ?_; intro K hK; go_big_quiet_op; go_big_quiet_on) | (refine wpOrd_q rfl rfl ?_; intro K hK; go_big_quiet_op; go_big_quiet_on) | refine wpOrd_s (by decide) rfl rfl ?_)
                    refine wpOrd_nil ?_
                    clear hevT _hev
                    clear hS0 S cc0 dd0 cc1 dd1 cc2 dd2 cc3 dd3 cc4 dd4 cc5 dd5
                    go_wp2
                    go_roundw
                    case rel => exact ⟨i + 1, by congr 1, h7.out, q1.out, KK.out⟩
                    case measure => have := h7.out; simp [intOf]; omega
set_option maxRecDepth 20000 in
set_option maxHeartbeats 2000000 in
theorem equalAlarm_any (A A2 : Option Addr) (cap cap2 : Nat) (xs ys : List Alarm) (w : World) (hr : Rd none w 4 encAlarm A xs.length xs) (hr2 : Rd none w 4 encAlarm A2 ys.length ys) (hn : xs.length ≤ 17592186044416) (hn2 : ys.length ≤ 17592186044416) :
    Calls Tryz.prog 61 #[.slice A xs.length cap, .slice A2 ys.length cap2] w fun e w' => e = .returned (.bool (decide (xs = ys))) ∧ Kp w.heap.size none w w' := by
  obtain ⟨R, hR⟩ : ∃ R, R = decide (xs = ys) := ⟨_, rfl⟩
  rw [← hR]
  by_cases hl : xs.length = ys.length
  case neg =>
    obtain rfl : R = false := by rw [hR]; exact decide_eq_false fun e => hl (by rw [e])
    clear hR
    have hl' : ((xs.length : Int) == (ys.length : Int)) = false := by simp only [beq_eq_false_iff_ne, ne_eq]; omega
    have hl2 : ¬ (xs.length : Int) = (ys.length : Int) := by omega
    clear hl
    go_enter Tryz.func61, Tryz.ntmps61
    go_wp2
    go_ret
    exact ⟨rfl, Kp.refl _ _ _⟩
  case pos =>
    rw [← hl] at hr2 ⊢
    replace hR := Lib.hid hR
    replace hl := Lib.hid hl
    go_enter Tryz.func61, Tryz.ntmps61
    go_wp2_with fail
    go_loopw [13] (fun v wr => EqAt xs ys w v wr) (fun v _ => xs.length - (intOf v).toNat)
    case atStart => exact ⟨0, rfl, by omega, rfl, Kp.refl _ _ _⟩
    case round =>
      obtain ⟨i, rfl, hi, hj, KK⟩ := hrel
      by_cases h7 : i < xs.length
      case neg =>
        have hi' : ¬ (i : Int) < (xs.length : Int) := by omega
        have hl9 := hl.out
        have e : R = true := by
          rw [hR.out]
          rw [List.take_of_length_le (by omega), List.take_of_length_le (by omega)] at hj
          simpa using hj
        subst e
        clear h7 hi hj hl hl9 hR
        go_wp2
        go_ret
        exact ⟨rfl, KK⟩
      case pos =>
        obtain ⟨b, o, rfl, hb, -, hc⟩ := (hr.kpN KK).at_ (by omega)
        obtain ⟨b2, o2, rfl, hb2, -, hc2⟩ := (hr2.kpN KK).at_ (by omega)
        have h8 : i < ys.length := by have := hl.out; omega
        have c0 : wr.cell? ⟨b, o + i * 4, none⟩ = some (.int .i64 xs[i].tick) := hc i h7 0 _ rfl
        have d0 : wr.cell? ⟨b2, o2 + i * 4, none⟩ = some (.int .i64 ys[i].tick) := hc2 i h8 0 _ rfl
        have c1 : wr.cell? ⟨b, o + i * 4 + 1, none⟩ = some (.int .i64 xs[i].target) := by rw [Nat.add_assoc]; exact hc i h7 1 _ rfl
        have d1 : wr.cell? ⟨b2, o2 + i * 4 + 1, none⟩ = some (.int .i64 ys[i].target) := by rw [Nat.add_assoc]; exact hc2 i h8 1 _ rfl
        have c2 : wr.cell? ⟨b, o + i * 4 + 2, none⟩ = some (.int .i64 xs[i].level) := by rw [Nat.add_assoc]; exact hc i h7 2 _ rfl
        have d2 : wr.cell? ⟨b2, o2 + i * 4 + 2, none⟩ = some (.int .i64 ys[i].level) := by rw [Nat.add_assoc]; exact hc2 i h8 2 _ rfl
        have c3 : wr.cell? ⟨b, o + i * 4 + 3, none⟩ = some (.bool xs[i].back) := by rw [Nat.add_assoc]; exact hc i h7 3 _ rfl
        have d3 : wr.cell? ⟨b2, o2 + i * 4 + 3, none⟩ = some (.bool ys[i].back) := by rw [Nat.add_assoc]; exact hc2 i h8 3 _ rfl
        have hi' : (i : Int) < (xs.length : Int) := by omega
        have q1 := take_more hj h7 h8
        have q2 := neq_at (xs := xs) (ys := ys) h7 h8
        clear hc hc2 hj hr hr2
        generalize xs[i] = x at c0 c1 c2 c3 q1 q2
        generalize ys[i] = y at d0 d1 d2 d3 q1 q2
        replace KK := KK.drew
        replace hb := Lib.hid hb
        replace hb2 := Lib.hid hb2
        replace q1 := Lib.hid q1
        replace q2 := Lib.hid q2
        replace KK := Lib.hid KK
        clear h8 hi hn2
        replace h7 := Lib.hid h7
        go_upto_region 6 with (fail)
        by_cases g0 : y.tick = x.tick
        case neg =>
          have hne : x ≠ y := fun e => g0 (by rw [e])
          have f0 : (x.tick == y.tick) = false := by simpa using Ne.symm g0
          clear g0
          obtain ⟨S, hS⟩ : ∃ S : Nat → World → Prop, S = fun _ w' => w' = wr.drew := ⟨_, rfl⟩
          have hS0 : ∀ w', S 0 w' ↔ w' = wr.drew := fun w' => by rw [hS]
          clear hS
          have cc0 : ∀ q : Ev (S 0), q.w.cell? ⟨b, o + i * 4, none⟩ = some (.int .i64 x.tick) := fun q => by rw [(hS0 _).1 q.h]; exact c0
          have cc1 : ∀ q : Ev (S 0), q.w.cell? ⟨b, o + i * 4 + 1, none⟩ = some (.int .i64 x.target) := fun q => by rw [(hS0 _).1 q.h]; exact c1
          have cc2 : ∀ q : Ev (S 0), q.w.cell? ⟨b, o + i * 4 + 2, none⟩ = some (.int .i64 x.level) := fun q => by rw [(hS0 _).1 q.h]; exact c2
          have cc3 : ∀ q : Ev (S 0), q.w.cell? ⟨b, o + i * 4 + 3, none⟩ = some (.bool x.back) := fun q => by rw [(hS0 _).1 q.h]; exact c3
          have dd0 : ∀ q : Ev (S 0), q.w.cell? ⟨b2, o2 + i * 4, none⟩ = some (.int .i64 y.tick) := fun q => by rw [(hS0 _).1 q.h]; exact d0
          have dd1 : ∀ q : Ev (S 0), q.w.cell? ⟨b2, o2 + i * 4 + 1, none⟩ = some (.int .i64 y.target) := fun q => by rw [(hS0 _).1 q.h]; exact d1
          have dd2 : ∀ q : Ev (S 0), q.w.cell? ⟨b2, o2 + i * 4 + 2, none⟩ = some (.int .i64 y.level) := fun q => by rw [(hS0 _).1 q.h]; exact d2
          have dd3 : ∀ q : Ev (S 0), q.w.cell? ⟨b2, o2 + i * 4 + 3, none⟩ = some (.bool y.back) := fun q => by rw [(hS0 _).1 q.h]; exact d3
          clear c0 c1 c2 c3 d0 d1 d2 d3
          have hevT := ev_true
          refine wp_region_ord S [(0, 0), (1, 0), (2, 0), (3, 1), (4, 0), (5, 0), (6, 0), (7, 1), (8, 0)] [] (by kernel_rfl) (by kernel_rfl) ((hS0 _).2 rfl) ?_
          intro _hev
          iterate 9 (first | (refine wpOrd_v rfl rfl ?_; intro K hK; go_big_quiet_op; go_big_quiet_on) | (refine wpOrd_q rfl rfl ?_; intro K hK; go_big_quiet_op; go_big_quiet_on) | refine wpOrd_s (by decide) rfl rfl ?_)
          refine wpOrd_nil ?_
          clear hevT _hev
          clear hS0 S cc0 dd0 cc1 dd1 cc2 dd2 cc3 dd3
          obtain rfl : R = false := by rw [hR.out]; exact decide_eq_false (q2.out hne)
          go_wp2
          go_ret
          exact ⟨rfl, KK.out⟩
        case pos =>
          rw [g0] at d0
          replace g0 := Lib.hid g0
          by_cases g1 : y.target = x.target
          case neg =>
            have hne : x ≠ y := fun e => g1 (by rw [e])
            have f1 : (x.target == y.target) = false := by simpa using Ne.symm g1
            clear g1
            obtain ⟨S, hS⟩ : ∃ S : Nat → World → Prop, S = fun _ w' => w' = wr.drew := ⟨_, rfl⟩
            have hS0 : ∀ w', S 0 w' ↔ w' = wr.drew := fun w' => by rw [hS]
            clear hS
            have cc0 : ∀ q : Ev (S 0), q.w.cell? ⟨b, o + i * 4, none⟩ = some (.int .i64 x.tick) := fun q => by rw [(hS0 _).1 q.h]; exact c0
            have cc1 : ∀ q : Ev (S 0), q.w.cell? ⟨b, o + i * 4 + 1, none⟩ = some (.int .i64 x.target) := fun q => by rw [(hS0 _).1 q.h]; exact c1
            have cc2 : ∀ q : Ev (S 0), q.w.cell? ⟨b, o + i * 4 + 2, none⟩ = some (.int .i64 x.level) := fun q => by rw [(hS0 _).1 q.h]; exact c2
            have cc3 : ∀ q : Ev (S 0), q.w.cell? ⟨b, o + i * 4 + 3, none⟩ = some (.bool x.back) := fun q => by rw [(hS0 _).1 q.h]; exact c3
            have dd0 : ∀ q : Ev (S 0), q.w.cell? ⟨b2, o2 + i * 4, none⟩ = some (.int .i64 x.tick) := fun q => by rw [(hS0 _).1 q.h]; exact d0
            have dd1 : ∀ q : Ev (S 0), q.w.cell? ⟨b2, o2 + i * 4 + 1, none⟩ = some (.int .i64 y.target) := fun q => by rw [(hS0 _).1 q.h]; exact d1
            have dd2 : ∀ q : Ev (S 0), q.w.cell? ⟨b2, o2 + i * 4 + 2, none⟩ = some (.int .i64 y.level) := fun q => by rw [(hS0 _).1 q.h]; exact d2
            have dd3 : ∀ q : Ev (S 0), q.w.cell? ⟨b2, o2 + i * 4 + 3, none⟩ = some (.bool y.back) := fun q => by rw [(hS0 _).1 q.h]; exact d3
            clear c0 c1 c2 c3 d0 d1 d2 d3
            have hevT := ev_true
            refine wp_region_ord S [(0, 0), (1, 0), (2, 0), (3, 1), (4, 0), (5, 0), (6, 0), (7, 1), (8, 0)] [] (by kernel_rfl) (by kernel_rfl) ((hS0 _).2 rfl) ?_
            intro _hev
            iterate 9 (first | (refine wpOrd_v rfl rfl ?_; intro K hK; go_big_quiet_op; go_big_quiet_on) | (refine wpOrd_q rfl rfl ?_; intro K hK; go_big_quiet_op; go_big_quiet_on) | refine wpOrd_s (by decide) rfl rfl ?_)
            refine wpOrd_nil ?_
            clear hevT _hev
            clear hS0 S cc0 dd0 cc1 dd1 cc2 dd2 cc3 dd3
            obtain rfl : R = false := by rw [hR.out]; exact decide_eq_false (q2.out hne)
            go_wp2
            go_ret
            exact ⟨rfl, KK.out⟩
          case pos =>
            rw [g1] at d1
            replace g1 := Lib.hid g1
            by_cases g2 : y.level = x.level
            case neg =>
              have hne : x ≠ y := fun e => g2 (by rw [e])
              have f2 : (x.level == y.level) = false := by simpa using Ne.symm g2
              clear g2
              obtain ⟨S, hS⟩ : ∃ S : Nat → World → Prop, S = fun _ w' => w' = wr.drew := ⟨_, rfl⟩
              have hS0 : ∀ w', S 0 w' ↔ w' = wr.drew := fun w' => by rw [hS]
              clear hS
              have cc0 : ∀ q : Ev (S 0), q.w.cell? ⟨b, o + i * 4, none⟩ = some (.int .i64 x.tick) := fun q => by rw [(hS0 _).1 q.h]; exact c0
              have cc1 : ∀ q : Ev (S 0), q.w.cell? ⟨b, o + i * 4 + 1, none⟩ = some (.int .i64 x.target) := fun q => by rw [(hS0 _).1 q.h]; exact c1
              have cc2 : ∀ q : Ev (S 0), q.w.cell? ⟨b, o + i * 4 + 2, none⟩ = some (.int .i64 x.level) := fun q => by rw [(hS0 _).1 q.h]; exact c2
              have cc3 : ∀ q : Ev (S 0), q.w.cell? ⟨b, o + i * 4 + 3, none⟩ = some (.bool x.back) := fun q => by rw [(hS0 _).1 q.h]; exact c3
              have dd0 : ∀ q : Ev (S 0), q.w.cell? ⟨b2, o2 + i * 4, none⟩ = some (.int .i64 x.tick) := fun q => by rw [(hS0 _).1 q.h]; exact d0
              have dd1 : ∀ q : Ev (S 0), q.w.cell? ⟨b2, o2 + i * 4 + 1, none⟩ = some (.int .i64 x.target) := fun q => by rw [(hS0 _).1 q.h]; exact d1
              have dd2 : ∀ q : Ev (S 0), q.w.cell? ⟨b2, o2 + i * 4 + 2, none⟩ = some (.int .i64 y.level) := fun q => by rw [(hS0 _).1 q.h]; exact d2
              have dd3 : ∀ q : Ev (S 0), q.w.cell? ⟨b2, o2 + i * 4 + 3, none⟩ = some (.bool y.back) := fun q => by rw [(hS0 _).1 q.h]; exact d3
              clear c0 c1 c2 c3 d0 d1 d2 d3
              have hevT := ev_true
              refine wp_region_ord S [(0, 0), (1, 0), (2, 0), (3, 1), (4, 0), (5, 0), (6, 0), (7, 1), (8, 0)] [] (by kernel_rfl) (by kernel_rfl) ((hS0 _).2 rfl) ?_
              intro _hev
              iterate 9 (first | (refine wpOrd_v rfl rfl ?_; intro K hK; go_big_quiet_op; go_big_quiet_on) | (refine wpOrd_q rfl rfl ?_; intro K hK; go_big_quiet_op; go_big_quiet_on) | refine wpOrd_s (by decide) rfl rfl ?_)
              refine wpOrd_nil ?_
              clear hevT _hev
              clear hS0 S cc0 dd0 cc1 dd1 cc2 dd2 cc3 dd3
              obtain rfl : R = false := by rw [hR.out]; exact decide_eq_false (q2.out hne)
              go_wp2
              go_ret
              exact ⟨rfl, KK.out⟩
            case pos =>
              rw [g2] at d2
              replace g2 := Lib.hid g2
              by_cases g3 : y.back = x.back
              case neg =>
                have hne : x ≠ y := fun e => g3 (by rw [e])
                have f3 : (x.back == y.back) = false := by simpa using Ne.symm g3
                clear g3
                obtain ⟨S, hS⟩ : ∃ S : Nat → World → Prop, S = fun _ w' => w' = wr.drew := ⟨_, rfl⟩
                have hS0 : ∀ w', S 0 w' ↔ w' = wr.drew := fun w' => by rw [hS]
                clear hS
                have cc0 : ∀ q : Ev (S 0), q.w.cell? ⟨b, o + i * 4, none⟩ = some (.int .i64 x.tick) := fun q => by rw [(hS0 _).1 q.h]; exact c0
                have cc1 : ∀ q : Ev (S 0), q.w.cell? ⟨b, o + i * 4 + 1, none⟩ = some (.int .i64 x.target) := fun q => by rw [(hS0 _).1 q.h]; exact c1
                have cc2 : ∀ q : Ev (S 0), q.w.cell? ⟨b, o + i * 4 + 2, none⟩ = some (.int .i64 x.level) := fun q => by rw [(hS0 _).1 q.h]; exact c2
                have cc3 : ∀ q : Ev (S 0), q.w.cell? ⟨b, o + i * 4 + 3, none⟩ = some (.bool x.back) := fun q => by rw [(hS0 _).1 q.h]; exact c3
                have dd0 : ∀ q : Ev (S 0), q.w.cell? ⟨b2, o2 + i * 4, none⟩ = some (.int .i64 x.tick) := fun q => by rw [(hS0 _).1 q.h]; exact d0
                have dd1 : ∀ q : Ev (S 0), q.w.cell? ⟨b2, o2 + i * 4 + 1, none⟩ = some (.int .i64 x.target) := fun q => by rw [(hS0 _).1 q.h]; exact d1
                have dd2 : ∀ q : Ev (S 0), q.w.cell? ⟨b2, o2 + i * 4 + 2, none⟩ = some (.int .i64 x.level) := fun q => by rw [(hS0 _).1 q.h]; exact d2
                have dd3 : ∀ q : Ev (S 0), q.w.cell? ⟨b2, o2 + i * 4 + 3, none⟩ = some (.bool y.back) := fun q => by rw [(hS0 _).1 q.h]; exact d3
                clear c0 c1 c2 c3 d0 d1 d2 d3
                have hevT := ev_true
                refine wp_region_ord S [(0, 0), (1, 0), (2, 0), (3, 1), (4, 0), (5, 0), (6, 0), (7, 1), (8, 0)] [] (by kernel_rfl) (by kernel_rfl) ((hS0 _).2 rfl) ?_
                intro _hev
                iterate 9 (first | (refine wpOrd_v rfl rfl ?_; intro K hK; go_big_quiet_op; go_big_quiet_on) | (refine wpOrd_q rfl rfl ?_; intro K hK; go_big_quiet_op; go_big_quiet_on) | refine wpOrd_s (by decide) rfl rfl ?_)
                refine wpOrd_nil ?_
                clear hevT _hev
                clear hS0 S cc0 dd0 cc1 dd1 cc2 dd2 cc3 dd3
                obtain rfl : R = false := by rw [hR.out]; exact decide_eq_false (q2.out hne)
                go_wp2
                go_ret
                exact ⟨rfl, KK.out⟩
              case pos =>
                rw [g3] at d3
                replace g3 := Lib.hid g3
                have he : x = y := by
                  have p0 := g0.out; have p1 := g1.out; have p2 := g2.out; have p3 := g3.out
                  obtain ⟨a, b, c, d⟩ := x; obtain ⟨a2, b2, c2, d2⟩ := y; simp only at p0 p1 p2 p3; subst p0 p1 p2 p3; rfl
                replace q1 := Lib.hid (q1.out he)
                clear he q2 g0 g1 g2 g3
                obtain ⟨S, hS⟩ : ∃ S : Nat → World → Prop, S = fun _ w' => w' = wr.drew := ⟨_, rfl⟩
                have hS0 : ∀ w', S 0 w' ↔ w' = wr.drew := fun w' => by rw [hS]
                clear hS
                have cc0 : ∀ q : Ev (S 0), q.w.cell? ⟨b, o + i * 4, none⟩ = some (.int .i64 x.tick) := fun q => by rw [(hS0 _).1 q.h]; exact c0
                have cc1 : ∀ q : Ev (S 0), q.w.cell? ⟨b, o + i * 4 + 1, none⟩ = some (.int .i64 x.target) := fun q => by rw [(hS0 _).1 q.h]; exact c1
                have cc2 : ∀ q : Ev (S 0), q.w.cell? ⟨b, o + i * 4 + 2, none⟩ = some (.int .i64 x.level) := fun q => by rw [(hS0 _).1 q.h]; exact c2
                have cc3 : ∀ q : Ev (S 0), q.w.cell? ⟨b, o + i * 4 + 3, none⟩ = some (.bool x.back) := fun q => by rw [(hS0 _).1 q.h]; exact c3
                have dd0 : ∀ q : Ev (S 0), q.w.cell? ⟨b2, o2 + i * 4, none⟩ = some (.int .i64 x.tick) := fun q => by rw [(hS0 _).1 q.h]; exact d0
                have dd1 : ∀ q : Ev (S 0), q.w.cell? ⟨b2, o2 + i * 4 + 1, none⟩ = some (.int .i64 x.target) := fun q => by rw [(hS0 _).1 q.h]; exact d1
                have dd2 : ∀ q : Ev (S 0), q.w.cell? ⟨b2, o2 + i * 4 + 2, none⟩ = some (.int .i64 x.level) := fun q => by rw [(hS0 _).1 q.h]; exact d2
                have dd3 : ∀ q : Ev (S 0), q.w.cell? ⟨b2, o2 + i * 4 + 3, none⟩ = some (.bool x.back) := fun q => by rw [(hS0 _).1 q.h]; exact d3
                clear c0 c1 c2 c3 d0 d1 d2 d3
                have hevT := ev_true
                refine wp_region_ord S [(0, 0), (1, 0), (2, 0), (3, 1), (4, 0), (5, 0), (6, 0), (7, 1), (8, 0)] [] (by kernel_rfl) (by kernel_rfl) ((hS0 _).2 rfl) ?_
                intro _hev
                iterate 9 (first | (refine wpOrd_v rfl rfl ?_; intro K hK; go_big_quiet_op; go_big_quiet_on) | (refine wpOrd_q rfl rfl ?_; intro K hK; go_big_quiet_op; go_big_quiet_on) | refine wpOrd_s (by decide) rfl rfl ?_)
                refine wpOrd_nil ?_
                clear hevT _hev
                clear hS0 S cc0 dd0 cc1 dd1 cc2 dd2 cc3 dd3
                go_wp2
                go_roundw
                case rel => exact ⟨i + 1, by congr 1, h7.out, q1.out, KK.out⟩
                case measure => have := h7.out; simp [intOf]; omega
end Go.Proofs.YtogpgnljomchcaaGreat
namespace Go.Proofs.YtogpgnljomchcaaGreat
open Go.RowKit

set_option maxRecDepth 20000 in
set_option maxHeartbeats 4000000 in
theorem sameMotion_any (m n : Motion) (A A2 : Option Addr) (q q2 : Nat) (w : World) (hr : Rd none w 1 encI A m.voted.length m.voted) (hr2 : Rd none w 1 encI A2 n.voted.length n.voted) (hn : m.voted.length ≤ 17592186044416) (hn2 : n.voted.length ≤ 17592186044416) :
    Calls Tryz.prog 60 #[.agg #[.int .i64 m.target, .int .i64 m.act, .int .i64 m.opened, .int .i64 m.state, .int .i64 m.yes, .int .i64 m.no, (.slice A m.voted.length q), .int .i64 m.fact], .agg #[.int .i64 n.target, .int .i64 n.act, .int .i64 n.opened, .int .i64 n.state, .int .i64 n.yes, .int .i64 n.no, (.slice A2 n.voted.length q2), .int .i64 n.fact]] w fun e w' => e = .returned (.bool (decide (m = n))) ∧ Kp w.heap.size none w w' := by
  obtain ⟨R, hR⟩ : ∃ R, R = decide (m = n) := ⟨_, rfl⟩
  rw [← hR]
  have B1 := (Blk.new w 52 #[.int .i64 m.target, .int .i64 m.act, .int .i64 m.opened, .int .i64 m.state, .int .i64 m.yes, .int .i64 m.no, (.slice A m.voted.length q), .int .i64 m.fact]).alloc (.cells #[.int .i64 n.target, .int .i64 n.act, .int .i64 n.opened, .int .i64 n.state, .int .i64 n.yes, .int .i64 n.no, (.slice A2 n.voted.length q2), .int .i64 n.fact] 52)
  have B2 := Blk.newAt (w.alloc (.cells #[.int .i64 m.target, .int .i64 m.act, .int .i64 m.opened, .int .i64 m.state, .int .i64 m.yes, .int .i64 m.no, (.slice A m.voted.length q), .int .i64 m.fact] 52)) 52 #[.int .i64 n.target, .int .i64 n.act, .int .i64 n.opened, .int .i64 n.state, .int .i64 n.yes, .int .i64 n.no, (.slice A2 n.voted.length q2), .int .i64 n.fact] (n := w.heap.size + 1) (by simp)
  have K2 := Kp.new2 w (.cells #[.int .i64 m.target, .int .i64 m.act, .int .i64 m.opened, .int .i64 m.state, .int .i64 m.yes, .int .i64 m.no, (.slice A m.voted.length q), .int .i64 m.fact] 52) (.cells #[.int .i64 n.target, .int .i64 n.act, .int .i64 n.opened, .int .i64 n.state, .int .i64 n.yes, .int .i64 n.no, (.slice A2 n.voted.length q2), .int .i64 n.fact] 52)
  have hc := equalInt_any A A2 q q2 m.voted n.voted _ (hr.kpN K2) (hr2.kpN K2) hn hn2
  have hlm : ∀ a b : Motion, a ≠ b → decide (a = b) = false := fun a b h => decide_eq_false h
  replace hR := Lib.hid hR
  replace hlm := Lib.hid hlm
  clear hr hr2 hn hn2
  obtain ⟨mv, hmv⟩ : ∃ a, a = m.voted := ⟨_, rfl⟩
  obtain ⟨nv, hnv⟩ : ∃ a, a = n.voted := ⟨_, rfl⟩
  rw [← hmv, ← hnv] at hc
  rw [← hmv, ← hnv] at B2 K2 ⊢
  rw [← hmv, ← hnv] at B1
  replace hmv := Lib.hid hmv
  replace hnv := Lib.hid hnv
  go_enter Tryz.func60, Tryz.ntmps60
  go_upto_region 1 with (fail)
  obtain ⟨b1, hb1⟩ : ∃ a, a = w.heap.size := ⟨_, rfl⟩
  rw [← hb1] at B1 B2
  rw [← hb1]
  generalize (w.alloc (.cells #[.int .i64 m.target, .int .i64 m.act, .int .i64 m.opened, .int .i64 m.state, .int .i64 m.yes, .int .i64 m.no, (.slice A mv.length q), .int .i64 m.fact] 52)).alloc (.cells #[.int .i64 n.target, .int .i64 n.act, .int .i64 n.opened, .int .i64 n.state, .int .i64 n.yes, .int .i64 n.no, (.slice A2 nv.length q2), .int .i64 n.fact] 52) = w2 at B1 B2 K2 hc ⊢
  replace hb1 := Lib.hid hb1
  have c1 := fun i => B1.cell i
  have c2 := fun i => B2.cell i
  by_cases g_target : m.target = n.target
  case neg =>
    have f_target : (m.target == n.target) = false := by simpa using g_target
    obtain rfl : R = false := by rw [hR.out]; exact hlm.out _ _ fun e => g_target (by rw [e])
    clear g_target hc
    go_wp2
    go_ret
    exact ⟨rfl, K2⟩
  have f_target : (m.target == n.target) = true := by simpa using g_target
  replace g_target := Lib.hid g_target
  by_cases g_act : m.act = n.act
  case neg =>
    have f_act : (m.act == n.act) = false := by simpa using g_act
    obtain rfl : R = false := by rw [hR.out]; exact hlm.out _ _ fun e => g_act (by rw [e])
    clear g_act hc
    go_wp2
    go_ret
    exact ⟨rfl, K2⟩
  have f_act : (m.act == n.act) = true := by simpa using g_act
  replace g_act := Lib.hid g_act
  by_cases g_opened : m.opened = n.opened
  case neg =>
    have f_opened : (m.opened == n.opened) = false := by simpa using g_opened
    obtain rfl : R = false := by rw [hR.out]; exact hlm.out _ _ fun e => g_opened (by rw [e])
    clear g_opened hc
    go_wp2
    go_ret
    exact ⟨rfl, K2⟩
  have f_opened : (m.opened == n.opened) = true := by simpa using g_opened
  replace g_opened := Lib.hid g_opened
  by_cases g_state : m.state = n.state
  case neg =>
    have f_state : (m.state == n.state) = false := by simpa using g_state
    obtain rfl : R = false := by rw [hR.out]; exact hlm.out _ _ fun e => g_state (by rw [e])
    clear g_state hc
    go_wp2
    go_ret
    exact ⟨rfl, K2⟩
  have f_state : (m.state == n.state) = true := by simpa using g_state
  replace g_state := Lib.hid g_state
  by_cases g_yes : m.yes = n.yes
  case neg =>
    have f_yes : (m.yes == n.yes) = false := by simpa using g_yes
    obtain rfl : R = false := by rw [hR.out]; exact hlm.out _ _ fun e => g_yes (by rw [e])
    clear g_yes hc
    go_wp2
    go_ret
    exact ⟨rfl, K2⟩
  have f_yes : (m.yes == n.yes) = true := by simpa using g_yes
  replace g_yes := Lib.hid g_yes
  by_cases g_no : m.no = n.no
  case neg =>
    have f_no : (m.no == n.no) = false := by simpa using g_no
    obtain rfl : R = false := by rw [hR.out]; exact hlm.out _ _ fun e => g_no (by rw [e])
    clear g_no hc
    go_wp2
    go_ret
    exact ⟨rfl, K2⟩
  have f_no : (m.no == n.no) = true := by simpa using g_no
  replace g_no := Lib.hid g_no
  by_cases g_fact : m.fact = n.fact
  case neg =>
    have f_fact : (m.fact == n.fact) = false := by simpa using g_fact
    obtain rfl : R = false := by rw [hR.out]; exact hlm.out _ _ fun e => g_fact (by rw [e])
    clear g_fact hc
    go_wp2
    go_ret
    exact ⟨rfl, K2⟩
  have f_fact : (m.fact == n.fact) = true := by simpa using g_fact
  replace g_fact := Lib.hid g_fact
  have hlast : R = decide (mv = nv) := by
    rw [hR.out]
    by_cases hv : mv = nv
    · rw [decide_eq_true hv]
      refine decide_eq_true ?_
      have hv2 : m.voted = n.voted := by rw [← hmv.out, ← hnv.out]; exact hv
      have := And.intro g_target.out <| And.intro g_act.out <| And.intro g_opened.out <| And.intro g_state.out <| And.intro g_yes.out <| And.intro g_no.out g_fact.out
      obtain ⟨a, b, c, d, e, f, g, h⟩ := m
      obtain ⟨a2, b2, c2, d2, e2, f2, g2, h2⟩ := n
      simp only at this hv2
      obtain ⟨p0, p1, p2, p3, p4, p5, p6⟩ := this
      subst p0 p1 p2 p3 p4 p5 p6 hv2
      rfl
    · rw [decide_eq_false hv]
      exact hlm.out _ _ fun e => hv (by rw [hmv.out, hnv.out, e])
  replace hlast := Lib.hid hlast
  go_wp2_with fail
  refine hc.mono ?_
  rintro e w3 ⟨rfl, k3⟩
  rw [← hlast.out]
  have K3 := K2.thenN k3 (Nat.le_refl _)
  clear k3 c1 c2 B1 B2 hc
  go_wp2
  go_ret
  exact ⟨rfl, K3⟩
set_option maxRecDepth 20000 in
set_option maxHeartbeats 4000000 in
theorem equalMotions_any (L L2 : LV) (l l2 : Ledger) (w : World) (s : LAt w.heap.size w L l) (s2 : LAt w.heap.size w L2 l2) :
    Calls Tryz.prog 59 #[.slice L.ma l.motions.length L.mc, .slice L2.ma l2.motions.length L2.mc, .func (.func 60) #[] #[]] w fun e w' => e = .returned (.bool (decide (l.motions = l2.motions))) ∧ Kp w.heap.size none w w' := by
  obtain ⟨R, hR⟩ : ∃ R, R = decide (l.motions = l2.motions) := ⟨_, rfl⟩
  rw [← hR]
  by_cases hl : l.motions.length = l2.motions.length
  case neg =>
    obtain rfl : R = false := by rw [hR]; exact decide_eq_false fun e => hl (by rw [e])
    clear hR
    have hl' : ((l.motions.length : Int) == (l2.motions.length : Int)) = false := by simp only [beq_eq_false_iff_ne, ne_eq]; omega
    have hl2 : ¬ (l.motions.length : Int) = (l2.motions.length : Int) := by omega
    clear hl
    go_enter Tryz.func59, Tryz.ntmps59
    go_wp2
    go_ret
    exact ⟨rfl, Kp.refl _ _ _⟩
  case pos =>
    rw [← hl]
    replace hR := Lib.hid hR
    replace hl := Lib.hid hl
    have hms := s.ms
    obtain ⟨ln, hln⟩ : ∃ a, a = l.motions.length := ⟨_, rfl⟩
    rw [← hln] at hms ⊢
    replace hln := Lib.hid hln
    go_enter Tryz.func59, Tryz.ntmps59
    go_wp2_with fail
    go_loopw [17] (fun v wr => EqAt l.motions l2.motions w v wr) (fun v _ => ln - (intOf v).toNat)
    case atStart => exact ⟨0, rfl, by omega, rfl, Kp.refl _ _ _⟩
    case round =>
      obtain ⟨i, rfl, hi, hj, KK⟩ := hrel
      by_cases h7 : i < ln
      case neg =>
        have hi' : ¬ (i : Int) < (ln : Int) := by omega
        have hl9 := hl.out
        have hln9 := hln.out
        have e : R = true := by
          rw [hR.out]
          rw [List.take_of_length_le (by omega), List.take_of_length_le (by omega)] at hj
          simpa using hj
        subst e
        clear h7 hi hj hl hl9 hln9 hR
        go_wp2
        go_ret
        exact ⟨rfl, KK⟩
      case pos =>
        have h8 : i < l.motions.length := by have := hln.out; omega
        have h9 : i < l2.motions.length := by have := hl.out; omega
        obtain ⟨b, o, A, q, eM, -, lo, hc⟩ := (s.kpN KK).mot i h8
        obtain ⟨b2, o2, A2, q2, eM2, -, lo2, hc2⟩ := (s2.kpN KK).mot i h9
        have hi' : (i : Int) < (ln : Int) := by omega
        have t1 := take_more hj h8 h9
        have t2 := neq_at (xs := l.motions) (ys := l2.motions) h8 h9
        have vb := s.vs i
        have vb2 := s2.vs i
        have ev : votedOf l i = l.motions[i].voted := by unfold votedOf; rw [List.getElem?_eq_getElem h8]; rfl
        have ev2 : votedOf l2 i = l2.motions[i].voted := by unfold votedOf; rw [List.getElem?_eq_getElem h9]; rfl
        rw [ev] at vb
        rw [ev2] at vb2
        obtain ⟨m, hm⟩ : ∃ a, a = l.motions[i] := ⟨_, rfl⟩
        obtain ⟨n, hn⟩ : ∃ a, a = l2.motions[i] := ⟨_, rfl⟩
        rw [← hm] at lo hc t1 t2 vb
        rw [← hn] at lo2 hc2 t1 t2 vb2
        clear ev ev2 hm hn hj
        obtain ⟨fa, fc, ma, mc, sa, sc, vo⟩ := L
        have eM' : ma = some ⟨b, o, none⟩ := eM
        subst eM'
        clear eM
        obtain ⟨fa2, fc2, ma2, mc2, sa2, sc2, vo2⟩ := L2
        have eM' : ma2 = some ⟨b2, o2, none⟩ := eM2
        subst eM'
        clear eM2
        have hcall := fun W (k : Kp wr.heap.size none wr W) => sameMotion_any m n A A2 q q2 W ((lo.kpN k).rdN) ((lo2.kpN k).rdN) vb vb2
        obtain ⟨vl, hvl⟩ : ∃ a, a = m.voted.length := ⟨_, rfl⟩
        obtain ⟨vl2, hvl2⟩ : ∃ a, a = n.voted.length := ⟨_, rfl⟩
        rw [← hvl] at hc hcall
        rw [← hvl2] at hc2 hcall
        clear hvl hvl2 lo lo2 vb vb2
        have c0 : wr.cell? ⟨b, o + i * 8, none⟩ = some (.int .i64 m.target) := hc 0 _ rfl
        have c1 : wr.cell? ⟨b, o + i * 8 + 1, none⟩ = some (.int .i64 m.act) := by rw [Nat.add_assoc]; exact hc 1 _ rfl
        have c2 : wr.cell? ⟨b, o + i * 8 + 2, none⟩ = some (.int .i64 m.opened) := by rw [Nat.add_assoc]; exact hc 2 _ rfl
        have c3 : wr.cell? ⟨b, o + i * 8 + 3, none⟩ = some (.int .i64 m.state) := by rw [Nat.add_assoc]; exact hc 3 _ rfl
        have c4 : wr.cell? ⟨b, o + i * 8 + 4, none⟩ = some (.int .i64 m.yes) := by rw [Nat.add_assoc]; exact hc 4 _ rfl
        have c5 : wr.cell? ⟨b, o + i * 8 + 5, none⟩ = some (.int .i64 m.no) := by rw [Nat.add_assoc]; exact hc 5 _ rfl
        have c6 : wr.cell? ⟨b, o + i * 8 + 6, none⟩ = some (.slice A vl q) := by rw [Nat.add_assoc]; exact hc 6 _ rfl
        have c7 : wr.cell? ⟨b, o + i * 8 + 7, none⟩ = some (.int .i64 m.fact) := by rw [Nat.add_assoc]; exact hc 7 _ rfl
        have d0 : wr.cell? ⟨b2, o2 + i * 8, none⟩ = some (.int .i64 n.target) := hc2 0 _ rfl
        have d1 : wr.cell? ⟨b2, o2 + i * 8 + 1, none⟩ = some (.int .i64 n.act) := by rw [Nat.add_assoc]; exact hc2 1 _ rfl
        have d2 : wr.cell? ⟨b2, o2 + i * 8 + 2, none⟩ = some (.int .i64 n.opened) := by rw [Nat.add_assoc]; exact hc2 2 _ rfl
        have d3 : wr.cell? ⟨b2, o2 + i * 8 + 3, none⟩ = some (.int .i64 n.state) := by rw [Nat.add_assoc]; exact hc2 3 _ rfl
        have d4 : wr.cell? ⟨b2, o2 + i * 8 + 4, none⟩ = some (.int .i64 n.yes) := by rw [Nat.add_assoc]; exact hc2 4 _ rfl
        have d5 : wr.cell? ⟨b2, o2 + i * 8 + 5, none⟩ = some (.int .i64 n.no) := by rw [Nat.add_assoc]; exact hc2 5 _ rfl
        have d6 : wr.cell? ⟨b2, o2 + i * 8 + 6, none⟩ = some (.slice A2 vl2 q2) := by rw [Nat.add_assoc]; exact hc2 6 _ rfl
        have d7 : wr.cell? ⟨b2, o2 + i * 8 + 7, none⟩ = some (.int .i64 n.fact) := by rw [Nat.add_assoc]; exact hc2 7 _ rfl
        clear hc hc2
        have kn := Kp.new wr (.cells #[.int .i64 m.target, .int .i64 m.act, .int .i64 m.opened, .int .i64 m.state, .int .i64 m.yes, .int .i64 m.no, (.slice A vl q), .int .i64 m.fact] 52)
        replace d0 := kn.cellN d0
        replace d1 := kn.cellN d1
        replace d2 := kn.cellN d2
        replace d3 := kn.cellN d3
        replace d4 := kn.cellN d4
        replace d5 := kn.cellN d5
        replace d6 := kn.cellN d6
        replace d7 := kn.cellN d7
        clear kn
        have K1 := Kp.new2 wr (.cells #[.int .i64 m.target, .int .i64 m.act, .int .i64 m.opened, .int .i64 m.state, .int .i64 m.yes, .int .i64 m.no, (.slice A vl q), .int .i64 m.fact] 52) (.cells #[.int .i64 n.target, .int .i64 n.act, .int .i64 n.opened, .int .i64 n.state, .int .i64 n.yes, .int .i64 n.no, (.slice A2 vl2 q2), .int .i64 n.fact] 52)
        have B1 := (Blk.new wr 52 #[.int .i64 m.target, .int .i64 m.act, .int .i64 m.opened, .int .i64 m.state, .int .i64 m.yes, .int .i64 m.no, (.slice A vl q), .int .i64 m.fact]).alloc (.cells #[.int .i64 n.target, .int .i64 n.act, .int .i64 n.opened, .int .i64 n.state, .int .i64 n.yes, .int .i64 n.no, (.slice A2 vl2 q2), .int .i64 n.fact] 52)
        have B2 := Blk.newAt (wr.alloc (.cells #[.int .i64 m.target, .int .i64 m.act, .int .i64 m.opened, .int .i64 m.state, .int .i64 m.yes, .int .i64 m.no, (.slice A vl q), .int .i64 m.fact] 52)) 52 #[.int .i64 n.target, .int .i64 n.act, .int .i64 n.opened, .int .i64 n.state, .int .i64 n.yes, .int .i64 n.no, (.slice A2 vl2 q2), .int .i64 n.fact] (n := wr.heap.size + 1) (by simp)
        have cb1 := fun i => B1.cell i
        have cb2 := fun i => B2.cell i
        replace t1 := Lib.hid t1
        replace t2 := Lib.hid t2
        replace hcall := Lib.hid hcall
        replace h7 := Lib.hid h7
        replace s := Lib.hid s
        replace s2 := Lib.hid s2
        clear h8 h9 hi
        go_upto_region 7 with (fail)
        change Code.wp _ _ _ _ ((wr.alloc (.cells #[.int .i64 m.target, .int .i64 m.act, .int .i64 m.opened, .int .i64 m.state, .int .i64 m.yes, .int .i64 m.no, (.slice A vl q), .int .i64 m.fact] 52)).alloc (.cells #[.int .i64 n.target, .int .i64 n.act, .int .i64 n.opened, .int .i64 n.state, .int .i64 n.yes, .int .i64 n.no, (.slice A2 vl2 q2), .int .i64 n.fact] 52))
        clear c0 c1 c2 c3 c4 c5 c6 c7 d0 d1 d2 d3 d4 d5 d6 d7 cb1 cb2
        obtain ⟨b1, hb1⟩ : ∃ a, a = wr.heap.size := ⟨_, rfl⟩
        rw [← hb1] at B1 B2
        rw [← hb1]
        have hcall2 := hcall.out _ K1
        generalize (wr.alloc (.cells #[.int .i64 m.target, .int .i64 m.act, .int .i64 m.opened, .int .i64 m.state, .int .i64 m.yes, .int .i64 m.no, (.slice A vl q), .int .i64 m.fact] 52)).alloc (.cells #[.int .i64 n.target, .int .i64 n.act, .int .i64 n.opened, .int .i64 n.state, .int .i64 n.yes, .int .i64 n.no, (.slice A2 vl2 q2), .int .i64 n.fact] 52) = w5 at K1 B1 B2 hcall2 ⊢
        clear hb1 hcall
        have cb1 := fun i => B1.cell i
        have cb2 := fun i => B2.cell i
        by_cases hq : m = n
        · replace t1 := Lib.hid (t1.out hq)
          rw [decide_eq_true hq] at hcall2
          clear hq t2
          replace K1 := Lib.hid K1
          go_wp2_with fail
          refine hcall2.mono ?_
          rintro e w6 ⟨rfl, k6⟩
          go_wp2
          go_roundw
          case rel => exact ⟨i + 1, by congr 1, by have := h7.out; have := hln.out; omega, t1.out, (KK.thenN K1.out (Nat.le_refl _)).thenN k6 (Nat.le_refl _)⟩
          case measure => have := h7.out; simp [intOf]; omega
        · replace t2 := t2.out hq
          rw [decide_eq_false hq] at hcall2
          obtain rfl : R = false := by rw [hR.out]; exact decide_eq_false t2
          clear hq t1 t2
          replace K1 := Lib.hid K1
          go_wp2_with fail
          refine hcall2.mono ?_
          rintro e w6 ⟨rfl, k6⟩
          go_wp2
          go_ret
          exact ⟨rfl, (KK.thenN K1.out (Nat.le_refl _)).thenN k6 (Nat.le_refl _)⟩
set_option maxRecDepth 20000 in
set_option maxHeartbeats 4000000 in
theorem sameLedger_any (L L2 : LV) (l l2 : Ledger) (w : World) (s : LAt w.heap.size w L l) (s2 : LAt w.heap.size w L2 l2) :
    Calls Tryz.prog 35 #[.agg #[.int .i64 l.items, .slice L.fa l.facts.length L.fc, .slice L.ma l.motions.length L.mc, .slice L.sa l.sent.length L.sc], .agg #[.int .i64 l2.items, .slice L2.fa l2.facts.length L2.fc, .slice L2.ma l2.motions.length L2.mc, .slice L2.sa l2.sent.length L2.sc]] w fun e w' => e = .returned (.bool (decide (l = l2))) ∧ Kp w.heap.size none w w' := by
  obtain ⟨R, hR⟩ : ∃ R, R = decide (l = l2) := ⟨_, rfl⟩
  rw [← hR]
  have B1 := (Blk.new w 41 #[.int .i64 l.items, .slice L.fa l.facts.length L.fc, .slice L.ma l.motions.length L.mc, .slice L.sa l.sent.length L.sc]).alloc (.cells #[.int .i64 l2.items, .slice L2.fa l2.facts.length L2.fc, .slice L2.ma l2.motions.length L2.mc, .slice L2.sa l2.sent.length L2.sc] 41)
  have B2 := Blk.newAt (w.alloc (.cells #[.int .i64 l.items, .slice L.fa l.facts.length L.fc, .slice L.ma l.motions.length L.mc, .slice L.sa l.sent.length L.sc] 41)) 41 #[.int .i64 l2.items, .slice L2.fa l2.facts.length L2.fc, .slice L2.ma l2.motions.length L2.mc, .slice L2.sa l2.sent.length L2.sc] (n := w.heap.size + 1) (by simp)
  have K2 := Kp.new2 w (.cells #[.int .i64 l.items, .slice L.fa l.facts.length L.fc, .slice L.ma l.motions.length L.mc, .slice L.sa l.sent.length L.sc] 41) (.cells #[.int .i64 l2.items, .slice L2.fa l2.facts.length L2.fc, .slice L2.ma l2.motions.length L2.mc, .slice L2.sa l2.sent.length L2.sc] 41)
  have T1 := s.next K2
  have T2 := s2.next K2
  replace hR := Lib.hid hR
  clear s s2
  go_enter Tryz.func35, Tryz.ntmps35
  go_upto_region 1 with (fail)
  obtain ⟨b1, hb1⟩ : ∃ a, a = w.heap.size := ⟨_, rfl⟩
  rw [← hb1] at B1 B2
  rw [← hb1]
  generalize (w.alloc (.cells #[.int .i64 l.items, .slice L.fa l.facts.length L.fc, .slice L.ma l.motions.length L.mc, .slice L.sa l.sent.length L.sc] 41)).alloc (.cells #[.int .i64 l2.items, .slice L2.fa l2.facts.length L2.fc, .slice L2.ma l2.motions.length L2.mc, .slice L2.sa l2.sent.length L2.sc] 41) = w2 at B1 B2 K2 T1 T2 ⊢
  replace hb1 := Lib.hid hb1
  have c1 := fun i => B1.cell i
  have c2 := fun i => B2.cell i
  by_cases g0 : l.items = l2.items
  case neg =>
    have f0 : (l.items == l2.items) = false := by simpa using g0
    obtain rfl : R = false := by rw [hR.out]; exact decide_eq_false fun e => g0 (by rw [e])
    clear g0
    go_wp2
    go_ret
    exact ⟨rfl, K2⟩
  have f0 : (l.items == l2.items) = true := by simpa using g0
  replace g0 := Lib.hid g0
  go_wp2_with fail
  refine (equalKnown_any L.fa L2.fa L.fc L2.fc l.facts l2.facts _ T1.f.rdN T2.f.rdN T1.fs T2.fs).mono ?_
  rintro e w3 ⟨rfl, k3⟩
  replace T1 := T1.next k3
  replace T2 := T2.next k3
  replace B1 := B1.kpN k3
  replace B2 := B2.kpN k3
  have K3 := K2.thenN k3 (Nat.le_refl _)
  clear k3 c1 c2 K2
  have c1 := fun i => B1.cell i
  have c2 := fun i => B2.cell i
  by_cases g1 : l.facts = l2.facts
  case neg =>
    rw [decide_eq_false g1]
    obtain rfl : R = false := by rw [hR.out]; exact decide_eq_false fun e => g1 (by rw [e])
    clear g1
    go_wp2
    go_ret
    exact ⟨rfl, K3⟩
  rw [decide_eq_true g1]
  replace g1 := Lib.hid g1
  go_wp2_with fail
  refine (equalMotions_any L L2 l l2 _ T1 T2).mono ?_
  rintro e w4 ⟨rfl, k4⟩
  replace T1 := T1.next k4
  replace T2 := T2.next k4
  replace B1 := B1.kpN k4
  replace B2 := B2.kpN k4
  have K4 := K3.thenN k4 (Nat.le_refl _)
  clear k4 c1 c2 K3
  have c1 := fun i => B1.cell i
  have c2 := fun i => B2.cell i
  by_cases g2 : l.motions = l2.motions
  case neg =>
    rw [decide_eq_false g2]
    obtain rfl : R = false := by rw [hR.out]; exact decide_eq_false fun e => g2 (by rw [e])
    clear g2
    go_wp2
    go_ret
    exact ⟨rfl, K4⟩
  rw [decide_eq_true g2]
  replace g2 := Lib.hid g2
  go_wp2_with fail
  refine (equalAlarm_any L.sa L2.sa L.sc L2.sc l.sent l2.sent _ T1.s.rdN T2.s.rdN T1.ss T2.ss).mono ?_
  rintro e w5 ⟨rfl, k5⟩
  have K5 := K4.thenN k5 (Nat.le_refl _)
  have hlast : decide (l.sent = l2.sent) = R := by
    rw [hR.out]
    have p0 := g0.out
    have p1 := g1.out
    have p2 := g2.out
    obtain ⟨a, b, c, d⟩ := l
    obtain ⟨a2, b2, c2, d2⟩ := l2
    simp only at p0 p1 p2
    subst p0 p1 p2
    simp
  rw [hlast]
  clear hlast k5 c1 c2 B1 B2 T1 T2 hR K4
  go_wp2
  go_ret
  exact ⟨rfl, K5⟩
set_option maxRecDepth 20000 in
set_option maxHeartbeats 4000000 in
theorem council_Same_any (X Y : HV) (x y : House) (w : World) (s : SAt w.heap.size w X x) (s2 : SAt w.heap.size w Y y) :
    Calls Tryz.prog 9 #[.agg #[.int .i64 x.tick, .int .i64 x.real.items, .slice X.r.fa x.real.facts.length X.r.fc, .slice X.r.ma x.real.motions.length X.r.mc, .slice X.r.sa x.real.sent.length X.r.sc, .int .i64 x.drill.items, .slice X.d.fa x.drill.facts.length X.d.fc, .slice X.d.ma x.drill.motions.length X.d.mc, .slice X.d.sa x.drill.sent.length X.d.sc], .agg #[.int .i64 y.tick, .int .i64 y.real.items, .slice Y.r.fa y.real.facts.length Y.r.fc, .slice Y.r.ma y.real.motions.length Y.r.mc, .slice Y.r.sa y.real.sent.length Y.r.sc, .int .i64 y.drill.items, .slice Y.d.fa y.drill.facts.length Y.d.fc, .slice Y.d.ma y.drill.motions.length Y.d.mc, .slice Y.d.sa y.drill.sent.length Y.d.sc]] w fun e w' => e = .returned (.bool (decide (x = y))) ∧ Kp w.heap.size none w w' := by
  obtain ⟨R, hR⟩ : ∃ R, R = decide (x = y) := ⟨_, rfl⟩
  rw [← hR]
  have B1 := (Blk.new w 43 #[.int .i64 x.tick, .int .i64 x.real.items, .slice X.r.fa x.real.facts.length X.r.fc, .slice X.r.ma x.real.motions.length X.r.mc, .slice X.r.sa x.real.sent.length X.r.sc, .int .i64 x.drill.items, .slice X.d.fa x.drill.facts.length X.d.fc, .slice X.d.ma x.drill.motions.length X.d.mc, .slice X.d.sa x.drill.sent.length X.d.sc]).alloc (.cells #[.int .i64 y.tick, .int .i64 y.real.items, .slice Y.r.fa y.real.facts.length Y.r.fc, .slice Y.r.ma y.real.motions.length Y.r.mc, .slice Y.r.sa y.real.sent.length Y.r.sc, .int .i64 y.drill.items, .slice Y.d.fa y.drill.facts.length Y.d.fc, .slice Y.d.ma y.drill.motions.length Y.d.mc, .slice Y.d.sa y.drill.sent.length Y.d.sc] 43)
  have B2 := Blk.newAt (w.alloc (.cells #[.int .i64 x.tick, .int .i64 x.real.items, .slice X.r.fa x.real.facts.length X.r.fc, .slice X.r.ma x.real.motions.length X.r.mc, .slice X.r.sa x.real.sent.length X.r.sc, .int .i64 x.drill.items, .slice X.d.fa x.drill.facts.length X.d.fc, .slice X.d.ma x.drill.motions.length X.d.mc, .slice X.d.sa x.drill.sent.length X.d.sc] 43)) 43 #[.int .i64 y.tick, .int .i64 y.real.items, .slice Y.r.fa y.real.facts.length Y.r.fc, .slice Y.r.ma y.real.motions.length Y.r.mc, .slice Y.r.sa y.real.sent.length Y.r.sc, .int .i64 y.drill.items, .slice Y.d.fa y.drill.facts.length Y.d.fc, .slice Y.d.ma y.drill.motions.length Y.d.mc, .slice Y.d.sa y.drill.sent.length Y.d.sc] (n := w.heap.size + 1) (by simp)
  have K2 := Kp.new2 w (.cells #[.int .i64 x.tick, .int .i64 x.real.items, .slice X.r.fa x.real.facts.length X.r.fc, .slice X.r.ma x.real.motions.length X.r.mc, .slice X.r.sa x.real.sent.length X.r.sc, .int .i64 x.drill.items, .slice X.d.fa x.drill.facts.length X.d.fc, .slice X.d.ma x.drill.motions.length X.d.mc, .slice X.d.sa x.drill.sent.length X.d.sc] 43) (.cells #[.int .i64 y.tick, .int .i64 y.real.items, .slice Y.r.fa y.real.facts.length Y.r.fc, .slice Y.r.ma y.real.motions.length Y.r.mc, .slice Y.r.sa y.real.sent.length Y.r.sc, .int .i64 y.drill.items, .slice Y.d.fa y.drill.facts.length Y.d.fc, .slice Y.d.ma y.drill.motions.length Y.d.mc, .slice Y.d.sa y.drill.sent.length Y.d.sc] 43)
  have T1 := s.next K2
  have T2 := s2.next K2
  replace hR := Lib.hid hR
  clear s s2
  go_enter Tryz.func9, Tryz.ntmps9
  go_upto_region 1 with (fail)
  obtain ⟨b1, hb1⟩ : ∃ a, a = w.heap.size := ⟨_, rfl⟩
  rw [← hb1] at B1 B2
  rw [← hb1]
  generalize (w.alloc (.cells #[.int .i64 x.tick, .int .i64 x.real.items, .slice X.r.fa x.real.facts.length X.r.fc, .slice X.r.ma x.real.motions.length X.r.mc, .slice X.r.sa x.real.sent.length X.r.sc, .int .i64 x.drill.items, .slice X.d.fa x.drill.facts.length X.d.fc, .slice X.d.ma x.drill.motions.length X.d.mc, .slice X.d.sa x.drill.sent.length X.d.sc] 43)).alloc (.cells #[.int .i64 y.tick, .int .i64 y.real.items, .slice Y.r.fa y.real.facts.length Y.r.fc, .slice Y.r.ma y.real.motions.length Y.r.mc, .slice Y.r.sa y.real.sent.length Y.r.sc, .int .i64 y.drill.items, .slice Y.d.fa y.drill.facts.length Y.d.fc, .slice Y.d.ma y.drill.motions.length Y.d.mc, .slice Y.d.sa y.drill.sent.length Y.d.sc] 43) = w2 at B1 B2 K2 T1 T2 ⊢
  replace hb1 := Lib.hid hb1
  have c1 := fun i => B1.cell i
  have c2 := fun i => B2.cell i
  by_cases g0 : x.tick = y.tick
  case neg =>
    have f0 : (x.tick == y.tick) = false := by simpa using g0
    obtain rfl : R = false := by rw [hR.out]; exact decide_eq_false fun e => g0 (by rw [e])
    clear g0
    go_wp2
    go_ret
    exact ⟨rfl, K2⟩
  have f0 : (x.tick == y.tick) = true := by simpa using g0
  replace g0 := Lib.hid g0
  go_wp2_with fail
  refine (sameLedger_any X.r Y.r x.real y.real _ T1.r T2.r).mono ?_
  rintro e w3 ⟨rfl, k3⟩
  replace T1 := T1.next k3
  replace T2 := T2.next k3
  replace B1 := B1.kpN k3
  replace B2 := B2.kpN k3
  have K3 := K2.thenN k3 (Nat.le_refl _)
  clear k3 c1 c2 K2
  have c1 := fun i => B1.cell i
  have c2 := fun i => B2.cell i
  by_cases g1 : x.real = y.real
  case neg =>
    rw [decide_eq_false g1]
    obtain rfl : R = false := by rw [hR.out]; exact decide_eq_false fun e => g1 (by rw [e])
    clear g1
    go_wp2
    go_ret
    exact ⟨rfl, K3⟩
  rw [decide_eq_true g1]
  replace g1 := Lib.hid g1
  go_wp2_with fail
  refine (sameLedger_any X.d Y.d x.drill y.drill _ T1.d T2.d).mono ?_
  rintro e w4 ⟨rfl, k4⟩
  have K4 := K3.thenN k4 (Nat.le_refl _)
  have hlast : decide (x.drill = y.drill) = R := by
    rw [hR.out]
    have p0 := g0.out
    have p1 := g1.out
    obtain ⟨a, b, c⟩ := x
    obtain ⟨a2, b2, c2⟩ := y
    simp only at p0 p1
    subst p0 p1
    simp
  rw [hlast]
  clear hlast k4 c1 c2 B1 B2 T1 T2 hR K3
  go_wp2
  go_ret
  exact ⟨rfl, K4⟩
end Go.Proofs.YtogpgnljomchcaaGreat
