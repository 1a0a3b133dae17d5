/- slices.IndexFunc, ContainsFunc, Contains at the council's types, and the closures that are handed to them. -/
import Derived.Test.YtogpgnljomchcaaGreatNum
import Derived.LoopTactic
import Derived.Laws.EntriesVeiled
namespace Go.Proofs.YtogpgnljomchcaaGreat
open Go.RowKit

/-- the first place at which p holds, or -1 -/
def idxI {α : Type} (p : α → Bool) : List α → Int → Int
  | [], _ => -1
  | x :: r, k => if p x then k else idxI p r (k + 1)
theorem idx_spec {α : Type} (p : α → Bool) : ∀ (xs : List α) (k : Int), (idxI p xs k = -1 ∧ xs.find? p = none) ∨ ∃ (i : Nat) (hi : i < xs.length), idxI p xs k = k + i ∧ xs.find? p = some xs[i] ∧ p xs[i] = true ∧ ∀ j (hj : j < i), p (xs[j]'(by omega)) = false
  | [], k => .inl ⟨rfl, rfl⟩
  | x :: r, k => by
    unfold idxI
    by_cases hx : p x = true
    · rw [if_pos hx]
      exact .inr ⟨0, by simp, by simp, by simp [hx], by simpa using hx, fun j hj => absurd hj (by omega)⟩
    · rw [if_neg hx, List.find?_cons_of_neg hx]
      rcases idx_spec p r (k + 1) with ⟨h1, h2⟩ | ⟨i, hi, h1, h2, h3, h4⟩
      · exact .inl ⟨h1, h2⟩
      · refine .inr ⟨i + 1, by simpa using hi, by rw [h1]; push_cast; omega, by simpa using h2, by simpa using h3, fun j hj => ?_⟩
        cases j with
        | zero => simpa using hx
        | succ j => simpa using h4 j (by omega)
theorem idx_drop {α : Type} (p : α → Bool) (xs : List α) (i : Nat) (hi : i < xs.length) : idxI p (xs.drop i) i = if p xs[i] then (i : Int) else idxI p (xs.drop (i + 1)) ((i + 1 : Nat) : Int) := by
  rw [List.drop_eq_getElem_cons hi]
  rfl
theorem idx_any {α : Type} (p : α → Bool) (xs : List α) : decide (0 ≤ idxI p xs 0) = xs.any p := by
  rcases idx_spec p xs 0 with ⟨h1, h2⟩ | ⟨i, hi, h1, h2, h3, h4⟩
  · rw [h1]
    rw [List.find?_eq_none] at h2
    symm
    simpa using h2
  · rw [h1]
    have : xs.any p = true := List.any_eq_true.2 ⟨xs[i], List.getElem_mem hi, h3⟩
    rw [this]
    simp

/-- what is asked of a predicate that may lay blocks of its own -/
def PredK {α : Type} (g : Nat) (lb : Array Value) (enc : α → List Value) (p : α → Bool) (w : World) : Prop :=
  ∀ (W : World) (x : α), Kp w.heap.size none w W → Calls Tryz.prog g (#[.agg (enc x).toArray] ++ lb) W fun e w' => e = .returned (.bool (p x)) ∧ Kp W.heap.size none W w'
def IdxAt (V : Int) {α : Type} (p : α → Bool) (xs : List α) (w : World) (v : Value) (wr : World) : Prop := ∃ i : Nat, v = .int .i64 i ∧ i ≤ xs.length ∧ idxI p (xs.drop i) i = V ∧ Kp w.heap.size none w wr

set_option maxHeartbeats 400000 in
theorem indexLaw_any (g : Nat) (lb : Array Value) (p : LawC → Bool) (eg : ∀ args w, (callFunc g args).run Tryz.prog w = .ok (.enter g args) w) (A : Option Addr) (cap : Nat) (xs : List LawC) (w : World)
    (hp : PredK g lb encLaw p w) (hr : Rd none w 5 encLaw A xs.length xs) (hn : xs.length ≤ 17592186044416) :
    Calls Tryz.prog 103 #[.slice A xs.length cap, .func (.func g) #[] lb] w fun e w' => e = .returned (.int .i64 (idxI p xs 0)) ∧ Kp w.heap.size none w w' := by
  obtain ⟨V, hV⟩ : ∃ V, V = idxI p xs 0 := ⟨_, rfl⟩
  rw [← hV]
  go_enter Tryz.func103, Tryz.ntmps103
  go_wp2_with fail
  go_loopw [8] (fun v wr => IdxAt V p xs w v wr) (fun v _ => xs.length - (intOf v).toNat)
  case atStart => exact ⟨0, rfl, by omega, by rw [hV]; rfl, Kp.refl _ _ _⟩
  case round =>
    obtain ⟨i, rfl, hi, hj, KK⟩ := hrel
    by_cases h7 : i < xs.length
    · obtain ⟨b, o, rfl, hb, -, hc⟩ := (hr.kpN KK).at_ (by omega)
      have c0 : wr.cell? ⟨b, o + i * 5 + 0, none⟩ = some (.int .i64 xs[i].act) := by rw [Nat.add_assoc]; exact hc i h7 0 _ rfl
      have c1 : wr.cell? ⟨b, o + i * 5 + 1, none⟩ = some (.int .i64 xs[i].level) := by rw [Nat.add_assoc]; exact hc i h7 1 _ rfl
      have c2 : wr.cell? ⟨b, o + i * 5 + 2, none⟩ = some (.int .i64 xs[i].window) := by rw [Nat.add_assoc]; exact hc i h7 2 _ rfl
      have c3 : wr.cell? ⟨b, o + i * 5 + 3, none⟩ = some (.int .i64 xs[i].quorum) := by rw [Nat.add_assoc]; exact hc i h7 3 _ rfl
      have c4 : wr.cell? ⟨b, o + i * 5 + 4, none⟩ = some (.int .i64 xs[i].share) := by rw [Nat.add_assoc]; exact hc i h7 4 _ rfl

      have hcall := hp wr xs[i] KK
      have hi' : (i : Int) < (xs.length : Int) := by omega
      rw [idx_drop p xs i h7] at hj
      replace hr := Lib.hid hr
      replace hp := Lib.hid hp
      clear hc
      generalize xs[i] = x at c0 c1 c2 c3 c4 hcall hj
      simp only [Nat.add_zero] at c0
      rw [show (encLaw x).toArray = #[.int .i64 x.act, .int .i64 x.level, .int .i64 x.window, .int .i64 x.quorum, .int .i64 x.share] from rfl] at hcall
      cases hq : p x with
      | true =>
        rw [hq] at hcall hj
        rw [if_pos rfl] at hj
        replace hj := Lib.hid hj
        go_wp2_with (go_at_fn g; refine hcall.mono ?_; rintro e w2 ⟨rfl, k2⟩)
        go_ret
        exact ⟨ret_int hj.out, KK.thenN k2 (Nat.le_refl _)⟩
      | false =>
        rw [hq] at hcall hj
        rw [if_neg (by simp)] at hj
        replace hj := Lib.hid hj
        replace h7 := Lib.hid h7
        clear hi
        go_wp2_with (go_at_fn g; refine hcall.mono ?_; rintro e w2 ⟨rfl, k2⟩)
        go_roundw
        case rel => exact ⟨i + 1, rfl, h7.out, hj.out, KK.thenN k2 (Nat.le_refl _)⟩
        case measure => have := h7.out; simp [intOf]; omega
    · have he : i = xs.length := by omega
      have hi' : ¬ (i : Int) < (xs.length : Int) := by omega
      rw [he, List.drop_length] at hj
      replace hj := Lib.hid hj
      clear h7 hi
      subst he
      go_wp2
      go_ret
      exact ⟨ret_int (hj.out.trans hV), KK⟩

set_option maxHeartbeats 400000 in
theorem indexKnown_any (g : Nat) (lb : Array Value) (p : Known → Bool) (eg : ∀ args w, (callFunc g args).run Tryz.prog w = .ok (.enter g args) w) (A : Option Addr) (cap : Nat) (xs : List Known) (w : World)
    (hp : PredK g lb encKnown p w) (hr : Rd none w 6 encKnown A xs.length xs) (hn : xs.length ≤ 17592186044416) :
    Calls Tryz.prog 52 #[.slice A xs.length cap, .func (.func g) #[] lb] w fun e w' => e = .returned (.int .i64 (idxI p xs 0)) ∧ Kp w.heap.size none w w' := by
  obtain ⟨V, hV⟩ : ∃ V, V = idxI p xs 0 := ⟨_, rfl⟩
  rw [← hV]
  go_enter Tryz.func52, Tryz.ntmps52
  go_wp2_with fail
  go_loopw [8] (fun v wr => IdxAt V p xs w v wr) (fun v _ => xs.length - (intOf v).toNat)
  case atStart => exact ⟨0, rfl, by omega, by rw [hV]; rfl, Kp.refl _ _ _⟩
  case round =>
    obtain ⟨i, rfl, hi, hj, KK⟩ := hrel
    by_cases h7 : i < xs.length
    · obtain ⟨b, o, rfl, hb, -, hc⟩ := (hr.kpN KK).at_ (by omega)
      have c0 : wr.cell? ⟨b, o + i * 6 + 0, none⟩ = some (.int .i64 xs[i].target) := by rw [Nat.add_assoc]; exact hc i h7 0 _ rfl
      have c1 : wr.cell? ⟨b, o + i * 6 + 1, none⟩ = some (.int .i64 xs[i].level) := by rw [Nat.add_assoc]; exact hc i h7 1 _ rfl
      have c2 : wr.cell? ⟨b, o + i * 6 + 2, none⟩ = some (.int .i64 xs[i].item) := by rw [Nat.add_assoc]; exact hc i h7 2 _ rfl
      have c3 : wr.cell? ⟨b, o + i * 6 + 3, none⟩ = some (.int .i64 xs[i].chance.least) := by rw [Nat.add_assoc]; exact hc i h7 3 _ rfl
      have c4 : wr.cell? ⟨b, o + i * 6 + 4, none⟩ = some (.int .i64 xs[i].chance.most) := by rw [Nat.add_assoc]; exact hc i h7 4 _ rfl
      have c5 : wr.cell? ⟨b, o + i * 6 + 5, none⟩ = some (.int .i64 xs[i].chance.all) := by rw [Nat.add_assoc]; exact hc i h7 5 _ rfl

      have hcall := hp wr xs[i] KK
      have hi' : (i : Int) < (xs.length : Int) := by omega
      rw [idx_drop p xs i h7] at hj
      replace hr := Lib.hid hr
      replace hp := Lib.hid hp
      clear hc
      generalize xs[i] = x at c0 c1 c2 c3 c4 c5 hcall hj
      simp only [Nat.add_zero] at c0
      rw [show (encKnown x).toArray = #[.int .i64 x.target, .int .i64 x.level, .int .i64 x.item, .int .i64 x.chance.least, .int .i64 x.chance.most, .int .i64 x.chance.all] from rfl] at hcall
      cases hq : p x with
      | true =>
        rw [hq] at hcall hj
        rw [if_pos rfl] at hj
        replace hj := Lib.hid hj
        go_wp2_with (go_at_fn g; refine hcall.mono ?_; rintro e w2 ⟨rfl, k2⟩)
        go_ret
        exact ⟨ret_int hj.out, KK.thenN k2 (Nat.le_refl _)⟩
      | false =>
        rw [hq] at hcall hj
        rw [if_neg (by simp)] at hj
        replace hj := Lib.hid hj
        replace h7 := Lib.hid h7
        clear hi
        go_wp2_with (go_at_fn g; refine hcall.mono ?_; rintro e w2 ⟨rfl, k2⟩)
        go_roundw
        case rel => exact ⟨i + 1, rfl, h7.out, hj.out, KK.thenN k2 (Nat.le_refl _)⟩
        case measure => have := h7.out; simp [intOf]; omega
    · have he : i = xs.length := by omega
      have hi' : ¬ (i : Int) < (xs.length : Int) := by omega
      rw [he, List.drop_length] at hj
      replace hj := Lib.hid hj
      clear h7 hi
      subst he
      go_wp2
      go_ret
      exact ⟨ret_int (hj.out.trans hV), KK⟩

set_option maxHeartbeats 400000 in
theorem indexMember_any (g : Nat) (lb : Array Value) (p : Member → Bool) (eg : ∀ args w, (callFunc g args).run Tryz.prog w = .ok (.enter g args) w) (A : Option Addr) (cap : Nat) (xs : List Member) (w : World)
    (hp : PredK g lb encMember p w) (hr : Rd none w 2 encMember A xs.length xs) (hn : xs.length ≤ 17592186044416) :
    Calls Tryz.prog 86 #[.slice A xs.length cap, .func (.func g) #[] lb] w fun e w' => e = .returned (.int .i64 (idxI p xs 0)) ∧ Kp w.heap.size none w w' := by
  obtain ⟨V, hV⟩ : ∃ V, V = idxI p xs 0 := ⟨_, rfl⟩
  rw [← hV]
  go_enter Tryz.func86, Tryz.ntmps86
  go_wp2_with fail
  go_loopw [8] (fun v wr => IdxAt V p xs w v wr) (fun v _ => xs.length - (intOf v).toNat)
  case atStart => exact ⟨0, rfl, by omega, by rw [hV]; rfl, Kp.refl _ _ _⟩
  case round =>
    obtain ⟨i, rfl, hi, hj, KK⟩ := hrel
    by_cases h7 : i < xs.length
    · obtain ⟨b, o, rfl, hb, -, hc⟩ := (hr.kpN KK).at_ (by omega)
      have c0 : wr.cell? ⟨b, o + i * 2 + 0, none⟩ = some (.int .i64 xs[i].id) := by rw [Nat.add_assoc]; exact hc i h7 0 _ rfl
      have c1 : wr.cell? ⟨b, o + i * 2 + 1, none⟩ = some (.int .i64 xs[i].weight) := by rw [Nat.add_assoc]; exact hc i h7 1 _ rfl

      have hcall := hp wr xs[i] KK
      have hi' : (i : Int) < (xs.length : Int) := by omega
      rw [idx_drop p xs i h7] at hj
      replace hr := Lib.hid hr
      replace hp := Lib.hid hp
      clear hc
      generalize xs[i] = x at c0 c1 hcall hj
      simp only [Nat.add_zero] at c0
      rw [show (encMember x).toArray = #[.int .i64 x.id, .int .i64 x.weight] from rfl] at hcall
      cases hq : p x with
      | true =>
        rw [hq] at hcall hj
        rw [if_pos rfl] at hj
        replace hj := Lib.hid hj
        go_wp2_with (go_at_fn g; refine hcall.mono ?_; rintro e w2 ⟨rfl, k2⟩)
        go_ret
        exact ⟨ret_int hj.out, KK.thenN k2 (Nat.le_refl _)⟩
      | false =>
        rw [hq] at hcall hj
        rw [if_neg (by simp)] at hj
        replace hj := Lib.hid hj
        replace h7 := Lib.hid h7
        clear hi
        go_wp2_with (go_at_fn g; refine hcall.mono ?_; rintro e w2 ⟨rfl, k2⟩)
        go_roundw
        case rel => exact ⟨i + 1, rfl, h7.out, hj.out, KK.thenN k2 (Nat.le_refl _)⟩
        case measure => have := h7.out; simp [intOf]; omega
    · have he : i = xs.length := by omega
      have hi' : ¬ (i : Int) < (xs.length : Int) := by omega
      rw [he, List.drop_length] at hj
      replace hj := Lib.hid hj
      clear h7 hi
      subst he
      go_wp2
      go_ret
      exact ⟨ret_int (hj.out.trans hV), KK⟩

set_option maxHeartbeats 400000 in
theorem indexMotion_any (g : Nat) (lb : Array Value) (p : (Value × Motion) → Bool) (eg : ∀ args w, (callFunc g args).run Tryz.prog w = .ok (.enter g args) w) (A : Option Addr) (cap : Nat) (xs : List (Value × Motion)) (w : World)
    (hp : PredK g lb encVM p w) (hr : Rd none w 8 encVM A xs.length xs) (hn : xs.length ≤ 17592186044416) :
    Calls Tryz.prog 105 #[.slice A xs.length cap, .func (.func g) #[] lb] w fun e w' => e = .returned (.int .i64 (idxI p xs 0)) ∧ Kp w.heap.size none w w' := by
  obtain ⟨V, hV⟩ : ∃ V, V = idxI p xs 0 := ⟨_, rfl⟩
  rw [← hV]
  go_enter Tryz.func105, Tryz.ntmps105
  go_wp2_with fail
  go_loopw [8] (fun v wr => IdxAt V p xs w v wr) (fun v _ => xs.length - (intOf v).toNat)
  case atStart => exact ⟨0, rfl, by omega, by rw [hV]; rfl, Kp.refl _ _ _⟩
  case round =>
    obtain ⟨i, rfl, hi, hj, KK⟩ := hrel
    by_cases h7 : i < xs.length
    · obtain ⟨b, o, rfl, hb, -, hc⟩ := (hr.kpN KK).at_ (by omega)
      have c0 : wr.cell? ⟨b, o + i * 8 + 0, none⟩ = some (.int .i64 xs[i].2.target) := by rw [Nat.add_assoc]; exact hc i h7 0 _ rfl
      have c1 : wr.cell? ⟨b, o + i * 8 + 1, none⟩ = some (.int .i64 xs[i].2.act) := by rw [Nat.add_assoc]; exact hc i h7 1 _ rfl
      have c2 : wr.cell? ⟨b, o + i * 8 + 2, none⟩ = some (.int .i64 xs[i].2.opened) := by rw [Nat.add_assoc]; exact hc i h7 2 _ rfl
      have c3 : wr.cell? ⟨b, o + i * 8 + 3, none⟩ = some (.int .i64 xs[i].2.state) := by rw [Nat.add_assoc]; exact hc i h7 3 _ rfl
      have c4 : wr.cell? ⟨b, o + i * 8 + 4, none⟩ = some (.int .i64 xs[i].2.yes) := by rw [Nat.add_assoc]; exact hc i h7 4 _ rfl
      have c5 : wr.cell? ⟨b, o + i * 8 + 5, none⟩ = some (.int .i64 xs[i].2.no) := by rw [Nat.add_assoc]; exact hc i h7 5 _ rfl
      have c6 : wr.cell? ⟨b, o + i * 8 + 6, none⟩ = some xs[i].1 := by rw [Nat.add_assoc]; exact hc i h7 6 _ rfl
      have c7 : wr.cell? ⟨b, o + i * 8 + 7, none⟩ = some (.int .i64 xs[i].2.fact) := by rw [Nat.add_assoc]; exact hc i h7 7 _ rfl
      have hcall := hp wr xs[i] KK
      have hi' : (i : Int) < (xs.length : Int) := by omega
      rw [idx_drop p xs i h7] at hj
      replace hr := Lib.hid hr
      replace hp := Lib.hid hp
      clear hc
      generalize xs[i] = x at c0 c1 c2 c3 c4 c5 c6 c7 hcall hj
      simp only [Nat.add_zero] at c0
      rw [show (encVM x).toArray = #[.int .i64 x.2.target, .int .i64 x.2.act, .int .i64 x.2.opened, .int .i64 x.2.state, .int .i64 x.2.yes, .int .i64 x.2.no, x.1, .int .i64 x.2.fact] from rfl] at hcall
      cases hq : p x with
      | true =>
        rw [hq] at hcall hj
        rw [if_pos rfl] at hj
        replace hj := Lib.hid hj
        go_wp2_with (go_at_fn g; refine hcall.mono ?_; rintro e w2 ⟨rfl, k2⟩)
        go_ret
        exact ⟨ret_int hj.out, KK.thenN k2 (Nat.le_refl _)⟩
      | false =>
        rw [hq] at hcall hj
        rw [if_neg (by simp)] at hj
        replace hj := Lib.hid hj
        replace h7 := Lib.hid h7
        clear hi
        go_wp2_with (go_at_fn g; refine hcall.mono ?_; rintro e w2 ⟨rfl, k2⟩)
        go_roundw
        case rel => exact ⟨i + 1, rfl, h7.out, hj.out, KK.thenN k2 (Nat.le_refl _)⟩
        case measure => have := h7.out; simp [intOf]; omega
    · have he : i = xs.length := by omega
      have hi' : ¬ (i : Int) < (xs.length : Int) := by omega
      rw [he, List.drop_length] at hj
      replace hj := Lib.hid hj
      clear h7 hi
      subst he
      go_wp2
      go_ret
      exact ⟨ret_int (hj.out.trans hV), KK⟩

/-! ### The closures -/
theorem Kp.cellN {w w' : World} (h : Kp w.heap.size none w w') {b o : Nat} {v : Value} (hc : w.cell? ⟨b, o, none⟩ = some v) : w'.cell? ⟨b, o, none⟩ = some v :=
  (h.cell b o (World.block_lt_of_cell? w ⟨b, o, none⟩ hc) (by simp)).trans hc
theorem law1_pred (B : Nat) (n : Int) (w : World) (hc : w.cell? ⟨B, 0, none⟩ = some (.int .i64 n)) :
    PredK 104 #[.pointer (some ⟨B, 0, none⟩)] encLaw (fun x => x.act == n) w := fun W x hk => by
  have hc' := hk.cellN hc
  have hB : B < W.heap.size := World.block_lt_of_cell? W ⟨B, 0, none⟩ hc'
  have hne : B ≠ W.heap.size := by omega
  show Calls Tryz.prog 104 #[.agg #[.int .i64 x.act, .int .i64 x.level, .int .i64 x.window, .int .i64 x.quorum, .int .i64 x.share], .pointer (some ⟨B, 0, none⟩)] W _
  go_enter Tryz.func104, Tryz.ntmps104
  go_wp2
  all_goals (go_ret; exact ⟨ret_bool (by simp_all), Kp.new _ _⟩)
theorem known1_pred (B : Nat) (n : Int) (w : World) (hc : w.cell? ⟨B, 0, none⟩ = some (.int .i64 n)) :
    PredK 100 #[.pointer (some ⟨B, 0, none⟩)] encKnown (fun x => x.target == n) w := fun W x hk => by
  have hc' := hk.cellN hc
  have hB : B < W.heap.size := World.block_lt_of_cell? W ⟨B, 0, none⟩ hc'
  have hne : B ≠ W.heap.size := by omega
  show Calls Tryz.prog 100 #[.agg #[.int .i64 x.target, .int .i64 x.level, .int .i64 x.item, .int .i64 x.chance.least, .int .i64 x.chance.most, .int .i64 x.chance.all], .pointer (some ⟨B, 0, none⟩)] W _
  go_enter Tryz.func100, Tryz.ntmps100
  go_wp2
  all_goals (go_ret; exact ⟨ret_bool (by simp_all), Kp.new _ _⟩)
theorem of1_pred (B : Nat) (n : Int) (w : World) (hc : w.cell? ⟨B, 0, none⟩ = some (.int .i64 n)) :
    PredK 53 #[.pointer (some ⟨B, 0, none⟩)] encKnown (fun x => x.target == n) w := fun W x hk => by
  have hc' := hk.cellN hc
  have hB : B < W.heap.size := World.block_lt_of_cell? W ⟨B, 0, none⟩ hc'
  have hne : B ≠ W.heap.size := by omega
  show Calls Tryz.prog 53 #[.agg #[.int .i64 x.target, .int .i64 x.level, .int .i64 x.item, .int .i64 x.chance.least, .int .i64 x.chance.most, .int .i64 x.chance.all], .pointer (some ⟨B, 0, none⟩)] W _
  go_enter Tryz.func53, Tryz.ntmps53
  go_wp2
  all_goals (go_ret; exact ⟨ret_bool (by simp_all), Kp.new _ _⟩)
set_option maxHeartbeats 400000 in
theorem fact1_pred (B : Nat) (n : CItem) (w : World) (hb : Blk w B 36 #[.int .i64 n.kind, .int .i64 n.tick, .bool n.drill, .int .i64 n.a, .int .i64 n.b, .bool n.yes, .int .i64 n.chance.least, .int .i64 n.chance.most, .int .i64 n.chance.all]) :
    PredK 79 #[.pointer (some ⟨B, 0, none⟩)] encKnown (fun x => decide (n.a < x.target)) w := fun W x hk => by
  have hb' := hb.kpN hk
  have cc := fun i => hb'.cell i
  have hB : B < W.heap.size := hb'.lt
  have hne : B ≠ W.heap.size := by omega
  show Calls Tryz.prog 79 #[.agg #[.int .i64 x.target, .int .i64 x.level, .int .i64 x.item, .int .i64 x.chance.least, .int .i64 x.chance.most, .int .i64 x.chance.all], .pointer (some ⟨B, 0, none⟩)] W _
  go_enter Tryz.func79, Tryz.ntmps79
  go_wp2
  all_goals (go_ret; exact ⟨ret_bool (by simp_all [openSame]), Kp.new _ _⟩)
set_option maxHeartbeats 400000 in
theorem vote1_pred (B : Nat) (n : CItem) (w : World) (hb : Blk w B 36 #[.int .i64 n.kind, .int .i64 n.tick, .bool n.drill, .int .i64 n.a, .int .i64 n.b, .bool n.yes, .int .i64 n.chance.least, .int .i64 n.chance.most, .int .i64 n.chance.all]) :
    PredK 87 #[.pointer (some ⟨B, 0, none⟩)] encMember (fun x => x.id == n.b) w := fun W x hk => by
  have hb' := hb.kpN hk
  have cc := fun i => hb'.cell i
  have hB : B < W.heap.size := hb'.lt
  have hne : B ≠ W.heap.size := by omega
  show Calls Tryz.prog 87 #[.agg #[.int .i64 x.id, .int .i64 x.weight], .pointer (some ⟨B, 0, none⟩)] W _
  go_enter Tryz.func87, Tryz.ntmps87
  go_wp2
  all_goals (go_ret; exact ⟨ret_bool (by simp_all [openSame]), Kp.new _ _⟩)
set_option maxHeartbeats 400000 in
theorem motion1_pred (B : Nat) (n : CItem) (w : World) (hb : Blk w B 36 #[.int .i64 n.kind, .int .i64 n.tick, .bool n.drill, .int .i64 n.a, .int .i64 n.b, .bool n.yes, .int .i64 n.chance.least, .int .i64 n.chance.most, .int .i64 n.chance.all]) :
    PredK 83 #[.pointer (some ⟨B, 0, none⟩)] encVM (fun x => openSame n.a n.b x.2) w := fun W x hk => by
  have hb' := hb.kpN hk
  have cc := fun i => hb'.cell i
  have hB : B < W.heap.size := hb'.lt
  have hne : B ≠ W.heap.size := by omega
  show Calls Tryz.prog 83 #[.agg #[.int .i64 x.2.target, .int .i64 x.2.act, .int .i64 x.2.opened, .int .i64 x.2.state, .int .i64 x.2.yes, .int .i64 x.2.no, x.1, .int .i64 x.2.fact], .pointer (some ⟨B, 0, none⟩)] W _
  go_enter Tryz.func83, Tryz.ntmps83
  go_wp2
  all_goals (go_ret; exact ⟨ret_bool (by simp_all [openSame]), Kp.new _ _⟩)
end Go.Proofs.YtogpgnljomchcaaGreat
