/- Plain laws: the harm of a blow at a cell; the toll of a stretch and its worst cell. -/
import Derived.Test.YtdiigflbohbndaaDoorPlain1
import Derived.Test.YtdiigflbohbndaaDoorPlain3
namespace Go.Proofs.YtdiigflbohbndaaDoor
open Go.RowKit

/-- The harm of a blow of an energy in a layer of n, at a cell. -/
def harmsOf (n : Nat) (gs : List Grade) (ps : List Int) (bs : List Bool) (layer en : Int) (a : Nat) : Int :=
  if layer < n then harmOf ps a (min (max 0 (reachOf en gs 0 - (n - layer))) 400).toNat
  else if bs[a]? = some true then waveOf ps bs a (min (reachOf en gs 0) 400).toNat
  else harmOf ps a (min (reachOf en gs 0) 400).toNat
theorem harmsOf_mono {n : Nat} {gs : List Grade} {ps : List Int} {bs : List Bool} (hg : GradesOk gs) (hl : LandOk ps bs.length) {layer en en' : Int} {a : Nat} (ha : a < ps.length) (h : en ≤ en') : harmsOf n gs ps bs layer en a ≤ harmsOf n gs ps bs layer en' a := by
  have hr := reach_mono h gs 0 (fun x hx => (hg.rng x hx).2.2.1) hg.inc
  have hp : NonNeg ps := hl.p
  unfold harmsOf
  split
  · exact harm_mono hp ha (by omega)
  · split
    · exact wave_mono hp hl.m ha (by omega)
    · exact harm_mono hp ha (by omega)
theorem harm_nonneg {ps : List Int} (h : NonNeg ps) {a : Nat} (ha : a < ps.length) (F : Nat) : 0 ≤ harmOf ps a F := by
  have h1 := harm_own h ha F
  have h2 := h ps[a] (List.getElem_mem ha)
  omega
theorem harmsOf_nonneg {n : Nat} {gs : List Grade} {ps : List Int} {bs : List Bool} (hl : LandOk ps bs.length) {layer en : Int} {a : Nat} (ha : a < ps.length) : 0 ≤ harmsOf n gs ps bs layer en a := by
  have hp : NonNeg ps := hl.p
  unfold harmsOf
  split
  · exact harm_nonneg hp ha _
  · split
    · exact wave_nonneg hp hl.m ha _
    · exact harm_nonneg hp ha _
theorem harmOf_le {ps : List Int} (h : NonNeg ps) (hl : ps.length ≤ 400) {a : Nat} (ha : a < ps.length) (F : Nat) : harmOf ps a F ≤ 1717986918400 := by
  have h1 := harm_sum h ha F
  have h2 := (sum_bd ps h).2
  omega
theorem harmsOf_le {n : Nat} {gs : List Grade} {ps : List Int} {bs : List Bool} (hl : LandOk ps bs.length) {layer en : Int} {a : Nat} (ha : a < ps.length) : harmsOf n gs ps bs layer en a ≤ 1717986918400 := by
  have hp : NonNeg ps := hl.p
  unfold harmsOf
  split
  · exact harmOf_le hp hl.l4 ha _
  · split
    · exact Int.le_trans (wave_harm hp hl.m ha _) (harmOf_le hp hl.l4 ha _)
    · exact harmOf_le hp hl.l4 ha _
structure TS where
  lo : Int
  hi : Int
  wo : Nat
def tStep (a : Nat) (l u : Int) (s : TS) : TS := ⟨if s.lo < 0 ∨ l < s.lo then l else s.lo, if s.hi < u then u else s.hi, if s.hi < u then a else s.wo⟩
def tCell (H : Int → Int → Nat → Int) (a : Nat) : List Blow → TS → TS
  | [], s => s
  | b :: bl, s => tCell H a bl (tStep a (H b.layer b.lo a) (H b.layer b.hi a) s)
def tRun (H : Int → Int → Nat → Int) (bl : List Blow) : Nat → Nat → TS → TS
  | 0, _, s => s
  | n + 1, a, s => tRun H bl n (a + 1) (tCell H a bl s)
/-- The toll of the cells from one to another one, and the first worst cell. -/
def tollOf (H : Int → Int → Nat → Int) (bl : List Blow) (a b : Nat) : TS := tRun H bl (b + 1 - a) a ⟨-1, -1, a⟩
theorem tRun_succ (H : Int → Int → Nat → Int) (bl : List Blow) (a b : Nat) (h : a ≤ b) (s : TS) : tRun H bl (b + 1 - a) a s = tRun H bl (b + 1 - (a + 1)) (a + 1) (tCell H a bl s) := by
  rw [show b + 1 - a = (b + 1 - (a + 1)) + 1 by omega]
  rfl
theorem tCell_cons (H : Int → Int → Nat → Int) (a : Nat) (b : Blow) (bl : List Blow) (s : TS) : tCell H a (b :: bl) s = tCell H a bl (tStep a (H b.layer b.lo a) (H b.layer b.hi a) s) := rfl
/-- What has been seen is in the toll, and nothing else. -/
structure Good (H : Int → Int → Nat → Int) (done : Nat → Blow → Prop) (s : TS) : Prop where
  all : ∀ a b, done a b → s.lo ≤ H b.layer b.lo a ∧ H b.layer b.hi a ≤ s.hi
  lo : ∃ a b, done a b ∧ s.lo = H b.layer b.lo a
  hi : ∃ b, done s.wo b ∧ s.hi = H b.layer b.hi s.wo
  first : ∀ a b, done a b → a < s.wo → H b.layer b.hi a < s.hi
theorem Good.same {H : Int → Int → Nat → Int} {done done' : Nat → Blow → Prop} {s : TS} (h : Good H done s) (e : ∀ a b, done a b ↔ done' a b) : Good H done' s := by
  obtain ⟨h1, ⟨x, y, h2, h2'⟩, ⟨z, h3, h3'⟩, h4⟩ := h
  exact ⟨fun a b d => h1 a b ((e a b).2 d), ⟨x, y, (e _ _).1 h2, h2'⟩, ⟨z, (e _ _).1 h3, h3'⟩, fun a b d => h4 a b ((e a b).2 d)⟩
theorem Good.step {H : Int → Int → Nat → Int} {done : Nat → Blow → Prop} {s : TS} (h : Good H done s) (hs : 0 ≤ s.lo) (a : Nat) (b : Blow) (ha : ∀ a' b', done a' b' → a' ≤ a) :
    Good H (fun a' b' => done a' b' ∨ (a' = a ∧ b' = b)) (tStep a (H b.layer b.lo a) (H b.layer b.hi a) s) := by
  obtain ⟨h1, ⟨x, y, h2, h2'⟩, ⟨z, h3, h3'⟩, h4⟩ := h
  have hwo := ha _ _ h3
  refine ⟨?_, ?_, ?_, ?_⟩
  · rintro a' b' (d | ⟨rfl, rfl⟩)
    · have := h1 a' b' d
      simp only [tStep]
      constructor <;> split <;> omega
    · simp only [tStep]
      constructor <;> split <;> omega
  · simp only [tStep]
    by_cases hc : s.lo < 0 ∨ H b.layer b.lo a < s.lo
    · rw [if_pos hc]; exact ⟨a, b, .inr ⟨rfl, rfl⟩, rfl⟩
    · rw [if_neg hc]; exact ⟨x, y, .inl h2, h2'⟩
  · simp only [tStep]
    by_cases hc : s.hi < H b.layer b.hi a
    · exact ⟨b, .inr ⟨if_pos hc, rfl⟩, by rw [if_pos hc, if_pos hc]⟩
    · exact ⟨z, .inl (by rw [if_neg hc]; exact h3), by rw [if_neg hc, if_neg hc]; exact h3'⟩
  · intro a' b' d hlt
    by_cases hc : s.hi < H b.layer b.hi a
    · simp only [tStep, if_pos hc] at hlt ⊢
      rcases d with d | ⟨rfl, rfl⟩
      · have := (h1 a' b' d).2; omega
      · omega
    · simp only [tStep, if_neg hc] at hlt ⊢
      rcases d with d | ⟨rfl, rfl⟩
      · exact h4 a' b' d hlt
      · omega
/-- Good, or nothing seen yet. -/
def GoodO (H : Int → Int → Nat → Int) (a0 : Nat) (done : Nat → Blow → Prop) (s : TS) : Prop := (Good H done s ∧ 0 ≤ s.lo) ∨ (s = ⟨-1, -1, a0⟩ ∧ ∀ a b, ¬ done a b)
theorem GoodO.same {H : Int → Int → Nat → Int} {a0 : Nat} {done done' : Nat → Blow → Prop} {s : TS} (h : GoodO H a0 done s) (e : ∀ a b, done a b ↔ done' a b) : GoodO H a0 done' s := by
  rcases h with ⟨h, h0⟩ | ⟨h, h0⟩
  · exact .inl ⟨h.same e, h0⟩
  · exact .inr ⟨h, fun a b d => h0 a b ((e a b).2 d)⟩
theorem GoodO.step {H : Int → Int → Nat → Int} {a0 : Nat} {done : Nat → Blow → Prop} {s : TS} (h : GoodO H a0 done s) (a : Nat) (b : Blow) (ha : ∀ a' b', done a' b' → a' ≤ a) (h0 : 0 ≤ H b.layer b.lo a) (h1 : 0 ≤ H b.layer b.hi a) :
    GoodO H a0 (fun a' b' => done a' b' ∨ (a' = a ∧ b' = b)) (tStep a (H b.layer b.lo a) (H b.layer b.hi a) s) := by
  left
  rcases h with ⟨h, hs⟩ | ⟨rfl, hn⟩
  · refine ⟨h.step hs a b ha, ?_⟩
    simp only [tStep]
    split <;> omega
  · have e : tStep a (H b.layer b.lo a) (H b.layer b.hi a) ⟨-1, -1, a0⟩ = ⟨H b.layer b.lo a, H b.layer b.hi a, a⟩ := by
      simp only [tStep]
      rw [if_pos (by omega), if_pos (by omega), if_pos (by omega)]
    rw [e]
    refine ⟨⟨?_, ⟨a, b, .inr ⟨rfl, rfl⟩, rfl⟩, ⟨b, .inr ⟨rfl, rfl⟩, rfl⟩, ?_⟩, h0⟩
    · rintro a' b' (d | ⟨rfl, rfl⟩)
      · exact absurd d (hn _ _)
      · exact ⟨Int.le_refl _, Int.le_refl _⟩
    · rintro a' b' (d | ⟨rfl, rfl⟩) hlt
      · exact absurd d (hn _ _)
      · exact absurd hlt (Nat.lt_irrefl _)
theorem GoodO.cell {H : Int → Int → Nat → Int} {a0 a : Nat} : ∀ (bl : List Blow) {done : Nat → Blow → Prop} {s : TS}, GoodO H a0 done s → (∀ a' b', done a' b' → a' ≤ a) → (∀ b ∈ bl, 0 ≤ H b.layer b.lo a ∧ 0 ≤ H b.layer b.hi a) →
    GoodO H a0 (fun a' b' => done a' b' ∨ (a' = a ∧ b' ∈ bl)) (tCell H a bl s)
  | [], done, s, h, _, _ => h.same fun a b => by simp
  | b :: bl, done, s, h, ha, h0 => by
    rw [tCell_cons]
    have h1 := h.step a b ha (h0 b List.mem_cons_self).1 (h0 b List.mem_cons_self).2
    refine (GoodO.cell bl h1 ?_ fun c hc => h0 c (List.mem_cons_of_mem _ hc)).same fun a' b' => ?_
    · rintro a' b' (d | ⟨rfl, rfl⟩)
      · exact ha _ _ d
      · exact Nat.le_refl _
    · rw [List.mem_cons]
      constructor
      · rintro ((h | ⟨h1, h2⟩) | ⟨h1, h2⟩)
        · exact .inl h
        · exact .inr ⟨h1, .inl h2⟩
        · exact .inr ⟨h1, .inr h2⟩
      · rintro (h | ⟨h1, h2 | h2⟩)
        · exact .inl (.inl h)
        · exact .inl (.inr ⟨h1, h2⟩)
        · exact .inr ⟨h1, h2⟩
theorem GoodO.run {H : Int → Int → Nat → Int} {a0 : Nat} (bl : List Blow) : ∀ (n a : Nat) {done : Nat → Blow → Prop} {s : TS}, GoodO H a0 done s → (∀ a' b', done a' b' → a' ≤ a) → (∀ a', a ≤ a' → a' < a + n → ∀ b ∈ bl, 0 ≤ H b.layer b.lo a' ∧ 0 ≤ H b.layer b.hi a') →
    GoodO H a0 (fun a' b' => done a' b' ∨ ((a ≤ a' ∧ a' < a + n) ∧ b' ∈ bl)) (tRun H bl n a s)
  | 0, a, done, s, h, _, _ => h.same fun a' b => ⟨.inl, fun h => h.elim id fun h => absurd h.1 (by omega)⟩
  | n + 1, a, done, s, h, ha, h0 => by
    have h1 := h.cell bl ha (h0 a (Nat.le_refl _) (by omega))
    refine (GoodO.run bl n (a + 1) h1 ?_ fun a' h2 h3 => h0 a' (by omega) (by omega)).same fun a' b' => ?_
    · rintro a' b' (d | ⟨rfl, _⟩)
      · have := ha _ _ d; omega
      · omega
    · constructor
      · rintro ((h | ⟨rfl, h2⟩) | ⟨h1, h2⟩)
        · exact .inl h
        · exact .inr ⟨by omega, h2⟩
        · exact .inr ⟨by omega, h2⟩
      · rintro (h | ⟨h1, h2⟩)
        · exact .inl (.inl h)
        · rcases Nat.lt_or_ge a a' with h3 | h3
          · exact .inr ⟨by omega, h2⟩
          · exact .inl (.inr ⟨by omega, h2⟩)
/-- What a toll is. -/
theorem tollOf_good {H : Int → Int → Nat → Int} {bl : List Blow} {a b : Nat} (hab : a ≤ b) (hbl : 0 < bl.length) (h0 : ∀ a', a ≤ a' → a' ≤ b → ∀ x ∈ bl, 0 ≤ H x.layer x.lo a' ∧ 0 ≤ H x.layer x.hi a') :
    Good H (fun a' x => (a ≤ a' ∧ a' ≤ b) ∧ x ∈ bl) (tollOf H bl a b) ∧ 0 ≤ (tollOf H bl a b).lo := by
  have h := (GoodO.run (H := H) (a0 := a) bl (b + 1 - a) a (done := fun _ _ => False) (s := ⟨-1, -1, a⟩) (.inr ⟨rfl, fun _ _ h => h⟩) (fun _ _ h => h.elim) fun a' h1 h2 => h0 a' h1 (by omega)).same (done' := fun a' x => (a ≤ a' ∧ a' ≤ b) ∧ x ∈ bl) fun a' x => by
    constructor
    · rintro (h | ⟨h1, h2⟩)
      · exact h.elim
      · exact ⟨by omega, h2⟩
    · rintro ⟨h1, h2⟩
      exact .inr ⟨by omega, h2⟩
  rcases h with h | ⟨_, h⟩
  · exact h
  · exact absurd ⟨⟨Nat.le_refl _, hab⟩, List.getElem_mem hbl⟩ (h a bl[0])
/-- Of a stretch inside another one, of blows inside others: the toll lies inside. -/
theorem Good.inside {H : Int → Int → Nat → Int} {d d' : Nat → Blow → Prop} {s s' : TS} (h : Good H d s) (h' : Good H d' s')
    (hd : ∀ a b, d a b → ∃ b', d' a b' ∧ H b'.layer b'.lo a ≤ H b.layer b.lo a ∧ H b.layer b.lo a ≤ H b.layer b.hi a ∧ H b.layer b.hi a ≤ H b'.layer b'.hi a) : s'.lo ≤ s.lo ∧ s.lo ≤ s.hi ∧ s.hi ≤ s'.hi := by
  obtain ⟨a1, b1, h1, h2⟩ := h.lo
  obtain ⟨b2, h3, h4⟩ := h.hi
  obtain ⟨c1, e1, e2, e3, e4⟩ := hd _ _ h1
  obtain ⟨c2, g1, g2, g3, g4⟩ := hd _ _ h3
  have k1 := h'.all _ _ e1
  have k2 := h'.all _ _ g1
  have k3 := h.all _ _ h1
  have k4 := h.all _ _ h3
  omega
end Go.Proofs.YtdiigflbohbndaaDoor
