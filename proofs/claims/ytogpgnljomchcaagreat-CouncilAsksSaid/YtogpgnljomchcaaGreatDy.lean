/- CouncilDays, plain: the day's list, and the fact that a motion rests on. -/
import Derived.Test.YtogpgnljomchcaaGreatPb
import Derived.Test.YtogpgnljomchcaaGreatFn
namespace Go.Proofs.YtogpgnljomchcaaGreat

/-- the items up to a tick -/
def upTo (l : List CItem) (t : Int) : List CItem := l.takeWhile fun x => decide (x.tick ≤ t)
theorem upTo_len (l : List CItem) (t : Int) : (upTo l t).length ≤ l.length := by
  unfold upTo
  exact (List.takeWhile_sublist _).length_le
theorem upTo_take (l : List CItem) (t : Int) : upTo l t = l.take (upTo l t).length := by
  unfold upTo
  exact (List.prefix_iff_eq_take.1 (List.takeWhile_prefix _))
theorem upTo_in (l : List CItem) (t : Int) (i : Nat) (h : i < (upTo l t).length) (hl : i < l.length) : l[i].tick ≤ t := by
  have h1 : (upTo l t)[i] ∈ upTo l t := List.getElem_mem h
  have h2 : (upTo l t)[i] = l[i] := by
    have e := upTo_take l t
    have : (upTo l t)[i]? = (l.take (upTo l t).length)[i]? := by rw [← e]
    rw [List.getElem?_eq_getElem h, List.getElem?_take, if_pos h, List.getElem?_eq_getElem hl] at this
    exact Option.some.inj this
  rw [h2] at h1
  have h3 : ∀ (m : List CItem) (y : CItem), y ∈ m.takeWhile (fun x => decide (x.tick ≤ t)) → y.tick ≤ t := by
    intro m
    induction m with
    | nil => intro y hy; simp at hy
    | cons a r ih =>
      intro y hy
      rw [List.takeWhile_cons] at hy
      split at hy
      · rename_i ha
        rcases List.mem_cons.1 hy with rfl | hy
        · simpa using ha
        · exact ih y hy
      · simp at hy
  exact h3 l _ h1
theorem upTo_stop (t : Int) : ∀ (l : List CItem) (h : (upTo l t).length < l.length), ¬ (l[(upTo l t).length]'h).tick ≤ t
  | [], h => absurd h (by simp [upTo])
  | a :: r, h => by
    by_cases ha : a.tick ≤ t
    · have e : upTo (a :: r) t = a :: upTo r t := by unfold upTo; rw [List.takeWhile_cons, if_pos (by simpa using ha)]
      have h2 : (upTo r t).length < r.length := by rw [e] at h; simpa using h
      have := upTo_stop t r h2
      simp only [e, List.length_cons, List.getElem_cons_succ]
      exact this
    · have e : upTo (a :: r) t = [] := by unfold upTo; rw [List.takeWhile_cons, if_neg (by simpa using ha)]
      simp only [e, List.length_nil, List.getElem_cons_zero]
      exact ha
theorem Did.take {c : Council} {l : List CItem} {h : House} (d : Did c zeroHouse l h) (n : Nat) : ∃ y, Did c zeroHouse (l.take n) y := by
  have := d
  rw [← List.take_append_drop n l] at this
  obtain ⟨h1, d1, -⟩ := this.split
  exact ⟨h1, d1⟩
/-- what a motion that is no longer open rests on -/
theorem Did.restsOn {c : Council} {l : List CItem} {h : House} (d : Did c zeroHouse l h) (i : Nat) (hi : i < h.real.motions.length) (hs : h.real.motions[i].state ≠ 1) :
    ∃ (j : Nat) (hj : j < (l.filter fun x => x.drill == false).length), h.real.motions[i].fact = j ∧ (l.filter fun x => x.drill == false)[j].kind = 1 ∧ (l.filter fun x => x.drill == false)[j].a = h.real.motions[i].target ∧
      (h.real.motions[i].state ≠ 4 → ∃ e, j < e ∧ IsClose (l.filter fun x => x.drill == false) e i ∧ ∀ k, j < k → k < e → ¬ IsFact (l.filter fun x => x.drill == false) k h.real.motions[i].target) := by
  obtain ⟨j, a, b, r⟩ := ((d.day false).mot i hi).h hs
  obtain ⟨y, h1, h2, h3⟩ := b
  obtain ⟨hj, e⟩ := List.getElem?_eq_some_iff.1 h1
  exact ⟨j, hj, a, by rw [e]; exact h2, by rw [e]; exact h3, r⟩

theorem upTo_cons (x : CItem) (l : List CItem) (t : Int) : upTo (x :: l) t = if x.tick ≤ t then x :: upTo l t else [] := by
  unfold upTo
  rw [List.takeWhile_cons]
  by_cases h : x.tick ≤ t <;> simp [h]
theorem idx_upTo (t : Int) : ∀ (l : List CItem) (k : Int), (idxI (fun x : CItem => decide (t < x.tick)) l k = -1 ∧ upTo l t = l) ∨ ∃ i : Nat, i < l.length ∧ idxI (fun x : CItem => decide (t < x.tick)) l k = k + i ∧ upTo l t = l.take i
  | [], k => .inl ⟨rfl, rfl⟩
  | x :: r, k => by
    unfold idxI
    rw [upTo_cons]
    by_cases h : t < x.tick
    · rw [if_pos (by simpa using h), if_neg (by omega)]
      exact .inr ⟨0, by simp, by simp, by simp⟩
    · rw [if_neg (by simpa using h), if_pos (by omega)]
      rcases idx_upTo t r (k + 1) with ⟨h1, h2⟩ | ⟨i, hi, h1, h2⟩
      · exact .inl ⟨h1, by rw [h2]⟩
      · exact .inr ⟨i + 1, by simpa using hi, by rw [h1]; push_cast; omega, by rw [h2]; rfl⟩
/-- the house as of a tick -/
def asOfC (c : Council) (l : List CItem) (t : Int) : House × Int :=
  if checkC c ≠ 0 then (zeroHouse, checkC c) else if 2000 < l.length then (zeroHouse, 8) else if t < 0 ∨ 1073741824 < t then (zeroHouse, 2) else ((buildC c (upTo l t)).1, 0)
def zChance : Chance := ⟨0, 0, 0⟩
def realOf (l : List CItem) : List CItem := l.filter fun x => x.drill == false
/-- the chance of the fact by which a motion was decided -/
def whyR (R : House × Int × Int) (l : List CItem) (m : Int) : Chance × Int :=
  if R.2.2 ≠ 0 then (zChance, R.2.2) else if m < 0 ∨ (R.1.real.motions.length : Int) ≤ m then (zChance, 7) else if (motD R.1.real m).state = 1 then (zChance, 10)
  else (((realOf l).getD (motD R.1.real m).fact.toNat default).chance, 0)
theorem build_did {c : Council} {l : List CItem} (h : (buildC c l).2.2 = 0) : checkC c = 0 ∧ l.length ≤ 2000 ∧ Did c zeroHouse l (buildC c l).1 := by
  unfold buildC at h ⊢
  by_cases h1 : checkC c = 0
  · rw [if_neg (by simpa using h1)] at h ⊢
    by_cases h2 : 2000 < l.length
    · rw [if_pos h2] at h; exact absurd h (by decide)
    · rw [if_neg h2] at h ⊢
      exact ⟨h1, by omega, run_done 0 h⟩
  · rw [if_pos (by simpa using h1)] at h
    exact absurd h h1
theorem realOf_len (l : List CItem) : (realOf l).length ≤ l.length := List.length_filter_le _ _
/-- a motion that is not open: its fact is among the real items -/
theorem why_at {c : Council} {l : List CItem} (h : (buildC c l).2.2 = 0) (i : Nat) (hi : i < (buildC c l).1.real.motions.length) (hs : (buildC c l).1.real.motions[i].state ≠ 1) :
    ∃ (j : Nat) (hj : j < (realOf l).length), (buildC c l).1.real.motions[i].fact = j ∧ whyR (buildC c l) l i = ((realOf l)[j].chance, 0) := by
  obtain ⟨-, -, d⟩ := build_did h
  obtain ⟨j, hj, hf, -⟩ := d.restsOn i hi hs
  refine ⟨j, hj, hf, ?_⟩
  have e : motD (buildC c l).1.real (i : Int) = (buildC c l).1.real.motions[i] := by
    unfold motD
    rw [Int.toNat_natCast, List.getD_eq_getElem?_getD, List.getElem?_eq_getElem hi]
    rfl
  unfold whyR
  rw [if_neg (by simpa using h), if_neg (by omega), e, if_neg hs, hf, Int.toNat_natCast, List.getD_eq_getElem?_getD, List.getElem?_eq_getElem (show j < (realOf l).length from hj)]
  rfl
/-- no fact on the target from place k on to the close -/
def DayK (rl : List CItem) (i : Int) (m : Motion) (k : Nat) : Prop := m.state ≠ 4 → ∃ e, k ≤ e ∧ IsClose rl e i ∧ ∀ k2, k ≤ k2 → k2 < e → ¬ IsFact rl k2 m.target
theorem DayK.start {rl : List CItem} {i : Int} {m : Motion} {j : Nat} (h : m.state ≠ 4 → ∃ e, j < e ∧ IsClose rl e i ∧ ∀ k, j < k → k < e → ¬ IsFact rl k m.target) : DayK rl i m (j + 1) := fun hs => by
  obtain ⟨e, h1, h2, h3⟩ := h hs
  exact ⟨e, h1, h2, fun k h4 h5 => h3 k h4 h5⟩
theorem DayK.next {rl : List CItem} {i : Int} {m : Motion} {k : Nat} (h : DayK rl i m k) (hk : k < rl.length) (hn : ¬ (rl[k].kind = 4 ∧ rl[k].a = i)) :
    DayK rl i m (k + 1) ∧ (m.state = 4 ∨ ¬ (rl[k].kind = 1 ∧ rl[k].a = m.target)) := by
  have e1 : rl[k]? = some rl[k] := List.getElem?_eq_getElem hk
  have key : m.state ≠ 4 → ∃ e, k < e ∧ IsClose rl e i ∧ ∀ k2, k ≤ k2 → k2 < e → ¬ IsFact rl k2 m.target := fun hs => by
    obtain ⟨e, h1, h2, h3⟩ := h hs
    refine ⟨e, ?_, h2, h3⟩
    rcases Nat.lt_or_ge k e with h4 | h4
    · exact h4
    · have : e = k := by omega
      subst this
      obtain ⟨y, hy, h5, h6⟩ := h2
      rw [e1] at hy
      injection hy with hy
      subst hy
      exact absurd ⟨h5, h6⟩ hn
  refine ⟨fun hs => ?_, ?_⟩
  · obtain ⟨e, h1, h2, h3⟩ := key hs
    exact ⟨e, h1, h2, fun k2 h4 h5 => h3 k2 (by omega) h5⟩
  · by_cases hs : m.state = 4
    · exact .inl hs
    · obtain ⟨e, h1, h2, h3⟩ := key hs
      exact .inr fun hf => h3 k (Nat.le_refl _) h1 ⟨_, e1, hf.1, hf.2⟩
end Go.Proofs.YtogpgnljomchcaaGreat
