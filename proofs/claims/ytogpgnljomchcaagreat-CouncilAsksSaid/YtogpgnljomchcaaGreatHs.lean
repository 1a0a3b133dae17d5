/- How the rows of a house change: a fact, an alarm, a motion more; a motion changed; a vote more. -/
import Derived.Test.YtogpgnljomchcaaGreatCoAll
namespace Go.Proofs.YtogpgnljomchcaaGreat
open Go.RowKit

def updV (v : Ky → Value) (k : Ky) (u : Value) : Ky → Value := fun j => if j = k then u else v j
theorem updV_same (v : Ky → Value) (k : Ky) (u : Value) : updV v k u k = u := if_pos rfl
theorem updV_ne (v : Ky → Value) {k j : Ky} (u : Value) (h : j ≠ k) : updV v k u j = v j := if_neg h

theorem Own.rd0 {α : Type} {w : World} {B e sz : Nat} {enc : α → List Value} {v : Value} {xs : List α} (h : Own w B e sz enc v xs) (he : ∀ x, (enc x).length = sz) :
    ∃ A cap, v = .slice A xs.length cap ∧ Rd none w sz enc A xs.length xs ∧ ((A = none ∧ xs = [] ∧ cap = 0) ∨ ∃ g, A = some ⟨g, 0, none⟩ ∧ B ≤ g ∧ g < w.heap.size ∧ xs.length ≤ cap) := by
  obtain ⟨A, cap, hv, hr, -⟩ := h.rd (row := none) he (fun b hb => by simp)
  refine ⟨A, cap, hv, hr, ?_⟩
  rcases h.2 with ⟨h1, h2⟩ | ⟨g, cap', cur, h1, h2, h3, h4, -⟩
  · rw [hv] at h1
    simp only [Value.slice.injEq] at h1
    exact .inl ⟨h1.1, List.eq_nil_of_length_eq_zero h2, h1.2.2⟩
  · rw [hv] at h1
    simp only [Value.slice.injEq] at h1
    obtain ⟨rfl, -, rfl⟩ := h1
    exact .inr ⟨g, rfl, h2, (Array.getElem?_eq_some_iff.1 h3).1, h4⟩

section
variable {h : House} {v : Ky → Value} {d : Bool}
theorem row_facts (fs : List Known) (u : Value) : ∀ k, rowOf (h.put d { h.led d with facts := fs }) (updV v (.facts d) u) k = upd (rowOf h v) (.facts d) ⟨u, 68, 6, fs.length, fs.flatMap encKnown⟩ k := by
  intro k
  cases k with
  | facts e =>
    by_cases he : e = d
    · subst he; rw [upd_same]; simp only [rowOf, led_put, updV_same, if_true]
    · have hne : Ky.facts e ≠ Ky.facts d := fun q => he (by injection q)
      rw [upd_ne _ _ hne]
      simp only [rowOf, led_put, updV_ne _ _ hne, if_neg he]
  | motions e =>
    rw [upd_ne _ _ (by simp)]
    simp only [rowOf, led_put]
    rw [updV_ne _ _ (by simp)]
    have : (fun i => updV v (.facts d) u (.voted e i)) = fun i => v (.voted e i) := funext fun i => updV_ne _ _ (by simp)
    rw [this]
    by_cases he : e = d
    · subst he; simp
    · simp [he]
  | sent e =>
    rw [upd_ne _ _ (by simp)]
    simp only [rowOf, led_put]
    rw [updV_ne _ _ (by simp)]
    by_cases he : e = d
    · subst he; simp
    · simp [he]
  | voted e i =>
    rw [upd_ne _ _ (by simp)]
    simp only [rowOf, led_put]
    rw [updV_ne _ _ (by simp)]
    by_cases he : e = d
    · subst he; simp [votedOf]
    · simp [he]
theorem row_sent (fs : List Alarm) (u : Value) : ∀ k, rowOf (h.put d { h.led d with sent := fs }) (updV v (.sent d) u) k = upd (rowOf h v) (.sent d) ⟨u, 106, 4, fs.length, fs.flatMap encAlarm⟩ k := by
  intro k
  cases k with
  | sent e =>
    by_cases he : e = d
    · subst he; rw [upd_same]; simp only [rowOf, led_put, updV_same, if_true]
    · have hne : Ky.sent e ≠ Ky.sent d := fun q => he (by injection q)
      rw [upd_ne _ _ hne]
      simp only [rowOf, led_put, updV_ne _ _ hne, if_neg he]
  | motions e =>
    rw [upd_ne _ _ (by simp)]
    simp only [rowOf, led_put]
    rw [updV_ne _ _ (by simp)]
    have : (fun i => updV v (.sent d) u (.voted e i)) = fun i => v (.voted e i) := funext fun i => updV_ne _ _ (by simp)
    rw [this]
    by_cases he : e = d
    · subst he; simp
    · simp [he]
  | facts e =>
    rw [upd_ne _ _ (by simp)]
    simp only [rowOf, led_put]
    rw [updV_ne _ _ (by simp)]
    by_cases he : e = d
    · subst he; simp
    · simp [he]
  | voted e i =>
    rw [upd_ne _ _ (by simp)]
    simp only [rowOf, led_put]
    rw [updV_ne _ _ (by simp)]
    by_cases he : e = d
    · subst he; simp [votedOf]
    · simp [he]
/-- the motions are others now, their votes' slices as 'v'' says, the numbers of votes as before but for motion i -/
theorem row_motions (ms : List Motion) (v' : Ky → Value) (i : Nat) (hv : ∀ k, k ≠ .motions d → k ≠ .voted d i → v' k = v k) (hm : ∀ j, j ≠ i → (vOf ms[j]?) = votedOf (h.led d) j) :
    ∀ k, rowOf (h.put d { h.led d with motions := ms }) v' k = upd (upd (rowOf h v) (.voted d i) ⟨v' (.voted d i), 3, 1, (vOf ms[i]?).length, (vOf ms[i]?).flatMap encI⟩)
      (.motions d) ⟨v' (.motions d), 52, 8, ms.length, (zipV (fun i => v' (.voted d i)) 0 ms).flatMap encVM⟩ k := by
  intro k
  cases k with
  | facts e =>
    rw [upd_ne _ _ (by simp), upd_ne _ _ (by simp)]
    simp only [rowOf, led_put]
    rw [hv _ (by simp) (by simp)]
    by_cases he : e = d
    · subst he; simp
    · simp [he]
  | sent e =>
    rw [upd_ne _ _ (by simp), upd_ne _ _ (by simp)]
    simp only [rowOf, led_put]
    rw [hv _ (by simp) (by simp)]
    by_cases he : e = d
    · subst he; simp
    · simp [he]
  | motions e =>
    by_cases he : e = d
    · subst he; rw [upd_same]; simp only [rowOf, led_put, if_true]
    · have hne : Ky.motions e ≠ Ky.motions d := fun q => he (by injection q)
      rw [upd_ne _ _ hne, upd_ne _ _ (by simp)]
      have h2 : (fun i => v' (.voted e i)) = fun i => v (.voted e i) := funext fun i => hv _ (by simp) (fun q => he (by injection q))
      simp only [rowOf, led_put, if_neg he, h2, hv _ hne (by simp)]
  | voted e j =>
    rw [upd_ne _ _ (by simp)]
    by_cases he : e = d
    · subst he
      by_cases hj : j = i
      · subst hj
        rw [upd_same]
        simp only [rowOf, led_put, if_true, votedOf]
      · have hne : Ky.voted e j ≠ Ky.voted e i := fun q => hj (by injection q)
        rw [upd_ne _ _ hne]
        have h1 : votedOf ((h.put e { h.led e with motions := ms }).led e) j = votedOf (h.led e) j := by
          rw [led_put, if_pos rfl]
          exact hm j hj
        simp only [rowOf]
        rw [h1, hv _ (by simp) hne]
    · have hne : Ky.voted e j ≠ Ky.voted d i := fun q => he (by injection q)
      rw [upd_ne _ _ hne]
      simp only [rowOf, led_put, if_neg he]
      rw [hv _ (by simp) hne]
end
theorem upd_self (R : Ky → RowV) (k : Ky) : upd R k (R k) = R := funext fun j => by
  unfold upd
  split
  · rename_i e; rw [e]
  · rfl
theorem grown_refl (w : World) (row : Option Nat) : w.grownBy w row := ⟨rfl, rfl, rfl, Nat.le_refl _, fun _ _ _ => rfl⟩

section
variable {B hb : Nat} {w w' : World} {h : House} {v : Ky → Value} {d : Bool}
/-- other facts, in the row as it is or in a new one -/
theorem RowsAt.setFacts (hr : RowsAt B hb w (rowOf h v)) (hhb : hb < w.heap.size) (fs : List Known) (u : Value) (hg : w.grownBy w' (v (.facts d)).ownBlock) (ho : Own w' B 68 6 encKnown u fs)
    (hat : u.ownBlock = (v (.facts d)).ownBlock ∨ ∀ b, u.ownBlock = some b → w.heap.size ≤ b) : RowsAt B hb w' (rowOf (h.put d { h.led d with facts := fs }) (updV v (.facts d) u)) :=
  (hr.step (.facts d) hhb (r := ⟨u, 68, 6, fs.length, fs.flatMap encKnown⟩) hg ho hat).eq (row_facts fs u)
theorem RowsAt.setSent (hr : RowsAt B hb w (rowOf h v)) (hhb : hb < w.heap.size) (fs : List Alarm) (u : Value) (hg : w.grownBy w' (v (.sent d)).ownBlock) (ho : Own w' B 106 4 encAlarm u fs)
    (hat : u.ownBlock = (v (.sent d)).ownBlock ∨ ∀ b, u.ownBlock = some b → w.heap.size ≤ b) : RowsAt B hb w' (rowOf (h.put d { h.led d with sent := fs }) (updV v (.sent d) u)) :=
  (hr.step (.sent d) hhb (r := ⟨u, 106, 4, fs.length, fs.flatMap encAlarm⟩) hg ho hat).eq (row_sent fs u)
/-- a motion more -/
theorem RowsAt.addMotion (hr : RowsAt B hb w (rowOf h v)) (hhb : hb < w.heap.size) (m : Motion) (hmv : m.voted = []) (u : Value) (hg : w.grownBy w' (v (.motions d)).ownBlock)
    (ho : Own w' B 52 8 encVM u (zipV (fun i => v (.voted d i)) 0 (h.led d).motions ++ [(Value.slice none 0 0, m)]))
    (hat : u.ownBlock = (v (.motions d)).ownBlock ∨ ∀ b, u.ownBlock = some b → w.heap.size ≤ b) :
    RowsAt B hb w' (rowOf (h.put d { h.led d with motions := (h.led d).motions ++ [m] }) (updV (updV v (.voted d (h.led d).motions.length) (.slice none 0 0)) (.motions d) u)) := by
  have hlen : (zipV (fun i => v (.voted d i)) 0 (h.led d).motions ++ [(Value.slice none 0 0, m)]).length = ((h.led d).motions ++ [m]).length := by simp [zipV_len]
  have hz : zipV (fun i => updV (updV v (.voted d (h.led d).motions.length) (.slice none 0 0)) (.motions d) u (.voted d i)) 0 ((h.led d).motions ++ [m]) = zipV (fun i => v (.voted d i)) 0 (h.led d).motions ++ [(Value.slice none 0 0, m)] := by
    rw [zipV_app]
    congr 1
    · refine zipV_congr _ _ fun j _ hj => ?_
      rw [updV_ne _ _ (by simp), updV_ne _ _ (fun q => by injection q with _ q; omega)]
    · simp only [zipV, Nat.zero_add]
      rw [updV_ne _ _ (by simp), updV_same]
  have h1 := hr.step (.voted d (h.led d).motions.length) hhb (w' := w) (r := ⟨.slice none 0 0, 3, 1, 0, []⟩) (grown_refl _ _) (World.ownsRow_nil _ _ _ _) (.inr fun b hb => by cases hb)
  have h2 := h1.step (.motions d) (w' := w') hhb (r := ⟨u, 52, 8, ((h.led d).motions ++ [m]).length, (zipV (fun i => v (.voted d i)) 0 (h.led d).motions ++ [(Value.slice none 0 0, m)]).flatMap encVM⟩)
    (by rw [upd_ne _ _ (by simp), rowOf_v]; exact hg) (by rw [← hlen]; exact ho) (by rw [upd_ne _ _ (by simp), rowOf_v]; exact hat)
  refine h2.eq fun k => ?_
  rw [row_motions ((h.led d).motions ++ [m]) _ (h.led d).motions.length (v := v) (fun k q1 q2 => by rw [updV_ne _ _ q1, updV_ne _ _ q2]) (fun j hj => ?_), hz, updV_same, updV_ne _ _ (by simp), updV_same]
  · simp [hmv, vOf]
  · unfold votedOf
    rcases Nat.lt_or_ge j (h.led d).motions.length with hl | hl
    · rw [List.getElem?_append_left hl]
    · rw [List.getElem?_eq_none (show ((h.led d).motions ++ [m]).length ≤ j by simp; omega), List.getElem?_eq_none hl]
/-- a motion changed in its place, its votes' slice as it is -/
theorem RowsAt.setMotions (hr : RowsAt B hb w (rowOf h v)) (hhb : hb < w.heap.size) (ms : List Motion) (hms : ∀ j, (vOf ms[j]?) = votedOf (h.led d) j) (hg : w.grownBy w' (v (.motions d)).ownBlock)
    (ho : Own w' B 52 8 encVM (v (.motions d)) (zipV (fun i => v (.voted d i)) 0 ms)) :
    RowsAt B hb w' (rowOf (h.put d { h.led d with motions := ms }) v) := by
  have h2 := hr.step (.motions d) (w' := w') hhb (r := ⟨v (.motions d), 52, 8, ms.length, (zipV (fun i => v (.voted d i)) 0 ms).flatMap encVM⟩) (by rw [rowOf_v]; exact hg) (by have := ho; unfold Own at this; rw [zipV_len] at this; exact this) (.inl (by rw [rowOf_v]))
  refine h2.eq fun k => ?_
  rw [row_motions ms v 0 (v := v) (fun _ _ _ => rfl) (fun j _ => hms j)]
  have e : (⟨v (.voted d 0), 3, 1, (vOf ms[0]?).length, (vOf ms[0]?).flatMap encI⟩ : RowV) = rowOf h v (.voted d 0) := by
    rw [hms 0]
    rfl
  rw [e, upd_self]
/-- a vote more: the slice of the votes of motion i is 'u' now, and stands in the motion's cell -/
theorem RowsAt.addVote (hr : RowsAt B hb w (rowOf h v)) (hhb : hb < w.heap.size) {w1 : World} (i : Nat) (hi : i < (h.led d).motions.length) (b : Int) (u : Value)
    (hg : w.grownBy w1 (v (.voted d i)).ownBlock) (ho : Own w1 B 3 1 encI u ((h.led d).motions[i].voted ++ [b])) (hat : u.ownBlock = (v (.voted d i)).ownBlock ∨ ∀ b, u.ownBlock = some b → w.heap.size ≤ b) :
    ∀ w2, w1.grownBy w2 (v (.motions d)).ownBlock → Own w2 B 52 8 encVM (v (.motions d)) ((zipV (fun i => v (.voted d i)) 0 (h.led d).motions).set i (u, { (h.led d).motions[i] with voted := (h.led d).motions[i].voted ++ [b] })) →
      RowsAt B hb w2 (rowOf (h.put d { h.led d with motions := (h.led d).motions.set i { (h.led d).motions[i] with voted := (h.led d).motions[i].voted ++ [b] } }) (updV v (.voted d i) u)) := by
  intro w2 hg2 ho2
  have hz : zipV (fun j => updV v (.voted d i) u (.voted d j)) 0 ((h.led d).motions.set i { (h.led d).motions[i] with voted := (h.led d).motions[i].voted ++ [b] }) = (zipV (fun i => v (.voted d i)) 0 (h.led d).motions).set i (u, { (h.led d).motions[i] with voted := (h.led d).motions[i].voted ++ [b] }) := by
    have h0 : (fun j => updV v (.voted d i) u (.voted d j)) = fun k => if k = i then u else v (.voted d k) := funext fun k => by
      unfold updV
      by_cases hk : k = i
      · subst hk; simp
      · rw [if_neg (by simpa using hk), if_neg hk]
    rw [h0, zipV_set, zipV_upd _ _ _ _ hi, List.set_set]
    simp
  have h1 := hr.step (.voted d i) hhb (w' := w1) (r := ⟨u, 3, 1, ((h.led d).motions[i].voted ++ [b]).length, ((h.led d).motions[i].voted ++ [b]).flatMap encI⟩) (by rw [rowOf_v]; exact hg) ho (by rw [rowOf_v]; exact hat)
  have h2 := h1.step (.motions d) (w' := w2) (Nat.lt_of_lt_of_le hhb hg.size) (r := ⟨v (.motions d), 52, 8, (h.led d).motions.length, ((zipV (fun i => v (.voted d i)) 0 (h.led d).motions).set i (u, { (h.led d).motions[i] with voted := (h.led d).motions[i].voted ++ [b] })).flatMap encVM⟩)
    (by rw [upd_ne _ _ (by simp), rowOf_v]; exact hg2) (by have := ho2; unfold Own at this; rw [List.length_set, zipV_len] at this; exact this) (.inl (by rw [upd_ne _ _ (by simp), rowOf_v]))
  refine h2.eq fun k => ?_
  rw [row_motions _ (updV v (.voted d i) u) i (v := v) (fun k _ q2 => updV_ne _ _ q2) (fun j hj => ?_), hz, updV_same, updV_ne _ _ (by simp)]
  · simp [hi, vOf]
  · unfold votedOf
    rw [List.getElem?_set_ne (Ne.symm hj)]
end
end Go.Proofs.YtogpgnljomchcaaGreat
