/- Motions appended to motions. -/
import Derived.Test.YtogpgnljomchcaaIo
import Derived.Deep.Upon
namespace Go.Proofs.Ytogpgnljomchcaa
open Go.RowKit

theorem one_motions (xs : List (Value × Motion)) (h : ∀ p ∈ xs, p.1.oneCell' = true) : ∀ u ∈ xs.flatMap encVM, u.oneCell' = true := by
  intro u hu
  obtain ⟨x, hx, hu⟩ := List.mem_flatMap.1 hu
  simp only [encVM, encMot, List.mem_cons, List.not_mem_nil, or_false] at hu
  rcases hu with rfl | rfl | rfl | rfl | rfl | rfl | rfl | rfl <;> first | rfl | exact h x hx
set_option maxRecDepth 100000 in
theorem wp_append_motions {w : World} {o : Oper} {a : Act} {K : Act → World → Prop} {Q : Exit → Act → World → Prop} (s x : Operand)
    (ho : o.op = .call { callee := .builtin .append, args := #[s, x], argTypes := #[41, 41] })
    (B : Nat) (v : Value) (xs : List (Value × Motion)) (A : Option Addr) (cap : Nat) (ys : List (Value × Motion)) (hs : a.eval s = v) (hx : a.eval x = .slice A ys.length cap)
    (hown : Own w B 76 8 encVM v xs) (hr : Rd none w 8 encVM A ys.length ys) (hl : xs.length + ys.length ≤ 1000000) (hB : B ≤ w.heap.size) (h1 : ∀ p ∈ ys, p.1.oneCell' = true)
    (h : ∀ v' w', Own w' B 76 8 encVM v' (xs ++ ys) → w.grownBy w' v.ownBlock → (v'.ownBlock = v.ownBlock ∨ v'.ownBlock = some w.heap.size) → K (a.put o.dst v') w') : o.wp Try.prog a w K Q := by
  obtain ⟨i0, hi0, hz0, hz1, hz2⟩ := info_parts info_motion
  cases A with
  | none =>
    have hl0 : ys = [] := by
      rcases Nat.eq_zero_or_pos ys.length with h1 | h1
      · exact List.eq_nil_of_length_eq_zero h1
      · obtain ⟨b, o, e, _⟩ := hr.2 h1
        cases e
    subst hl0
    have hk := h v w (by simpa using hown) ⟨rfl, rfl, rfl, Nat.le_refl _, fun _ _ _ => rfl⟩ (.inl rfl)
    have hnil : Src Try.prog i0.size 41 (.slice none ([] : List (Value × Motion)).length cap) 0 [] w := Src.ofNil w Try.underlying41 cap
    rcases hown.2 with ⟨rfl, -⟩ | ⟨g, cap', cur, rfl, -, -, hle, -⟩
    · exact Go.Lib.wp_append_run w s x _ _ ho _ _ hs hx _ w (run_append_nothing w _ _ _ _ _ Try.underlying41 hi0 _ _ _ (Nat.le_refl _) _ hnil) hk
    · exact Go.Lib.wp_append_run w s x _ _ ho _ _ hs hx _ w (run_append_nothing w _ _ _ _ _ Try.underlying41 hi0 _ _ _ hle _ hnil) hk
  | some ad =>
    refine wp_append_own_at s x 41 ho B 76 i0 _ 8 80 Try.underlying41 hi0 hz0 hz1 hz2 (by rfl) (by omega) v xs.length (xs.flatMap encVM) hs hown ad ys.length cap (ys.flatMap encVM) hx (flat_len (enc := encVM) (sz := 8) (fun _ => rfl) ys) (hr.flat (fun _ => rfl)) (one_motions ys h1) (maxLen_of (by omega)) (by omega) hB ?_
    intro v' w' h1 h2 h3
    refine h v' w' ?_ h2 h3
    unfold Own
    rw [List.length_append, List.flatMap_append]
    exact h1
theorem HAt.caps {B : Nat} {w : World} {v : Ky → Value} {h : House} (r : HAt B w v h) (d : Bool) (i : Nat) : (votedOf (h.led d) i).length ≤ slC (v (.voted d i)) := by
  obtain ⟨hb, r⟩ := r
  obtain ⟨A, cap, e, -, q⟩ := (r.voted d i).rd0 fun _ => rfl
  rw [e]
  show _ ≤ cap
  rcases q with ⟨-, e, -⟩ | ⟨-, -, -, -, q⟩
  · rw [e]; exact Nat.zero_le _
  · exact q
theorem HAt.capsR {B : Nat} {w : World} {v : Ky → Value} {h : House} (r : HAt B w v h) {X : HV} (hX : X = hvOf v) : (∀ i, (votedOf h.real i).length ≤ (X.r.vo i).2) ∧ ∀ i, (votedOf h.drill i).length ≤ (X.d.vo i).2 := by
  subst hX
  exact ⟨r.caps false, r.caps true⟩
/-- motions with their slices of votes, laid somewhere below B -/
def BothOk (B : Nat) (w : World) (zs : List (Value × Motion)) : Prop := ∀ i (hi : i < zs.length), ∃ A q, zs[i].1 = .slice A zs[i].2.voted.length q ∧ zs[i].2.voted.length ≤ q ∧ Lo B w 1 encI A zs[i].2.voted.length zs[i].2.voted
theorem BothOk.kp {B : Nat} {w w' : World} {zs : List (Value × Motion)} (h : BothOk B w zs) (k : Kp B none w w') : BothOk B w' zs := fun i hi => by
  obtain ⟨A, q, e, c, l⟩ := h i hi
  exact ⟨A, q, e, c, l.kp k⟩
theorem BothOk.wide {B B' : Nat} {w : World} {zs : List (Value × Motion)} (h : BothOk B w zs) (hB : B ≤ B') : BothOk B' w zs := fun i hi => by
  obtain ⟨A, q, e, c, l⟩ := h i hi
  exact ⟨A, q, e, c, l.wide hB⟩
theorem BothOk.of {B : Nat} {w : World} {L : LV} {l : Ledger} (s : LAt B w L l) (hc : ∀ i, (votedOf l i).length ≤ (L.vo i).2) : BothOk B w (zipV (vV L l) 0 l.motions) := fun i hi => by
  have hi' : i < l.motions.length := by rwa [zipV_len] at hi
  have hv : votedOf l i = l.motions[i].voted := by unfold votedOf; rw [List.getElem?_eq_getElem hi']; rfl
  have hci := hc i
  refine ⟨(L.vo i).1, (L.vo i).2, ?_, ?_, ?_⟩
  · rw [zipV_at _ _ _ _ hi', Nat.zero_add]
    unfold vV
    rw [hv]
  · rw [zipV_at _ _ _ _ hi', ← hv]
    exact hci
  · rw [zipV_at _ _ _ _ hi']
    have := s.v i
    rw [hv] at this
    exact this
theorem BothOk.app {B : Nat} {w : World} {xs ys : List (Value × Motion)} (h : BothOk B w xs) (k : BothOk B w ys) : BothOk B w (xs ++ ys) := fun i hi => by
  rcases Nat.lt_or_ge i xs.length with h1 | h1
  · rw [List.getElem_append_left h1]; exact h i h1
  · rw [List.getElem_append_right h1]; exact k _ _
theorem vV_one (L : LV) (l : Ledger) : ∀ p ∈ zipV (vV L l) 0 l.motions, p.1.oneCell' = true := fun p hp => by
  obtain ⟨i, hi, e⟩ := List.getElem_of_mem hp
  have hi' : i < l.motions.length := by rwa [zipV_len] at hi
  rw [zipV_at _ _ _ _ hi'] at e
  subst e
  rfl
theorem zipV_mem {f : Nat → Value} {l : List Motion} {p : Value × Motion} (hp : p ∈ zipV f 0 l) : p.2 ∈ l := by
  obtain ⟨i, hi, e⟩ := List.getElem_of_mem hp
  have hi' : i < l.length := by rwa [zipV_len] at hi
  rw [zipV_at _ _ _ _ hi'] at e
  subst e
  exact List.getElem_mem hi'
end Go.Proofs.Ytogpgnljomchcaa
