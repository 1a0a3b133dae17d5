/- Plain laws: stronger, faster, thicker. -/
import Derived.Test.YtdiigflbohbndaaDoorAwake
namespace Go.Proofs.YtdiigflbohbndaaDoor
open Go.RowKit

/-- How a factor slows: A / D of v is taken off. -/
theorem off_mono {A D v v' : Int} (_ : 0 ≤ A) (hD : 0 < D) (hv : 0 ≤ v) (h : v ≤ v') : max 0 (v - A * v / D) ≤ max 0 (v' - A * v' / D) := by
  rcases Int.lt_or_le A D with hAD | hAD
  · have h1 : A * v' ≤ A * v + (v' - v) * D := by
      have e : A * v' = A * v + A * (v' - v) := by rw [Int.mul_sub]; omega
      have : A * (v' - v) ≤ D * (v' - v) := Int.mul_le_mul_of_nonneg_right (by omega) (by omega)
      rw [e, Int.mul_comm (v' - v) D]
      omega
    have h2 : A * v' / D ≤ A * v / D + (v' - v) := by
      have h3 := Int.ediv_le_ediv hD h1
      rwa [Int.add_mul_ediv_right _ _ (by omega)] at h3
    omega
  · have h1 : v * D ≤ A * v := by
      rw [Int.mul_comm v D]
      exact Int.mul_le_mul_of_nonneg_right hAD hv
    have h2 : v ≤ A * v / D := by
      have h3 := Int.ediv_le_ediv hD h1
      rwa [Int.mul_ediv_cancel _ (by omega)] at h3
    omega
theorem less_eq (s : Stone) (x : Layer) (v : Int) : lessOf s x v = x.dens * (wayOf x.thick s.slope * s.shape) * v / (s.dens * s.size * 1000) := by
  unfold lessOf
  rw [Int.mul_assoc, Int.mul_comm v, ← Int.mul_assoc]
theorem way_nonneg {s : Stone} (hs : StoneOk s) {t : Int} (ht : 1 ≤ t) : 0 ≤ wayOf t s.slope := by
  have := hs.slope
  exact Int.ediv_nonneg (by omega) (by omega)
theorem den_pos {s : Stone} (hs : StoneOk s) : 0 < s.dens * s.size * 1000 := by
  have h1 := hs.dens
  have h2 := hs.size
  have := Int.mul_le_mul h1.1 h2.1 (by omega) (by omega : 0 ≤ s.dens)
  omega
theorem slowed_mono {s : Stone} (hs : StoneOk s) {x : Layer} (hx : LayOk x) {v v' : Int} (hv : 0 ≤ v) (h : v ≤ v') : slowedOf s x v ≤ slowedOf s x v' := by
  unfold slowedOf
  rw [less_eq, less_eq]
  have h1 := way_nonneg hs hx.1.1
  have h2 : 0 ≤ s.shape := by have := hs.shape; omega
  exact off_mono (Int.mul_nonneg hx.2.1 (Int.mul_nonneg h1 h2)) (den_pos hs) hv h
theorem slowed_thick {s : Stone} (hs : StoneOk s) {x y : Layer} (hx : LayOk x) (hd : y.dens = x.dens) (ht : x.thick ≤ y.thick) {v : Int} (hv : 0 ≤ v) : slowedOf s y v ≤ slowedOf s x v := by
  unfold slowedOf lessOf
  rw [hd]
  have h0 := hs.slope
  have h1 : wayOf x.thick s.slope ≤ wayOf y.thick s.slope := Int.ediv_le_ediv (by omega) (by omega)
  have h2 : wayOf x.thick s.slope * s.shape ≤ wayOf y.thick s.slope * s.shape := Int.mul_le_mul_of_nonneg_right h1 (by have := hs.shape; omega)
  have h3 : x.dens * v * (wayOf x.thick s.slope * s.shape) ≤ x.dens * v * (wayOf y.thick s.slope * s.shape) := Int.mul_le_mul_of_nonneg_left h2 (Int.mul_nonneg hx.2.1 hv)
  have h4 := Int.ediv_le_ediv (den_pos hs) h3
  omega
theorem slowed_nonneg (s : Stone) (x : Layer) (v : Int) : 0 ≤ slowedOf s x v := by unfold slowedOf; omega
theorem bursts_mono {d v v' held held' : Int} (hd : 0 ≤ d) (hv : v ≤ v') (hh : held' ≤ held) (h : burstsAt d v held = true) : burstsAt d v' held' = true := by
  unfold burstsAt at h ⊢
  simp only [Bool.and_eq_true, decide_eq_true_eq] at h ⊢
  have := Int.mul_le_mul_of_nonneg_left hv hd
  omega
/-- The same stone, but for its strength and its speed. -/
structure Alike (s t : Stone) : Prop where
  size : t.size = s.size
  dens : t.dens = s.dens
  shape : t.shape = s.shape
  slope : t.slope = s.slope
theorem slowed_alike {s t : Stone} (h : Alike s t) (x : Layer) (v : Int) : slowedOf t x v = slowedOf s x v := by
  unfold slowedOf lessOf
  rw [h.size, h.dens, h.shape, h.slope]
theorem fall_stronger {s t : Stone} (ha : Alike s t) (hh : holdOf s.strong s.spin s.pile ≤ holdOf t.strong t.spin t.pile) : ∀ (ls : List Layer) (v : Int), (∀ x ∈ ls, LayOk x) → (fallFrom s ls v).1 ≤ (fallFrom t ls v).1
  | [], _, _ => Nat.le_refl _
  | x :: ls, v, hl => by
    cases hb : burstsAt x.dens v (holdOf s.strong s.spin s.pile)
    · have hb' : burstsAt x.dens v (holdOf t.strong t.spin t.pile) = false := by
        rw [Bool.eq_false_iff]
        intro k
        rw [bursts_mono (hl x (List.mem_cons_self)).2.1 (Int.le_refl v) hh k] at hb
        cases hb
      rw [fall_go hb, fall_go hb', slowed_alike ha]
      exact Nat.succ_le_succ (fall_stronger ha hh ls _ fun y hy => hl y (List.mem_cons_of_mem _ hy))
    · rw [fall_burst hb]
      exact Nat.zero_le _
theorem fall_faster {s t : Stone} (hs : StoneOk s) (ha : Alike s t) (hh : holdOf t.strong t.spin t.pile = holdOf s.strong s.spin s.pile) : ∀ (ls : List Layer) (v v' : Int), (∀ x ∈ ls, LayOk x) → 0 ≤ v → v ≤ v' → (fallFrom t ls v').1 ≤ (fallFrom s ls v).1
  | [], _, _, _, _, _ => Nat.le_refl _
  | x :: ls, v, v', hl, hv, h => by
    have hx := hl x (List.mem_cons_self)
    cases hb : burstsAt x.dens v' (holdOf t.strong t.spin t.pile)
    · have hb' : burstsAt x.dens v (holdOf s.strong s.spin s.pile) = false := by
        rw [Bool.eq_false_iff]
        intro k
        rw [bursts_mono hx.2.1 h (by rw [hh]; exact Int.le_refl _) k] at hb
        cases hb
      rw [fall_go hb, fall_go hb', slowed_alike ha]
      exact Nat.succ_le_succ (fall_faster hs ha hh ls _ _ (fun y hy => hl y (List.mem_cons_of_mem _ hy)) (slowed_nonneg _ _ _) (slowed_mono hs hx hv h))
    · rw [fall_burst hb]
      exact Nat.zero_le _
/-- Layer for layer no thinner. -/
def Thicker : List Layer → List Layer → Prop
  | [], [] => True
  | x :: xs, y :: ys => y.dens = x.dens ∧ x.thick ≤ y.thick ∧ Thicker xs ys
  | _, _ => False
theorem fall_thicker {s : Stone} (hs : StoneOk s) : ∀ (ls ms : List Layer) (v v' : Int), Thicker ls ms → (∀ x ∈ ls, LayOk x) → (∀ x ∈ ms, LayOk x) → 0 ≤ v' → v' ≤ v →
    (fallFrom s ls v).1 ≤ (fallFrom s ms v').1 ∧ ((fallFrom s ms v').1 = (fallFrom s ls v).1 → (fallFrom s ms v').2 ≤ (fallFrom s ls v).2)
  | [], [], v, v', _, _, _, _, h => ⟨Nat.le_refl _, fun _ => h⟩
  | [], _ :: _, _, _, h, _, _, _, _ => h.elim
  | _ :: _, [], _, _, h, _, _, _, _ => h.elim
  | x :: ls, y :: ms, v, v', hT, hl, hm, hv, h => by
    obtain ⟨hd, ht, hT⟩ := hT
    have hx := hl x (List.mem_cons_self)
    have hy := hm y (List.mem_cons_self)
    cases hb : burstsAt x.dens v (holdOf s.strong s.spin s.pile)
    · have hb' : burstsAt y.dens v' (holdOf s.strong s.spin s.pile) = false := by
        rw [Bool.eq_false_iff]
        intro k
        rw [hd] at k
        rw [bursts_mono hx.2.1 h (Int.le_refl _) k] at hb
        cases hb
      rw [fall_go hb, fall_go hb']
      have hsl : slowedOf s y v' ≤ slowedOf s x v := Int.le_trans (slowed_thick hs hx hd ht hv) (slowed_mono hs hx hv h)
      have ih := fall_thicker hs ls ms _ _ hT (fun z hz => hl z (List.mem_cons_of_mem _ hz)) (fun z hz => hm z (List.mem_cons_of_mem _ hz)) (slowed_nonneg s y v') hsl
      exact ⟨Nat.succ_le_succ ih.1, fun e => ih.2 (Nat.succ.inj e)⟩
    · rw [fall_burst hb]
      refine ⟨Nat.zero_le _, fun e => ?_⟩
      cases hb' : burstsAt y.dens v' (holdOf s.strong s.spin s.pile)
      · rw [fall_go hb'] at e
        exact absurd e (by simp)
      · rw [fall_burst hb']
        exact h
theorem hold_mono {a b n : Int} (p : Bool) (h : a ≤ b) (hn : n ≤ 1000) : holdOf a n p ≤ holdOf b n p := by
  unfold holdOf
  split
  · exact Int.ediv_le_ediv (by omega) (Int.mul_le_mul_of_nonneg_right h (by omega))
  · exact h
theorem ends_stronger {s : Stone} {m : Nat} (hs : StoneOk s) (ls : List Layer) (hl : ∀ x ∈ ls, LayOk x) :
    (endsOf ls s).1 ≤ (endsOf ls ⟨s.size, s.dens, s.strong + m, s.spin, s.shape, s.pile, s.speed, s.slope⟩).1 :=
  fall_stronger (s := s) (t := ⟨s.size, s.dens, s.strong + m, s.spin, s.shape, s.pile, s.speed, s.slope⟩) ⟨rfl, rfl, rfl, rfl⟩ (hold_mono s.pile (by show s.strong ≤ s.strong + m; omega) hs.spin.2) ls (s.speed * s.speed) hl
theorem sq_mono {a b : Int} (h0 : 0 ≤ a) (h : a ≤ b) : a * a ≤ b * b := Int.mul_le_mul h h h0 (by omega)
theorem ends_faster {s : Stone} {m : Nat} (hs : StoneOk s) (ls : List Layer) (hl : ∀ x ∈ ls, LayOk x) :
    (endsOf ls ⟨s.size, s.dens, s.strong, s.spin, s.shape, s.pile, s.speed + m, s.slope⟩).1 ≤ (endsOf ls s).1 :=
  fall_faster (s := s) (t := ⟨s.size, s.dens, s.strong, s.spin, s.shape, s.pile, s.speed + m, s.slope⟩) hs ⟨rfl, rfl, rfl, rfl⟩ rfl ls (s.speed * s.speed) ((s.speed + m) * (s.speed + m)) hl (vok_sq hs).1
    (sq_mono (by have := hs.speed; omega) (by omega))
theorem ends_thicker {s : Stone} (hs : StoneOk s) {ls ms : List Layer} (hT : Thicker ls ms) (hl : ∀ x ∈ ls, LayOk x) (hm : ∀ x ∈ ms, LayOk x) :
    (endsOf ls s).1 ≤ (endsOf ms s).1 ∧ ((endsOf ms s).1 = (endsOf ls s).1 → (endsOf ms s).2 ≤ (endsOf ls s).2) := by
  have h := fall_thicker hs ls ms (s.speed * s.speed) (s.speed * s.speed) hT hl hm (vok_sq hs).1 (Int.le_refl _)
  exact ⟨h.1, fun e => Int.mul_le_mul_of_nonneg_left (h.2 e) (mass_val hs.size hs.dens).2.1⟩
end Go.Proofs.YtdiigflbohbndaaDoor
