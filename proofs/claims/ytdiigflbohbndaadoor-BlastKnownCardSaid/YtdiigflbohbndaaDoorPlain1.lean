/- Plain laws: more reach, more energy. -/
import Derived.Test.YtdiigflbohbndaaDoorAwake
namespace Go.Proofs.YtdiigflbohbndaaDoor
open Go.RowKit

def NonNeg (ps : List Int) : Prop := ∀ x ∈ ps, 0 ≤ x ∧ x ≤ 4294967296
theorem take_mono {ps : List Int} (h : NonNeg ps) : ∀ {i j : Nat}, i ≤ j → (ps.take i).sum ≤ (ps.take j).sum := by
  have step : ∀ i, (ps.take i).sum ≤ (ps.take (i + 1)).sum := by
    intro i
    rcases Nat.lt_or_ge i ps.length with hi | hi
    · rw [sum_take_succ ps i hi]
      have := h ps[i] (List.getElem_mem hi)
      omega
    · rw [List.take_of_length_le hi, List.take_of_length_le (by omega)]
      exact Int.le_refl _
  intro i j hij
  induction j with
  | zero => rw [Nat.le_zero.1 hij]; exact Int.le_refl _
  | succ j ih =>
    rcases Nat.lt_or_ge i (j + 1) with hlt | hge
    · exact Int.le_trans (ih (by omega)) (step j)
    · rw [show i = j + 1 by omega]; exact Int.le_refl _
theorem people_eq (ps : List Int) {f t : Nat} (h : f ≤ t + 1) : peopleOf ps f t = (ps.take (t + 1)).sum - (ps.take f).sum := by
  have e : ps.take (t + 1) = ps.take f ++ (ps.drop f).take (t + 1 - f) := by
    rw [← List.take_add, show f + (t + 1 - f) = t + 1 by omega]
  unfold peopleOf
  rw [e, List.sum_append]
  omega
theorem people_mono {ps : List Int} (h : NonNeg ps) {f t f' t' : Nat} (hf : f' ≤ f) (ht : t ≤ t') (hft : f ≤ t + 1) : peopleOf ps f t ≤ peopleOf ps f' t' := by
  rw [people_eq ps hft, people_eq ps (by omega)]
  have h1 := take_mono h hf
  have h2 := take_mono h (show t + 1 ≤ t' + 1 by omega)
  omega
theorem people_nonneg {ps : List Int} (h : NonNeg ps) {f t : Nat} (hft : f ≤ t + 1) : 0 ≤ peopleOf ps f t := by
  rw [people_eq ps hft]
  have := take_mono h hft
  omega
theorem people_one {ps : List Int} {a : Nat} (ha : a < ps.length) : peopleOf ps a a = ps[a] := by
  rw [people_eq ps (by omega), sum_take_succ ps a ha]
  omega
theorem harm_own {ps : List Int} (h : NonNeg ps) {a : Nat} (ha : a < ps.length) (F : Nat) : ps[a] ≤ harmOf ps a F := by
  rw [← people_one ha]
  exact people_mono h (by omega) (by omega) (by omega)
theorem harm_mono {ps : List Int} (h : NonNeg ps) {a : Nat} (ha : a < ps.length) {F G : Nat} (hFG : F ≤ G) : harmOf ps a F ≤ harmOf ps a G :=
  people_mono h (by omega) (by omega) (by omega)
theorem people_all (ps : List Int) (h : 1 ≤ ps.length) : peopleOf ps 0 (ps.length - 1) = ps.sum := by
  rw [people_eq ps (by omega), show ps.length - 1 + 1 = ps.length by omega, List.take_length]
  simp
theorem harm_sum {ps : List Int} (h : NonNeg ps) {a : Nat} (ha : a < ps.length) (F : Nat) : harmOf ps a F ≤ ps.sum := by
  rw [← people_all ps (by omega)]
  exact people_mono h (by omega) (by omega) (by omega)
theorem harm_all {ps : List Int} {a : Nat} (ha : a < ps.length) (hl : ps.length ≤ 400) : harmOf ps a 400 = ps.sum := by
  rw [← people_all ps (by omega)]
  unfold harmOf
  rw [show a - 400 = 0 by omega, show min (ps.length - 1) (a + 400) = ps.length - 1 by omega]
theorem runUp_far (bs : List Bool) : ∀ F e, e < bs.length → runUp bs F e ≤ e + F
  | 0, e, _ => Nat.le_refl _
  | F + 1, e, h => by
    unfold runUp
    split
    · rename_i hh
      have := runUp_far bs F (e + 1) hh.2
      omega
    · omega
theorem runDown_far (bs : List Bool) : ∀ F e, e - F ≤ runDown bs F e
  | 0, e => by unfold runDown; omega
  | F + 1, e => by
    unfold runDown
    split
    · have := runDown_far bs F (e - 1)
      omega
    · omega
theorem runUp_mono (bs : List Bool) : ∀ F G e, F ≤ G → e < bs.length → runUp bs F e ≤ runUp bs G e
  | 0, G, e, _, h => (runUp_le bs G e h).1
  | F + 1, 0, e, h, _ => absurd h (by omega)
  | F + 1, G + 1, e, hFG, h => by
    unfold runUp
    split
    · rename_i hh
      exact runUp_mono bs F G (e + 1) (by omega) hh.2
    · exact Nat.le_refl _
theorem runDown_mono (bs : List Bool) : ∀ F G e, F ≤ G → runDown bs G e ≤ runDown bs F e
  | 0, G, e, _ => runDown_le bs G e
  | F + 1, 0, e, h => absurd h (by omega)
  | F + 1, G + 1, e, hFG => by
    unfold runDown
    split
    · exact runDown_mono bs F G (e - 1) (by omega)
    · exact Nat.le_refl _
theorem wave_mono {ps : List Int} (h : NonNeg ps) {bs : List Bool} (hl : bs.length = ps.length) {a : Nat} (ha : a < ps.length) {F G : Nat} (hFG : F ≤ G) : waveOf ps bs a F ≤ waveOf ps bs a G := by
  have h1 := runUp_mono bs F G a hFG (by omega)
  have h2 := runDown_mono bs F G a hFG
  have h3 := runUp_le bs F a (by omega)
  have h4 := runDown_le bs F a
  exact people_mono h h2 h1 (by omega)
theorem wave_harm {ps : List Int} (h : NonNeg ps) {bs : List Bool} (hl : bs.length = ps.length) {a : Nat} (ha : a < ps.length) (F : Nat) : waveOf ps bs a F ≤ harmOf ps a F := by
  have h1 := runUp_le bs F a (by omega)
  have h2 := runDown_le bs F a
  have h3 := runUp_far bs F a (by omega)
  have h4 := runDown_far bs F a
  exact people_mono h h4 (by omega) (by omega)
theorem wave_nonneg {ps : List Int} (h : NonNeg ps) {bs : List Bool} (hl : bs.length = ps.length) {a : Nat} (ha : a < ps.length) (F : Nat) : 0 ≤ waveOf ps bs a F := by
  have h1 := runUp_le bs F a (by omega)
  have h2 := runDown_le bs F a
  exact people_nonneg h (by omega)
/-! ### Grades -/
theorem reach_ge (en : Int) : ∀ (gs : List Grade) (far : Int), (∀ g ∈ gs, far ≤ g.reach) → (gs.Pairwise fun a b => a.energy < b.energy ∧ a.reach ≤ b.reach) → far ≤ reachOf en gs far
  | [], far, _, _ => Int.le_refl _
  | g :: gs, far, h, hp => by
    rw [reach_cons]
    split
    · exact Int.le_refl _
    · have h1 := h g (List.mem_cons_self)
      rw [List.pairwise_cons] at hp
      exact Int.le_trans h1 (reach_ge en gs g.reach (fun x hx => (hp.1 x hx).2) hp.2)
theorem reach_mono {en en' : Int} (he : en ≤ en') : ∀ (gs : List Grade) (far : Int), (∀ g ∈ gs, far ≤ g.reach) → (gs.Pairwise fun a b => a.energy < b.energy ∧ a.reach ≤ b.reach) → reachOf en gs far ≤ reachOf en' gs far
  | [], far, _, _ => Int.le_refl _
  | g :: gs, far, h, hp => by
    rw [reach_cons, reach_cons]
    have hp' := List.pairwise_cons.1 hp
    split
    · split
      · exact Int.le_refl _
      · exact Int.le_trans (h g (List.mem_cons_self)) (reach_ge en' gs g.reach (fun x hx => (hp'.1 x hx).2) hp'.2)
    · rename_i h1
      rw [if_neg (by omega)]
      exact reach_mono he gs g.reach (fun x hx => (hp'.1 x hx).2) hp'.2
end Go.Proofs.YtdiigflbohbndaaDoor
