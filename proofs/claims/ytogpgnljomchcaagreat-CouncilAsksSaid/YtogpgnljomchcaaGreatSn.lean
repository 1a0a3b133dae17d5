/- Reading a house: its laws and its motions. -/
import Derived.Test.YtogpgnljomchcaaGreatLSen
namespace Go.Proofs.YtogpgnljomchcaaGreat
open Go.RowKit

theorem LAt.mot {B : Nat} {w : World} {L : LV} {l : Ledger} (s : LAt B w L l) (j : Nat) (hj : j < l.motions.length) :
    ∃ b o A q, L.ma = some ⟨b, o, none⟩ ∧ A = (L.vo j).1 ∧ Lo B w 1 encI A l.motions[j].voted.length l.motions[j].voted ∧ ∀ k u, (encMot (.slice A l.motions[j].voted.length q) l.motions[j])[k]? = some u → w.cell? ⟨b, o + (j * 8 + k), none⟩ = some u := by
  obtain ⟨b, o, e, -, -, hc⟩ := s.m.2 (by omega)
  have hv : votedOf l j = l.motions[j].voted := by unfold votedOf; rw [List.getElem?_eq_getElem hj]; rfl
  refine ⟨b, o, (L.vo j).1, (L.vo j).2, e, rfl, by rw [← hv]; exact s.v j, fun k u hk => ?_⟩
  refine hc j (by rw [zipV_len]; exact hj) k u ?_
  rw [zipV_at _ _ _ _ hj, Nat.zero_add]
  unfold encVM vV
  rw [hv]
  exact hk
end Go.Proofs.YtogpgnljomchcaaGreat
