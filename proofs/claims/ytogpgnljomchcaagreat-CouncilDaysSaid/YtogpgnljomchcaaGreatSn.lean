/- Reading a house: its laws and its motions. -/
import Derived.Test.YtogpgnljomchcaaGreatLSen
namespace Go.Proofs.YtogpgnljomchcaaGreat
open Go.RowKit

theorem chkLaws_pw : ∀ {l : List LawC} {a : Int}, chkLaws a l = 0 → (∀ y ∈ l, a < y.act) ∧ l.Pairwise fun x y => x.act < y.act
  | [], a, _ => ⟨fun y hy => by simp at hy, List.Pairwise.nil⟩
  | x :: r, a, h => by
    unfold chkLaws at h
    split at h
    · rename_i h1
      obtain ⟨q1, q2⟩ := chkLaws_pw h
      have hx : a < x.act := by
        unfold lawErr at h1
        split at h1
        · cases h1
        · omega
      exact ⟨fun y hy => by rcases List.mem_cons.1 hy with rfl | hy; exact hx; have := q1 y hy; omega, List.pairwise_cons.2 ⟨q1, q2⟩⟩
    · rename_i h1; exact absurd h h1
theorem find_pw : ∀ {l : List LawC}, (l.Pairwise fun x y => x.act < y.act) → ∀ y ∈ l, l.find? (fun x => x.act == y.act) = some y
  | x :: r, hp, y, hy => by
    obtain ⟨q1, q2⟩ := List.pairwise_cons.1 hp
    rcases List.mem_cons.1 hy with rfl | hy
    · exact List.find?_cons_of_pos (by simp)
    · rw [List.find?_cons_of_neg (by have := q1 y hy; simp; omega)]
      exact find_pw q2 y hy
theorem lawD_at {c : Council} (h : checkC c = 0) (i : Nat) (hi : i < c.laws.length) : lawD c c.laws[i].act = c.laws[i] := by
  have hl : chkLaws 0 c.laws = 0 := by
    unfold checkC at h
    split at h
    · cases h
    split at h
    · cases h
    split at h
    · rename_i h3; exact absurd h h3
    split at h
    · cases h
    split at h
    · rename_i h5; exact absurd h h5
    · rename_i h5
      simpa using h5
  unfold lawD lawOf
  rw [find_pw (chkLaws_pw hl).2 _ (List.getElem_mem hi)]
  rfl
theorem LAt.mot {B : Nat} {w : World} {L : LV} {l : Ledger} (s : LAt B w L l) (j : Nat) (hj : j < l.motions.length) :
    ∃ b o A q, L.ma = some ⟨b, o, none⟩ ∧ A = (L.vo j).1 ∧ Lo B w 1 encI A l.motions[j].voted.length l.motions[j].voted ∧ ∀ k u, (encMot (.slice A l.motions[j].voted.length q) l.motions[j])[k]? = some u → w.cell? ⟨b, o + (j * 8 + k), none⟩ = some u := by
  obtain ⟨b, o, e, -, -, hc⟩ := s.m.2 (by omega)
  have hv : votedOf l j = l.motions[j].voted := by unfold votedOf; rw [List.getElem?_eq_getElem hj]; rfl
  refine ⟨b, o, (L.vo j).1, (L.vo j).2, e, rfl, by rw [← hv]; exact s.v j, fun k u hk => ?_⟩
  refine hc j (by rw [zipV_len]; exact hj) k u ?_
  rw [zipV_at _ _ _ _ hj, Nat.zero_add]
  unfold encVM vV
  rw [hv]
  exact hk
end Go.Proofs.YtogpgnljomchcaaGreat
