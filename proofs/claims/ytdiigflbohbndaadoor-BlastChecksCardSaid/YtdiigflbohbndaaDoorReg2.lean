/- Great regions: the check of the order in four parts. -/
import Derived.Test.YtdiigflbohbndaaDoorReg
namespace Go.Proofs.YtdiigflbohbndaaDoor
open Go.RowKit

def ordP (ops : Array Oper) (adv : List Nat) : List (Nat × Nat) → Array Bool → Bool
  | [], _ => true
  | (i, k) :: r, listed =>
      (match k with
        | 0 => (Region.ready .any ops listed).contains i && Region.free .any ops listed i && ((ops[i]?).map (valOp ·.op)).getD false && !adv.contains i
        | 1 => (Region.ready .any ops listed).contains i && Region.free .any ops listed i && ((ops[i]?).map (valOp ·.op)).getD false && !adv.contains i &&
            adv.all fun j => listed.getD j true || ((ops[j]?).map fun oj => oj.after.any fun e => Region.binds .any e && e.on == i).getD true
        | 2 => Region.ready .any ops listed == [i] && !adv.contains i
        | 3 => Region.ready .any ops listed == [i] && adv.contains i
        | _ => false)
      && ordP ops adv r (listed.setIfInBounds i true)
def markAll : List (Nat × Nat) → Array Bool → Array Bool
  | [], listed => listed
  | (i, _) :: r, listed => markAll r (listed.setIfInBounds i true)
theorem ordB_app (ops : Array Oper) (adv : List Nat) (r2 : List (Nat × Nat)) : ∀ (r1 : List (Nat × Nat)) (listed : Array Bool), ordP ops adv r1 listed = true → ordB ops adv r2 (markAll r1 listed) = true → ordB ops adv (r1 ++ r2) listed = true
  | [], _, _, h => h
  | (i, k) :: r, listed, h1, h2 => by
    unfold ordP at h1
    rw [Bool.and_eq_true] at h1
    rw [List.cons_append]
    unfold ordB
    rw [Bool.and_eq_true]
    exact ⟨h1.1, ordB_app ops adv r2 r _ h1.2 h2⟩
theorem wp_region_ord4 {P : Program} {l : List Oper} {id : Nat} {Q : Exit → Act → World → Prop} {a : Act} {w : World} (S : Nat → World → Prop) (ord r1 r2 r3 r4 : List (Nat × Nat)) (adv : List Nat) (hm : P.follows .mixedOrders = true)
    (ho : ord = r1 ++ (r2 ++ (r3 ++ r4))) (hs : (Region.noSelect l.toArray && ord.length == l.toArray.size) = true)
    (h1 : ordP l.toArray adv r1 (Array.replicate l.toArray.size false) = true) (h2 : ordP l.toArray adv r2 (markAll r1 (Array.replicate l.toArray.size false)) = true)
    (h3 : ordP l.toArray adv r3 (markAll r2 (markAll r1 (Array.replicate l.toArray.size false))) = true) (h4 : ordB l.toArray adv r4 (markAll r3 (markAll r2 (markAll r1 (Array.replicate l.toArray.size false)))) = true)
    (hC : S 0 w.drew) (h : Nonempty (Ev (S 0)) → wpOrd P l S (fun a' w' => Q .normal a' w') ord 0 a w.drew) : (Code.region id l.toArray true).wp P Q a w := by
  rw [Bool.and_eq_true] at hs
  refine wp_region_ord S ord adv hm ?_ hC h
  rw [Bool.and_eq_true, Bool.and_eq_true]
  refine ⟨hs.1, ?_, hs.2⟩
  rw [ho]
  exact ordB_app _ _ _ _ _ h1 (ordB_app _ _ _ _ _ h2 (ordB_app _ _ _ _ _ h3 h4))
end Go.Proofs.YtdiigflbohbndaaDoor
