/- Of and with: the reference. -/
import Derived.Test.YtogpgnljomchcaaGreatRefAbc
import Derived.Test.YtogpgnljomchcaaGreatHfAll
import Derived.Test.YtogpgnljomchcaaGreatCofAll
namespace Go.Proofs.YtogpgnljomchcaaGreat
open Go.RowKit

def zeroKnown : Known := ⟨0, 0, 0, ⟨0, 0, 0⟩⟩
def knD (fs : List Known) (t : Int) : Known := (fs.find? fun k => k.target == t).getD zeroKnown
set_option maxHeartbeats 1000000 in
theorem ref_Of_any (t it : Int) (A : Option Addr) (cap : Nat) (fs : List Known) (Am : Option Addr) (lm qm : Nat) (As : Option Addr) (ls qs : Nat) (w : World) (h : Rd none w 6 encKnown A fs.length fs) (hn : fs.length ≤ 17592186044416) :
    Calls Tryz.prog 26 #[.agg #[.int .i64 it, .slice A fs.length cap, .slice Am lm qm, .slice As ls qs], .int .i64 t] w fun e w' => e = .returned (.tuple #[.agg #[.int .i64 (knD fs t).target, .int .i64 (knD fs t).level, .int .i64 (knD fs t).item, .int .i64 (knD fs t).chance.least, .int .i64 (knD fs t).chance.most, .int .i64 (knD fs t).chance.all], .bool (fs.find? fun k => k.target == t).isSome]) ∧ Kp w.heap.size none w w' := by
  have hA := (Blk.new w 41 #[.int .i64 it, .slice A fs.length cap, .slice Am lm qm, .slice As ls qs]).alloc (.cells #[.int .i64 0, .int .i64 0, .int .i64 0, .int .i64 0, .int .i64 0, .int .i64 0] 68)
  have hB := Blk.newAt (w.alloc (.cells #[.int .i64 it, .slice A fs.length cap, .slice Am lm qm, .slice As ls qs] 41)) 68 #[.int .i64 0, .int .i64 0, .int .i64 0, .int .i64 0, .int .i64 0, .int .i64 0] (n := w.heap.size + 1) (by simp)
  have KK := Kp.new2 w (.cells #[.int .i64 it, .slice A fs.length cap, .slice Am lm qm, .slice As ls qs] 41) (.cells #[.int .i64 0, .int .i64 0, .int .i64 0, .int .i64 0, .int .i64 0, .int .i64 0] 68)
  unfold knD
  obtain ⟨R, hR⟩ : ∃ R, R = fs.find? (fun k => k.target == t) := ⟨_, rfl⟩
  rw [← hR]
  have hR2 : R = fs.findSome? (fun x => if x.target == t then some x else none) := by rw [hR]; exact find_some _ _
  clear hR
  replace hR2 := Lib.hid hR2
  go_enter Tryz.func26, Tryz.ntmps26
  go_wp2_with fail
  obtain ⟨b1, hb1⟩ : ∃ q, q = w.heap.size := ⟨_, rfl⟩
  obtain ⟨b2, hb2⟩ : ∃ q, q = w.heap.size + 1 := ⟨_, rfl⟩
  rw [← hb2] at hB ⊢
  rw [← hb1] at hA ⊢
  have hwb : w.heap.size ≤ b2 := by omega
  generalize hw0 : (w.alloc (.cells #[.int .i64 it, .slice A fs.length cap, .slice Am lm qm, .slice As ls qs] 41)).alloc (.cells #[.int .i64 0, .int .i64 0, .int .i64 0, .int .i64 0, .int .i64 0, .int .i64 0] 68) = w0 at hA hB KK ⊢
  clear hw0 hb1 hb2
  replace h := h.kpN KK
  go_loopw [6] (fun v wr => FindAt R (fun x : Known => if x.target == t then some x else none) fs w0 v wr) (fun v _ => fs.length - (intOf v).toNat)
  case atStart => exact ⟨0, rfl, by omega, by rw [List.drop_zero]; exact hR2.out.symm, Kp.refl _ _ _⟩
  case round =>
    obtain ⟨i, rfl, hi, hj, K1⟩ := hrel
    have hA2 := hA.kpN K1
    have hB2 := hB.kpN K1
    replace KK := KK.thenN K1 (Nat.le_refl _)
    have ca := fun i => hA2.cell i
    have cb := fun i => hB2.cell i
    have fb := fun i => hB2.frozen i
    by_cases h7 : i < fs.length
    · obtain ⟨b, o, rfl, hb, -, hcc⟩ := (h.kpN K1).at_ (by omega)
      have c0 : wr.cell? ⟨b, o + i * 6 + 0, none⟩ = some (.int .i64 fs[i].target) := by rw [Nat.add_assoc]; exact hcc i h7 0 _ rfl
      have c1 : wr.cell? ⟨b, o + i * 6 + 1, none⟩ = some (.int .i64 fs[i].level) := by rw [Nat.add_assoc]; exact hcc i h7 1 _ rfl
      have c2 : wr.cell? ⟨b, o + i * 6 + 2, none⟩ = some (.int .i64 fs[i].item) := by rw [Nat.add_assoc]; exact hcc i h7 2 _ rfl
      have c3 : wr.cell? ⟨b, o + i * 6 + 3, none⟩ = some (.int .i64 fs[i].chance.least) := by rw [Nat.add_assoc]; exact hcc i h7 3 _ rfl
      have c4 : wr.cell? ⟨b, o + i * 6 + 4, none⟩ = some (.int .i64 fs[i].chance.most) := by rw [Nat.add_assoc]; exact hcc i h7 4 _ rfl
      have c5 : wr.cell? ⟨b, o + i * 6 + 5, none⟩ = some (.int .i64 fs[i].chance.all) := by rw [Nat.add_assoc]; exact hcc i h7 5 _ rfl
      simp only [Nat.add_zero] at c0
      have hi' : (i : Int) < (fs.length : Int) := by omega
      rw [findSome_drop _ _ i h7] at hj
      clear hcc h hi
      generalize fs[i] = x at c0 c1 c2 c3 c4 c5 hj
      replace h7 := Lib.hid h7
      by_cases hq : x.target = t
      · have hj2 : R = some x := by
          rw [show (if (x.target == t) = true then some x else none) = some x by rw [if_pos (by simpa using hq)]] at hj
          exact hj.symm
        clear hj hR2
        subst hj2
        subst hq
        go_wp2_with fail
        refine bodyPost_ret (v := .tuple #[.agg #[.int .i64 x.target, .int .i64 x.level, .int .i64 x.item, .int .i64 x.chance.least, .int .i64 x.chance.most, .int .i64 x.chance.all], .bool true]) (by simp [results, Tryz.results26, go_sem, cb]) rfl ⟨rfl, ?_⟩
        iterate 6 refine Kp.setNew ?_ hwb _
        exact KK
      · have hj2 := Lib.hid (show (fs.drop (i + 1)).findSome? (fun x : Known => if x.target == t then some x else none) = R by
          rw [show (if (x.target == t) = true then some x else none) = none by rw [if_neg (by simpa using hq)]] at hj
          exact hj)
        clear hj
        go_wp2
        go_roundw
        case rel => exact ⟨i + 1, rfl, h7.out, hj2.out, K1⟩
        case measure => have := h7.out; simp [intOf]; omega
    · have he : i = fs.length := by omega
      have hi' : ¬ (i : Int) < (fs.length : Int) := by omega
      rw [he, List.drop_length] at hj
      have hj2 : R = none := hj.symm
      clear hj hR2 h7 hi
      subst hj2
      subst he
      go_wp2_with fail
      refine bodyPost_ret (v := .tuple #[.agg #[.int .i64 0, .int .i64 0, .int .i64 0, .int .i64 0, .int .i64 0, .int .i64 0], .bool false]) (by simp [results, Tryz.results26, go_sem, cb]) rfl ⟨rfl, ?_⟩
      iterate 6 refine Kp.setNew ?_ hwb _
      exact KK

/-! ### with -/
def restW (k : Known) : Bool → List Known → List Known
  | put, [] => if put then [] else [k]
  | put, y :: r => if y.target = k.target then restW k put r else if k.target < y.target ∧ put = false then k :: y :: restW k true r else y :: restW k put r
def befW (k : Known) : Int → List Known → Int
  | b, [] => b
  | b, y :: r => if y.target = k.target then befW k y.level r else befW k b r
theorem restW_cons (k : Known) (put : Bool) (y : Known) (r : List Known) : restW k put (y :: r) = if y.target = k.target then restW k put r else if k.target < y.target ∧ put = false then k :: y :: restW k true r else y :: restW k put r := rfl
theorem befW_cons (k : Known) (b : Int) (y : Known) (r : List Known) : befW k b (y :: r) = if y.target = k.target then befW k y.level r else befW k b r := rfl
theorem restW_true (k : Known) : ∀ l : List Known, (∀ y ∈ l, k.target < y.target) → restW k true l = l
  | [], _ => rfl
  | y :: r, h => by
    have := h y (by simp)
    unfold restW
    rw [if_neg (by omega), if_neg (by simp), restW_true k r fun z hz => h z (by simp [hz])]
theorem restW_eq (k : Known) : ∀ l : List Known, l.Pairwise (fun a b => a.target < b.target) → restW k false l = withK k l
  | [], _ => rfl
  | y :: r, h => by
    have h1 := List.pairwise_cons.1 h
    unfold restW withK
    split
    · rename_i e
      cases r with
      | nil => rfl
      | cons z q =>
        have hz := h1.1 z (by simp)
        have h2 := List.pairwise_cons.1 h1.2
        unfold restW
        rw [if_neg (by omega), if_pos ⟨by omega, rfl⟩, restW_true k q fun t ht => by have := h2.1 t ht; omega]
    · split
      · rename_i e
        rw [if_pos e.1, restW_true k r fun t ht => by have := h1.1 t ht; omega]
      · rename_i e
        rw [if_neg (fun q => e ⟨q, rfl⟩), restW_eq k r h1.2]
theorem befW_far (k : Known) : ∀ (l : List Known) (b : Int), (∀ y ∈ l, k.target < y.target) → befW k b l = b
  | [], _, _ => rfl
  | y :: r, b, h => by
    have := h y (by simp)
    unfold befW
    rw [if_neg (by omega)]
    exact befW_far k r b fun z hz => h z (by simp [hz])
theorem befW_eq (k : Known) : ∀ (l : List Known) (b : Int), l.Pairwise (fun a b => a.target < b.target) → befW k b l = match l.find? (fun x => x.target == k.target) with | some y => y.level | none => b
  | [], _, _ => rfl
  | y :: r, b, h => by
    have h1 := List.pairwise_cons.1 h
    unfold befW
    rw [List.find?_cons]
    by_cases e : y.target = k.target
    · rw [if_pos e, befW_far k r _ fun z hz => by have := h1.1 z hz; omega]
      rw [show (y.target == k.target) = true by simpa using e]
    · rw [if_neg e, befW_eq k r b h1.2, show (y.target == k.target) = false by simpa using e]
theorem Own.low {α : Type} {w : World} {B B' e sz : Nat} {enc : α → List Value} {v : Value} {xs : List α} (h : Own w B e sz enc v xs) (hB : B' ≤ B) : Own w B' e sz enc v xs :=
  ⟨h.1, by
    rcases h.2 with q | ⟨g, cap, cur, a, b, c⟩
    · exact .inl q
    · exact .inr ⟨g, cap, cur, a, Nat.le_trans hB b, c⟩⟩
def WithAt (l : List Known) (k : Known) (W : World) (i o b p : Value) (wr : World) : Prop :=
  ∃ (n : Nat) (out : List Known) (bf : Int) (put : Bool), i = .int .i64 n ∧ n ≤ l.length ∧ b = .int .i64 bf ∧ p = .bool put ∧ out.length ≤ n + (if put then 1 else 0) ∧ out ++ restW k put (l.drop n) = restW k false l ∧ befW k bf (l.drop n) = befW k 0 l ∧
    Own wr W.heap.size 68 6 encKnown o out ∧ Kp W.heap.size none W wr
def WithPost (l : List Known) (k : Known) (w : World) (e : Ending) (w' : World) : Prop :=
  ∃ u, e = .returned (.tuple #[u, .int .i64 (befW k 0 l)]) ∧ Own w' w.heap.size 68 6 encKnown u (restW k false l) ∧ Kp w.heap.size none w w'
set_option maxRecDepth 20000 in
set_option maxHeartbeats 4000000 in
theorem ref_with_any (k : Known) (A : Option Addr) (cap : Nat) (l : List Known) (w : World) (h : Rd none w 6 encKnown A l.length l) (hn : l.length ≤ 5000) :
    Calls Tryz.prog 94 #[.slice A l.length cap, .agg #[.int .i64 k.target, .int .i64 k.level, .int .i64 k.item, .int .i64 k.chance.least, .int .i64 k.chance.most, .int .i64 k.chance.all]] w (WithPost l k w) := by
  obtain ⟨i0, hi0, hz0, hz1, hz2⟩ := info_parts info_known
  have hB := Blk.new w 68 #[.int .i64 k.target, .int .i64 k.level, .int .i64 k.item, .int .i64 k.chance.least, .int .i64 k.chance.most, .int .i64 k.chance.all]
  have KK := Kp.new w (.cells #[.int .i64 k.target, .int .i64 k.level, .int .i64 k.item, .int .i64 k.chance.least, .int .i64 k.chance.most, .int .i64 k.chance.all] 68)
  go_enter Tryz.func94, Tryz.ntmps94
  go_wp2_with fail
  obtain ⟨xb, hxb⟩ : ∃ q, q = w.heap.size := ⟨_, rfl⟩
  rw [← hxb] at hB ⊢
  have hxw : w.heap.size ≤ xb := by omega
  generalize w.alloc (.cells #[.int .i64 k.target, .int .i64 k.level, .int .i64 k.item, .int .i64 k.chance.least, .int .i64 k.chance.most, .int .i64 k.chance.all] 68) = w0 at hB KK ⊢
  replace h := h.kpN KK
  clear hxb
  go_loopw [9, 6, 7, 8] (fun i o b p wr => WithAt l k w0 i o b p wr) (fun i _ _ _ _ => l.length - (intOf i).toNat)
  case atStart => exact ⟨0, [], 0, false, rfl, by omega, rfl, rfl, by simp, by simp, by simp, Own.nil _ _ _ _ _, Kp.refl _ _ _⟩
  case round =>
    obtain ⟨n, out, bf, put, rfl, hnl, rfl, rfl, hol, hj, hbf, own, K1⟩ := hrel
    have cb := fun i => (hB.kpN K1).cell i
    have hol3 : out.length ≤ 5001 := by split at hol <;> omega
    by_cases h7 : n < l.length
    · obtain ⟨b, o, rfl, hb, -, hcc⟩ := h.at_ (by omega)
      have hcell : ∀ W, Kp w0.heap.size none w0 W → W.cell? ⟨b, o + n * 6, none⟩ = some (.int .i64 l[n].target) ∧ W.cell? ⟨b, o + n * 6 + 1, none⟩ = some (.int .i64 l[n].level) ∧ W.cell? ⟨b, o + n * 6 + 2, none⟩ = some (.int .i64 l[n].item) ∧ W.cell? ⟨b, o + n * 6 + 3, none⟩ = some (.int .i64 l[n].chance.least) ∧ W.cell? ⟨b, o + n * 6 + 4, none⟩ = some (.int .i64 l[n].chance.most) ∧ W.cell? ⟨b, o + n * 6 + 5, none⟩ = some (.int .i64 l[n].chance.all) := fun W k => by
        have q : ∀ j v, (encKnown l[n])[j]? = some v → W.cell? ⟨b, o + (n * 6 + j), none⟩ = some v := fun j v hv => (k.cell b _ hb (by simp)).trans (hcc n h7 j v hv)
        refine ⟨q 0 _ rfl, ?_, ?_, ?_, ?_, ?_⟩ <;> rw [Nat.add_assoc]
        · exact q 1 _ rfl
        · exact q 2 _ rfl
        · exact q 3 _ rfl
        · exact q 4 _ rfl
        · exact q 5 _ rfl
      have hi' : (n : Int) < (l.length : Int) := by omega
      rw [List.drop_eq_getElem_cons h7] at hj hbf
      rw [restW_cons] at hj
      rw [befW_cons] at hbf
      clear hcc h
      generalize l[n] = y at hcell hj hbf
      obtain ⟨c0, c1, c2, c3, c4, c5⟩ := hcell wr K1
      replace h7 := Lib.hid h7
      replace hcell := Lib.hid hcell
      go_wp2_with fail
      go_quiet (fail)
      replace own := own.kpN ((Kp.refl _ _ wr).drewN nq)
      replace K1 := K1.drewN nq
      clear cb c0 c1 c2 c3 c4 c5
      generalize wr.drewN nq = w1 at own K1 ⊢
      clear nq
      have cb := fun i => (hB.kpN K1).cell i
      obtain ⟨c0, c1, c2, c3, c4, c5⟩ := hcell.out w1 K1
      have hs1 : w0.heap.size ≤ w1.heap.size := K1.size
      by_cases e1 : y.target = k.target
      · rw [if_pos e1] at hj hbf
        have e1' : (y.target == k.target) = true := by simpa using e1
        rw [e1']
        replace hj := Lib.hid hj
        replace hbf := Lib.hid hbf
        replace own := Lib.hid own
        replace e1 := Lib.hid e1
        clear e1' cb
        go_wp2
        go_roundw
        case rel => exact ⟨n + 1, out, y.level, put, rfl, h7.out, rfl, rfl, by split at hol <;> simp_all <;> omega, hj.out, hbf.out, own.out, K1⟩
        case measure => have := h7.out; simp [intOf]; omega
      rw [if_neg e1] at hj hbf
      have e1' : (y.target == k.target) = false := by simpa using e1
      rw [e1']
      replace e1 := Lib.hid e1
      clear e1'
      by_cases e2 : k.target < y.target ∧ put = false
      · rw [if_pos e2] at hj
        obtain ⟨e2a, rfl⟩ := e2
        go_wp2_with fail
        go_quiet (fail)
        replace own := own.kpN ((Kp.refl _ _ w1).drewN nq)
        replace K1 := K1.drewN nq
        clear cb c0 c1 c2 c3 c4 c5
        generalize w1.drewN nq = w2 at own K1 ⊢
        clear nq
        have cb := fun i => (hB.kpN K1).cell i
        obtain ⟨c0, c1, c2, c3, c4, c5⟩ := hcell.out w2 K1
        have hs1 : w0.heap.size ≤ w2.heap.size := K1.size
        go_upto_region 10 with (at_builtin; refine wpList_append_own_at _ (by rfl) (.tmp 41) (.tmp 43) 37 (by rfl) w0.heap.size 68 i0 _ 6 48 Tryz.underlying37 hi0 hz0 hz1 hz2 (by rfl) (by omega) _ (out).length ((out).flatMap encKnown) (by rfl) (Own.alloc own _) ⟨w2.heap.size, 0, none⟩ 1 1 (encKnown k) (by rfl) (by rfl) (list_new _ _ _) (one_known k) (maxLen_of (by first | omega | (simp; omega))) (by first | omega | (simp; omega)) (alloc_ge hs1 _) ?_; intro u3 w3 hown gu _ au; clear au)
        have own3 : Own w3 w0.heap.size 68 6 encKnown u3 (out ++ [k]) := by unfold Own; rw [List.length_append, List.flatMap_append]; simpa using hown
        have K3 : Kp w0.heap.size none w0 w3 := (K1.alloc hs1 _).trans (Kp.of_own (Own.alloc own _) gu (alloc_ge hs1 _))
        clear hown gu
        clear cb c0 c1 c2 c3 c4 c5 own K1 hs1
        obtain ⟨c0, c1, c2, c3, c4, c5⟩ := hcell.out w3 K3
        have hs3 : w0.heap.size ≤ w3.heap.size := K3.size
        replace hj := Lib.hid hj
        replace hbf := Lib.hid hbf
        go_wp2_with (at_builtin; refine wpList_append_own_at _ (by rfl) (.tmp 45) (.tmp 50) 37 (by rfl) w0.heap.size 68 i0 _ 6 48 Tryz.underlying37 hi0 hz0 hz1 hz2 (by rfl) (by omega) _ (out ++ [k]).length ((out ++ [k]).flatMap encKnown) (by rfl) (Own.alloc own3 _) ⟨w3.heap.size, 0, none⟩ 1 1 (encKnown y) (by rfl) (by rfl) (list_new _ _ _) (one_known y) (maxLen_of (by first | omega | (simp; omega))) (by first | omega | (simp; omega)) (alloc_ge hs3 _) ?_; intro u4 w4 hown gu _ au; clear au)
        have own4 : Own w4 w0.heap.size 68 6 encKnown u4 ((out ++ [k]) ++ [y]) := by unfold Own; rw [List.length_append, List.flatMap_append]; simpa using hown
        have K4 : Kp w0.heap.size none w0 w4 := (K3.alloc hs3 _).trans (Kp.of_own (Own.alloc own3 _) gu (alloc_ge hs3 _))
        clear hown gu
        exact ⟨⟨n + 1, out ++ [k] ++ [y], bf, true, rfl, h7.out, rfl, rfl, by simp at hol ⊢; omega, by rw [← hj.out]; simp, hbf.out, own4, K4⟩, by have := h7.out; simp [intOf]; omega⟩
      · rw [if_neg e2] at hj
        by_cases e3 : k.target < y.target
        · have e4 : put = true := by cases put; exact absurd ⟨e3, rfl⟩ e2; rfl
          subst e4
          clear e2
          go_wp2_with fail
          go_quiet (fail)
          replace own := own.kpN ((Kp.refl _ _ w1).drewN nq)
          replace K1 := K1.drewN nq
          clear cb c0 c1 c2 c3 c4 c5
          generalize w1.drewN nq = w2 at own K1 ⊢
          clear nq
          have cb := fun i => (hB.kpN K1).cell i
          obtain ⟨c0, c1, c2, c3, c4, c5⟩ := hcell.out w2 K1
          have hs1 : w0.heap.size ≤ w2.heap.size := K1.size
          replace hj := Lib.hid hj
          replace hbf := Lib.hid hbf
          go_wp2_with (at_builtin; refine wpList_append_own_at _ (by rfl) (.tmp 45) (.tmp 50) 37 (by rfl) w0.heap.size 68 i0 _ 6 48 Tryz.underlying37 hi0 hz0 hz1 hz2 (by rfl) (by omega) _ (out).length ((out).flatMap encKnown) (by rfl) (Own.alloc own _) ⟨w2.heap.size, 0, none⟩ 1 1 (encKnown y) (by rfl) (by rfl) (list_new _ _ _) (one_known y) (maxLen_of (by first | omega | (simp; omega))) (by first | omega | (simp; omega)) (alloc_ge hs1 _) ?_; intro u4 w4 hown gu _ au; clear au)
          have own4 : Own w4 w0.heap.size 68 6 encKnown u4 (out ++ [y]) := by unfold Own; rw [List.length_append, List.flatMap_append]; simpa using hown
          have K4 : Kp w0.heap.size none w0 w4 := (K1.alloc hs1 _).trans (Kp.of_own (Own.alloc own _) gu (alloc_ge hs1 _))
          clear hown gu
          exact ⟨⟨n + 1, out ++ [y], bf, true, rfl, h7.out, rfl, rfl, by simp at hol ⊢; omega, by rw [← hj.out]; simp, hbf.out, own4, K4⟩, by have := h7.out; simp [intOf]; omega⟩
        · have e5 : decide (k.target < y.target) = false := decide_eq_false e3
          cases put
          case false =>
            clear e2
            go_wp2_with fail
            go_quiet (fail)
            replace own := own.kpN ((Kp.refl _ _ w1).drewN nq)
            replace K1 := K1.drewN nq
            clear cb c0 c1 c2 c3 c4 c5
            generalize w1.drewN nq = w2 at own K1 ⊢
            clear nq
            have cb := fun i => (hB.kpN K1).cell i
            obtain ⟨c0, c1, c2, c3, c4, c5⟩ := hcell.out w2 K1
            have hs1 : w0.heap.size ≤ w2.heap.size := K1.size
            replace hj := Lib.hid hj
            replace hbf := Lib.hid hbf
            go_wp2_with (at_builtin; refine wpList_append_own_at _ (by rfl) (.tmp 45) (.tmp 50) 37 (by rfl) w0.heap.size 68 i0 _ 6 48 Tryz.underlying37 hi0 hz0 hz1 hz2 (by rfl) (by omega) _ (out).length ((out).flatMap encKnown) (by rfl) (Own.alloc own _) ⟨w2.heap.size, 0, none⟩ 1 1 (encKnown y) (by rfl) (by rfl) (list_new _ _ _) (one_known y) (maxLen_of (by first | omega | (simp; omega))) (by first | omega | (simp; omega)) (alloc_ge hs1 _) ?_; intro u4 w4 hown gu _ au; clear au)
            have own4 : Own w4 w0.heap.size 68 6 encKnown u4 (out ++ [y]) := by unfold Own; rw [List.length_append, List.flatMap_append]; simpa using hown
            have K4 : Kp w0.heap.size none w0 w4 := (K1.alloc hs1 _).trans (Kp.of_own (Own.alloc own _) gu (alloc_ge hs1 _))
            clear hown gu
            exact ⟨⟨n + 1, out ++ [y], bf, false, rfl, h7.out, rfl, rfl, by simp at hol ⊢; omega, by rw [← hj.out]; simp, hbf.out, own4, K4⟩, by have := h7.out; simp [intOf]; omega⟩
          case true =>
            clear e2
            go_wp2_with fail
            go_quiet (fail)
            replace own := own.kpN ((Kp.refl _ _ w1).drewN nq)
            replace K1 := K1.drewN nq
            clear cb c0 c1 c2 c3 c4 c5
            generalize w1.drewN nq = w2 at own K1 ⊢
            clear nq
            have cb := fun i => (hB.kpN K1).cell i
            obtain ⟨c0, c1, c2, c3, c4, c5⟩ := hcell.out w2 K1
            have hs1 : w0.heap.size ≤ w2.heap.size := K1.size
            replace hj := Lib.hid hj
            replace hbf := Lib.hid hbf
            go_wp2_with (at_builtin; refine wpList_append_own_at _ (by rfl) (.tmp 45) (.tmp 50) 37 (by rfl) w0.heap.size 68 i0 _ 6 48 Tryz.underlying37 hi0 hz0 hz1 hz2 (by rfl) (by omega) _ (out).length ((out).flatMap encKnown) (by rfl) (Own.alloc own _) ⟨w2.heap.size, 0, none⟩ 1 1 (encKnown y) (by rfl) (by rfl) (list_new _ _ _) (one_known y) (maxLen_of (by first | omega | (simp; omega))) (by first | omega | (simp; omega)) (alloc_ge hs1 _) ?_; intro u4 w4 hown gu _ au; clear au)
            have own4 : Own w4 w0.heap.size 68 6 encKnown u4 (out ++ [y]) := by unfold Own; rw [List.length_append, List.flatMap_append]; simpa using hown
            have K4 : Kp w0.heap.size none w0 w4 := (K1.alloc hs1 _).trans (Kp.of_own (Own.alloc own _) gu (alloc_ge hs1 _))
            clear hown gu
            exact ⟨⟨n + 1, out ++ [y], bf, true, rfl, h7.out, rfl, rfl, by simp at hol ⊢; omega, by rw [← hj.out]; simp, hbf.out, own4, K4⟩, by have := h7.out; simp [intOf]; omega⟩
    · have he : n = l.length := by omega
      have hi' : ¬ (n : Int) < (l.length : Int) := by omega
      rw [he, List.drop_length] at hj hbf
      have hbf2 : bf = befW k 0 l := hbf
      rw [hbf2]
      have KK0 := KK
      replace KK := KK.thenN K1 (Nat.le_refl _)
      have hs1 : w0.heap.size ≤ wr.heap.size := K1.size
      have hw0 : w.heap.size ≤ w0.heap.size := by have := hB.lt; omega
      clear h7 hbf hbf2 hol
      subst he
      cases put
      case true =>
        have hj2 := Lib.hid (show out = restW k false l by simpa [restW] using hj)
        clear hj
        replace own := Lib.hid own
        go_wp2_with fail
        exact bodyPost_ret (v := .tuple #[u6, .int .i64 (befW k 0 l)]) (by simp [results, Tryz.results94, go_sem]) rfl ⟨_, rfl, by rw [← hj2.out]; exact own.out.low hw0, KK⟩
      case false =>
        have hj2 := Lib.hid (show out ++ [k] = restW k false l by simpa [restW] using hj)
        clear hj
        go_wp2_with (at_builtin; refine wpList_append_own_at _ (by rfl) (.tmp 54) (.tmp 56) 37 (by rfl) w0.heap.size 68 i0 _ 6 48 Tryz.underlying37 hi0 hz0 hz1 hz2 (by rfl) (by omega) _ (out).length ((out).flatMap encKnown) (by rfl) (Own.alloc own _) ⟨wr.heap.size, 0, none⟩ 1 1 (encKnown k) (by rfl) (by rfl) (list_new _ _ _) (one_known k) (maxLen_of (by first | omega | (simp; omega))) (by first | omega | (simp; omega)) (alloc_ge hs1 _) ?_; intro u4 w4 hown gu _ au; clear au)
        have own4 : Own w4 w0.heap.size 68 6 encKnown u4 (out ++ [k]) := by unfold Own; rw [List.length_append, List.flatMap_append]; simpa using hown
        have K4 : Kp w0.heap.size none w0 w4 := (K1.alloc hs1 _).trans (Kp.of_own (Own.alloc own _) gu (alloc_ge hs1 _))
        clear hown gu
        exact bodyPost_ret (v := .tuple #[u4, .int .i64 (befW k 0 l)]) (by simp [results, Tryz.results94, go_sem]) rfl ⟨_, rfl, by rw [← hj2.out]; exact own4.low hw0, KK0.trans (K4.mono hw0)⟩
end Go.Proofs.YtogpgnljomchcaaGreat
