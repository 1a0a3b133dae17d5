/- slices.Insert of one Known into a row of one's own. -/
import Derived.Test.YtogpgnljomchcaaGreatHg
import Derived.Shelf.Spec.SlicesInsertGrow
namespace Go.Proofs.YtogpgnljomchcaaGreat
open Go.RowKit

theorem info_known : (Tryz.prog.info? 68).map (fun i => (i.zero, i.size, i.bytes)) = some (some (.agg #[.int .i64 0, .int .i64 0, .int .i64 0, .int .i64 0, .int .i64 0, .int .i64 0]), 6, 48) := by kernel_rfl
theorem encKnown_len (x : Known) : (encKnown x).length = 6 := rfl
theorem one_known (x : Known) : ∀ u ∈ encKnown x, u.oneCell' = true := by
  intro u hu
  simp [encKnown] at hu
  rcases hu with rfl | rfl | rfl | rfl | rfl | rfl <;> rfl
theorem one_knowns (xs : List Known) : ∀ u ∈ xs.flatMap encKnown, u.oneCell' = true := by
  intro u hu
  obtain ⟨x, _, hx⟩ := List.mem_flatMap.1 hu
  exact one_known x u hx
/-- copy, for elements of k cells -/
theorem run_copy_rowK {P : Program} (w : World) (dT sT ty elem : TypeId) (g o dLen dCap : Nat) (a : Addr) (sLen sCap : Nat) (cur : Array Value) (t : TypeId) (cs : List Value) (k m : Nat)
    (hu : P.underlying dT = some (.slice elem)) (hs : (P.info? elem).map (·.size) = some k)
    (hg : w.heap[g]? = some (.cells cur t (0, 0))) (hn : m = Nat.min sLen dLen) (hl : cs.length = m * k)
    (hsrc : ∀ j v, cs[j]? = some v → w.cell? (a.add j) = some v) (hfit : o + cs.length ≤ cur.size) (h1 : ∀ v ∈ cs, v.oneCell' = true) :
    (Builtin.copy_ #[dT, sT] ty #[.slice (some ⟨g, o, none⟩) dLen dCap, .slice (some a) sLen sCap]).run P w =
      .ok (goInt m) (w.setRow g (cur.toList.take o ++ cs ++ cur.toList.drop (o + cs.length)).toArray) := by
  have hst := run_storeCells_at P g o t cs 0 cur w hg (by simpa using hfit) h1
  cases hq : P.info? elem with
  | none => simp [hq] at hs
  | some i =>
    have hi : i.size = k := by simpa [hq] using hs
    have hf := run_firstCells_some (P := P) w i.size m a sLen sCap cs (by rw [hi]; exact hl) hsrc
    subst hn
    simp [Builtin.copy_, run_underlying hu, Builtin.lenOf, sizeOf, typeInfo, hq, hf, hst]
theorem shape_row {w : World} {g : Nat} {cur : Array Value} {t : TypeId} (h : w.heap[g]? = some (.cells cur t (0, 0))) : w.shape? g = some (t, cur.size) := by
  simp [World.shape?, h]
def InsPost (B : Nat) (s : Value) (ys : List Known) (w : World) (e : Ending) (w' : World) : Prop :=
  ∃ u, e = .returned u ∧ Own w' B 68 6 encKnown u ys ∧ w.grownBy w' s.ownBlock ∧ (u.ownBlock = s.ownBlock ∨ ∀ b, u.ownBlock = some b → w.heap.size ≤ b)
set_option maxRecDepth 20000 in
set_option maxHeartbeats 1000000 in
theorem insertEnd_any (B : Nat) (s : Value) (xs : List Known) (k : Known) (vb vc : Nat) (w : World) (ho : Own w B 68 6 encKnown s xs) (hB : B ≤ w.heap.size) (hn : xs.length ≤ 5000)
    (hv : ∀ j v, (encKnown k)[j]? = some v → w.cell? ((⟨vb, 0, none⟩ : Addr).add j) = some v) :
    Calls Tryz.prog 80 #[s, .int .i64 xs.length, .slice (some ⟨vb, 0, none⟩) 1 vc] w (InsPost B s (xs ++ [k]) w) := by
  obtain ⟨i0, hi, hz0, hz1, hz2⟩ := info_parts info_known
  obtain ⟨A, cap, e1, -, -⟩ := ho.rd0 (fun _ => rfl)
  subst e1
  replace ho := Lib.hid ho
  have hi' : ¬ (xs.length : Int) < 0 := by omega
  go_enter Tryz.func80, Tryz.ntmps80
  go_wp2_with (at_builtin; refine wpList_append_own_at _ (by rfl) (.tmp 23) (.tmp 24) 37 (by rfl) B 68 i0 _ 6 48 Tryz.underlying37 hi hz0 hz1 hz2 (by rfl) (by omega) (.slice A xs.length cap) xs.length (xs.flatMap encKnown) (by rfl) ho.out ⟨vb, 0, none⟩ 1 vc (encKnown k) (by rfl) (by rfl) hv (one_known k) (maxLen_of (by omega)) (by omega) hB ?_; intro v4 w4 hown4 hgrow _ hat)
  all_goals
    refine bodyPost_ret (v := v4) (by simp [results, Tryz.results80, go_sem]) rfl ⟨v4, rfl, ?_, ?_, ?_⟩
    · unfold Own; rw [List.length_append, List.flatMap_append]; simpa [encKnown] using hown4
    · cases A <;> exact hgrow
    · rcases hat with h1 | h1
      · left; cases A <;> exact h1
      · right; intro b hb'; rw [h1] at hb'; injection hb' with hb'; omega
theorem take_app {α : Type} (a b : List α) (n : Nat) (h : a.length = n) : (a ++ b).take n = a := by rw [← h]; simp
theorem drop_app {α : Type} (a b : List α) (n : Nat) (h : a.length = n) : (a ++ b).drop n = b := by rw [← h]; simp
theorem flat_take {α : Type} {enc : α → List Value} {sz : Nat} (he : ∀ x, (enc x).length = sz) (xs : List α) (i : Nat) (hi : i ≤ xs.length) : (xs.flatMap enc).take (i * sz) = (xs.take i).flatMap enc := by
  have h : xs = xs.take i ++ xs.drop i := (List.take_append_drop i xs).symm
  conv => lhs; rw [h, List.flatMap_append]
  exact take_app _ _ _ (by rw [flat_len he, List.length_take, Nat.min_eq_left hi])
theorem flat_drop {α : Type} {enc : α → List Value} {sz : Nat} (he : ∀ x, (enc x).length = sz) (xs : List α) (i : Nat) (hi : i ≤ xs.length) : (xs.flatMap enc).drop (i * sz) = (xs.drop i).flatMap enc := by
  have h : xs = xs.take i ++ xs.drop i := (List.take_append_drop i xs).symm
  conv => lhs; rw [h, List.flatMap_append]
  exact drop_app _ _ _ (by rw [flat_len he, List.length_take, Nat.min_eq_left hi])
theorem encKnowns_len (xs : List Known) : (xs.flatMap encKnown).length = xs.length * 6 := flat_len (enc := encKnown) (fun _ => rfl) xs
theorem insPost_row {B g cap : Nat} {s : Value} {ys : List Known} {w w' : World} {cur : Array Value} (hB : B ≤ g) (hs : cur.size = cap * 6) (hcm : cap ≤ maxLen) (hl : ys.length ≤ cap)
    (ht : cur.toList.take (ys.length * 6) = ys.flatMap encKnown) (hh : w'.heap[g]? = some (.cells cur 68 (0, 0))) (hg : w.grownBy w' s.ownBlock) (hat : s.ownBlock = some g ∨ w.heap.size ≤ g) :
    InsPost B s ys w (.returned (.slice (some ⟨g, 0, none⟩) ys.length cap)) w' :=
  ⟨_, rfl, ⟨encKnowns_len ys, .inr ⟨g, cap, cur, rfl, hB, hh, hl, hcm, hs, ht⟩⟩, hg, hat.elim (fun h => .inl h.symm) (fun h => .inr fun b e => by simp only [Value.ownBlock, Option.some.injEq] at e; omega)⟩
def cur1 (cur : List Value) (xs : List Known) (i : Nat) : List Value := cur.take ((i + 1) * 6) ++ (xs.drop i).flatMap encKnown ++ cur.drop ((i + 1) * 6 + ((xs.drop i).flatMap encKnown).length)
def cur2 (cur : List Value) (xs : List Known) (k : Known) (i : Nat) : List Value := (cur1 cur xs i).take (i * 6) ++ encKnown k ++ (cur1 cur xs i).drop (i * 6 + (encKnown k).length)
theorem ins_room {cur : List Value} {xs : List Known} (k : Known) {i : Nat} (hi : i ≤ xs.length) (ht : cur.take (xs.length * 6) = xs.flatMap encKnown) (hs : (xs.length + 1) * 6 ≤ cur.length) :
    (cur1 cur xs i).length = cur.length ∧ (cur2 cur xs k i).length = cur.length ∧ (cur2 cur xs k i).take ((xs.length + 1) * 6) = (xs.take i ++ k :: xs.drop i).flatMap encKnown := by
  have l1 : ((xs.drop i).flatMap encKnown).length = (xs.length - i) * 6 := by rw [encKnowns_len, List.length_drop]
  have l0 : ((xs.take i).flatMap encKnown).length = i * 6 := by rw [encKnowns_len, List.length_take, Nat.min_eq_left hi]
  have t0 : cur.take (i * 6) = (xs.take i).flatMap encKnown := by
    rw [← flat_take (enc := encKnown) (sz := 6) (fun _ => rfl) xs i hi, ← ht, List.take_take, Nat.min_eq_left (by omega)]
  have h1 : (cur1 cur xs i).length = cur.length := by
    unfold cur1
    simp only [List.length_append, List.length_take, List.length_drop, l1]
    omega
  have h2 : (cur1 cur xs i).take (i * 6) = (xs.take i).flatMap encKnown := by
    unfold cur1
    rw [List.append_assoc, List.take_append_of_le_length (by rw [List.length_take]; omega), List.take_take, Nat.min_eq_left (by omega), t0]
  have h3 : (cur1 cur xs i).drop (i * 6 + (encKnown k).length) = (xs.drop i).flatMap encKnown ++ cur.drop ((i + 1) * 6 + ((xs.drop i).flatMap encKnown).length) := by
    unfold cur1
    rw [List.append_assoc]
    exact drop_app _ _ _ (by rw [List.length_take, encKnown_len]; omega)
  refine ⟨h1, ?_, ?_⟩
  · unfold cur2
    simp only [List.length_append, List.length_take, List.length_drop, h1, encKnown_len]
    omega
  · unfold cur2
    rw [h2, h3, ← List.append_assoc, take_app _ _ _ (by simp only [List.length_append, l0, l1, encKnown_len]; omega), List.flatMap_append, List.flatMap_cons, List.append_assoc]
set_option maxRecDepth 20000 in
set_option maxHeartbeats 2000000 in
theorem insertRoom_any (B g cap i : Nat) (xs : List Known) (k : Known) (vb vc : Nat) (vcur : Array Value) (w : World) (ho : Own w B 68 6 encKnown (.slice (some ⟨g, 0, none⟩) xs.length cap) xs) (hB : B ≤ w.heap.size) (hn : xs.length ≤ 5000)
    (hii : i < xs.length) (hroom : xs.length + 1 ≤ cap) (hne : vb ≠ g) (hvb : Blk w vb 68 #[.int .i64 k.target, .int .i64 k.level, .int .i64 k.item, .int .i64 k.chance.least, .int .i64 k.chance.most, .int .i64 k.chance.all]) :
    Calls Tryz.prog 80 #[.slice (some ⟨g, 0, none⟩) xs.length cap, .int .i64 i, .slice (some ⟨vb, 0, none⟩) 1 vc] w (InsPost B (.slice (some ⟨g, 0, none⟩) xs.length cap) (xs.take i ++ k :: xs.drop i) w) := by
  obtain ⟨i0, hi, hz0, hz1, hz2⟩ := info_parts info_known
  rcases ho.2 with ⟨h1, _⟩ | ⟨g', cap', cur, h1, hBg, hheap, hnc, hcm, hcs, htake⟩
  · cases h1
  simp only [Value.slice.injEq, Option.some.injEq, Addr.mk.injEq, and_true, true_and] at h1
  obtain ⟨rfl, rfl⟩ := h1
  have hsz : (Tryz.prog.info? 68).map (·.size) = some 6 := by rw [hi]; simp [hz1]
  have hc63 : cap ≤ 9223372036854775807 := by simpa [maxLen] using hcm
  have hov : ∀ lb cb, (callFunc 101 #[.slice (some ⟨vb, 0, none⟩) 1 vc, .slice (some ⟨g, (i + 1) * 6, none⟩) lb cb]).run Tryz.prog w = .ok (.value (.bool false)) w := fun lb cb => by
    rw [run_callFunc_extern Tryz.func101 (by kernel_rfl) (by kernel_rfl) (by kernel_rfl) (e := Extern.SlicesOverlaps.overlaps #[37, 37] #[4]) (by kernel_rfl),
      Lib.run_overlaps_apart w 37 4 68 Tryz.underlying37 6 Tryz.sizeOf68 ⟨vb, 0, none⟩ ⟨g, (i + 1) * 6, none⟩ 1 vc lb cb hne _ _ _ _ (shape_row hvb) (shape_row hheap) (by omega) (hvb.frozen 0) (hvb.frozen _)]
    rfl
  have hz2' : ¬ ((i : Int) = (xs.length : Int)) := by omega
  obtain ⟨q1, q2, q3⟩ := ins_room (cur := cur.toList) k (i := i) (by omega) htake (by rw [Array.length_toList (xs := cur), hcs]; omega)
  have ld : ((xs.drop i).flatMap encKnown).length = (xs.length - i) * 6 := by rw [encKnowns_len, List.length_drop]
  have hcp1 : ∀ ty dc sc, (Builtin.copy_ #[37, 37] ty #[.slice (some ⟨g, (i + 1) * 6, none⟩) (xs.length - i) dc, .slice (some ⟨g, i * 6, none⟩) (xs.length + 1 - i) sc]).run Tryz.prog w.drew =
      .ok (goInt (xs.length - i : Nat)) (w.drew.setRow g (cur1 cur.toList xs i).toArray) := fun ty dc sc =>
    run_copy_rowK w.drew _ _ ty 68 g ((i + 1) * 6) (xs.length - i) dc ⟨g, i * 6, none⟩ (xs.length + 1 - i) sc cur 68 _ 6 (xs.length - i) Tryz.underlying37 hsz hheap (by simp only [Nat.min_def]; split <;> omega) ld
      (fun j v hj => by
        rw [Addr.add_lit, World.cell?_drew, cell_of_row w g _ cur _ (0, 0) hheap]
        rw [← flat_drop (enc := encKnown) (sz := 6) (fun _ => rfl) xs i (by omega), ← htake, List.getElem?_drop, List.getElem?_take] at hj
        split at hj
        · simpa using hj
        · cases hj)
      (by rw [ld, hcs]; omega) (fun v hv => one_knowns _ v hv)
  have hw1 : IntKind.i64.wrap ((i : Int) + 1) = (i : Int) + 1 := by rw [IntKind.wrap_i64]; omega
  have hb1 : (0 : Int) ≤ (i : Int) + 1 := by omega
  have hin : i ≤ xs.length := by omega
  have hin2 : (i : Int) ≤ xs.length := by omega
  have htn : ((i : Int) + 1).toNat = i + 1 := by omega
  have hb2 : ¬ (cap = i + 1) := by omega
  have hb3 : (i : Int) + 1 ≤ (xs.length : Int) + 1 := by omega
  have hb4 : ¬ (cap = i) := by omega
  have hb5 : (i : Int) ≤ (xs.length : Int) + 1 := by omega
  have mixed : Tryz.prog.follows .mixedOrders = true := by kernel_rfl
  obtain ⟨W1, hW1⟩ : ∃ W1, W1 = w.drew.setRow g (cur1 cur.toList xs i).toArray := ⟨_, rfl⟩
  have hh1 : W1.heap[g]? = some (.cells (cur1 cur.toList xs i).toArray 68 (0, 0)) := by rw [hW1]; exact setRow_heap _ _ _ _ _ _ hheap
  have hcp2 : ∀ (W : World), W.heap = W1.heap → ∀ ty dc, (Builtin.copy_ #[37, 37] ty #[.slice (some ⟨g, i * 6, none⟩) (xs.length + 1 - i) dc, .slice (some ⟨vb, 0, none⟩) 1 vc]).run Tryz.prog W =
      .ok (goInt (1 : Nat)) (W.setRow g (cur2 cur.toList xs k i).toArray) := fun W hW ty dc =>
    run_copy_rowK W _ _ ty 68 g (i * 6) (xs.length + 1 - i) dc ⟨vb, 0, none⟩ 1 vc _ 68 (encKnown k) 6 1 Tryz.underlying37 hsz (by rw [hW]; exact hh1) (by simp only [Nat.min_def]; split <;> omega) rfl
      (fun j v hj => by
        have e1 : W.cell? ((⟨vb, 0, none⟩ : Addr).add j) = w.cell? ((⟨vb, 0, none⟩ : Addr).add j) := World.cell?_of_block (by rw [hW, hW1]; exact setRow_other _ _ _ _ (by rw [Addr.add_lit]; exact hne))
        rw [e1, Addr.add_lit, Nat.zero_add, hvb.cell]
        exact (show (encKnown k).toArray[j]? = some v by simpa using hj))
      (by show _ ≤ (cur1 cur.toList xs i).toArray.size; rw [List.size_toArray, q1, Array.length_toList (xs := cur), hcs, encKnown_len]; omega) (one_known k)
  rw [← hW1] at hcp1
  go_enter Tryz.func80, Tryz.ntmps80
  go_wp2_with (simp only [hov])
  go_region_law_o (refine step_copy_runI rfl _ _ 37 37 rfl _ _ (by simp [Act.eval, Act.put]) (by simp [Act.eval, Act.put]) (hcp1 _ _ _) ?_)
  go_wp2_with (at_builtin; refine wpList_copy_runI _ rfl _ _ 37 37 rfl _ _ rfl rfl (hcp2 _ rfl _ _) ?_)
  have hyl : (xs.take i ++ k :: xs.drop i).length = xs.length + 1 := by simp; omega
  have fin := insPost_row (B := B) (g := g) (cap := cap) (s := .slice (some ⟨g, 0, none⟩) xs.length cap) (ys := xs.take i ++ k :: xs.drop i) (w := w) (w' := (w.drew.setRow g (cur1 cur.toList xs i).toArray).setRow g (cur2 cur.toList xs k i).toArray) hBg
    (by rw [List.size_toArray, q2, Array.length_toList (xs := cur), hcs]) hcm (by rw [hyl]; exact hroom) (by rw [hyl]; exact q3) (setRow_heap _ _ _ _ _ _ (setRow_heap _ _ _ _ _ _ hheap))
    ⟨rfl, rfl, rfl, by simp, fun j hj hne => by have : j ≠ g := fun q => hne (by rw [q]; rfl); rw [setRow_other _ _ _ _ this, setRow_other _ _ _ _ this]; rfl⟩ (.inl rfl)
  rw [hyl] at fin
  go_ret
  exact fin
/-- one more behind a place, no room -/
def rowG1 (R : List Value) (k : Known) (i : Nat) : List Value := R.take (i * 6) ++ encKnown k ++ R.drop (i * 6 + (encKnown k).length)
def rowG2 (R : List Value) (xs : List Known) (k : Known) (i : Nat) : List Value := (rowG1 R k i).take ((i + 1) * 6) ++ (xs.drop i).flatMap encKnown ++ (rowG1 R k i).drop ((i + 1) * 6 + ((xs.drop i).flatMap encKnown).length)
theorem ins_grow {R : List Value} {xs : List Known} (k : Known) {i : Nat} (hi : i ≤ xs.length) (ht : R.take (i * 6) = (xs.take i).flatMap encKnown) (hs : (xs.length + 1) * 6 ≤ R.length) :
    (rowG1 R k i).length = R.length ∧ (rowG2 R xs k i).length = R.length ∧ (rowG2 R xs k i).take ((xs.length + 1) * 6) = (xs.take i ++ k :: xs.drop i).flatMap encKnown := by
  have l1 : ((xs.drop i).flatMap encKnown).length = (xs.length - i) * 6 := by rw [encKnowns_len, List.length_drop]
  have l0 : ((xs.take i).flatMap encKnown).length = i * 6 := by rw [encKnowns_len, List.length_take, Nat.min_eq_left hi]
  have h1 : (rowG1 R k i).length = R.length := by
    unfold rowG1
    simp only [List.length_append, List.length_take, List.length_drop, encKnown_len]
    omega
  have h2 : (rowG1 R k i).take ((i + 1) * 6) = (xs.take i).flatMap encKnown ++ encKnown k := by
    unfold rowG1
    rw [ht]
    exact take_app _ _ _ (by rw [List.length_append, l0, encKnown_len]; omega)
  refine ⟨h1, ?_, ?_⟩
  · unfold rowG2
    simp only [List.length_append, List.length_take, List.length_drop, h1, l1]
    omega
  · unfold rowG2
    rw [h2, take_app _ _ _ (by simp only [List.length_append, l0, l1, encKnown_len]; omega), List.flatMap_append, List.flatMap_cons, List.append_assoc]
set_option maxRecDepth 20000 in
set_option maxHeartbeats 2000000 in
theorem insertGrow_any (B g cap i : Nat) (xs : List Known) (k : Known) (vb vc : Nat) (w : World) (ho : Own w B 68 6 encKnown (.slice (some ⟨g, 0, none⟩) xs.length cap) xs) (hB : B ≤ w.heap.size) (hn : xs.length ≤ 5000)
    (hii : i < xs.length) (hnr : cap < xs.length + 1) (hne : vb ≠ g) (hvb : Blk w vb 68 #[.int .i64 k.target, .int .i64 k.level, .int .i64 k.item, .int .i64 k.chance.least, .int .i64 k.chance.most, .int .i64 k.chance.all]) :
    Calls Tryz.prog 80 #[.slice (some ⟨g, 0, none⟩) xs.length cap, .int .i64 i, .slice (some ⟨vb, 0, none⟩) 1 vc] w (InsPost B (.slice (some ⟨g, 0, none⟩) xs.length cap) (xs.take i ++ k :: xs.drop i) w) := by
  obtain ⟨i0, hi, hz0, hz1, hz2⟩ := info_parts info_known
  rcases ho.2 with ⟨h1, _⟩ | ⟨g', cap', cur, h1, hBg, hheap, hnc, hcm, hcs, htake⟩
  · cases h1
  simp only [Value.slice.injEq, Option.some.injEq, Addr.mk.injEq, and_true, true_and] at h1
  obtain ⟨rfl, rfl⟩ := h1
  have hgw : g < w.heap.size := (Array.getElem?_eq_some_iff.1 hheap).1
  have hvw : vb < w.heap.size := hvb.lt
  have hsz : (Tryz.prog.info? 68).map (·.size) = some 6 := by rw [hi]; simp [hz1]
  have lt0 : ((xs.take i).flatMap encKnown).length = i * 6 := by rw [encKnowns_len, List.length_take, Nat.min_eq_left (by omega)]
  have ld : ((xs.drop i).flatMap encKnown).length = (xs.length - i) * 6 := by rw [encKnowns_len, List.length_drop]
  have hkk : (xs.length : Int) + 1 - (i : Int) = ((xs.length + 1 - i : Nat) : Int) := by omega
  have hik : i + (xs.length + 1 - i) = xs.length + 1 := by omega
  have hold : (Builtin.firstCells i0.size i (.slice (some ⟨g, 0, none⟩) i cap)).run Tryz.prog w.drew = .ok ((xs.take i).flatMap encKnown).toArray w.drew := by
    rw [hz1]
    refine run_firstCells_some w.drew 6 i ⟨g, 0, none⟩ i cap ((xs.take i).flatMap encKnown) lt0 (fun j v hj => ?_)
    rw [Addr.add_lit, World.cell?_drew, Nat.zero_add, cell_of_row w g _ cur _ (0, 0) hheap]
    rw [← flat_take (enc := encKnown) (sz := 6) (fun _ => rfl) xs i (by omega), ← htake, List.take_take, List.getElem?_take] at hj
    split at hj
    · simpa using hj
    · cases hj
  obtain ⟨z, hz, hzc⟩ : ∃ z, i0.zero = some z ∧ z.cells.size = 6 := ⟨_, hz0, by rfl⟩
  have hrz : ∀ ty, (Builtin.append_ #[37, 3] ty #[.slice (some ⟨g, 0, none⟩) i cap, .int .i64 ((xs.length : Int) + 1 - (i : Int))]).run Tryz.prog w =
      .ok (.slice (some ⟨w.heap.size, 0, none⟩) (xs.length + 1) (grownCap w (xs.length + 1) cap 68)) (w.drew.alloc (.cells (((xs.take i).flatMap encKnown).toArray ++ Builtin.zeroCells z.cells (xs.length + 1 - i) ++ Builtin.zeroCells z.cells (grownCap w (xs.length + 1) cap 68 - (xs.length + 1))) 68)) := fun ty => by
    have h := Lib.run_append_grow_zeros w 37 3 ty 68 i0 _ .i64 .i64 Tryz.underlying37 Tryz.underlying3 hi hz (some ⟨g, 0, none⟩) i cap ((xs.take i).flatMap encKnown) hold (xs.length + 1 - i) (by omega) (by omega) (by omega) (by omega) (by rw [hz2]; omega) (by rw [hz2, hik]; exact growslice_fits hnr (by omega))
    rw [hik] at h
    rw [hkk]
    exact h
  obtain ⟨G, hG⟩ : ∃ G, G = grownCap w (xs.length + 1) cap 68 := ⟨_, rfl⟩
  obtain ⟨ROW, hROW⟩ : ∃ ROW : Array Value, ROW = ((xs.take i).flatMap encKnown).toArray ++ Builtin.zeroCells z.cells (xs.length + 1 - i) ++ Builtin.zeroCells z.cells (G - (xs.length + 1)) := ⟨_, rfl⟩
  rw [← hG, ← hROW] at hrz
  have hGn : xs.length + 1 ≤ G := by rw [hG]; exact grownCap_ge w _ _ _
  have hGm : G ≤ maxLen := by rw [hG]; exact grownCap_le_maxLen w (xs.length + 1) cap 68 (by unfold maxLen; omega)
  have hG63 : G ≤ 9223372036854775807 := by unfold maxLen at hGm; omega
  have hRl : ROW.size = G * 6 := by
    rw [hROW]
    rw [Array.size_append, Array.size_append, List.size_toArray, lt0, size_zeroCells, size_zeroCells, hzc]
    omega
  have hRt : ROW.toList.take (i * 6) = (xs.take i).flatMap encKnown := by
    rw [hROW]
    simp only [Array.toList_append, List.append_assoc]
    exact take_app _ _ _ lt0
  clear hkk hik hold hROW hG
  obtain ⟨q1, q2, q3⟩ := ins_grow (R := ROW.toList) (xs := xs) k (i := i) (by omega) hRt (by rw [Array.length_toList (xs := ROW), hRl]; omega)
  obtain ⟨W1, hW1⟩ : ∃ W1, W1 = w.drew.alloc (.cells ROW 68) := ⟨_, rfl⟩
  rw [← hW1] at hrz
  have hh1 : W1.heap[w.heap.size]? = some (.cells ROW 68 (0, 0)) := by rw [hW1]; exact heap_alloc_new w.drew _
  have ho1 : ∀ j, j < w.heap.size → W1.heap[j]? = w.heap[j]? := fun j hj => by rw [hW1]; exact heap_alloc_old w.drew _ hj
  have hcpA : ∀ (W : World), W.heap = W1.heap → ∀ ty dc, (Builtin.copy_ #[37, 37] ty #[.slice (some ⟨w.heap.size, i * 6, none⟩) (xs.length + 1 - i) dc, .slice (some ⟨vb, 0, none⟩) 1 vc]).run Tryz.prog W =
      .ok (goInt (1 : Nat)) (W.setRow w.heap.size (rowG1 ROW.toList k i).toArray) := fun W hW ty dc =>
    run_copy_rowK W _ _ ty 68 w.heap.size (i * 6) (xs.length + 1 - i) dc ⟨vb, 0, none⟩ 1 vc _ 68 (encKnown k) 6 1 Tryz.underlying37 hsz (by rw [hW]; exact hh1) (by simp only [Nat.min_def]; split <;> omega) rfl
      (fun j v hj => by
        have e1 : W.cell? ((⟨vb, 0, none⟩ : Addr).add j) = w.cell? ((⟨vb, 0, none⟩ : Addr).add j) := World.cell?_of_block (by rw [hW]; exact ho1 _ (by rw [Addr.add_lit]; exact hvw))
        rw [e1, Addr.add_lit, Nat.zero_add, hvb.cell]
        exact (show (encKnown k).toArray[j]? = some v by simpa using hj))
      (by rw [hRl, encKnown_len]; omega) (one_known k)
  have hcpB : ∀ (W : World), W.heap = (W1.setRow w.heap.size (rowG1 ROW.toList k i).toArray).heap → ∀ ty dc sc, (Builtin.copy_ #[37, 37] ty #[.slice (some ⟨w.heap.size, (i + 1) * 6, none⟩) (xs.length - i) dc, .slice (some ⟨g, i * 6, none⟩) (xs.length - i) sc]).run Tryz.prog W =
      .ok (goInt (xs.length - i : Nat)) (W.setRow w.heap.size (rowG2 ROW.toList xs k i).toArray) := fun W hW ty dc sc =>
    run_copy_rowK W _ _ ty 68 w.heap.size ((i + 1) * 6) (xs.length - i) dc ⟨g, i * 6, none⟩ (xs.length - i) sc _ 68 _ 6 (xs.length - i) Tryz.underlying37 hsz (by rw [hW]; exact setRow_heap _ _ _ _ _ _ hh1) (by simp only [Nat.min_def]; split <;> omega) ld
      (fun j v hj => by
        have e1 : W.cell? ((⟨g, i * 6, none⟩ : Addr).add j) = w.cell? ((⟨g, i * 6, none⟩ : Addr).add j) := World.cell?_of_block (by
          have hb : ((⟨g, i * 6, none⟩ : Addr).add j).block = g := by rw [Addr.add_lit]
          rw [hb, hW, setRow_other _ _ _ _ (by omega)]
          exact ho1 _ hgw)
        rw [e1, Addr.add_lit, cell_of_row w g _ cur _ (0, 0) hheap]
        rw [← flat_drop (enc := encKnown) (sz := 6) (fun _ => rfl) xs i (by omega), ← htake, List.getElem?_drop, List.getElem?_take] at hj
        split at hj
        · simpa using hj
        · cases hj)
      (by show _ ≤ (rowG1 ROW.toList k i).toArray.size; rw [List.size_toArray, q1, Array.length_toList (xs := ROW), ld, hRl]; omega) (fun v hv => one_knowns _ v hv)
  have hyl : (xs.take i ++ k :: xs.drop i).length = xs.length + 1 := by simp; omega
  have hF1 : (((w.alloc (.cells ROW 68)).drew.setRow w.heap.size (rowG1 ROW.toList k i).toArray).drew).heap = (W1.setRow w.heap.size (rowG1 ROW.toList k i).toArray).heap := by rw [hW1]; rfl
  have hG1 : ((((w.alloc (.cells ROW 68)).drew.setRow w.heap.size (rowG1 ROW.toList k i).toArray).drew).setRow w.heap.size (rowG2 ROW.toList xs k i).toArray).heap = ((W1.setRow w.heap.size (rowG1 ROW.toList k i).toArray).setRow w.heap.size (rowG2 ROW.toList xs k i).toArray).heap := by rw [hW1]; rfl
  have fin := insPost_row (B := B) (g := w.heap.size) (cap := G) (s := .slice (some ⟨g, 0, none⟩) xs.length cap) (ys := xs.take i ++ k :: xs.drop i) (w := w) (w' := (((w.alloc (.cells ROW 68)).drew.setRow w.heap.size (rowG1 ROW.toList k i).toArray).drew).setRow w.heap.size (rowG2 ROW.toList xs k i).toArray) hB
    (by rw [List.size_toArray, q2, Array.length_toList (xs := ROW), hRl]) hGm (by rw [hyl]; exact hGn) (by rw [hyl]; exact q3) (by rw [hG1]; exact setRow_heap _ _ _ _ _ _ (setRow_heap _ _ _ _ _ _ hh1))
    ⟨rfl, rfl, rfl, by simp, fun j hj hne => by
      have hj' : j ≠ w.heap.size := by omega
      rw [hG1, setRow_other _ _ _ _ hj', setRow_other _ _ _ _ hj']
      exact ho1 j hj⟩ (.inr (Nat.le_refl _))
  rw [hyl] at fin
  replace fin := Lib.hid fin
  have hE1 : ((w.alloc (.cells ROW 68)).drew).heap = W1.heap := by rw [hW1]; rfl
  have hw1 : IntKind.i64.wrap ((i : Int) + 1) = (i : Int) + 1 := by rw [IntKind.wrap_i64]; omega
  have hb1 : (0 : Int) ≤ (i : Int) + 1 := by omega
  have hin : i ≤ xs.length := by omega
  have hin2 : (i : Int) ≤ xs.length := by omega
  have htn : ((i : Int) + 1).toNat = i + 1 := by omega
  have hb2 : ¬ (G = i + 1) := by omega
  have hb3 : (i : Int) + 1 ≤ (xs.length : Int) + 1 := by omega
  have hb4 : ¬ (G = i) := by omega
  have hb5 : (i : Int) ≤ (xs.length : Int) + 1 := by omega
  have hb6 : ¬ (cap = i) := by omega
  have hz2' : ¬ ((i : Int) = (xs.length : Int)) := by omega
  have hz3 : (cap : Int) < (xs.length : Int) + 1 := by omega
  have mixed : Tryz.prog.follows .mixedOrders = true := by kernel_rfl
  go_enter Tryz.func80, Tryz.ntmps80
  go_wp2_with (first
    | (at_builtin; refine Lib.wpList_append_run _ rfl _ _ _ _ rfl _ _ rfl rfl _ _ (hrz _) ?_)
    | (at_builtin; refine wpList_copy_runI _ rfl _ _ 37 37 rfl _ _ rfl rfl (hcpA _ rfl _ _) ?_)
    | (at_builtin; refine wpList_copy_runI _ rfl _ _ 37 37 rfl _ _ rfl rfl (hcpA _ hE1 _ _) ?_)
    | (at_builtin; refine wpList_copy_runI _ rfl _ _ 37 37 rfl _ _ rfl rfl (hcpB _ rfl _ _ _) ?_))
  go_region_law_o (refine step_copy_runI rfl _ _ 37 37 rfl (.slice (some ⟨w.heap.size, (i + 1) * 6, none⟩) (xs.length - i) (G - (i + 1))) (.slice (some ⟨g, i * 6, none⟩) (xs.length - i) (cap - i)) (by simp [Act.eval, Act.put]) (by simp [Act.eval, Act.put]) (hcpB _ hF1 _ (G - (i + 1)) (cap - i)) ?_)
  go_wp2
  go_ret
  exact fin.out
theorem Own.form {α : Type} {w : World} {base sz : Nat} {e : TypeId} {enc : α → List Value} {v : Value} {xs : List α} (h : Own w base e sz enc v xs) (hn : 0 < xs.length) : ∃ g cap, v = .slice (some ⟨g, 0, none⟩) xs.length cap := by
  rcases h.2 with ⟨_, h0⟩ | ⟨g, cap, _, hv, _⟩
  · omega
  · exact ⟨g, cap, hv⟩
theorem insert_any (B : Nat) (s : Value) (i : Nat) (xs : List Known) (k : Known) (vb vc : Nat) (w : World) (ho : Own w B 68 6 encKnown s xs) (hB : B ≤ w.heap.size) (hn : xs.length ≤ 5000) (hi : i ≤ xs.length)
    (hne : s.ownBlock ≠ some vb) (hvb : Blk w vb 68 #[.int .i64 k.target, .int .i64 k.level, .int .i64 k.item, .int .i64 k.chance.least, .int .i64 k.chance.most, .int .i64 k.chance.all]) :
    Calls Tryz.prog 80 #[s, .int .i64 i, .slice (some ⟨vb, 0, none⟩) 1 vc] w (InsPost B s (xs.take i ++ k :: xs.drop i) w) := by
  by_cases he : i = xs.length
  · subst he
    rw [List.take_length, List.drop_length]
    refine insertEnd_any B s xs k vb vc w ho hB hn fun j v hj => ?_
    rw [Addr.add_lit, Nat.zero_add, hvb.cell]
    exact (show (encKnown k).toArray[j]? = some v by simpa using hj)
  · have hlt : i < xs.length := by omega
    obtain ⟨g, cap, rfl⟩ := Own.form ho (by omega)
    have hne' : vb ≠ g := fun e => hne (by rw [e]; rfl)
    by_cases hr : xs.length + 1 ≤ cap
    · exact insertRoom_any B g cap i xs k vb vc #[] w ho hB hn hlt hr hne' hvb
    · exact insertGrow_any B g cap i xs k vb vc w ho hB hn hlt (by omega) hne' hvb
end Go.Proofs.YtogpgnljomchcaaGreat
