/- Arguments opened: chances, items, councils, slices of items. Arguments opened: a ledger, and a slice of items with its capacity. -/
import Derived.Test.YtogpgnljomchcaaGreatCrd
import Derived.Test.YtogpgnljomchcaaGreatSe
import Derived.Test.YtogpgnljomchcaaGreatAsAll
namespace Go.Proofs.YtogpgnljomchcaaGreat
open Go.ChangeShapes Go.WideShapes Go.ChangeAt Go.WideMaps Go.WideElems Go.RowKit Go.Deep

section
variable {H : Type} {enc : TypeId × Value → H} {W : World} {base : Nat} {sp : Nat → Bool} {hd : Bool}
theorem one_cell {k : IntKind} {n : Nat} {t : TypeId} {c : Value} {z : DataW H × List MemPlace} (ht : Tryz.prog.underlying t = some (.int k)) (h : DataW.trod enc Tryz.prog W base sp hd n t [c] = some z) : ∃ a, c = .int k a := by
  obtain ⟨a, ha, _⟩ := DataW.trod_int ht h
  injection ha with ha
  exact ⟨a, ha⟩
theorem one_flag {n : Nat} {t : TypeId} {c : Value} {z : DataW H × List MemPlace} (ht : Tryz.prog.underlying t = some .bool) (h : DataW.trod enc Tryz.prog W base sp hd n t [c] = some z) : ∃ a, c = .bool a := by
  obtain ⟨a, ha, _⟩ := DataW.trod_bool ht h
  injection ha with ha
  exact ⟨a, ha⟩
set_option maxRecDepth 100000 in
theorem fld_at {fs : Array Field} {xs : List (DataW H × List MemPlace)} {n : Nat} {cs : List Value} (hg : ∀ (i : Nat) (f : Field), fs[i]? = some f → DataW.trod enc Tryz.prog W base sp hd n f.type ((cs.drop f.offset).take (Tryz.prog.cellsOf f.type)) = xs[i]?)
    (i t o k : Nat) (h : ((fs[i]?).map fun f => (f.type, f.offset)) = some (t, o)) (hk : Tryz.prog.cellsOf t = k) : DataW.trod enc Tryz.prog W base sp hd n t ((cs.drop o).take k) = xs[i]? := by
  obtain ⟨f, hf, e⟩ := Option.map_eq_some_iff.1 h
  injection e with e1 e2
  subst e1 e2 hk
  exact hg i f hf
theorem rows_at {α : Type} [Inhabited α] {sz : Nat} {en : α → List Value} (hz : 0 < sz) (hen : ∀ x, (en x).length = sz) {fuel : Nat} {t e : TypeId} {c : Value} {y : DataW H × List MemPlace} (ht : Tryz.prog.underlying t = some (.slice e)) (hC : Tryz.prog.cellsOf e = sz)
    (hQ : ∀ n cs z, cs.length = sz → DataW.trod enc Tryz.prog W 0 (fun _ => true) true n e cs = some z → ∃ x : α, cs = en x) (h : DataW.trod enc Tryz.prog W 0 (fun _ => true) true fuel t [c] = some y) (hlt : ∀ x ∈ y.2, x.block < W.heap.size) :
    ∃ (A : Option Addr) (cap : Nat) (ls : List α), c = .slice A ls.length cap ∧ ls.length ≤ cap ∧ Rd none W sz en A ls.length ls := by
  rcases Go.Deep.open_slice ht h with ⟨g1, g2⟩ | ⟨a, len, cap, m, n, D, Pl, g1, hb, hle, hm, hmm, hx, hel⟩
  · simp only [List.cons.injEq, and_true] at g1
    exact ⟨none, 0, [], g1, Nat.le_refl _, Rd.nil _ _ _ _ _⟩
  · simp only [List.cons.injEq, and_true] at g1
    have hm' : m = cap := by rw [hmm]; simp
    subst hm'
    have key : ∀ i, i < len → ∃ x : α, ∀ j v, (en x)[j]? = some v → W.cell? (a.add (i * sz + j)) = some v := by
      intro i hi
      obtain ⟨cs', hc, ht'⟩ := hel i (by omega)
      rw [hC] at hc
      obtain ⟨_, hcl, hat⟩ := World.cells?_some hc
      obtain ⟨x, rfl⟩ := hQ _ _ _ hcl ht'
      refine ⟨x, fun j v hv => ?_⟩
      have hj := (List.getElem?_eq_some_iff.1 hv).1
      rw [hen] at hj
      have := hat j hj
      rw [Go.Deep.add_add] at this
      rw [this]
      exact hv
    obtain ⟨f, hf⟩ := choose_lt (α := α) key
    have hl : ((List.range len).map f).length = len := by simp
    refine ⟨some a, m, (List.range len).map f, by rw [hl]; exact g1, by rw [hl]; exact hle, ⟨rfl, fun hn => ?_⟩⟩
    rw [hl] at hn
    obtain ⟨b, o, s⟩ := a
    have h0 := hf 0 hn 0 ((en (f 0))[0]'(by rw [hen]; exact hz)) (List.getElem?_eq_getElem _)
    have hsp : s = none := by simpa [Addr.add] using World.cell?_spot h0
    subst hsp
    refine ⟨b, o, rfl, ?_, by simp, fun i hi j v hv => ?_⟩
    · refine hlt (.cell b o) ?_
      have := congrArg Prod.snd hx
      simp only at this
      rw [this]
      exact List.mem_append_left _ (List.mem_map.2 ⟨0, List.mem_range.2 (by rw [hC]; exact Nat.mul_pos (by omega) hz), rfl⟩)
    · rw [hl] at hi
      rw [List.getElem_map, List.getElem_range] at hv
      have := hf i hi j v hv
      rw [Go.WideShapes.add_plain] at this
      exact this
set_option maxRecDepth 100000 in
theorem cells_member {n : Nat} {cs : List Value} {z : DataW H × List MemPlace} (hl : cs.length = 2) (h : DataW.trod enc Tryz.prog W base sp hd n 99 cs = some z) : ∃ x : Member, cs = encMember x := by
  obtain ⟨xs, m, _, _, _, hlen, hg⟩ := DataW.trod_struct Tryz.underlying99 h
  have k0 : Tryz.prog.cellsOf 3 = 1 := by kernel_rfl
  have k1 : Tryz.prog.cellsOf 2 = 1 := by kernel_rfl
  match cs, hl, xs, hlen with
  | [c0, c1], _, [y0, y1], _ =>
    obtain ⟨a0, rfl⟩ := one_cell Tryz.underlying3 (show DataW.trod enc Tryz.prog W base sp hd m 3 [c0] = some y0 from fld_at hg 0 3 0 1 rfl k0)
    obtain ⟨a1, rfl⟩ := one_cell Tryz.underlying2 (show DataW.trod enc Tryz.prog W base sp hd m 2 [c1] = some y1 from fld_at hg 1 2 1 1 rfl k1)
    exact ⟨⟨a0, a1⟩, rfl⟩
set_option maxRecDepth 100000 in
theorem cells_law {n : Nat} {cs : List Value} {z : DataW H × List MemPlace} (hl : cs.length = 5) (h : DataW.trod enc Tryz.prog W base sp hd n 101 cs = some z) : ∃ x : LawC, cs = encLaw x := by
  obtain ⟨xs, m, _, _, _, hlen, hg⟩ := DataW.trod_struct Tryz.underlying101 h
  have k0 : Tryz.prog.cellsOf 3 = 1 := by kernel_rfl
  have k1 : Tryz.prog.cellsOf 3 = 1 := by kernel_rfl
  have k2 : Tryz.prog.cellsOf 2 = 1 := by kernel_rfl
  have k3 : Tryz.prog.cellsOf 2 = 1 := by kernel_rfl
  have k4 : Tryz.prog.cellsOf 2 = 1 := by kernel_rfl
  match cs, hl, xs, hlen with
  | [c0, c1, c2, c3, c4], _, [y0, y1, y2, y3, y4], _ =>
    obtain ⟨a0, rfl⟩ := one_cell Tryz.underlying3 (show DataW.trod enc Tryz.prog W base sp hd m 3 [c0] = some y0 from fld_at hg 0 3 0 1 rfl k0)
    obtain ⟨a1, rfl⟩ := one_cell Tryz.underlying3 (show DataW.trod enc Tryz.prog W base sp hd m 3 [c1] = some y1 from fld_at hg 1 3 1 1 rfl k1)
    obtain ⟨a2, rfl⟩ := one_cell Tryz.underlying2 (show DataW.trod enc Tryz.prog W base sp hd m 2 [c2] = some y2 from fld_at hg 2 2 2 1 rfl k2)
    obtain ⟨a3, rfl⟩ := one_cell Tryz.underlying2 (show DataW.trod enc Tryz.prog W base sp hd m 2 [c3] = some y3 from fld_at hg 3 2 3 1 rfl k3)
    obtain ⟨a4, rfl⟩ := one_cell Tryz.underlying2 (show DataW.trod enc Tryz.prog W base sp hd m 2 [c4] = some y4 from fld_at hg 4 2 4 1 rfl k4)
    exact ⟨⟨a0, a1, a2, a3, a4⟩, rfl⟩
set_option maxRecDepth 100000 in
theorem cells_chance {n : Nat} {cs : List Value} {z : DataW H × List MemPlace} (hl : cs.length = 3) (h : DataW.trod enc Tryz.prog W base sp hd n 34 cs = some z) : ∃ x : Chance, cs = (fun x : Chance => [Value.int .i64 x.least, .int .i64 x.most, .int .i64 x.all]) x := by
  obtain ⟨xs, m, _, _, _, hlen, hg⟩ := DataW.trod_struct Tryz.underlying34 h
  have k0 : Tryz.prog.cellsOf 2 = 1 := by kernel_rfl
  have k1 : Tryz.prog.cellsOf 2 = 1 := by kernel_rfl
  have k2 : Tryz.prog.cellsOf 2 = 1 := by kernel_rfl
  match cs, hl, xs, hlen with
  | [c0, c1, c2], _, [y0, y1, y2], _ =>
    obtain ⟨a0, rfl⟩ := one_cell Tryz.underlying2 (show DataW.trod enc Tryz.prog W base sp hd m 2 [c0] = some y0 from fld_at hg 0 2 0 1 rfl k0)
    obtain ⟨a1, rfl⟩ := one_cell Tryz.underlying2 (show DataW.trod enc Tryz.prog W base sp hd m 2 [c1] = some y1 from fld_at hg 1 2 1 1 rfl k1)
    obtain ⟨a2, rfl⟩ := one_cell Tryz.underlying2 (show DataW.trod enc Tryz.prog W base sp hd m 2 [c2] = some y2 from fld_at hg 2 2 2 1 rfl k2)
    exact ⟨⟨a0, a1, a2⟩, rfl⟩
theorem cells_i64 {n : Nat} {cs : List Value} {z : DataW H × List MemPlace} (hl : cs.length = 1) (h : DataW.trod enc Tryz.prog W base sp hd n 2 cs = some z) : ∃ x : Int, cs = encI x := by
  match cs, hl with
  | [c], _ =>
    obtain ⟨a, rfl⟩ := one_cell Tryz.underlying2 h
    exact ⟨a, rfl⟩
set_option maxRecDepth 100000 in
theorem cells_item {n : Nat} {cs : List Value} {z : DataW H × List MemPlace} (hl : cs.length = 9) (h : DataW.trod enc Tryz.prog W base sp hd n 36 cs = some z) : ∃ x : CItem, cs = encItem x := by
  obtain ⟨xs, m, _, _, _, hlen, hg⟩ := DataW.trod_struct Tryz.underlying36 h
  have k1 : Tryz.prog.cellsOf 3 = 1 := by kernel_rfl
  have k2 : Tryz.prog.cellsOf 2 = 1 := by kernel_rfl
  have k3 : Tryz.prog.cellsOf 4 = 1 := by kernel_rfl
  have k4 : Tryz.prog.cellsOf 34 = 3 := by kernel_rfl
  match cs, hl, xs, hlen with
  | [c0, c1, c2, c3, c4, c5, c6, c7, c8], _, [y0, y1, y2, y3, y4, y5, y6], _ =>
    obtain ⟨a0, rfl⟩ := one_cell Tryz.underlying3 (show DataW.trod enc Tryz.prog W base sp hd m 3 [c0] = some y0 from fld_at hg 0 3 0 1 rfl k1)
    obtain ⟨a1, rfl⟩ := one_cell Tryz.underlying2 (show DataW.trod enc Tryz.prog W base sp hd m 2 [c1] = some y1 from fld_at hg 1 2 1 1 rfl k2)
    obtain ⟨a2, rfl⟩ := one_flag Tryz.underlying4 (show DataW.trod enc Tryz.prog W base sp hd m 4 [c2] = some y2 from fld_at hg 2 4 2 1 rfl k3)
    obtain ⟨a3, rfl⟩ := one_cell Tryz.underlying3 (show DataW.trod enc Tryz.prog W base sp hd m 3 [c3] = some y3 from fld_at hg 3 3 3 1 rfl k1)
    obtain ⟨a4, rfl⟩ := one_cell Tryz.underlying3 (show DataW.trod enc Tryz.prog W base sp hd m 3 [c4] = some y4 from fld_at hg 4 3 4 1 rfl k1)
    obtain ⟨a5, rfl⟩ := one_flag Tryz.underlying4 (show DataW.trod enc Tryz.prog W base sp hd m 4 [c5] = some y5 from fld_at hg 5 4 5 1 rfl k3)
    obtain ⟨x, hx⟩ := cells_chance (by rfl) (show DataW.trod enc Tryz.prog W base sp hd m 34 [c6, c7, c8] = some y6 from fld_at hg 6 34 6 3 rfl k4)
    simp only [List.cons.injEq, and_true] at hx
    obtain ⟨rfl, rfl, rfl⟩ := hx
    exact ⟨⟨a0, a1, a2, a3, a4, a5, x⟩, rfl⟩
end
section
variable {H : Type} {enc : TypeId × Value → H} {W : World}
/-- a council as it was given: its lists, of whatever length -/
structure CAt0 (w : World) (V : CV) (c : Council) : Prop where
  m : Lo w.heap.size w 2 encMember V.am c.members.length c.members
  l : Lo w.heap.size w 5 encLaw V.al c.laws.length c.laws
  v : Lo w.heap.size w 1 encI V.av c.levels.length c.levels
theorem CAt0.cat {V : CV} {c : Council} (s : CAt0 W V c) (h1 : c.members.length ≤ 17592186044416) (h2 : c.laws.length ≤ 17592186044416) (h3 : c.levels.length ≤ 17592186044416) : CAt W.heap.size W V c := ⟨s.m, s.l, s.v, h1, h2, h3⟩
set_option maxRecDepth 100000 in
theorem open_coun {b0 : Nat} {v : Value} {d : DataW H} {p : List MemPlace} (hv : Value.okWide Tryz.prog W .any b0 28 v) (h : DataW.Trod enc Tryz.prog W 0 (fun _ => true) true 28 v d p) (hlt : ∀ x ∈ p, x.block < W.heap.size) :
    ∃ (V : CV) (c : Council), v = .agg #[.slice V.am c.members.length V.cm, .slice V.al c.laws.length V.cl, .slice V.av c.levels.length V.cv] ∧ CAt0 W V c := by
  obtain ⟨cs, rfl, hsz⟩ := okWide_struct Tryz.underlying28 hv
  obtain ⟨l⟩ := cs
  have k1 : Tryz.prog.cellsOf 24 = 1 := by kernel_rfl
  have k2 : Tryz.prog.cellsOf 25 = 1 := by kernel_rfl
  have k3 : Tryz.prog.cellsOf 26 = 1 := by kernel_rfl
  match l, hsz.trans (show Tryz.prog.cellsOf 28 = 3 by kernel_rfl) with
  | [d0, d1, d2], _ =>
    obtain ⟨fuel, hf⟩ := h
    obtain ⟨xs, n, _, hx, _, hlen, hg⟩ := DataW.trod_struct Tryz.underlying28 hf
    match xs, hlen with
    | [y0, y1, y2], _ =>
      have hp := congrArg Prod.snd hx
      simp only at hp
      subst hp
      obtain ⟨A0, q0, l0, rfl, -, r0⟩ := rows_at (en := encMember) (sz := 2) (by omega) (fun _ => rfl) Tryz.underlying24 (by kernel_rfl) (fun n cs z hl hz => cells_member hl hz) (show DataW.trod enc Tryz.prog W 0 (fun _ => true) true n 24 [d0] = some y0 from fld_at hg 0 24 0 1 rfl k1) (fun x hx => hlt x (by simp [hx]))
      obtain ⟨A1, q1, l1, rfl, -, r1⟩ := rows_at (en := encLaw) (sz := 5) (by omega) (fun _ => rfl) Tryz.underlying25 (by kernel_rfl) (fun n cs z hl hz => cells_law hl hz) (show DataW.trod enc Tryz.prog W 0 (fun _ => true) true n 25 [d1] = some y1 from fld_at hg 1 25 1 1 rfl k2) (fun x hx => hlt x (by simp [hx]))
      obtain ⟨A2, q2, l2, rfl, -, r2⟩ := rows_at (en := encI) (sz := 1) (by omega) (fun _ => rfl) Tryz.underlying26 (by kernel_rfl) (fun n cs z hl hz => cells_i64 hl hz) (show DataW.trod enc Tryz.prog W 0 (fun _ => true) true n 26 [d2] = some y2 from fld_at hg 2 26 2 1 rfl k3) (fun x hx => hlt x (by simp [hx]))
      exact ⟨⟨A0, q0, A1, q1, A2, q2⟩, ⟨l0, l1, l2⟩, rfl, ⟨Lo.of r0, Lo.of r1, Lo.of r2⟩⟩
end
end Go.Proofs.YtogpgnljomchcaaGreat
namespace Go.Proofs.YtogpgnljomchcaaGreat
open Go.ChangeShapes Go.WideShapes Go.ChangeAt Go.WideMaps Go.WideElems Go.RowKit Go.Deep

section
variable {H : Type} {enc : TypeId × Value → H} {W : World}
theorem weightsAll_in {P : Program} {e : TypeId} {d : DataW H} : ∀ {l : List (DataW H)}, d ∈ l → ∀ n ∈ d.weights P e, n ∈ DataW.weightsAll P e l
  | x :: l, h, n, hn => by
    simp only [DataW.weightsAll, List.mem_append]
    rcases List.mem_cons.1 h with rfl | h
    · exact .inl hn
    · exact .inr (weightsAll_in h n hn)
set_option maxRecDepth 100000 in
theorem rows_of {α : Type} [Inhabited α] {sz : Nat} {en : α → List Value} {Pr : α → Prop} (hz : 0 < sz) (hen : ∀ x, (en x).length = sz) {fuel : Nat} {t e : TypeId} {c : Value} {y : DataW H × List MemPlace} (ht : Tryz.prog.underlying t = some (.slice e)) (hC : Tryz.prog.cellsOf e = sz)
    (hw : ∀ n ∈ y.1.weights Tryz.prog t, n ≤ reachBytes)
    (hQ : ∀ n cs z, cs.length = sz → DataW.trod enc Tryz.prog W 0 (fun _ => true) true n e cs = some z → (∀ x ∈ z.2, x.block < W.heap.size) → (∀ n ∈ z.1.weights Tryz.prog e, n ≤ reachBytes) → ∃ x : α, cs = en x ∧ Pr x)
    (h : DataW.trod enc Tryz.prog W 0 (fun _ => true) true fuel t [c] = some y) (hlt : ∀ x ∈ y.2, x.block < W.heap.size) :
    ∃ (A : Option Addr) (cap : Nat) (ls : List α), c = .slice A ls.length cap ∧ ls.length ≤ cap ∧ Rd none W sz en A ls.length ls ∧ (∀ i (hi : i < ls.length), Pr ls[i]) ∧ ls.length * Tryz.prog.bytesOf e ≤ reachBytes := by
  rcases Go.Deep.open_slice ht h with ⟨g1, g2⟩ | ⟨a, len, cap, m, n, D, Pl, g1, hb, hle, hm, hmm, hx, hel⟩
  · simp only [List.cons.injEq, and_true] at g1
    exact ⟨none, 0, [], g1, Nat.le_refl _, Rd.nil _ _ _ _ _, fun i hi => absurd hi (by simp), by simp⟩
  · simp only [List.cons.injEq, and_true] at g1
    have hm' : m = cap := by rw [hmm]; simp
    subst hm'
    have hx1 := congrArg Prod.fst hx
    have hx2 := congrArg Prod.snd hx
    simp only at hx1 hx2
    rw [hx1] at hw
    have hw1 := hw ((((List.range len).map D).length + ((List.range (m - len)).map fun j => D (len + j)).length) * Tryz.prog.bytesOf e) (by simp only [DataW.weights, ht]; exact List.mem_cons_self)
    have hwE : ∀ i, i < len → ∀ n ∈ (D i).weights Tryz.prog e, n ≤ reachBytes := fun i hi n hn => hw n (by
      simp only [DataW.weights, ht]
      exact List.mem_cons_of_mem _ (List.mem_append_left _ (weightsAll_in (List.mem_map.2 ⟨i, List.mem_range.2 hi, rfl⟩) n hn)))
    have hpl : ∀ i, i < len → ∀ x ∈ Pl i, x.block < W.heap.size := fun i hi x hx9 => hlt x (by
      rw [hx2]
      exact List.mem_append_right _ (List.mem_flatMap.2 ⟨i, List.mem_range.2 (by omega), hx9⟩))
    have key : ∀ i, i < len → ∃ x : α, (∀ j v, (en x)[j]? = some v → W.cell? (a.add (i * sz + j)) = some v) ∧ Pr x := by
      intro i hi
      obtain ⟨cs', hc, ht'⟩ := hel i (by omega)
      rw [hC] at hc
      obtain ⟨_, hcl, hat⟩ := World.cells?_some hc
      obtain ⟨x, rfl, hp⟩ := hQ _ _ _ hcl ht' (hpl i hi) (hwE i hi)
      refine ⟨x, fun j v hv => ?_, hp⟩
      have hj := (List.getElem?_eq_some_iff.1 hv).1
      rw [hen] at hj
      have := hat j hj
      rw [Go.Deep.add_add] at this
      rw [this]
      exact hv
    obtain ⟨f, hf⟩ := choose_lt (α := α) key
    have hl : ((List.range len).map f).length = len := by simp
    refine ⟨some a, m, (List.range len).map f, by rw [hl]; exact g1, by rw [hl]; exact hle, ⟨rfl, fun hn => ?_⟩, fun i hi => ?_, ?_⟩
    · rw [hl] at hn
      obtain ⟨b, o, s⟩ := a
      have h0 := (hf 0 hn).1 0 ((en (f 0))[0]'(by rw [hen]; exact hz)) (List.getElem?_eq_getElem _)
      have hsp : s = none := by simpa [Addr.add] using World.cell?_spot h0
      subst hsp
      refine ⟨b, o, rfl, ?_, by simp, fun i hi j v hv => ?_⟩
      · refine hlt (.cell b o) ?_
        rw [hx2]
        exact List.mem_append_left _ (List.mem_map.2 ⟨0, List.mem_range.2 (by rw [hC]; exact Nat.mul_pos (by omega) hz), rfl⟩)
      · rw [hl] at hi
        rw [List.getElem_map, List.getElem_range] at hv
        have := (hf i hi).1 j v hv
        rw [Go.WideShapes.add_plain] at this
        exact this
    · rw [hl] at hi
      rw [List.getElem_map, List.getElem_range]
      exact (hf i hi).2
    · rw [hl]
      refine Nat.le_trans (Nat.mul_le_mul_right _ ?_) hw1
      simp
set_option maxRecDepth 100000 in
theorem cells_known {n : Nat} {cs : List Value} {z : DataW H × List MemPlace} (hl : cs.length = 6) (h : DataW.trod enc Tryz.prog W 0 (fun _ => true) true n 68 cs = some z) : ∃ x : Known, cs = encKnown x := by
  obtain ⟨xs, m, _, _, _, hlen, hg⟩ := DataW.trod_struct Tryz.underlying68 h
  have k1 : Tryz.prog.cellsOf 3 = 1 := by kernel_rfl
  have k4 : Tryz.prog.cellsOf 34 = 3 := by kernel_rfl
  match cs, hl, xs, hlen with
  | [c0, c1, c2, c3, c4, c5], _, [y0, y1, y2, y3], _ =>
    obtain ⟨a0, rfl⟩ := one_cell Tryz.underlying3 (show DataW.trod enc Tryz.prog W 0 (fun _ => true) true m 3 [c0] = some y0 from fld_at hg 0 3 0 1 rfl k1)
    obtain ⟨a1, rfl⟩ := one_cell Tryz.underlying3 (show DataW.trod enc Tryz.prog W 0 (fun _ => true) true m 3 [c1] = some y1 from fld_at hg 1 3 1 1 rfl k1)
    obtain ⟨a2, rfl⟩ := one_cell Tryz.underlying3 (show DataW.trod enc Tryz.prog W 0 (fun _ => true) true m 3 [c2] = some y2 from fld_at hg 2 3 2 1 rfl k1)
    obtain ⟨x, hx⟩ := cells_chance (by rfl) (show DataW.trod enc Tryz.prog W 0 (fun _ => true) true m 34 [c3, c4, c5] = some y3 from fld_at hg 3 34 3 3 rfl k4)
    simp only [List.cons.injEq, and_true] at hx
    obtain ⟨rfl, rfl, rfl⟩ := hx
    exact ⟨⟨a0, a1, a2, x⟩, rfl⟩
set_option maxRecDepth 100000 in
theorem cells_alarm {n : Nat} {cs : List Value} {z : DataW H × List MemPlace} (hl : cs.length = 4) (h : DataW.trod enc Tryz.prog W 0 (fun _ => true) true n 106 cs = some z) : ∃ x : Alarm, cs = encAlarm x := by
  obtain ⟨xs, m, _, _, _, hlen, hg⟩ := DataW.trod_struct Tryz.underlying106 h
  have k1 : Tryz.prog.cellsOf 3 = 1 := by kernel_rfl
  have k2 : Tryz.prog.cellsOf 2 = 1 := by kernel_rfl
  have k3 : Tryz.prog.cellsOf 4 = 1 := by kernel_rfl
  match cs, hl, xs, hlen with
  | [c0, c1, c2, c3], _, [y0, y1, y2, y3], _ =>
    obtain ⟨a0, rfl⟩ := one_cell Tryz.underlying2 (show DataW.trod enc Tryz.prog W 0 (fun _ => true) true m 2 [c0] = some y0 from fld_at hg 0 2 0 1 rfl k2)
    obtain ⟨a1, rfl⟩ := one_cell Tryz.underlying3 (show DataW.trod enc Tryz.prog W 0 (fun _ => true) true m 3 [c1] = some y1 from fld_at hg 1 3 1 1 rfl k1)
    obtain ⟨a2, rfl⟩ := one_cell Tryz.underlying3 (show DataW.trod enc Tryz.prog W 0 (fun _ => true) true m 3 [c2] = some y2 from fld_at hg 2 3 2 1 rfl k1)
    obtain ⟨a3, rfl⟩ := one_flag Tryz.underlying4 (show DataW.trod enc Tryz.prog W 0 (fun _ => true) true m 4 [c3] = some y3 from fld_at hg 3 4 3 1 rfl k3)
    exact ⟨⟨a0, a1, a2, a3⟩, rfl⟩
/-- a motion as it was given -/
def MotIn (W : World) (p : Value × Motion) : Prop := ∃ A q, p.1 = .slice A p.2.voted.length q ∧ Rd none W 1 encI A p.2.voted.length p.2.voted ∧ p.2.voted.length ≤ 17592186044416
set_option maxRecDepth 100000 in
theorem cells_mot {n : Nat} {cs : List Value} {z : DataW H × List MemPlace} (hl : cs.length = 8) (h : DataW.trod enc Tryz.prog W 0 (fun _ => true) true n 52 cs = some z) (hlt : ∀ x ∈ z.2, x.block < W.heap.size) (hw : ∀ n ∈ z.1.weights Tryz.prog 52, n ≤ reachBytes) :
    ∃ p : Value × Motion, cs = encVM p ∧ MotIn W p := by
  obtain ⟨xs, m, _, hx, _, hlen, hg⟩ := DataW.trod_struct Tryz.underlying52 h
  have k1 : Tryz.prog.cellsOf 3 = 1 := by kernel_rfl
  have k2 : Tryz.prog.cellsOf 2 = 1 := by kernel_rfl
  have k3 : Tryz.prog.cellsOf 22 = 1 := by kernel_rfl
  match cs, hl, xs, hlen with
  | [c0, c1, c2, c3, c4, c5, c6, c7], _, [y0, y1, y2, y3, y4, y5, y6, y7], _ =>
    have hx1 := congrArg Prod.fst hx
    have hx2 := congrArg Prod.snd hx
    simp only at hx1 hx2
    rw [hx1] at hw
    rw [hx2] at hlt
    obtain ⟨a0, rfl⟩ := one_cell Tryz.underlying3 (show DataW.trod enc Tryz.prog W 0 (fun _ => true) true m 3 [c0] = some y0 from fld_at hg 0 3 0 1 rfl k1)
    obtain ⟨a1, rfl⟩ := one_cell Tryz.underlying3 (show DataW.trod enc Tryz.prog W 0 (fun _ => true) true m 3 [c1] = some y1 from fld_at hg 1 3 1 1 rfl k1)
    obtain ⟨a2, rfl⟩ := one_cell Tryz.underlying2 (show DataW.trod enc Tryz.prog W 0 (fun _ => true) true m 2 [c2] = some y2 from fld_at hg 2 2 2 1 rfl k2)
    obtain ⟨a3, rfl⟩ := one_cell Tryz.underlying3 (show DataW.trod enc Tryz.prog W 0 (fun _ => true) true m 3 [c3] = some y3 from fld_at hg 3 3 3 1 rfl k1)
    obtain ⟨a4, rfl⟩ := one_cell Tryz.underlying2 (show DataW.trod enc Tryz.prog W 0 (fun _ => true) true m 2 [c4] = some y4 from fld_at hg 4 2 4 1 rfl k2)
    obtain ⟨a5, rfl⟩ := one_cell Tryz.underlying2 (show DataW.trod enc Tryz.prog W 0 (fun _ => true) true m 2 [c5] = some y5 from fld_at hg 5 2 5 1 rfl k2)
    obtain ⟨a7, rfl⟩ := one_cell Tryz.underlying3 (show DataW.trod enc Tryz.prog W 0 (fun _ => true) true m 3 [c7] = some y7 from fld_at hg 7 3 7 1 rfl k1)
    have hw6 : ∀ n ∈ y6.1.weights Tryz.prog 22, n ≤ reachBytes := fun n hn => hw n (by
      simp only [DataW.weights, Tryz.underlying52]
      exact DataW.weights_mem_each (j := 6) (t := 22) rfl rfl n hn)
    obtain ⟨A, q, vs, e6, -, r6, -, b6⟩ := rows_of (Pr := fun _ : Int => True) (en := encI) (sz := 1) (by omega) (fun _ => rfl) Tryz.underlying22 (by kernel_rfl) hw6 (fun n cs z hl hz _ _ => by
      match cs, hl with
      | [c], _ =>
        obtain ⟨a, rfl⟩ := one_cell Tryz.underlying3 hz
        exact ⟨a, rfl, trivial⟩) (show DataW.trod enc Tryz.prog W 0 (fun _ => true) true m 22 [c6] = some y6 from fld_at hg 6 22 6 1 rfl k3) (fun x hx9 => hlt x (by simp [hx9]))
    subst e6
    rw [show Tryz.prog.bytesOf 3 = 8 by kernel_rfl] at b6
    have hb6 : vs.length ≤ 17592186044416 := by have : reachBytes ≤ 140737488355328 := (by decide); omega
    exact ⟨(.slice A vs.length q, ⟨a0, a1, a2, a3, a4, a5, vs, a7⟩), rfl, A, q, rfl, r6, hb6⟩
theorem zip_self (f : Nat → Value) : ∀ (ls : List (Value × Motion)) (k : Nat), (∀ i (hi : i < ls.length), f (k + i) = ls[i].1) → zipV f k (ls.map (·.2)) = ls
  | [], _, _ => rfl
  | p :: r, k, h => by
    show (f k, p.2) :: zipV f (k + 1) (r.map (·.2)) = p :: r
    rw [zip_self f r (k + 1) fun i hi => by
      have := h (i + 1) (by simpa using hi)
      rw [show k + 1 + i = k + (i + 1) by omega, this]
      rfl]
    have h0 := h 0 (by simp)
    rw [Nat.add_zero] at h0
    rw [h0]
    rfl
set_option maxRecDepth 100000 in
theorem open_led {b0 : Nat} {v : Value} {d : DataW H} {p : List MemPlace} (hv : Value.okWide Tryz.prog W .any b0 41 v) (h : DataW.Trod enc Tryz.prog W 0 (fun _ => true) true 41 v d p) (hlt : ∀ x ∈ p, x.block < W.heap.size)
    (hw : ∀ n ∈ d.weights Tryz.prog 41, n ≤ reachBytes) : ∃ (L : LV) (y : Ledger), v = .agg #[.int .i64 y.items, .slice L.fa y.facts.length L.fc, .slice L.ma y.motions.length L.mc, .slice L.sa y.sent.length L.sc] ∧ LAt W.heap.size W L y := by
  obtain ⟨cs, rfl, hsz⟩ := okWide_struct Tryz.underlying41 hv
  obtain ⟨l⟩ := cs
  have k1 : Tryz.prog.cellsOf 3 = 1 := by kernel_rfl
  have kf : Tryz.prog.cellsOf 37 = 1 := by kernel_rfl
  have km : Tryz.prog.cellsOf 38 = 1 := by kernel_rfl
  have ks : Tryz.prog.cellsOf 39 = 1 := by kernel_rfl
  have hrb : reachBytes ≤ 140737488355328 := by decide
  match l, hsz.trans (show Tryz.prog.cellsOf 41 = 4 by kernel_rfl) with
  | [c0, c1, c2, c3], _ =>
    obtain ⟨fuel, hf⟩ := h
    obtain ⟨xs, m, _, hx, _, hlen, hg⟩ := DataW.trod_struct Tryz.underlying41 hf
    match xs, hlen with
    | [y0, y1, y2, y3], _ =>
      have hx1 := congrArg Prod.fst hx
      have hx2 := congrArg Prod.snd hx
      simp only at hx1 hx2
      subst hx1 hx2
      have hwj : ∀ (j : Nat) (t : TypeId) (dd : DataW H), ([(3 : TypeId), 37, 38, 39] : List TypeId)[j]? = some t → [y0.1, y1.1, y2.1, y3.1][j]? = some dd → ∀ n ∈ dd.weights Tryz.prog t, n ≤ reachBytes := fun j t dd h1 h2 n hn => hw n (by
        simp only [DataW.weights, Tryz.underlying41]
        exact DataW.weights_mem_each (j := j) (t := t) h1 h2 n hn)
      obtain ⟨a0, rfl⟩ := one_cell Tryz.underlying3 (show DataW.trod enc Tryz.prog W 0 (fun _ => true) true m 3 [c0] = some y0 from fld_at hg 0 3 0 1 rfl k1)
      obtain ⟨fa, fc, fs, rfl, -, rf, -, bf⟩ := rows_of (Pr := fun _ : Known => True) (en := encKnown) (sz := 6) (by omega) (fun _ => rfl) Tryz.underlying37 (by kernel_rfl) (hwj 1 _ _ rfl rfl) (fun n cs z hl hz _ _ => by
        obtain ⟨x, rfl⟩ := cells_known hl hz
        exact ⟨x, rfl, trivial⟩) (show DataW.trod enc Tryz.prog W 0 (fun _ => true) true m 37 [c1] = some y1 from fld_at hg 1 37 1 1 rfl kf) (fun x hx9 => hlt x (by simp [hx9]))
      obtain ⟨ma, mc, ms, rfl, -, rm, pm, bm⟩ := rows_of (Pr := MotIn W) (en := encVM) (sz := 8) (by omega) (fun _ => rfl) Tryz.underlying38 (by kernel_rfl) (hwj 2 _ _ rfl rfl) (fun n cs z hl hz h1 h2 => cells_mot hl hz h1 h2)
        (show DataW.trod enc Tryz.prog W 0 (fun _ => true) true m 38 [c2] = some y2 from fld_at hg 2 38 2 1 rfl km) (fun x hx9 => hlt x (by simp [hx9]))
      obtain ⟨sa, sc, ss, rfl, -, rs, -, bs⟩ := rows_of (Pr := fun _ : Alarm => True) (en := encAlarm) (sz := 4) (by omega) (fun _ => rfl) Tryz.underlying39 (by kernel_rfl) (hwj 3 _ _ rfl rfl) (fun n cs z hl hz _ _ => by
        obtain ⟨x, rfl⟩ := cells_alarm hl hz
        exact ⟨x, rfl, trivial⟩) (show DataW.trod enc Tryz.prog W 0 (fun _ => true) true m 39 [c3] = some y3 from fld_at hg 3 39 3 1 rfl ks) (fun x hx9 => hlt x (by simp [hx9]))
      rw [show Tryz.prog.bytesOf 68 = 48 by kernel_rfl] at bf
      rw [show Tryz.prog.bytesOf 52 = 80 by kernel_rfl] at bm
      rw [show Tryz.prog.bytesOf 106 = 32 by kernel_rfl] at bs
      have hvo : ∀ i, votedOf ⟨a0, fs, ms.map (·.2), ss⟩ i = ((ms[i]?).map fun p => p.2.voted).getD [] := fun i => by
        unfold votedOf vOf
        rw [List.getElem?_map]
        cases ms[i]? <;> rfl
      have hvi : ∀ i (hi : i < ms.length), votedOf ⟨a0, fs, ms.map (·.2), ss⟩ i = ms[i].2.voted := fun i hi => by
        rw [hvo, List.getElem?_eq_getElem hi]; rfl
      have hvn : ∀ i, ¬ i < ms.length → votedOf ⟨a0, fs, ms.map (·.2), ss⟩ i = [] := fun i hi => by
        rw [hvo, List.getElem?_eq_none (by omega)]; rfl
      refine ⟨⟨fa, fc, ma, mc, sa, sc, fun i => match ms[i]? with | some p => (slA p.1, slC p.1) | none => (none, 0)⟩, ⟨a0, fs, ms.map (·.2), ss⟩, by simp, ?_⟩
      refine ⟨Lo.of rf, ?_, Lo.of rs, fun i => ?_, by show fs.length ≤ _; omega, by show (ms.map (·.2)).length ≤ _; rw [List.length_map]; omega, by show ss.length ≤ _; omega, fun i => ?_⟩
      · have hz : zipV (vV ⟨fa, fc, ma, mc, sa, sc, fun i => match ms[i]? with | some p => (slA p.1, slC p.1) | none => (none, 0)⟩ ⟨a0, fs, ms.map (·.2), ss⟩) 0 (ms.map (·.2)) = ms := zip_self _ ms 0 fun i hi => by
          obtain ⟨A, q, e1, -, -⟩ := pm i hi
          rw [Nat.zero_add]
          unfold vV
          simp only [List.getElem?_eq_getElem hi, hvi i hi]
          rw [e1]
          rfl
        rw [hz]
        simpa using Lo.of rm
      · by_cases hi : i < ms.length
        · obtain ⟨A, q, e1, r1, -⟩ := pm i hi
          rw [hvi i hi]
          simp only [List.getElem?_eq_getElem hi, e1, slA]
          exact Lo.of r1
        · rw [hvn i hi]
          exact Lo.nil _ _ _ _ _
      · by_cases hi : i < ms.length
        · obtain ⟨A, q, -, -, b1⟩ := pm i hi
          rw [hvi i hi]
          exact b1
        · rw [hvn i hi]
          simp
set_option maxRecDepth 100000 in
theorem open_items2 {b0 : Nat} {v : Value} {d : DataW H} {p : List MemPlace} (hv : Value.okWide Tryz.prog W .any b0 29 v) (h : DataW.Trod enc Tryz.prog W 0 (fun _ => true) true 29 v d p) (hlt : ∀ x ∈ p, x.block < W.heap.size) :
    ∃ (A : Option Addr) (cap : Nat) (l : List CItem), v = .slice A l.length cap ∧ Rd none W 9 encItem A l.length l ∧ l.length ≤ cap := by
  obtain ⟨A0, n0, c0, rfl⟩ := okWide_slice Tryz.underlying29 hv
  obtain ⟨fuel, h⟩ := h
  obtain ⟨A, cap, ls, e, hle, r⟩ := rows_at (en := encItem) (sz := 9) (by omega) (fun _ => rfl) Tryz.underlying29 (by kernel_rfl) (fun n cs z hl hz => cells_item hl hz) h hlt
  exact ⟨A, cap, ls, e, r, hle⟩
end
end Go.Proofs.YtogpgnljomchcaaGreat
