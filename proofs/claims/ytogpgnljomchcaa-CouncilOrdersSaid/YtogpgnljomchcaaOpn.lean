/- Arguments opened: chances, items, councils, slices of items. -/
import Derived.Test.YtogpgnljomchcaaCrd
namespace Go.Proofs.Ytogpgnljomchcaa
open Go.ChangeShapes Go.WideShapes Go.ChangeAt Go.WideMaps Go.WideElems Go.RowKit Go.Deep

section
variable {H : Type} {enc : TypeId × Value → H} {W : World} {base : Nat} {sp : Nat → Bool} {hd : Bool}
theorem one_cell {k : IntKind} {n : Nat} {t : TypeId} {c : Value} {z : DataW H × List MemPlace} (ht : Try.prog.underlying t = some (.int k)) (h : DataW.trod enc Try.prog W base sp hd n t [c] = some z) : ∃ a, c = .int k a := by
  obtain ⟨a, ha, _⟩ := DataW.trod_int ht h
  injection ha with ha
  exact ⟨a, ha⟩
theorem one_flag {n : Nat} {t : TypeId} {c : Value} {z : DataW H × List MemPlace} (ht : Try.prog.underlying t = some .bool) (h : DataW.trod enc Try.prog W base sp hd n t [c] = some z) : ∃ a, c = .bool a := by
  obtain ⟨a, ha, _⟩ := DataW.trod_bool ht h
  injection ha with ha
  exact ⟨a, ha⟩
set_option maxRecDepth 100000 in
theorem fld_at {fs : Array Field} {xs : List (DataW H × List MemPlace)} {n : Nat} {cs : List Value} (hg : ∀ (i : Nat) (f : Field), fs[i]? = some f → DataW.trod enc Try.prog W base sp hd n f.type ((cs.drop f.offset).take (Try.prog.cellsOf f.type)) = xs[i]?)
    (i t o k : Nat) (h : ((fs[i]?).map fun f => (f.type, f.offset)) = some (t, o)) (hk : Try.prog.cellsOf t = k) : DataW.trod enc Try.prog W base sp hd n t ((cs.drop o).take k) = xs[i]? := by
  obtain ⟨f, hf, e⟩ := Option.map_eq_some_iff.1 h
  injection e with e1 e2
  subst e1 e2 hk
  exact hg i f hf
theorem rows_at {α : Type} [Inhabited α] {sz : Nat} {en : α → List Value} (hz : 0 < sz) (hen : ∀ x, (en x).length = sz) {fuel : Nat} {t e : TypeId} {c : Value} {y : DataW H × List MemPlace} (ht : Try.prog.underlying t = some (.slice e)) (hC : Try.prog.cellsOf e = sz)
    (hQ : ∀ n cs z, cs.length = sz → DataW.trod enc Try.prog W 0 (fun _ => true) true n e cs = some z → ∃ x : α, cs = en x) (h : DataW.trod enc Try.prog W 0 (fun _ => true) true fuel t [c] = some y) (hlt : ∀ x ∈ y.2, x.block < W.heap.size) :
    ∃ (A : Option Addr) (cap : Nat) (ls : List α), c = .slice A ls.length cap ∧ ls.length ≤ cap ∧ Rd none W sz en A ls.length ls := by
  rcases Go.Deep.open_slice ht h with ⟨g1, g2⟩ | ⟨a, len, cap, m, n, D, Pl, g1, hb, hle, hm, hmm, hx, hel⟩
  · simp only [List.cons.injEq, and_true] at g1
    exact ⟨none, 0, [], g1, Nat.le_refl _, Rd.nil _ _ _ _ _⟩
  · simp only [List.cons.injEq, and_true] at g1
    have hm' : m = cap := by rw [hmm]; simp
    subst hm'
    have key : ∀ i, i < len → ∃ x : α, ∀ j v, (en x)[j]? = some v → W.cell? (a.add (i * sz + j)) = some v := by
      intro i hi
      obtain ⟨cs', hc, ht'⟩ := hel i (by omega)
      rw [hC] at hc
      obtain ⟨_, hcl, hat⟩ := World.cells?_some hc
      obtain ⟨x, rfl⟩ := hQ _ _ _ hcl ht'
      refine ⟨x, fun j v hv => ?_⟩
      have hj := (List.getElem?_eq_some_iff.1 hv).1
      rw [hen] at hj
      have := hat j hj
      rw [Go.Deep.add_add] at this
      rw [this]
      exact hv
    obtain ⟨f, hf⟩ := choose_lt (α := α) key
    have hl : ((List.range len).map f).length = len := by simp
    refine ⟨some a, m, (List.range len).map f, by rw [hl]; exact g1, by rw [hl]; exact hle, ⟨rfl, fun hn => ?_⟩⟩
    rw [hl] at hn
    obtain ⟨b, o, s⟩ := a
    have h0 := hf 0 hn 0 ((en (f 0))[0]'(by rw [hen]; exact hz)) (List.getElem?_eq_getElem _)
    have hsp : s = none := by simpa [Addr.add] using World.cell?_spot h0
    subst hsp
    refine ⟨b, o, rfl, ?_, by simp, fun i hi j v hv => ?_⟩
    · refine hlt (.cell b o) ?_
      have := congrArg Prod.snd hx
      simp only at this
      rw [this]
      exact List.mem_append_left _ (List.mem_map.2 ⟨0, List.mem_range.2 (by rw [hC]; exact Nat.mul_pos (by omega) hz), rfl⟩)
    · rw [hl] at hi
      rw [List.getElem_map, List.getElem_range] at hv
      have := hf i hi j v hv
      rw [Go.WideShapes.add_plain] at this
      exact this
set_option maxRecDepth 100000 in
theorem cells_member {n : Nat} {cs : List Value} {z : DataW H × List MemPlace} (hl : cs.length = 2) (h : DataW.trod enc Try.prog W base sp hd n 87 cs = some z) : ∃ x : Member, cs = encMember x := by
  obtain ⟨xs, m, _, _, _, hlen, hg⟩ := DataW.trod_struct Try.underlying87 h
  have k0 : Try.prog.cellsOf 3 = 1 := by kernel_rfl
  have k1 : Try.prog.cellsOf 2 = 1 := by kernel_rfl
  match cs, hl, xs, hlen with
  | [c0, c1], _, [y0, y1], _ =>
    obtain ⟨a0, rfl⟩ := one_cell Try.underlying3 (show DataW.trod enc Try.prog W base sp hd m 3 [c0] = some y0 from fld_at hg 0 3 0 1 rfl k0)
    obtain ⟨a1, rfl⟩ := one_cell Try.underlying2 (show DataW.trod enc Try.prog W base sp hd m 2 [c1] = some y1 from fld_at hg 1 2 1 1 rfl k1)
    exact ⟨⟨a0, a1⟩, rfl⟩
set_option maxRecDepth 100000 in
theorem cells_law {n : Nat} {cs : List Value} {z : DataW H × List MemPlace} (hl : cs.length = 5) (h : DataW.trod enc Try.prog W base sp hd n 61 cs = some z) : ∃ x : LawC, cs = encLaw x := by
  obtain ⟨xs, m, _, _, _, hlen, hg⟩ := DataW.trod_struct Try.underlying61 h
  have k0 : Try.prog.cellsOf 3 = 1 := by kernel_rfl
  have k1 : Try.prog.cellsOf 3 = 1 := by kernel_rfl
  have k2 : Try.prog.cellsOf 2 = 1 := by kernel_rfl
  have k3 : Try.prog.cellsOf 2 = 1 := by kernel_rfl
  have k4 : Try.prog.cellsOf 2 = 1 := by kernel_rfl
  match cs, hl, xs, hlen with
  | [c0, c1, c2, c3, c4], _, [y0, y1, y2, y3, y4], _ =>
    obtain ⟨a0, rfl⟩ := one_cell Try.underlying3 (show DataW.trod enc Try.prog W base sp hd m 3 [c0] = some y0 from fld_at hg 0 3 0 1 rfl k0)
    obtain ⟨a1, rfl⟩ := one_cell Try.underlying3 (show DataW.trod enc Try.prog W base sp hd m 3 [c1] = some y1 from fld_at hg 1 3 1 1 rfl k1)
    obtain ⟨a2, rfl⟩ := one_cell Try.underlying2 (show DataW.trod enc Try.prog W base sp hd m 2 [c2] = some y2 from fld_at hg 2 2 2 1 rfl k2)
    obtain ⟨a3, rfl⟩ := one_cell Try.underlying2 (show DataW.trod enc Try.prog W base sp hd m 2 [c3] = some y3 from fld_at hg 3 2 3 1 rfl k3)
    obtain ⟨a4, rfl⟩ := one_cell Try.underlying2 (show DataW.trod enc Try.prog W base sp hd m 2 [c4] = some y4 from fld_at hg 4 2 4 1 rfl k4)
    exact ⟨⟨a0, a1, a2, a3, a4⟩, rfl⟩
set_option maxRecDepth 100000 in
theorem cells_chance {n : Nat} {cs : List Value} {z : DataW H × List MemPlace} (hl : cs.length = 3) (h : DataW.trod enc Try.prog W base sp hd n 29 cs = some z) : ∃ x : Chance, cs = (fun x : Chance => [Value.int .i64 x.least, .int .i64 x.most, .int .i64 x.all]) x := by
  obtain ⟨xs, m, _, _, _, hlen, hg⟩ := DataW.trod_struct Try.underlying29 h
  have k0 : Try.prog.cellsOf 2 = 1 := by kernel_rfl
  have k1 : Try.prog.cellsOf 2 = 1 := by kernel_rfl
  have k2 : Try.prog.cellsOf 2 = 1 := by kernel_rfl
  match cs, hl, xs, hlen with
  | [c0, c1, c2], _, [y0, y1, y2], _ =>
    obtain ⟨a0, rfl⟩ := one_cell Try.underlying2 (show DataW.trod enc Try.prog W base sp hd m 2 [c0] = some y0 from fld_at hg 0 2 0 1 rfl k0)
    obtain ⟨a1, rfl⟩ := one_cell Try.underlying2 (show DataW.trod enc Try.prog W base sp hd m 2 [c1] = some y1 from fld_at hg 1 2 1 1 rfl k1)
    obtain ⟨a2, rfl⟩ := one_cell Try.underlying2 (show DataW.trod enc Try.prog W base sp hd m 2 [c2] = some y2 from fld_at hg 2 2 2 1 rfl k2)
    exact ⟨⟨a0, a1, a2⟩, rfl⟩
theorem cells_i64 {n : Nat} {cs : List Value} {z : DataW H × List MemPlace} (hl : cs.length = 1) (h : DataW.trod enc Try.prog W base sp hd n 2 cs = some z) : ∃ x : Int, cs = encI x := by
  match cs, hl with
  | [c], _ =>
    obtain ⟨a, rfl⟩ := one_cell Try.underlying2 h
    exact ⟨a, rfl⟩
set_option maxRecDepth 100000 in
theorem cells_item {n : Nat} {cs : List Value} {z : DataW H × List MemPlace} (hl : cs.length = 9) (h : DataW.trod enc Try.prog W base sp hd n 31 cs = some z) : ∃ x : CItem, cs = encItem x := by
  obtain ⟨xs, m, _, _, _, hlen, hg⟩ := DataW.trod_struct Try.underlying31 h
  have k1 : Try.prog.cellsOf 3 = 1 := by kernel_rfl
  have k2 : Try.prog.cellsOf 2 = 1 := by kernel_rfl
  have k3 : Try.prog.cellsOf 4 = 1 := by kernel_rfl
  have k4 : Try.prog.cellsOf 29 = 3 := by kernel_rfl
  match cs, hl, xs, hlen with
  | [c0, c1, c2, c3, c4, c5, c6, c7, c8], _, [y0, y1, y2, y3, y4, y5, y6], _ =>
    obtain ⟨a0, rfl⟩ := one_cell Try.underlying3 (show DataW.trod enc Try.prog W base sp hd m 3 [c0] = some y0 from fld_at hg 0 3 0 1 rfl k1)
    obtain ⟨a1, rfl⟩ := one_cell Try.underlying2 (show DataW.trod enc Try.prog W base sp hd m 2 [c1] = some y1 from fld_at hg 1 2 1 1 rfl k2)
    obtain ⟨a2, rfl⟩ := one_flag Try.underlying4 (show DataW.trod enc Try.prog W base sp hd m 4 [c2] = some y2 from fld_at hg 2 4 2 1 rfl k3)
    obtain ⟨a3, rfl⟩ := one_cell Try.underlying3 (show DataW.trod enc Try.prog W base sp hd m 3 [c3] = some y3 from fld_at hg 3 3 3 1 rfl k1)
    obtain ⟨a4, rfl⟩ := one_cell Try.underlying3 (show DataW.trod enc Try.prog W base sp hd m 3 [c4] = some y4 from fld_at hg 4 3 4 1 rfl k1)
    obtain ⟨a5, rfl⟩ := one_flag Try.underlying4 (show DataW.trod enc Try.prog W base sp hd m 4 [c5] = some y5 from fld_at hg 5 4 5 1 rfl k3)
    obtain ⟨x, hx⟩ := cells_chance (by rfl) (show DataW.trod enc Try.prog W base sp hd m 29 [c6, c7, c8] = some y6 from fld_at hg 6 29 6 3 rfl k4)
    simp only [List.cons.injEq, and_true] at hx
    obtain ⟨rfl, rfl, rfl⟩ := hx
    exact ⟨⟨a0, a1, a2, a3, a4, a5, x⟩, rfl⟩
set_option maxRecDepth 100000 in
theorem open_chance {b0 : Nat} {v : Value} {d : DataW H} {p : List MemPlace} (hv : Value.okWide Try.prog W .any b0 29 v) (h : DataW.Trod enc Try.prog W base sp hd 29 v d p) : ∃ x : Chance, v = .agg #[.int .i64 x.least, .int .i64 x.most, .int .i64 x.all] := by
  obtain ⟨cs, rfl, hsz⟩ := okWide_struct Try.underlying29 hv
  obtain ⟨l⟩ := cs
  obtain ⟨fuel, hf⟩ := h
  obtain ⟨x, hx⟩ := cells_chance (hsz.trans (show Try.prog.cellsOf 29 = 3 by kernel_rfl)) hf
  have hx' : l = _ := hx
  subst hx'
  exact ⟨x, rfl⟩
set_option maxRecDepth 100000 in
theorem open_item {b0 : Nat} {v : Value} {d : DataW H} {p : List MemPlace} (hv : Value.okWide Try.prog W .any b0 31 v) (h : DataW.Trod enc Try.prog W base sp hd 31 v d p) : ∃ x : CItem, v = .agg #[.int .i64 x.kind, .int .i64 x.tick, .bool x.drill, .int .i64 x.a, .int .i64 x.b, .bool x.yes, .int .i64 x.chance.least, .int .i64 x.chance.most, .int .i64 x.chance.all] := by
  obtain ⟨cs, rfl, hsz⟩ := okWide_struct Try.underlying31 hv
  obtain ⟨l⟩ := cs
  obtain ⟨fuel, hf⟩ := h
  obtain ⟨x, hx⟩ := cells_item (hsz.trans (show Try.prog.cellsOf 31 = 9 by kernel_rfl)) hf
  have hx' : l = _ := hx
  subst hx'
  exact ⟨x, rfl⟩
end
section
variable {H : Type} {enc : TypeId × Value → H} {W : World}
/-- a council as it was given: its lists, of whatever length -/
structure CAt0 (w : World) (V : CV) (c : Council) : Prop where
  m : Lo w.heap.size w 2 encMember V.am c.members.length c.members
  l : Lo w.heap.size w 5 encLaw V.al c.laws.length c.laws
  v : Lo w.heap.size w 1 encI V.av c.levels.length c.levels
theorem CAt0.cat {V : CV} {c : Council} (s : CAt0 W V c) (h1 : c.members.length ≤ 17592186044416) (h2 : c.laws.length ≤ 17592186044416) (h3 : c.levels.length ≤ 17592186044416) : CAt W.heap.size W V c := ⟨s.m, s.l, s.v, h1, h2, h3⟩
set_option maxRecDepth 100000 in
theorem open_coun {b0 : Nat} {v : Value} {d : DataW H} {p : List MemPlace} (hv : Value.okWide Try.prog W .any b0 26 v) (h : DataW.Trod enc Try.prog W 0 (fun _ => true) true 26 v d p) (hlt : ∀ x ∈ p, x.block < W.heap.size) :
    ∃ (V : CV) (c : Council), v = .agg #[.slice V.am c.members.length V.cm, .slice V.al c.laws.length V.cl, .slice V.av c.levels.length V.cv] ∧ CAt0 W V c := by
  obtain ⟨cs, rfl, hsz⟩ := okWide_struct Try.underlying26 hv
  obtain ⟨l⟩ := cs
  have k1 : Try.prog.cellsOf 22 = 1 := by kernel_rfl
  have k2 : Try.prog.cellsOf 23 = 1 := by kernel_rfl
  have k3 : Try.prog.cellsOf 24 = 1 := by kernel_rfl
  match l, hsz.trans (show Try.prog.cellsOf 26 = 3 by kernel_rfl) with
  | [d0, d1, d2], _ =>
    obtain ⟨fuel, hf⟩ := h
    obtain ⟨xs, n, _, hx, _, hlen, hg⟩ := DataW.trod_struct Try.underlying26 hf
    match xs, hlen with
    | [y0, y1, y2], _ =>
      have hp := congrArg Prod.snd hx
      simp only at hp
      subst hp
      obtain ⟨A0, q0, l0, rfl, -, r0⟩ := rows_at (en := encMember) (sz := 2) (by omega) (fun _ => rfl) Try.underlying22 (by kernel_rfl) (fun n cs z hl hz => cells_member hl hz) (show DataW.trod enc Try.prog W 0 (fun _ => true) true n 22 [d0] = some y0 from fld_at hg 0 22 0 1 rfl k1) (fun x hx => hlt x (by simp [hx]))
      obtain ⟨A1, q1, l1, rfl, -, r1⟩ := rows_at (en := encLaw) (sz := 5) (by omega) (fun _ => rfl) Try.underlying23 (by kernel_rfl) (fun n cs z hl hz => cells_law hl hz) (show DataW.trod enc Try.prog W 0 (fun _ => true) true n 23 [d1] = some y1 from fld_at hg 1 23 1 1 rfl k2) (fun x hx => hlt x (by simp [hx]))
      obtain ⟨A2, q2, l2, rfl, -, r2⟩ := rows_at (en := encI) (sz := 1) (by omega) (fun _ => rfl) Try.underlying24 (by kernel_rfl) (fun n cs z hl hz => cells_i64 hl hz) (show DataW.trod enc Try.prog W 0 (fun _ => true) true n 24 [d2] = some y2 from fld_at hg 2 24 2 1 rfl k3) (fun x hx => hlt x (by simp [hx]))
      exact ⟨⟨A0, q0, A1, q1, A2, q2⟩, ⟨l0, l1, l2⟩, rfl, ⟨Lo.of r0, Lo.of r1, Lo.of r2⟩⟩
set_option maxRecDepth 100000 in
theorem open_items {b0 : Nat} {v : Value} {d : DataW H} {p : List MemPlace} (hv : Value.okWide Try.prog W .any b0 27 v) (h : DataW.Trod enc Try.prog W 0 (fun _ => true) true 27 v d p) (hlt : ∀ x ∈ p, x.block < W.heap.size) :
    ∃ (A : Option Addr) (cap : Nat) (l : List CItem), v = .slice A l.length cap ∧ Rd none W 9 encItem A l.length l := by
  obtain ⟨A0, n0, c0, rfl⟩ := okWide_slice Try.underlying27 hv
  obtain ⟨fuel, h⟩ := h
  obtain ⟨A, cap, ls, e, -, r⟩ := rows_at (en := encItem) (sz := 9) (by omega) (fun _ => rfl) Try.underlying27 (by kernel_rfl) (fun n cs z hl hz => cells_item hl hz) h hlt
  exact ⟨A, cap, ls, e, r⟩
end
end Go.Proofs.Ytogpgnljomchcaa
