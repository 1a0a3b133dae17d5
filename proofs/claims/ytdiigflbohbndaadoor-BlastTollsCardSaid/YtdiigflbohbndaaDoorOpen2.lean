/- Arguments opened: rocks, falls, stones by value. -/
import Derived.Test.YtdiigflbohbndaaDoorCard
namespace Go.Proofs.YtdiigflbohbndaaDoor
open Go.ChangeShapes Go.WideShapes Go.ChangeAt Go.WideMaps Go.WideElems Go.RowKit Go.Deep

section
variable {H : Type} {enc : TypeId × Value → H} {W : World} {base : Nat} {sp : Nat → Bool} {hd : Bool}
theorem one_cell {n : Nat} {t : TypeId} {c : Value} {z : DataW H × List MemPlace} (ht : Tryd.prog.underlying t = some (.int .i64)) (h : DataW.trod enc Tryd.prog W base sp hd n t [c] = some z) : ∃ a, c = .int .i64 a := by
  obtain ⟨a, ha, _⟩ := DataW.trod_int ht h
  injection ha with ha
  exact ⟨a, ha⟩
theorem one_flag {n : Nat} {t : TypeId} {c : Value} {z : DataW H × List MemPlace} (ht : Tryd.prog.underlying t = some .bool) (h : DataW.trod enc Tryd.prog W base sp hd n t [c] = some z) : ∃ a, c = .bool a := by
  obtain ⟨a, ha, _⟩ := DataW.trod_bool ht h
  injection ha with ha
  exact ⟨a, ha⟩
set_option maxRecDepth 100000 in
theorem fld_at {fs : Array Field} {xs : List (DataW H × List MemPlace)} {n : Nat} {cs : List Value} (hg : ∀ (i : Nat) (f : Field), fs[i]? = some f → DataW.trod enc Tryd.prog W base sp hd n f.type ((cs.drop f.offset).take (Tryd.prog.cellsOf f.type)) = xs[i]?)
    (i t o k : Nat) (h : ((fs[i]?).map fun f => (f.type, f.offset)) = some (t, o)) (hk : Tryd.prog.cellsOf t = k) : DataW.trod enc Tryd.prog W base sp hd n t ((cs.drop o).take k) = xs[i]? := by
  obtain ⟨f, hf, e⟩ := Option.map_eq_some_iff.1 h
  injection e with e1 e2
  subst e1 e2 hk
  exact hg i f hf
set_option maxRecDepth 100000 in
theorem two_cells {n : Nat} {c d : Value} {z : DataW H × List MemPlace} (h : DataW.trod enc Tryd.prog W base sp hd n 26 [c, d] = some z) : ∃ a b, c = .int .i64 a ∧ d = .int .i64 b := by
  obtain ⟨xs, m, _, _, _, hlen, hg⟩ := DataW.trod_struct Tryd.underlying26 h
  have c1 : Tryd.prog.cellsOf 2 = 1 := by kernel_rfl
  match xs, hlen with
  | [y0, y1], _ =>
    have e0 := fld_at hg 0 2 0 1 rfl c1
    have e1 := fld_at hg 1 2 1 1 rfl c1
    obtain ⟨a, rfl⟩ := one_cell Tryd.underlying2 (show DataW.trod enc Tryd.prog W base sp hd m 2 [c] = some y0 from e0)
    obtain ⟨b, rfl⟩ := one_cell Tryd.underlying2 (show DataW.trod enc Tryd.prog W base sp hd m 2 [d] = some y1 from e1)
    exact ⟨a, b, rfl, rfl⟩
set_option maxRecDepth 100000 in
theorem open_fall {b0 : Nat} {v : Value} {d : DataW H} {p : List MemPlace} (hv : Value.okWide Tryd.prog W .any b0 30 v) (h : DataW.Trod enc Tryd.prog W base sp hd 30 v d p) : ∃ f : Fall, v = .agg #[.int .i64 f.speed.lo, .int .i64 f.speed.hi, .int .i64 f.slope.lo, .int .i64 f.slope.hi] := by
  obtain ⟨cs, rfl, hsz⟩ := okWide_struct Tryd.underlying30 hv
  obtain ⟨l⟩ := cs
  have c26 : Tryd.prog.cellsOf 26 = 2 := by kernel_rfl
  match l, hsz.trans (show Tryd.prog.cellsOf 30 = 4 by kernel_rfl) with
  | [c0, c1, c2, c3], _ =>
    obtain ⟨fuel, hf⟩ := h
    obtain ⟨xs, n, _, _, _, hlen, hg⟩ := DataW.trod_struct Tryd.underlying30 hf
    match xs, hlen with
    | [y0, y1], _ =>
      have e0 := fld_at hg 0 26 0 2 rfl c26
      have e1 := fld_at hg 1 26 2 2 rfl c26
      obtain ⟨a0, a1, rfl, rfl⟩ := two_cells (show DataW.trod enc Tryd.prog W base sp hd n 26 [c0, c1] = some y0 from e0)
      obtain ⟨a2, a3, rfl, rfl⟩ := two_cells (show DataW.trod enc Tryd.prog W base sp hd n 26 [c2, c3] = some y1 from e1)
      exact ⟨⟨⟨a0, a1⟩, ⟨a2, a3⟩⟩, rfl⟩
set_option maxRecDepth 100000 in
theorem open_rock {b0 : Nat} {v : Value} {d : DataW H} {p : List MemPlace} (hv : Value.okWide Tryd.prog W .any b0 28 v) (h : DataW.Trod enc Tryd.prog W base sp hd 28 v d p) : ∃ r : Rock, v = .agg #[.int .i64 r.size.lo, .int .i64 r.size.hi, .int .i64 r.dens.lo, .int .i64 r.dens.hi, .int .i64 r.strong.lo, .int .i64 r.strong.hi, .int .i64 r.spin.lo, .int .i64 r.spin.hi, .int .i64 r.shape.lo, .int .i64 r.shape.hi, .bool r.pile] := by
  obtain ⟨cs, rfl, hsz⟩ := okWide_struct Tryd.underlying28 hv
  obtain ⟨l⟩ := cs
  have c26 : Tryd.prog.cellsOf 26 = 2 := by kernel_rfl
  have c4 : Tryd.prog.cellsOf 4 = 1 := by kernel_rfl
  match l, hsz.trans (show Tryd.prog.cellsOf 28 = 11 by kernel_rfl) with
  | [c0, c1, c2, c3, c4', c5, c6, c7, c8, c9, c10], _ =>
    obtain ⟨fuel, hf⟩ := h
    obtain ⟨xs, n, _, _, _, hlen, hg⟩ := DataW.trod_struct Tryd.underlying28 hf
    match xs, hlen with
    | [y0, y1, y2, y3, y4, y5], _ =>
      have e0 := fld_at hg 0 26 0 2 rfl c26
      have e1 := fld_at hg 1 26 2 2 rfl c26
      have e2 := fld_at hg 2 26 4 2 rfl c26
      have e3 := fld_at hg 3 26 6 2 rfl c26
      have e4 := fld_at hg 4 26 8 2 rfl c26
      have e5 := fld_at hg 5 4 10 1 rfl c4
      obtain ⟨a0, a1, rfl, rfl⟩ := two_cells (show DataW.trod enc Tryd.prog W base sp hd n 26 [c0, c1] = some y0 from e0)
      obtain ⟨a2, a3, rfl, rfl⟩ := two_cells (show DataW.trod enc Tryd.prog W base sp hd n 26 [c2, c3] = some y1 from e1)
      obtain ⟨a4, a5, rfl, rfl⟩ := two_cells (show DataW.trod enc Tryd.prog W base sp hd n 26 [c4', c5] = some y2 from e2)
      obtain ⟨a6, a7, rfl, rfl⟩ := two_cells (show DataW.trod enc Tryd.prog W base sp hd n 26 [c6, c7] = some y3 from e3)
      obtain ⟨a8, a9, rfl, rfl⟩ := two_cells (show DataW.trod enc Tryd.prog W base sp hd n 26 [c8, c9] = some y4 from e4)
      obtain ⟨aA, rfl⟩ := one_flag Tryd.underlying4 (show DataW.trod enc Tryd.prog W base sp hd n 4 [c10] = some y5 from e5)
      exact ⟨⟨⟨a0, a1⟩, ⟨a2, a3⟩, ⟨a4, a5⟩, ⟨a6, a7⟩, ⟨a8, a9⟩, aA⟩, rfl⟩
set_option maxRecDepth 100000 in
theorem open_stone {b0 : Nat} {v : Value} {d : DataW H} {p : List MemPlace} (hv : Value.okWide Tryd.prog W .any b0 36 v) (h : DataW.Trod enc Tryd.prog W base sp hd 36 v d p) : ∃ s : Stone, v = .agg #[.int .i64 s.size, .int .i64 s.dens, .int .i64 s.strong, .int .i64 s.spin, .int .i64 s.shape, .bool s.pile, .int .i64 s.speed, .int .i64 s.slope] := by
  obtain ⟨cs, rfl, hsz⟩ := okWide_struct Tryd.underlying36 hv
  obtain ⟨l⟩ := cs
  have c1 : Tryd.prog.cellsOf 2 = 1 := by kernel_rfl
  have c4 : Tryd.prog.cellsOf 4 = 1 := by kernel_rfl
  match l, hsz.trans (show Tryd.prog.cellsOf 36 = 8 by kernel_rfl) with
  | [d0, d1, d2, d3, d4, d5, d6, d7], _ =>
    obtain ⟨fuel, hf⟩ := h
    obtain ⟨xs, n, _, _, _, hlen, hg⟩ := DataW.trod_struct Tryd.underlying36 hf
    match xs, hlen with
    | [y0, y1, y2, y3, y4, y5, y6, y7], _ =>
      have e0 := fld_at hg 0 2 0 1 rfl c1
      have e1 := fld_at hg 1 2 1 1 rfl c1
      have e2 := fld_at hg 2 2 2 1 rfl c1
      have e3 := fld_at hg 3 2 3 1 rfl c1
      have e4 := fld_at hg 4 2 4 1 rfl c1
      have e6 := fld_at hg 6 2 6 1 rfl c1
      have e7 := fld_at hg 7 2 7 1 rfl c1
      have e5 := fld_at hg 5 4 5 1 rfl c4
      obtain ⟨a0, rfl⟩ := one_cell Tryd.underlying2 (show DataW.trod enc Tryd.prog W base sp hd n 2 [d0] = some y0 from e0)
      obtain ⟨a1, rfl⟩ := one_cell Tryd.underlying2 (show DataW.trod enc Tryd.prog W base sp hd n 2 [d1] = some y1 from e1)
      obtain ⟨a2, rfl⟩ := one_cell Tryd.underlying2 (show DataW.trod enc Tryd.prog W base sp hd n 2 [d2] = some y2 from e2)
      obtain ⟨a3, rfl⟩ := one_cell Tryd.underlying2 (show DataW.trod enc Tryd.prog W base sp hd n 2 [d3] = some y3 from e3)
      obtain ⟨a4, rfl⟩ := one_cell Tryd.underlying2 (show DataW.trod enc Tryd.prog W base sp hd n 2 [d4] = some y4 from e4)
      obtain ⟨a6, rfl⟩ := one_cell Tryd.underlying2 (show DataW.trod enc Tryd.prog W base sp hd n 2 [d6] = some y6 from e6)
      obtain ⟨a7, rfl⟩ := one_cell Tryd.underlying2 (show DataW.trod enc Tryd.prog W base sp hd n 2 [d7] = some y7 from e7)
      obtain ⟨a5, rfl⟩ := one_flag Tryd.underlying4 (show DataW.trod enc Tryd.prog W base sp hd n 4 [d5] = some y5 from e5)
      exact ⟨⟨a0, a1, a2, a3, a4, a5, a6, a7⟩, rfl⟩
end
end Go.Proofs.YtdiigflbohbndaaDoor
