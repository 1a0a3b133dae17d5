/- Arguments opened: slices of pairs of numbers, slices of numbers and of bools, rocks, falls, stones, lands. -/
import Derived.Test.YtdiigflbohbndaaDoorCard
import Derived.Test.YtdiigflbohbndaaDoorRefRock
namespace Go.Proofs.YtdiigflbohbndaaDoor
open Go.ChangeShapes Go.WideShapes Go.ChangeAt Go.WideMaps Go.WideElems Go.RowKit Go.Deep

section
variable {H : Type} {enc : TypeId × Value → H}
def cellInt (w : World) (a : Addr) : Int := match w.cell? a with | some (.int _ n) => n | _ => 0
def cellBool (w : World) (a : Addr) : Bool := match w.cell? a with | some (.bool b) => b | _ => false
theorem hone_at {P : Program} {fs : Array Field} (h : oneCellFields P fs = true) {j : Nat} {f : Field} (hj : fs[j]? = some f) : f.offset = j ∧ P.cellsOf f.type = 1 := hone_of h j f hj
set_option maxRecDepth 100000 in
/-- A slice of structs of two int64 fields. -/
theorem open_pairs {W : World} {base : Nat} {t e : TypeId} {f0 f1 : Field} {v : Value} {d : DataW H} {p : List MemPlace} (ht : Tryd.prog.underlying t = some (.slice e)) (he : Tryd.prog.underlying e = some (.struct #[f0, f1]))
    (hone : oneCellFields Tryd.prog #[f0, f1] = true) (hC : Tryd.prog.cellsOf e = 2) (h0 : Tryd.prog.underlying f0.type = some (.int .i64)) (h1 : Tryd.prog.underlying f1.type = some (.int .i64))
    (hv : Value.okWide Tryd.prog W .any base t v) (h : DataW.Trod enc Tryd.prog W 0 (fun _ => true) true t v d p) (hlt : ∀ x ∈ p, x.block < W.heap.size) :
    ∃ (A : Option Addr) (len cap : Nat), v = .slice A len cap ∧ len ≤ cap ∧ (0 < len → ∃ b o, A = some ⟨b, o, none⟩ ∧ b < W.heap.size ∧ ∀ i, i < len → ∀ j, j < 2 → W.cell? ⟨b, o + (i * 2 + j), none⟩ = some (.int .i64 (cellInt W ⟨b, o + (i * 2 + j), none⟩))) := by
  obtain ⟨A0, n0, c0, rfl⟩ := okWide_slice ht hv
  obtain ⟨fuel, h⟩ := h
  rcases Go.Deep.open_slice ht h with ⟨g1, g2⟩ | ⟨a, len, cap, m, n, D, Pl, g1, hb, hle, hm, hmm, hx, hel⟩
  · simp only [Value.cells, List.cons.injEq, Value.slice.injEq, and_true] at g1
    obtain ⟨rfl, rfl, rfl⟩ := g1
    exact ⟨none, 0, 0, rfl, Nat.le_refl _, fun h => absurd h (by omega)⟩
  · simp only [Value.cells, List.cons.injEq, Value.slice.injEq, and_true] at g1
    obtain ⟨rfl, rfl, rfl⟩ := g1
    have hm' : m = c0 := by rw [hmm]; simp
    subst hm'
    refine ⟨some a, n0, m, rfl, hle, fun hn => ?_⟩
    have key : ∀ i, i < m → ∀ j, j < 2 → ∃ z, W.cell? (a.add (i * 2 + j)) = some (.int .i64 z) := by
      intro i hi j hj
      obtain ⟨cs', hc, ht'⟩ := hel i hi
      rw [hC] at hc
      obtain ⟨ys, n', hn', hy, hlen, hyl, hf⟩ := DataW.trod_struct he ht'
      obtain ⟨_, hcl, hat⟩ := World.cells?_some hc
      have hone0 := hone_at hone (j := 0) (f := f0) rfl
      have hone1 := hone_at hone (j := 1) (f := f1) rfl
      match cs', hcl with
      | [x, y], _ =>
        have e0 := hf 0 f0 rfl
        have e1 := hf 1 f1 rfl
        rw [hone0.1, hone0.2] at e0
        rw [hone1.1, hone1.2] at e1
        match ys, hyl with
        | [y0, y1], _ =>
          obtain ⟨z0, z0e, _⟩ := DataW.trod_int h0 (show DataW.trod _ _ _ _ _ _ _ _ [x] = some y0 from e0)
          obtain ⟨z1, z1e, _⟩ := DataW.trod_int h1 (show DataW.trod _ _ _ _ _ _ _ _ [y] = some y1 from e1)
          have a0 := hat 0 (by omega)
          have a1 := hat 1 (by omega)
          rcases j with _ | _ | j
          · refine ⟨z0, ?_⟩
            rw [← Go.Deep.add_add, a0]; simpa using z0e
          · refine ⟨z1, ?_⟩
            rw [← Go.Deep.add_add, a1]; simpa using z1e
          · omega
    obtain ⟨b, o, sp⟩ := a
    obtain ⟨z, hz⟩ := key 0 (by omega) 0 (by omega)
    have hsp : sp = none := by simpa [Addr.add] using World.cell?_spot hz
    subst hsp
    refine ⟨b, o, rfl, ?_, fun i hi j hj => ?_⟩
    · refine hlt (.cell b o) ?_
      have := congrArg Prod.snd hx
      simp only at this
      rw [this]
      exact List.mem_append_left _ (List.mem_map.2 ⟨0, List.mem_range.2 (by rw [hC]; omega), rfl⟩)
    · obtain ⟨z, hz⟩ := key i (by omega) j hj
      rw [Go.WideShapes.add_plain] at hz
      unfold cellInt
      rw [hz]
set_option maxRecDepth 100000 in
theorem open_layers {W : World} {base : Nat} {v : Value} {d : DataW H} {p : List MemPlace} (hv : Value.okWide Tryd.prog W .any base 33 v) (h : DataW.Trod enc Tryd.prog W 0 (fun _ => true) true 33 v d p) (hlt : ∀ x ∈ p, x.block < W.heap.size) :
    ∃ (A : Option Addr) (cap : Nat) (ls : List Layer), v = .slice A ls.length cap ∧ Rd none W 2 encLayer A ls.length ls ∧ ls.length ≤ cap := by
  obtain ⟨A, len, cap, rfl, hle, hc⟩ := open_pairs Tryd.underlying33 Tryd.underlying43 (by kernel_rfl) (by kernel_rfl) Tryd.underlying2 Tryd.underlying2 hv h hlt
  rcases Nat.eq_zero_or_pos len with h0 | h0
  · subst h0
    exact ⟨A, cap, [], rfl, Rd.nil _ _ _ _ _, hle⟩
  · obtain ⟨b, o, rfl, hb, hcell⟩ := hc h0
    have hl : ((List.range len).map fun i => (⟨cellInt W ⟨b, o + (i * 2 + 0), none⟩, cellInt W ⟨b, o + (i * 2 + 1), none⟩⟩ : Layer)).length = len := by simp
    refine ⟨_, cap, (List.range len).map fun i => ⟨cellInt W ⟨b, o + (i * 2 + 0), none⟩, cellInt W ⟨b, o + (i * 2 + 1), none⟩⟩, by rw [hl], ⟨rfl, fun _ => ⟨b, o, rfl, hb, by simp, fun i hi j v hv => ?_⟩⟩, by rw [hl]; exact hle⟩
    rw [hl] at hi
    rw [List.getElem_map, List.getElem_range] at hv
    rcases j with _ | _ | j
    · rw [hcell i hi 0 (by omega)]; exact hv
    · rw [hcell i hi 1 (by omega)]; exact hv
    · simp [encLayer] at hv
set_option maxRecDepth 100000 in
theorem open_grades {W : World} {base : Nat} {v : Value} {d : DataW H} {p : List MemPlace} (hv : Value.okWide Tryd.prog W .any base 49 v) (h : DataW.Trod enc Tryd.prog W 0 (fun _ => true) true 49 v d p) (hlt : ∀ x ∈ p, x.block < W.heap.size) :
    ∃ (A : Option Addr) (cap : Nat) (ls : List Grade), v = .slice A ls.length cap ∧ Rd none W 2 encGrade A ls.length ls ∧ ls.length ≤ cap := by
  obtain ⟨A, len, cap, rfl, hle, hc⟩ := open_pairs Tryd.underlying49 Tryd.underlying112 (by kernel_rfl) (by kernel_rfl) Tryd.underlying2 Tryd.underlying2 hv h hlt
  rcases Nat.eq_zero_or_pos len with h0 | h0
  · subst h0
    exact ⟨A, cap, [], rfl, Rd.nil _ _ _ _ _, hle⟩
  · obtain ⟨b, o, rfl, hb, hcell⟩ := hc h0
    have hl : ((List.range len).map fun i => (⟨cellInt W ⟨b, o + (i * 2 + 0), none⟩, cellInt W ⟨b, o + (i * 2 + 1), none⟩⟩ : Grade)).length = len := by simp
    refine ⟨_, cap, (List.range len).map fun i => ⟨cellInt W ⟨b, o + (i * 2 + 0), none⟩, cellInt W ⟨b, o + (i * 2 + 1), none⟩⟩, by rw [hl], ⟨rfl, fun _ => ⟨b, o, rfl, hb, by simp, fun i hi j v hv => ?_⟩⟩, by rw [hl]; exact hle⟩
    rw [hl] at hi
    rw [List.getElem_map, List.getElem_range] at hv
    rcases j with _ | _ | j
    · rw [hcell i hi 0 (by omega)]; exact hv
    · rw [hcell i hi 1 (by omega)]; exact hv
    · simp [encGrade] at hv
end
end Go.Proofs.YtdiigflbohbndaaDoor
