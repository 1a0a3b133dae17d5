/- Arguments opened: lands. -/
import Derived.Test.YtdiigflbohbndaaDoorOpen
import Derived.Test.YtdiigflbohbndaaDoorOpen2
namespace Go.Proofs.YtdiigflbohbndaaDoor
open Go.ChangeShapes Go.WideShapes Go.ChangeAt Go.WideMaps Go.WideElems Go.RowKit Go.Deep

section
variable {H : Type} {enc : TypeId × Value → H} {W : World}
set_option maxRecDepth 100000 in
/-- A slice of elements of one cell each. -/
theorem ones_at {fuel : Nat} {t e : TypeId} {c : Value} {y : DataW H × List MemPlace} {Q : Value → Prop} (ht : Tryd.prog.underlying t = some (.slice e)) (hC : Tryd.prog.cellsOf e = 1)
    (hQ : ∀ n c z, DataW.trod enc Tryd.prog W 0 (fun _ => true) true n e [c] = some z → Q c) (h : DataW.trod enc Tryd.prog W 0 (fun _ => true) true fuel t [c] = some y) (hlt : ∀ x ∈ y.2, x.block < W.heap.size) :
    ∃ (A : Option Addr) (len cap : Nat), c = .slice A len cap ∧ len ≤ cap ∧ (0 < len → ∃ b o, A = some ⟨b, o, none⟩ ∧ b < W.heap.size ∧ ∀ i, i < len → ∃ u, W.cell? ⟨b, o + i, none⟩ = some u ∧ Q u) := by
  rcases Go.Deep.open_slice ht h with ⟨g1, g2⟩ | ⟨a, len, cap, m, n, D, Pl, g1, hb, hle, hm, hmm, hx, hel⟩
  · simp only [List.cons.injEq, and_true] at g1
    exact ⟨none, 0, 0, g1, Nat.le_refl _, fun h => absurd h (by omega)⟩
  · simp only [List.cons.injEq, and_true] at g1
    have hm' : m = cap := by rw [hmm]; simp
    subst hm'
    refine ⟨some a, len, m, g1, hle, fun hn => ?_⟩
    have key : ∀ i, i < m → ∃ u, W.cell? (a.add i) = some u ∧ Q u := by
      intro i hi
      obtain ⟨cs', hc, ht'⟩ := hel i hi
      rw [hC] at hc
      obtain ⟨_, hcl, hat⟩ := World.cells?_some hc
      match cs', hcl with
      | [x], _ =>
        have a0 := hat 0 (by omega)
        refine ⟨x, ?_, hQ _ _ _ ht'⟩
        rw [Go.Deep.add_add] at a0
        simpa using a0
    obtain ⟨b, o, sp⟩ := a
    obtain ⟨z, hz, _⟩ := key 0 (by omega)
    have hsp : sp = none := by simpa [Addr.add] using World.cell?_spot hz
    subst hsp
    refine ⟨b, o, rfl, ?_, fun i hi => ?_⟩
    · refine hlt (.cell b o) ?_
      have := congrArg Prod.snd hx
      simp only at this
      rw [this]
      exact List.mem_append_left _ (List.mem_map.2 ⟨0, List.mem_range.2 (by rw [hC]; omega), rfl⟩)
    · obtain ⟨z, hz, hq⟩ := key i (by omega)
      rw [Go.WideShapes.add_plain] at hz
      exact ⟨z, hz, hq⟩
set_option maxRecDepth 100000 in
theorem open_land {b0 : Nat} {v : Value} {d : DataW H} {p : List MemPlace} (hv : Value.okWide Tryd.prog W .any b0 54 v) (h : DataW.Trod enc Tryd.prog W 0 (fun _ => true) true 54 v d p) (hlt : ∀ x ∈ p, x.block < W.heap.size) :
    ∃ (A A' : Option Addr) (c c' : Nat) (ps : List Int) (bs : List Bool), v = .agg #[.slice A ps.length c, .slice A' bs.length c'] ∧ Rd none W 1 encI A ps.length ps ∧ Rd none W 1 encB A' bs.length bs ∧ ps.length ≤ c ∧ bs.length ≤ c' := by
  obtain ⟨cs, rfl, hsz⟩ := okWide_struct Tryd.underlying54 hv
  obtain ⟨l⟩ := cs
  have k1 : Tryd.prog.cellsOf 51 = 1 := by kernel_rfl
  have k2 : Tryd.prog.cellsOf 52 = 1 := by kernel_rfl
  match l, hsz.trans (show Tryd.prog.cellsOf 54 = 2 by kernel_rfl) with
  | [d0, d1], _ =>
    obtain ⟨fuel, hf⟩ := h
    obtain ⟨xs, n, _, hx, _, hlen, hg⟩ := DataW.trod_struct Tryd.underlying54 hf
    match xs, hlen with
    | [y0, y1], _ =>
      have e0 := fld_at hg 0 51 0 1 rfl k1
      have e1 := fld_at hg 1 52 1 1 rfl k2
      have hp := congrArg Prod.snd hx
      simp only at hp
      subst hp
      obtain ⟨A, n0, c0, rfl, hle0, hc0⟩ := ones_at (Q := fun u => ∃ z, u = .int .i64 z) Tryd.underlying51 (by kernel_rfl) (fun n c z hz => one_cell Tryd.underlying2 hz) (show DataW.trod enc Tryd.prog W 0 (fun _ => true) true n 51 [d0] = some y0 from e0) (fun x hx => hlt x (by simp [hx]))
      obtain ⟨A', n1, c1, rfl, hle1, hc1⟩ := ones_at (Q := fun u => ∃ z, u = .bool z) Tryd.underlying52 (by kernel_rfl) (fun n c z hz => one_flag Tryd.underlying4 hz) (show DataW.trod enc Tryd.prog W 0 (fun _ => true) true n 52 [d1] = some y1 from e1) (fun x hx => hlt x (by simp [hx]))
      have hI : ∃ ps : List Int, ps.length = n0 ∧ Rd none W 1 encI A ps.length ps := by
        rcases Nat.eq_zero_or_pos n0 with h0 | h0
        · subst h0
          exact ⟨[], rfl, Rd.nil _ _ _ _ _⟩
        · obtain ⟨b, o, rfl, hb, hcell⟩ := hc0 h0
          refine ⟨(List.range n0).map fun i => cellInt W ⟨b, o + i, none⟩, by simp, rfl, fun _ => ⟨b, o, rfl, hb, by simp, fun i hi j v hv => ?_⟩⟩
          have hi' : i < n0 := by simpa using hi
          rw [List.getElem_map, List.getElem_range] at hv
          obtain ⟨u, hu, z, rfl⟩ := hcell i hi'
          rcases j with _ | j
          · rw [Nat.mul_one, Nat.add_zero, hu]
            unfold cellInt at hv
            rw [hu] at hv
            exact hv
          · simp [encI] at hv
      have hB : ∃ bs : List Bool, bs.length = n1 ∧ Rd none W 1 encB A' bs.length bs := by
        rcases Nat.eq_zero_or_pos n1 with h0 | h0
        · subst h0
          exact ⟨[], rfl, Rd.nil _ _ _ _ _⟩
        · obtain ⟨b, o, rfl, hb, hcell⟩ := hc1 h0
          refine ⟨(List.range n1).map fun i => cellBool W ⟨b, o + i, none⟩, by simp, rfl, fun _ => ⟨b, o, rfl, hb, by simp, fun i hi j v hv => ?_⟩⟩
          have hi' : i < n1 := by simpa using hi
          rw [List.getElem_map, List.getElem_range] at hv
          obtain ⟨u, hu, z, rfl⟩ := hcell i hi'
          rcases j with _ | j
          · rw [Nat.mul_one, Nat.add_zero, hu]
            unfold cellBool at hv
            rw [hu] at hv
            exact hv
          · simp [encB] at hv
      obtain ⟨ps, hpl, hR⟩ := hI
      obtain ⟨bs, hbl, hS⟩ := hB
      subst hpl hbl
      exact ⟨A, A', c0, c1, ps, bs, rfl, hR, hS, hle0, hle1⟩
end
end Go.Proofs.YtdiigflbohbndaaDoor
