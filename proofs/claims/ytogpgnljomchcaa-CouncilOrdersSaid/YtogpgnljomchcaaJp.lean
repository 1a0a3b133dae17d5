/- plain: the house as it is told. -/
import Derived.Test.YtogpgnljomchcaaJd
namespace Go.Proofs.Ytogpgnljomchcaa
open Go.RowKit

def lCells (v : Ky → Value) (d : Bool) (l : Ledger) : Array Value := #[.int .i64 l.items, v (.facts d), v (.motions d), v (.sent d)]
set_option maxHeartbeats 1000000 in
theorem lplain_any (hb o : Nat) (it : Int) (f m s : Value) (w : World) (c0 : w.cell? ⟨hb, o, none⟩ = some s) (c1 : w.cell? ⟨hb, o + 1, none⟩ = some (.int .i64 it)) (c2 : w.cell? ⟨hb, o + 2, none⟩ = some f) (c3 : w.cell? ⟨hb, o + 3, none⟩ = some m)
    (hf : ∃ A l c, f = .slice A l c) (hm : ∃ A l c, m = .slice A l c) (hs : ∃ A l c, s = .slice A l c) :
    Calls Try.prog 70 #[.pointer (some ⟨hb, o, none⟩)] w fun e w' => e = .returned (.agg #[.int .i64 it, f, m, s]) ∧ Kp w.heap.size none w w' := by
  obtain ⟨A1, l1, q1, rfl⟩ := hf
  obtain ⟨A2, l2, q2, rfl⟩ := hm
  obtain ⟨A3, l3, q3, rfl⟩ := hs
  have hhb : hb < w.heap.size := World.block_lt_of_cell? w ⟨hb, o, none⟩ c0
  have K0 := Kp.new w (.cells #[.int .i64 0, .slice none 0 0, .slice none 0 0, .slice none 0 0] 44)
  have R0 := Blk.new w 44 #[.int .i64 0, .slice none 0 0, .slice none 0 0, .slice none 0 0]
  have hrb : w.heap.size ≠ hb := by omega
  go_enter Try.func70, Try.ntmps70
  go_wp2_with fail
  replace c0 := K0.cellN c0
  replace c1 := K0.cellN c1
  replace c2 := K0.cellN c2
  replace c3 := K0.cellN c3
  obtain ⟨rb, hrb2⟩ : ∃ q, q = w.heap.size := ⟨_, rfl⟩
  rw [← hrb2] at R0 hrb ⊢
  generalize w.alloc (.cells #[.int .i64 0, .slice none 0 0, .slice none 0 0, .slice none 0 0] 44) = w1 at K0 R0 c0 c1 c2 c3 ⊢
  have cr := fun i => R0.cell i
  have fr := fun i => R0.frozen i
  obtain ⟨w9, hw9⟩ : ∃ q, q = ((((w1.setCell ⟨rb, 0, none⟩ (.int .i64 it)).setCell ⟨rb, 1, none⟩ (.slice A1 l1 q1)).setCell ⟨rb, 2, none⟩ (.slice A2 l2 q2)).setCell ⟨rb, 3, none⟩ (.slice A3 l3 q3)).drew := ⟨_, rfl⟩
  have K9 : Kp w.heap.size none w w9 := by
    rw [hw9]
    exact ((((K0.setNew (p := ⟨rb, 0, none⟩) (by simp; omega) (.int .i64 it)).setNew (p := ⟨rb, 1, none⟩) (by simp; omega) (.slice A1 l1 q1)).setNew (p := ⟨rb, 2, none⟩) (by simp; omega) (.slice A2 l2 q2)).setNew (p := ⟨rb, 3, none⟩) (by simp; omega) (.slice A3 l3 q3)).drew
  have R9 : Blk w9 rb 44 #[.int .i64 it, .slice A1 l1 q1, .slice A2 l2 q2, .slice A3 l3 q3] := by
    rw [hw9]
    have := ((((R0.set_ 0 (.int .i64 it)).set_ 1 (.slice A1 l1 q1)).set_ 2 (.slice A2 l2 q2)).set_ 3 (.slice A3 l3 q3)).kpN (Kp.refl _ _ _).drew
    simpa using this
  replace hw9 := Lib.hid hw9
  replace hrb2 := Lib.hid hrb2
  obtain ⟨S, hS⟩ : ∃ S : Nat → World → Prop, S = fun n w' => if n = 0 then w'.cell? ⟨hb, o, none⟩ = some (.slice A3 l3 q3) ∧ w'.cell? ⟨hb, o + 1, none⟩ = some (.int .i64 it) ∧ w'.cell? ⟨hb, o + 2, none⟩ = some (.slice A1 l1 q1) ∧ w'.cell? ⟨hb, o + 3, none⟩ = some (.slice A2 l2 q2) else True := ⟨_, rfl⟩
  have hS0 : ∀ w', S 0 w' ↔ (w'.cell? ⟨hb, o, none⟩ = some (.slice A3 l3 q3) ∧ w'.cell? ⟨hb, o + 1, none⟩ = some (.int .i64 it) ∧ w'.cell? ⟨hb, o + 2, none⟩ = some (.slice A1 l1 q1) ∧ w'.cell? ⟨hb, o + 3, none⟩ = some (.slice A2 l2 q2)) := fun w' => by rw [hS]; exact Iff.rfl
  have hS1 : ∀ w', S 1 w' ↔ (True) := fun w' => by rw [hS]; exact Iff.rfl
  clear hS
  have k0 := fun (q : Ev (S 0)) => ((hS0 _).1 q.h).1
  have k1 := fun (q : Ev (S 0)) => ((hS0 _).1 q.h).2.1
  have k2 := fun (q : Ev (S 0)) => ((hS0 _).1 q.h).2.2.1
  have k3 := fun (q : Ev (S 0)) => ((hS0 _).1 q.h).2.2.2
  have hevT := ev_true
  refine wp_region_ord S [(0, 0), (1, 0), (2, 0), (3, 1), (4, 0), (5, 0), (6, 0), (7, 1), (8, 0), (9, 0), (10, 0), (11, 1), (12, 0), (13, 0), (14, 0), (15, 0), (16, 1), (17, 0), (18, 3)] [18] (by kernel_rfl) (by kernel_rfl) ((hS0 _).2 ⟨c0, c1, c2, c3⟩) ?_
  intro _hev
  iterate 18 (first | (refine wpOrd_v rfl rfl ?_; intro K hK; go_big_quiet_op; go_big_quiet_on) | (refine wpOrd_q rfl rfl ?_; intro K hK; go_big_quiet_op; go_big_quiet_on) | refine wpOrd_s (by decide) rfl rfl ?_)
  refine wpOrd_a rfl rfl ?_; intro K hK
  go_step
  refine hK _ _ ((hS1 _).2 trivial) ?_
  clear hK K
  change wpOrd _ _ _ _ _ 1 _ _
  refine wpOrd_nil ?_
  clear hevT _hev
  rw [← hw9.out]
  clear hS0 hS1 S k0 k1 k2 k3 cr fr
  have c9 := fun i => R9.cell i
  go_wp2
  exact bodyPost_ret (v := .agg #[.int .i64 it, .slice A1 l1 q1, .slice A2 l2 q2, .slice A3 l3 q3]) (by simp [results, Try.results70, go_sem, c9]) rfl ⟨rfl, K9⟩
def setR0 (w : World) (g : Nat) (c0 c1 c2 c3 c4 c5 c6 c7 c8 : Value) : World := ((((((((w.setCell ⟨g, 0, none⟩ c0).setCell ⟨g, 1, none⟩ c1).setCell ⟨g, 2, none⟩ c2).setCell ⟨g, 3, none⟩ c3).setCell ⟨g, 4, none⟩ c4).setCell ⟨g, 5, none⟩ c5).setCell ⟨g, 6, none⟩ c6).setCell ⟨g, 7, none⟩ c7).setCell ⟨g, 8, none⟩ c8
theorem setR0_grown (w : World) (g : Nat) (c0 c1 c2 c3 c4 c5 c6 c7 c8 : Value) : w.grownBy (setR0 w g c0 c1 c2 c3 c4 c5 c6 c7 c8) (some g) :=
  grown_trans (grown_trans (grown_trans (grown_trans (grown_trans (grown_trans (grown_trans (grown_trans (grown_set _ _ _ _) (grown_set _ _ _ _)) (grown_set _ _ _ _)) (grown_set _ _ _ _)) (grown_set _ _ _ _)) (grown_set _ _ _ _)) (grown_set _ _ _ _)) (grown_set _ _ _ _)) (grown_set _ _ _ _)
theorem Blk.setR0 {w : World} {g : Nat} {t : TypeId} {x0 x1 x2 x3 x4 x5 x6 x7 x8 : Value} (h : Blk w g t #[x0, x1, x2, x3, x4, x5, x6, x7, x8]) (c0 c1 c2 c3 c4 c5 c6 c7 c8 : Value) : Blk (setR0 w g c0 c1 c2 c3 c4 c5 c6 c7 c8) g t #[c0, c1, c2, c3, c4, c5, c6, c7, c8] := by
  have := ((((((((h.set_ 0 c0).set_ 1 c1).set_ 2 c2).set_ 3 c3).set_ 4 c4).set_ 5 c5).set_ 6 c6).set_ 7 c7).set_ 8 c8
  unfold Go.Proofs.Ytogpgnljomchcaa.setR0
  simpa using this
theorem setR0_kp {w0 w : World} {g : Nat} (k : Kp w0.heap.size none w0 w) (hg : w0.heap.size ≤ g) (c0 c1 c2 c3 c4 c5 c6 c7 c8 : Value) : Kp w0.heap.size none w0 (setR0 w g c0 c1 c2 c3 c4 c5 c6 c7 c8) :=
  have h := setR0_grown w g c0 c1 c2 c3 c4 c5 c6 c7 c8
  ⟨h.os.trans k.os, h.tape.trans k.tape, h.output.trans k.output, Nat.le_trans k.size h.size, fun i hi hn => (h.block i (Nat.lt_of_lt_of_le hi k.size) (fun e => by injection e with e; omega)).trans (k.block i hi hn)⟩
theorem slice_of {B hb : Nat} {w : World} {v : Ky → Value} {h : House} (hr : RowsAt B hb w (rowOf h v)) : ∀ k, ∃ A l c, v k = .slice A l c := fun k => by
  have := hr.own k
  rcases this.2 with ⟨e, -⟩ | ⟨g, cap, cur, e, -⟩
  · exact ⟨none, 0, 0, by rw [← rowOf_v h v k]; exact e⟩
  · exact ⟨_, _, cap, by rw [← rowOf_v h v k]; exact e⟩
theorem rCells_eq (v : Ky → Value) (h : House) : rCells v h = #[.int .i64 h.tick, .int .i64 h.real.items, v (.facts false), v (.motions false), v (.sent false), .int .i64 h.drill.items, v (.facts true), v (.motions true), v (.sent true)] := rfl
set_option maxRecDepth 20000 in
set_option maxHeartbeats 2000000 in
theorem plain_any (B hb : Nat) (V : CV) (c : Council) (v : Ky → Value) (h : House) (w : World) (p : PH B hb w V c v h) :
    Calls Try.prog 49 #[.pointer (some ⟨hb, 0, none⟩)] w fun e w' => e = .returned (.agg (rCells v h)) ∧ Kp w.heap.size none w w' := by
  have sl := slice_of p.rows
  have K0 := Kp.new w (.cells #[.int .i64 0, .int .i64 0, .slice none 0 0, .slice none 0 0, .slice none 0 0, .int .i64 0, .slice none 0 0, .slice none 0 0, .slice none 0 0] 46)
  have R0 := Blk.new w 46 #[.int .i64 0, .int .i64 0, .slice none 0 0, .slice none 0 0, .slice none 0 0, .int .i64 0, .slice none 0 0, .slice none 0 0, .slice none 0 0]
  have hB := Lib.hid p.blk
  have hlt := p.lt
  clear p
  rw [rCells_eq]
  have ct : ∀ W, Kp w.heap.size none w W → W.cell? ⟨hb, 3, none⟩ = some (.int .i64 h.tick) := fun W k => (hB.out.kpN k).cell 3
  have lp0 : ∀ W, Kp w.heap.size none w W → Calls Try.prog 70 #[.pointer (some ⟨hb, 4, none⟩)] W fun e w' => e = .returned (.agg #[.int .i64 h.real.items, v (.facts false), v (.motions false), v (.sent false)]) ∧ Kp W.heap.size none W w' := fun W k =>
    lplain_any hb 4 _ _ _ _ W ((hB.out.kpN k).cell 4) ((hB.out.kpN k).cell 5) ((hB.out.kpN k).cell 6) ((hB.out.kpN k).cell 7) (sl _) (sl _) (sl _)
  have lp1 : ∀ W, Kp w.heap.size none w W → Calls Try.prog 70 #[.pointer (some ⟨hb, 8, none⟩)] W fun e w' => e = .returned (.agg #[.int .i64 h.drill.items, v (.facts true), v (.motions true), v (.sent true)]) ∧ Kp W.heap.size none W w' := fun W k =>
    lplain_any hb 8 _ _ _ _ W ((hB.out.kpN k).cell 8) ((hB.out.kpN k).cell 9) ((hB.out.kpN k).cell 10) ((hB.out.kpN k).cell 11) (sl _) (sl _) (sl _)
  obtain ⟨A0, l0, q0, e0⟩ := sl (.facts false)
  rw [e0] at ⊢
  first | rw [e0] at lp0 | rw [e0] at lp1
  replace e0 := Lib.hid e0
  obtain ⟨A1, l1, q1, e1⟩ := sl (.motions false)
  rw [e1] at ⊢
  first | rw [e1] at lp0 | rw [e1] at lp1
  replace e1 := Lib.hid e1
  obtain ⟨A2, l2, q2, e2⟩ := sl (.sent false)
  rw [e2] at ⊢
  first | rw [e2] at lp0 | rw [e2] at lp1
  replace e2 := Lib.hid e2
  obtain ⟨A3, l3, q3, e3⟩ := sl (.facts true)
  rw [e3] at ⊢
  first | rw [e3] at lp0 | rw [e3] at lp1
  replace e3 := Lib.hid e3
  obtain ⟨A4, l4, q4, e4⟩ := sl (.motions true)
  rw [e4] at ⊢
  first | rw [e4] at lp0 | rw [e4] at lp1
  replace e4 := Lib.hid e4
  obtain ⟨A5, l5, q5, e5⟩ := sl (.sent true)
  rw [e5] at ⊢
  first | rw [e5] at lp0 | rw [e5] at lp1
  replace e5 := Lib.hid e5
  replace ct := Lib.hid ct
  replace lp0 := Lib.hid lp0
  replace lp1 := Lib.hid lp1
  clear sl
  go_enter Try.func49, Try.ntmps49
  go_wp2_with fail
  obtain ⟨rb, hrb2⟩ : ∃ q, q = w.heap.size := ⟨_, rfl⟩
  have hrb : rb ≠ hb := by omega
  rw [← hrb2] at R0 ⊢
  generalize w.alloc (.cells #[.int .i64 0, .int .i64 0, .slice none 0 0, .slice none 0 0, .slice none 0 0, .int .i64 0, .slice none 0 0, .slice none 0 0, .slice none 0 0] 46) = w1 at K0 R0 ⊢
  replace K0 := K0.drew
  replace R0 := R0.kpN (Kp.refl _ _ _).drew
  have hrbw : w.heap.size ≤ rb := by omega
  replace hrb2 := Lib.hid hrb2
  obtain ⟨S, hS⟩ : ∃ S : Nat → World → Prop, S = fun n w' => if n = 0 then w'.cell? ⟨hb, 3, none⟩ = some (.int .i64 h.tick) else True := ⟨_, rfl⟩
  have hS0 : ∀ w', S 0 w' ↔ (w'.cell? ⟨hb, 3, none⟩ = some (.int .i64 h.tick)) := fun w' => by rw [hS]; exact Iff.rfl
  have hS1 : ∀ w', S 1 w' ↔ (True) := fun w' => by rw [hS]; exact Iff.rfl
  clear hS
  have k3 := fun (q : Ev (S 0)) => ((hS0 _).1 q.h)
  have hevT := ev_true
  refine wp_region_ord S [(0, 0), (1, 0), (2, 0), (3, 1), (4, 0), (5, 0), (6, 0), (8, 0), (9, 0), (10, 0), (7, 2), (11, 2), (12, 0), (13, 3)] [13] (by kernel_rfl) (by kernel_rfl) ((hS0 _).2 (ct.out _ K0)) ?_
  intro _hev
  iterate 10 (first | (refine wpOrd_v rfl rfl ?_; intro K hK; go_big_quiet_op; go_big_quiet_on) | (refine wpOrd_q rfl rfl ?_; intro K hK; go_big_quiet_op; go_big_quiet_on) | refine wpOrd_s (by decide) rfl rfl ?_)
  refine wpOrd_l rfl rfl ?_; intro K hK
  go_step
  refine (lp0.out _ K0).mono ?_
  rintro e w2 ⟨rfl, k2⟩
  replace K0 := K0.thenN k2 (Nat.le_refl _)
  replace R0 := R0.kpN k2
  refine hK _ _ ((hS0 _).2 (ct.out _ K0)) ?_
  clear hK K k2
  refine wpOrd_l rfl rfl ?_; intro K hK
  go_step
  refine (lp1.out _ K0).mono ?_
  rintro e w3 ⟨rfl, k2⟩
  replace K0 := K0.thenN k2 (Nat.le_refl _)
  replace R0 := R0.kpN k2
  refine hK _ _ ((hS0 _).2 (ct.out _ K0)) ?_
  clear hK K k2
  iterate 1 (first | (refine wpOrd_v rfl rfl ?_; intro K hK; go_big_quiet_op; go_big_quiet_on) | (refine wpOrd_q rfl rfl ?_; intro K hK; go_big_quiet_op; go_big_quiet_on) | refine wpOrd_s (by decide) rfl rfl ?_)
  have cr := fun i => R0.cell i
  have fr := fun i => R0.frozen i
  refine wpOrd_a rfl rfl ?_; intro K hK
  go_step
  refine hK _ _ ((hS1 _).2 trivial) ?_
  clear hK K cr fr
  change wpOrd _ _ _ _ _ 1 _ _
  refine wpOrd_nil ?_
  clear hevT _hev
  clear hS0 hS1 S k3
  have K9 := setR0_kp K0 hrbw (.int .i64 h.tick) (.int .i64 h.real.items) (.slice A0 l0 q0) (.slice A1 l1 q1) (.slice A2 l2 q2) (.int .i64 h.drill.items) (.slice A3 l3 q3) (.slice A4 l4 q4) (.slice A5 l5 q5)
  have R9 := Blk.setR0 R0 (.int .i64 h.tick) (.int .i64 h.real.items) (.slice A0 l0 q0) (.slice A1 l1 q1) (.slice A2 l2 q2) (.int .i64 h.drill.items) (.slice A3 l3 q3) (.slice A4 l4 q4) (.slice A5 l5 q5)
  change Exit.then _ _ Exit.normal _ (setR0 w3 rb (.int .i64 h.tick) (.int .i64 h.real.items) (.slice A0 l0 q0) (.slice A1 l1 q1) (.slice A2 l2 q2) (.int .i64 h.drill.items) (.slice A3 l3 q3) (.slice A4 l4 q4) (.slice A5 l5 q5))
  generalize setR0 w3 rb (.int .i64 h.tick) (.int .i64 h.real.items) (.slice A0 l0 q0) (.slice A1 l1 q1) (.slice A2 l2 q2) (.int .i64 h.drill.items) (.slice A3 l3 q3) (.slice A4 l4 q4) (.slice A5 l5 q5) = w9 at K9 R9 ⊢
  have c9 := fun i => R9.cell i
  go_wp2
  exact bodyPost_ret (v := .agg #[.int .i64 h.tick, .int .i64 h.real.items, .slice A0 l0 q0, .slice A1 l1 q1, .slice A2 l2 q2, .int .i64 h.drill.items, .slice A3 l3 q3, .slice A4 l4 q4, .slice A5 l5 q5]) (by simp [results, Try.results49, go_sem, c9]) rfl ⟨rfl, K9⟩
end Go.Proofs.Ytogpgnljomchcaa
