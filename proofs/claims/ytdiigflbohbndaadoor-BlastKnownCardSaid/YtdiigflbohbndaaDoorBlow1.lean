/- The blows of a rock: what they are; the weakest and the strongest stone; the closure that makes a blow. -/
import Derived.Test.YtdiigflbohbndaaDoorRock
import Derived.Test.YtdiigflbohbndaaDoorEnds
namespace Go.Proofs.YtdiigflbohbndaaDoor
open Go.RowKit

structure Blow where
  layer : Int
  lo : Int
  hi : Int
def encBlow (b : Blow) : List Value := [.int .i64 b.layer, .int .i64 b.lo, .int .i64 b.hi]
def weakS (r : Rock) (f : Fall) : Stone := ⟨r.size.lo, r.dens.lo, r.strong.lo, r.spin.hi, r.shape.hi, r.pile, f.speed.lo, f.slope.lo⟩
def strongS (r : Rock) (f : Fall) : Stone := ⟨r.size.hi, r.dens.hi, r.strong.hi, r.spin.lo, r.shape.lo, r.pile, f.speed.hi, f.slope.hi⟩
def heldBy (s : Stone) : Int := holdOf s.strong s.spin s.pile
def blowAt (a b : Stone) (i : Nat) (va vb : Int) : Blow := ⟨i, massOf a.size a.dens * va, massOf b.size b.dens * vb⟩
/-- The blows from a layer on: the weak stone a has va left, the strong one b vb. -/
def blowsFrom (a b : Stone) : List Layer → Nat → Int → Int → List Blow
  | [], i, va, vb => [blowAt a b i va vb]
  | x :: xs, i, va, vb => (if burstsAt x.dens vb (heldBy a) then [blowAt a b i va vb] else []) ++ (if burstsAt x.dens va (heldBy b) then [] else blowsFrom a b xs (i + 1) (slowedOf a x va) (slowedOf b x vb))
def blowsOf (ls : List Layer) (r : Rock) (f : Fall) : List Blow := blowsFrom (weakS r f) (strongS r f) ls 0 (f.speed.lo * f.speed.lo) (f.speed.hi * f.speed.hi)
theorem rockErr_ok {r : Rock} {f : Fall} {i : Nat} (h : rockErr r f i = none) : bLo i ≤ (rockSpan r f i).lo ∧ (rockSpan r f i).lo ≤ (rockSpan r f i).hi ∧ (rockSpan r f i).hi ≤ bHi i := by
  unfold rockErr at h
  split at h
  · cases h
  · split at h
    · cases h
    · omega
theorem rockOk_of_all {r : Rock} {f : Fall} (h : RockAll r f) : RockOk r f :=
  ⟨rockErr_ok (h 0 (by omega)), rockErr_ok (h 1 (by omega)), rockErr_ok (h 2 (by omega)), rockErr_ok (h 3 (by omega)), rockErr_ok (h 4 (by omega)), rockErr_ok (h 5 (by omega)), rockErr_ok (h 6 (by omega))⟩
theorem weak_ok {r : Rock} {f : Fall} (h : RockOk r f) : StoneOk (weakS r f) := by
  obtain ⟨⟨r1, r2, r3⟩, ⟨s1, s2, s3⟩, ⟨t1, t2, t3⟩, ⟨n1, n2, n3⟩, ⟨h1, h2, h3⟩, ⟨v1, v2, v3⟩, ⟨l1, l2, l3⟩⟩ := h
  constructor <;> (simp only [weakS]; omega)
theorem strong_ok {r : Rock} {f : Fall} (h : RockOk r f) : StoneOk (strongS r f) := by
  obtain ⟨⟨r1, r2, r3⟩, ⟨s1, s2, s3⟩, ⟨t1, t2, t3⟩, ⟨n1, n2, n3⟩, ⟨h1, h2, h3⟩, ⟨v1, v2, v3⟩, ⟨l1, l2, l3⟩⟩ := h
  constructor <;> (simp only [strongS]; omega)
set_option maxRecDepth 100000 in
set_option maxHeartbeats 1000000 in
theorem blast_weakest_any (r : Rock) (f : Fall) (w : World) :
    Calls Tryd.prog 116 #[.agg #[.int .i64 r.size.lo, .int .i64 r.size.hi, .int .i64 r.dens.lo, .int .i64 r.dens.hi, .int .i64 r.strong.lo, .int .i64 r.strong.hi, .int .i64 r.spin.lo, .int .i64 r.spin.hi, .int .i64 r.shape.lo, .int .i64 r.shape.hi, .bool r.pile], .agg #[.int .i64 f.speed.lo, .int .i64 f.speed.hi, .int .i64 f.slope.lo, .int .i64 f.slope.hi]] w fun e w' => e = .returned (.agg #[.int .i64 (weakS r f).size, .int .i64 (weakS r f).dens, .int .i64 (weakS r f).strong, .int .i64 (weakS r f).spin, .int .i64 (weakS r f).shape, .bool (weakS r f).pile, .int .i64 (weakS r f).speed, .int .i64 (weakS r f).slope]) ∧ Kp w.heap.size none w w' := by
  have K0 := (((Kp.refl w.heap.size none w).alloc (Nat.le_refl _) (.cells #[.int .i64 r.size.lo, .int .i64 r.size.hi, .int .i64 r.dens.lo, .int .i64 r.dens.hi, .int .i64 r.strong.lo, .int .i64 r.strong.hi, .int .i64 r.spin.lo, .int .i64 r.spin.hi, .int .i64 r.shape.lo, .int .i64 r.shape.hi, .bool r.pile] 28)).alloc (by simp) (.cells #[.int .i64 f.speed.lo, .int .i64 f.speed.hi, .int .i64 f.slope.lo, .int .i64 f.slope.hi] 30)).alloc (by simp; omega) (.cells #[.int .i64 0, .int .i64 0, .int .i64 0, .int .i64 0, .int .i64 0, .bool false, .int .i64 0, .int .i64 0] 36)
  have RB := ((Blk.new w 28 #[.int .i64 r.size.lo, .int .i64 r.size.hi, .int .i64 r.dens.lo, .int .i64 r.dens.hi, .int .i64 r.strong.lo, .int .i64 r.strong.hi, .int .i64 r.spin.lo, .int .i64 r.spin.hi, .int .i64 r.shape.lo, .int .i64 r.shape.hi, .bool r.pile]).alloc (.cells #[.int .i64 f.speed.lo, .int .i64 f.speed.hi, .int .i64 f.slope.lo, .int .i64 f.slope.hi] 30)).alloc (.cells #[.int .i64 0, .int .i64 0, .int .i64 0, .int .i64 0, .int .i64 0, .bool false, .int .i64 0, .int .i64 0] 36)
  have FB := (Blk.newAt (w.alloc (.cells #[.int .i64 r.size.lo, .int .i64 r.size.hi, .int .i64 r.dens.lo, .int .i64 r.dens.hi, .int .i64 r.strong.lo, .int .i64 r.strong.hi, .int .i64 r.spin.lo, .int .i64 r.spin.hi, .int .i64 r.shape.lo, .int .i64 r.shape.hi, .bool r.pile] 28)) 30 #[.int .i64 f.speed.lo, .int .i64 f.speed.hi, .int .i64 f.slope.lo, .int .i64 f.slope.hi] (n := w.heap.size + 1) (by simp)).alloc (.cells #[.int .i64 0, .int .i64 0, .int .i64 0, .int .i64 0, .int .i64 0, .bool false, .int .i64 0, .int .i64 0] 36)
  have SB := Blk.newAt ((w.alloc (.cells #[.int .i64 r.size.lo, .int .i64 r.size.hi, .int .i64 r.dens.lo, .int .i64 r.dens.hi, .int .i64 r.strong.lo, .int .i64 r.strong.hi, .int .i64 r.spin.lo, .int .i64 r.spin.hi, .int .i64 r.shape.lo, .int .i64 r.shape.hi, .bool r.pile] 28)).alloc (.cells #[.int .i64 f.speed.lo, .int .i64 f.speed.hi, .int .i64 f.slope.lo, .int .i64 f.slope.hi] 30)) 36 #[.int .i64 0, .int .i64 0, .int .i64 0, .int .i64 0, .int .i64 0, .bool false, .int .i64 0, .int .i64 0] (n := w.heap.size + 1 + 1) (by simp)
  go_enter Tryd.func116, Tryd.ntmps116
  go_wp2
  exact bodyPost_ret (v := .agg #[.int .i64 (weakS r f).size, .int .i64 (weakS r f).dens, .int .i64 (weakS r f).strong, .int .i64 (weakS r f).spin, .int .i64 (weakS r f).shape, .bool (weakS r f).pile, .int .i64 (weakS r f).speed, .int .i64 (weakS r f).slope]) (by simp [results, Tryd.results116, go_sem, weakS]) rfl ⟨rfl, (((Kp.refl w.heap.size none w).alloc (Nat.le_refl _) _).alloc (by simp) _).alloc (by simp; omega) _⟩
set_option maxRecDepth 100000 in
set_option maxHeartbeats 1000000 in
theorem blast_strongest_any (r : Rock) (f : Fall) (w : World) :
    Calls Tryd.prog 117 #[.agg #[.int .i64 r.size.lo, .int .i64 r.size.hi, .int .i64 r.dens.lo, .int .i64 r.dens.hi, .int .i64 r.strong.lo, .int .i64 r.strong.hi, .int .i64 r.spin.lo, .int .i64 r.spin.hi, .int .i64 r.shape.lo, .int .i64 r.shape.hi, .bool r.pile], .agg #[.int .i64 f.speed.lo, .int .i64 f.speed.hi, .int .i64 f.slope.lo, .int .i64 f.slope.hi]] w fun e w' => e = .returned (.agg #[.int .i64 (strongS r f).size, .int .i64 (strongS r f).dens, .int .i64 (strongS r f).strong, .int .i64 (strongS r f).spin, .int .i64 (strongS r f).shape, .bool (strongS r f).pile, .int .i64 (strongS r f).speed, .int .i64 (strongS r f).slope]) ∧ Kp w.heap.size none w w' := by
  have K0 := (((Kp.refl w.heap.size none w).alloc (Nat.le_refl _) (.cells #[.int .i64 r.size.lo, .int .i64 r.size.hi, .int .i64 r.dens.lo, .int .i64 r.dens.hi, .int .i64 r.strong.lo, .int .i64 r.strong.hi, .int .i64 r.spin.lo, .int .i64 r.spin.hi, .int .i64 r.shape.lo, .int .i64 r.shape.hi, .bool r.pile] 28)).alloc (by simp) (.cells #[.int .i64 f.speed.lo, .int .i64 f.speed.hi, .int .i64 f.slope.lo, .int .i64 f.slope.hi] 30)).alloc (by simp; omega) (.cells #[.int .i64 0, .int .i64 0, .int .i64 0, .int .i64 0, .int .i64 0, .bool false, .int .i64 0, .int .i64 0] 36)
  have RB := ((Blk.new w 28 #[.int .i64 r.size.lo, .int .i64 r.size.hi, .int .i64 r.dens.lo, .int .i64 r.dens.hi, .int .i64 r.strong.lo, .int .i64 r.strong.hi, .int .i64 r.spin.lo, .int .i64 r.spin.hi, .int .i64 r.shape.lo, .int .i64 r.shape.hi, .bool r.pile]).alloc (.cells #[.int .i64 f.speed.lo, .int .i64 f.speed.hi, .int .i64 f.slope.lo, .int .i64 f.slope.hi] 30)).alloc (.cells #[.int .i64 0, .int .i64 0, .int .i64 0, .int .i64 0, .int .i64 0, .bool false, .int .i64 0, .int .i64 0] 36)
  have FB := (Blk.newAt (w.alloc (.cells #[.int .i64 r.size.lo, .int .i64 r.size.hi, .int .i64 r.dens.lo, .int .i64 r.dens.hi, .int .i64 r.strong.lo, .int .i64 r.strong.hi, .int .i64 r.spin.lo, .int .i64 r.spin.hi, .int .i64 r.shape.lo, .int .i64 r.shape.hi, .bool r.pile] 28)) 30 #[.int .i64 f.speed.lo, .int .i64 f.speed.hi, .int .i64 f.slope.lo, .int .i64 f.slope.hi] (n := w.heap.size + 1) (by simp)).alloc (.cells #[.int .i64 0, .int .i64 0, .int .i64 0, .int .i64 0, .int .i64 0, .bool false, .int .i64 0, .int .i64 0] 36)
  have SB := Blk.newAt ((w.alloc (.cells #[.int .i64 r.size.lo, .int .i64 r.size.hi, .int .i64 r.dens.lo, .int .i64 r.dens.hi, .int .i64 r.strong.lo, .int .i64 r.strong.hi, .int .i64 r.spin.lo, .int .i64 r.spin.hi, .int .i64 r.shape.lo, .int .i64 r.shape.hi, .bool r.pile] 28)).alloc (.cells #[.int .i64 f.speed.lo, .int .i64 f.speed.hi, .int .i64 f.slope.lo, .int .i64 f.slope.hi] 30)) 36 #[.int .i64 0, .int .i64 0, .int .i64 0, .int .i64 0, .int .i64 0, .bool false, .int .i64 0, .int .i64 0] (n := w.heap.size + 1 + 1) (by simp)
  go_enter Tryd.func117, Tryd.ntmps117
  go_wp2
  exact bodyPost_ret (v := .agg #[.int .i64 (strongS r f).size, .int .i64 (strongS r f).dens, .int .i64 (strongS r f).strong, .int .i64 (strongS r f).spin, .int .i64 (strongS r f).shape, .bool (strongS r f).pile, .int .i64 (strongS r f).speed, .int .i64 (strongS r f).slope]) (by simp [results, Tryd.results117, go_sem, strongS]) rfl ⟨rfl, (((Kp.refl w.heap.size none w).alloc (Nat.le_refl _) _).alloc (by simp) _).alloc (by simp; omega) _⟩
set_option maxRecDepth 100000 in
set_option maxHeartbeats 1000000 in
theorem blast_blow_any (i : Nat) (p1 p2 g1 g2 : Nat) (a b : Stone) (va vb : Int) (w : World) (P1 : Blk w p1 106 #[.pointer (some ⟨g1, 0, none⟩)]) (P2 : Blk w p2 106 #[.pointer (some ⟨g2, 0, none⟩)])
    (F1 : Blk w g1 110 (fallCells a va)) (F2 : Blk w g2 110 (fallCells b vb)) (ha : StoneOk a) (hb : StoneOk b) (hva : Vok va) (hvb : Vok vb) :
    Calls Tryd.prog 118 #[.int .i64 i, .pointer (some ⟨p1, 0, none⟩), .pointer (some ⟨p2, 0, none⟩)] w fun e w' => e = .returned (.agg #[.int .i64 (blowAt a b i va vb).layer, .int .i64 (blowAt a b i va vb).lo, .int .i64 (blowAt a b i va vb).hi]) ∧ Kp w.heap.size none w w' := by
  have K0 := (Kp.refl w.heap.size none w).alloc (Nat.le_refl _) (.cells #[.int .i64 0, .int .i64 0, .int .i64 0] 83)
  have R0 := Blk.new w 83 #[.int .i64 0, .int .i64 0, .int .i64 0]
  replace P1 := P1.alloc (.cells #[.int .i64 0, .int .i64 0, .int .i64 0] 83)
  replace P2 := P2.alloc (.cells #[.int .i64 0, .int .i64 0, .int .i64 0] 83)
  replace F1 := F1.alloc (.cells #[.int .i64 0, .int .i64 0, .int .i64 0] 83)
  replace F2 := F2.alloc (.cells #[.int .i64 0, .int .i64 0, .int .i64 0] 83)
  unfold fallCells at F1 F2
  replace ha := Lib.hid ha
  replace hb := Lib.hid hb
  replace hva := Lib.hid hva
  replace hvb := Lib.hid hvb
  go_enter Tryd.func118, Tryd.ntmps118
  go_wp2_with fail
  generalize hw0 : w.alloc (.cells #[.int .i64 0, .int .i64 0, .int .i64 0] 83) = w0 at *
  clear hw0
  replace P1 := P1.drew
  replace P2 := P2.drew
  replace F1 := F1.drew
  replace F2 := F2.drew
  replace R0 := R0.drew
  replace K0 := K0.drew
  obtain ⟨S, hS⟩ : ∃ S : Nat → World → Prop, S = fun n w' => if n = 0 then (Blk w' p1 106 #[.pointer (some ⟨g1, 0, none⟩)] ∧ Blk w' p2 106 #[.pointer (some ⟨g2, 0, none⟩)]) ∧ Blk w' g1 110 #[.int .i64 a.size, .int .i64 a.dens, .int .i64 a.strong, .int .i64 a.spin, .int .i64 a.shape, .bool a.pile, .int .i64 a.speed, .int .i64 a.slope, .int .i64 va] ∧ Blk w' g2 110 #[.int .i64 b.size, .int .i64 b.dens, .int .i64 b.strong, .int .i64 b.spin, .int .i64 b.shape, .bool b.pile, .int .i64 b.speed, .int .i64 b.slope, .int .i64 vb] else True := ⟨_, rfl⟩
  have hS0 : ∀ w', S 0 w' ↔ ((Blk w' p1 106 #[.pointer (some ⟨g1, 0, none⟩)] ∧ Blk w' p2 106 #[.pointer (some ⟨g2, 0, none⟩)]) ∧ Blk w' g1 110 #[.int .i64 a.size, .int .i64 a.dens, .int .i64 a.strong, .int .i64 a.spin, .int .i64 a.shape, .bool a.pile, .int .i64 a.speed, .int .i64 a.slope, .int .i64 va] ∧ Blk w' g2 110 #[.int .i64 b.size, .int .i64 b.dens, .int .i64 b.strong, .int .i64 b.spin, .int .i64 b.shape, .bool b.pile, .int .i64 b.speed, .int .i64 b.slope, .int .i64 vb]) := fun w' => by rw [hS]; exact Iff.rfl
  have hS1 : ∀ w', S 1 w' ↔ (True) := fun w' => by rw [hS]; exact Iff.rfl
  clear hS
  have cA := fun (x : Ev (S 0)) i => ((hS0 _).1 x.h).1.1.cell i
  have cB := fun (x : Ev (S 0)) i => ((hS0 _).1 x.h).1.2.cell i
  have cC := fun (x : Ev (S 0)) i => ((hS0 _).1 x.h).2.1.cell i
  have cD := fun (x : Ev (S 0)) i => ((hS0 _).1 x.h).2.2.cell i
  have hevT := ev_true
  refine wp_region_ord S [(0, 0), (1, 1), (2, 0), (3, 0), (4, 1), (6, 1), (7, 0), (8, 0), (9, 1), (11, 1), (12, 0), (13, 0), (14, 1), (16, 1), (17, 0), (18, 0), (19, 1), (5, 2), (10, 0), (15, 2), (20, 0), (21, 0), (22, 0), (23, 3)] [23] (by kernel_rfl) (by kernel_rfl) ((hS0 _).2 ⟨⟨P1, P2⟩, F1, F2⟩) ?_
  intro _hev
  iterate 17 (first | (refine wpOrd_v rfl rfl ?_; intro K hK; go_big_quiet_op; go_big_quiet_on) | (refine wpOrd_q rfl rfl ?_; intro K hK; go_big_quiet_op; go_big_quiet_on) | refine wpOrd_s (by decide) rfl rfl ?_)
  refine wpOrd_l rfl rfl ?_; intro K hK
  go_step
  refine (blast_mass_any a ha.out _).mono ?_
  rintro e w9 ⟨rfl, k9⟩
  replace P1 := P1.kpN k9
  replace P2 := P2.kpN k9
  replace F1 := F1.kpN k9
  replace F2 := F2.kpN k9
  replace R0 := R0.kpN k9
  replace K0 := K0.thenN k9 (Nat.le_refl _)
  refine hK _ _ ((hS0 _).2 ⟨⟨P1, P2⟩, F1, F2⟩) ?_
  clear hK K k9
  iterate 1 (first | (refine wpOrd_v rfl rfl ?_; intro K hK; go_big_quiet_op; go_big_quiet_on) | (refine wpOrd_q rfl rfl ?_; intro K hK; go_big_quiet_op; go_big_quiet_on) | refine wpOrd_s (by decide) rfl rfl ?_)
  refine wpOrd_l rfl rfl ?_; intro K hK
  go_step
  refine (blast_mass_any b hb.out _).mono ?_
  rintro e w9 ⟨rfl, k9⟩
  replace P1 := P1.kpN k9
  replace P2 := P2.kpN k9
  replace F1 := F1.kpN k9
  replace F2 := F2.kpN k9
  replace R0 := R0.kpN k9
  replace K0 := K0.thenN k9 (Nat.le_refl _)
  refine hK _ _ ((hS0 _).2 ⟨⟨P1, P2⟩, F1, F2⟩) ?_
  clear hK K k9
  iterate 3 (first | (refine wpOrd_v rfl rfl ?_; intro K hK; go_big_quiet_op; go_big_quiet_on) | (refine wpOrd_q rfl rfl ?_; intro K hK; go_big_quiet_op; go_big_quiet_on) | refine wpOrd_s (by decide) rfl rfl ?_)
  refine wpOrd_a rfl rfl ?_; intro K hK
  have cR := fun i => R0.cell i
  have fR := fun i => R0.frozen i
  have e1 := energy_in ha.out hva.out
  have e2 := energy_in hb.out hvb.out
  go_step
  rw [wrap64_of e1.1 (by omega), wrap64_of e2.1 (by omega)]
  refine hK _ _ ((hS1 _).2 trivial) ?_
  clear hK K e1 e2
  change wpOrd _ _ _ _ _ 1 _ _
  refine wpOrd_nil ?_
  clear hevT _hev
  clear cA cB cC cD hS0 hS1 S
  have R9 := ((R0.set_ 0 (.int .i64 i)).set_ 1 (.int .i64 (massOf a.size a.dens * va))).set_ 2 (.int .i64 (massOf b.size b.dens * vb))
  have K9 := ((K0.setNew (p := ⟨w.heap.size, 0, none⟩) (Nat.le_refl _) (.int .i64 i)).setNew (p := ⟨w.heap.size, 1, none⟩) (Nat.le_refl _) (.int .i64 (massOf a.size a.dens * va))).setNew (p := ⟨w.heap.size, 2, none⟩) (Nat.le_refl _) (.int .i64 (massOf b.size b.dens * vb))
  simp only [List.setIfInBounds_toArray, List.set_cons_zero, List.set_cons_succ] at R9
  have c9 := fun i => R9.cell i
  go_wp2
  exact bodyPost_ret (v := .agg #[.int .i64 i, .int .i64 (massOf a.size a.dens * va), .int .i64 (massOf b.size b.dens * vb)]) (by simp [results, Tryd.results118, go_sem, c9]) rfl ⟨rfl, K9⟩
end Go.Proofs.YtdiigflbohbndaaDoor
