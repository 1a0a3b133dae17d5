/- CouncilBuilds: the walk. -/
import Derived.Test.YtogpgnljomchcaaOpn
import Derived.Test.YtogpgnljomchcaaLg
import Derived.Test.YtogpgnljomchcaaMr
import Derived.Test.YtogpgnljomchcaaSr
import Derived.Test.YtogpgnljomchcaaTree
import Derived.Deep.DeepCutAuto
import Derived.Deep.CutBlock
namespace Go.Proofs.Ytogpgnljomchcaa
open Go.RowKit

/-- a house in a cell, its rows laid behind the ring -/
structure HouseAt (g hb : Nat) (X : HV) (v : Ky → Value) (x : House) (w : World) : Prop where
  hl : Blk w hb 46 #[.int .i64 x.tick, .int .i64 x.real.items, .slice X.r.fa x.real.facts.length X.r.fc, .slice X.r.ma x.real.motions.length X.r.mc, .slice X.r.sa x.real.sent.length X.r.sc, .int .i64 x.drill.items, .slice X.d.fa x.drill.facts.length X.d.fc, .slice X.d.ma x.drill.motions.length X.d.mc, .slice X.d.sa x.drill.sent.length X.d.sc]
  hX : X = hvOf v
  ha : ∃ B, g < B ∧ HAt B w v x
  gb : g < hb
section
variable {w w' : World} {g hb : Nat} {X : HV} {v : Ky → Value} {x : House}
theorem HouseAt.kpN (s : HouseAt g hb X v x w) (q : Kp w.heap.size none w w') : HouseAt g hb X v x w' := by
  obtain ⟨B, hB, h⟩ := s.ha
  exact ⟨s.hl.kpN q, s.hX, ⟨B, hB, h.kpN q⟩, s.gb⟩
theorem HouseAt.turn (s : HouseAt g hb X v x w) (q : Kp w.heap.size (some g) w w') : HouseAt g hb X v x w' := by
  obtain ⟨B, hB, h⟩ := s.ha
  exact ⟨s.hl.kp q s.hl.lt (sne (by have := s.gb; omega)), s.hX, ⟨B, hB, h.turn q hB⟩, s.gb⟩
theorem HouseAt.sat {c : Council} {n : Nat} (s : HouseAt g hb X v x w) (ho : HouseOk c n x) (hn : n ≤ 1000000) : SAt w.heap.size w X x := by
  obtain ⟨B, hB, h⟩ := s.ha
  rw [s.hX]
  exact h.sat ho hn
end
theorem put_house {g ab B : Nat} {wb w : World} {v : Ky → Value} {a : House} (Q : Kp wb.heap.size none wb w) (YB : Blk w ab 46 zeroCells) (HA : HAt B w v a) (hap : ∀ k, (v k).ownBlock ≠ some ab) (hB : wb.heap.size ≤ ab) (X : HV) (hX : X = hvOf v) (hg : g < B) (hgb : g < wb.heap.size) :
    ∃ wq, wq = putH w ab X a ∧ Kp wb.heap.size none wb wq ∧ HouseAt g ab X v a wq :=
  ⟨_, rfl, Q.grownN (putH_grown _ _ _ _) Q.size hB, ⟨Blk.setR0 YB _ _ _ _ _ _ _ _ _, hX, ⟨B, hg, HA.set (putH_grown _ _ _ _) hap⟩, by omega⟩⟩
theorem ne_app {u : Value} {nb xb : Nat} {w : World} (h : u.ownBlock = (Value.slice (some ⟨nb, 0, none⟩) 0 0).ownBlock ∨ u.ownBlock = some w.heap.size) (h1 : nb ≠ xb) (h2 : xb < w.heap.size) : u.ownBlock ≠ some xb := fun e => by
  rcases h with h | h
  · rw [h] at e; exact h1 (by simpa [Value.ownBlock] using e)
  · rw [h] at e; injection e with e; omega
theorem Blk.past_own {w w' : World} {nb xb : Nat} {t : TypeId} {cs : Array Value} (h : Blk w xb t cs) (hg : w.grownBy w' (Value.slice (some ⟨nb, 0, none⟩) 0 0).ownBlock) (hne : nb ≠ xb) : Blk w' xb t cs :=
  (hg.block xb h.lt fun e => hne (by
    have e2 : some xb = some nb := e
    injection e2 with e2
    exact e2.symm)).trans h
/-- the arguments, a ring, a council and items made of it -/
structure BV (W : World) (g b4 b6 b10 : Nat) (nums : List Int) (k : Nat) (V0 V : CV) (c own : Council) (A1 : Option Addr) (l : List CItem) (n : CItem) (A2 : Option Addr) (its : List CItem) (w : World) : Prop where
  ring : RingAt w g nums k
  kp : Kp W.heap.size none W w
  ca : CAt W.heap.size w V0 c
  ra : Lo W.heap.size w 9 encItem A1 l.length l
  co : CAt w.heap.size w V own
  far : CFar V (g + 1)
  rd : Rd (some g) w 9 encItem A2 its.length its
  h4 : Blk w b4 26 #[.slice V0.am c.members.length V0.cm, .slice V0.al c.laws.length V0.cl, .slice V0.av c.levels.length V0.cv]
  h6 : Blk w b6 31 #[.int .i64 n.kind, .int .i64 n.tick, .bool n.drill, .int .i64 n.a, .int .i64 n.b, .bool n.yes, .int .i64 n.chance.least, .int .i64 n.chance.most, .int .i64 n.chance.all]
  h10 : Blk w b10 26 #[.slice V.am own.members.length V.cm, .slice V.al own.laws.length V.cl, .slice V.av own.levels.length V.cv]
  gW : W.heap.size ≤ g
  g4 : b4 ≠ g
  g6 : b6 ≠ g
  g10 : b10 ≠ g
section
variable {W w w' : World} {g b4 b6 b10 k k' : Nat} {nums : List Int} {V0 V : CV} {c own : Council} {A1 A2 : Option Addr} {l its : List CItem} {n : CItem}
theorem BV.kpN (s : BV W g b4 b6 b10 nums k V0 V c own A1 l n A2 its w) (q : Kp w.heap.size none w w') : BV W g b4 b6 b10 nums k V0 V c own A1 l n A2 its w' :=
  ⟨s.ring.kpN q, s.kp.thenN q (Nat.le_refl _), s.ca.kp (q.mono s.kp.size), s.ra.kp (q.mono s.kp.size), s.co.next q, s.far, s.rd.kpN q, s.h4.kpN q, s.h6.kpN q, s.h10.kpN q, s.gW, s.g4, s.g6, s.g10⟩
theorem BV.turn (s : BV W g b4 b6 b10 nums k V0 V c own A1 l n A2 its w) (r : RingAt w' g nums k') (q : Kp w.heap.size (some g) w w') : BV W g b4 b6 b10 nums k' V0 V c own A1 l n A2 its w' :=
  have qW : Kp W.heap.size none w w' := ⟨q.os, q.tape, q.output, q.size, fun i hi _ => q.block i (by have := s.kp.size; omega) (fun e => by injection e with e; have := s.gW; omega)⟩
  ⟨r, s.kp.trans qW, s.ca.kp qW, s.ra.kp qW, (s.co.turnB q s.far (by omega)).wide q.size, s.far, s.rd.kp q, s.h4.kp q s.h4.lt (sne s.g4), s.h6.kp q s.h6.lt (sne s.g6), s.h10.kp q s.h10.lt (sne s.g10), s.gW, s.g4, s.g6, s.g10⟩
end
/-- the lists that the rounds go through -/
structure BK (W : World) (b83 b88 : Nat) (V0 V : CV) (c own : Council) (A1 A2 A4 A9 : Option Addr) (q1 q2 q4 q9 : Nat) (l its m4 m9 : List CItem) (w : World) : Prop where
  kp : Kp W.heap.size none W w
  ca : CAt w.heap.size w V0 c
  co : CAt w.heap.size w V own
  r1 : Rd none w 9 encItem A1 l.length l
  r2 : Rd none w 9 encItem A2 its.length its
  r4 : Rd none w 9 encItem A4 m4.length m4
  r9 : Rd none w 9 encItem A9 m9.length m9
  h83 : Blk w b83 26 #[.slice V0.am c.members.length V0.cm, .slice V0.al c.laws.length V0.cl, .slice V0.av c.levels.length V0.cv, .slice V.am own.members.length V.cm, .slice V.al own.laws.length V.cl, .slice V.av own.levels.length V.cv, .slice V.am own.members.length V.cm, .slice V.al own.laws.length V.cl, .slice V.av own.levels.length V.cv, .slice V.am own.members.length V.cm, .slice V.al own.laws.length V.cl, .slice V.av own.levels.length V.cv]
  h88 : Blk w b88 27 #[.slice A1 l.length q1, .slice A2 its.length q2, .slice A4 m4.length q4, .slice A9 m9.length q9]
  n1 : l.length ≤ 1000000
  n2 : its.length ≤ 1000000
  n4 : m4.length ≤ 1000000
  n9 : m9.length ≤ 1000000
section
variable {W w w' : World} {b83 b88 q1 q2 q4 q9 : Nat} {V0 V : CV} {c own : Council} {A1 A2 A4 A9 : Option Addr} {l its m4 m9 : List CItem}
theorem BK.kpN (s : BK W b83 b88 V0 V c own A1 A2 A4 A9 q1 q2 q4 q9 l its m4 m9 w) (q : Kp w.heap.size none w w') : BK W b83 b88 V0 V c own A1 A2 A4 A9 q1 q2 q4 q9 l its m4 m9 w' :=
  ⟨s.kp.thenN q (Nat.le_refl _), s.ca.next q, s.co.next q, s.r1.kpN q, s.r2.kpN q, s.r4.kpN q, s.r9.kpN q, s.h83.kpN q, s.h88.kpN q, s.n1, s.n2, s.n4, s.n9⟩
/-- what a round finds -/
structure BF (b83 b88 i : Nat) (Vi : CV) (ci : Council) (Ai : Option Addr) (qi : Nat) (li : List CItem) (w : World) : Prop where
  ca : CAt w.heap.size w Vi ci
  d0 : w.cell? ⟨b83, i * 3, none⟩ = some (.slice Vi.am ci.members.length Vi.cm)
  d1 : w.cell? ⟨b83, i * 3 + 1, none⟩ = some (.slice Vi.al ci.laws.length Vi.cl)
  d2 : w.cell? ⟨b83, i * 3 + 2, none⟩ = some (.slice Vi.av ci.levels.length Vi.cv)
  e0 : w.cell? ⟨b88, i, none⟩ = some (.slice Ai li.length qi)
  r : Rd none w 9 encItem Ai li.length li
  n : li.length ≤ 1000000
theorem BK.round {i : Nat} (hi : i < 4) : ∃ Vi ci Ai qi li, ∀ w, BK W b83 b88 V0 V c own A1 A2 A4 A9 q1 q2 q4 q9 l its m4 m9 w → BF b83 b88 i Vi ci Ai qi li w := by
  rcases (show i = 0 ∨ i = 1 ∨ i = 2 ∨ i = 3 by omega) with rfl | rfl | rfl | rfl
  · exact ⟨V0, c, A1, q1, l, fun w s => ⟨s.ca, s.h83.cell 0, s.h83.cell 1, s.h83.cell 2, s.h88.cell 0, s.r1, s.n1⟩⟩
  · exact ⟨V, own, A2, q2, its, fun w s => ⟨s.co, s.h83.cell 3, s.h83.cell 4, s.h83.cell 5, s.h88.cell 1, s.r2, s.n2⟩⟩
  · exact ⟨V, own, A4, q4, m4, fun w s => ⟨s.co, s.h83.cell 6, s.h83.cell 7, s.h83.cell 8, s.h88.cell 2, s.r4, s.n4⟩⟩
  · exact ⟨V, own, A9, q9, m9, fun w s => ⟨s.co, s.h83.cell 9, s.h83.cell 10, s.h83.cell 11, s.h88.cell 3, s.r9, s.n9⟩⟩
theorem BK.rounds {i : Nat} (_s : BK W b83 b88 V0 V c own A1 A2 A4 A9 q1 q2 q4 q9 l its m4 m9 w') (hi : i < 4) : ∃ Vi ci Ai qi li, ∀ w, BK W b83 b88 V0 V c own A1 A2 A4 A9 q1 q2 q4 q9 l its m4 m9 w → BF b83 b88 i Vi ci Ai qi li w := BK.round hi
end
/-- a house in a cell, to be read only -/
structure Hs (hb : Nat) (X : HV) (x : House) (w : World) : Prop where
  hl : Blk w hb 46 #[.int .i64 x.tick, .int .i64 x.real.items, .slice X.r.fa x.real.facts.length X.r.fc, .slice X.r.ma x.real.motions.length X.r.mc, .slice X.r.sa x.real.sent.length X.r.sc, .int .i64 x.drill.items, .slice X.d.fa x.drill.facts.length X.d.fc, .slice X.d.ma x.drill.motions.length X.d.mc, .slice X.d.sa x.drill.sent.length X.d.sc]
  sa : SAt w.heap.size w X x
theorem Hs.kpN {w w' : World} {hb : Nat} {X : HV} {x : House} (s : Hs hb X x w) (q : Kp w.heap.size none w w') : Hs hb X x w' := ⟨s.hl.kpN q, s.sa.next q⟩
theorem put_hs {ab B n : Nat} {wb w : World} {v : Ky → Value} {a : House} {c : Council} (Q : Kp wb.heap.size none wb w) (YB : Blk w ab 46 zeroCells) (HA : HAt B w v a) (hap : ∀ k, (v k).ownBlock ≠ some ab) (hB : wb.heap.size ≤ ab) (X : HV) (hX : X = hvOf v) (ho : HouseOk c n a) (hn : n ≤ 1000000) :
    ∃ wq, wq = putH w ab X a ∧ Kp wb.heap.size none wb wq ∧ Hs ab X a wq :=
  ⟨_, rfl, Q.grownN (putH_grown _ _ _ _) Q.size hB, ⟨Blk.setR0 YB _ _ _ _ _ _ _ _ _, by
    rw [hX]
    exact (HA.set (putH_grown _ _ _ _) hap).sat ho hn⟩⟩
set_option maxRecDepth 20000 in
set_option maxHeartbeats 8000000 in
theorem law_CouncilBuilds_any (V0 : CV) (c : Council) (A1 : Option Addr) (cap1 : Nat) (l : List CItem) (n : CItem) (A : Option Addr) (cap : Nat) (nums : List Int) (w : World) (hC0 : CAt0 w V0 c) (hl0 : Rd none w 9 encItem A1 l.length l) (h : Rd none w 1 (fun x => [Value.int .i64 x]) A nums.length nums) (hn : nums.length ≤ 17592186044416) :
    Calls Try.prog 3 #[.agg #[.slice V0.am c.members.length V0.cm, .slice V0.al c.laws.length V0.cl, .slice V0.av c.levels.length V0.cv], .slice A1 l.length cap1, .agg #[.int .i64 n.kind, .int .i64 n.tick, .bool n.drill, .int .i64 n.a, .int .i64 n.b, .bool n.yes, .int .i64 n.chance.least, .int .i64 n.chance.most, .int .i64 n.chance.all], .slice A nums.length cap] w fun e w' => e = .returned (.bool true) ∧ Kp w.heap.size none w w' := by
  have B4 := (Blk.new w 26 #[.slice V0.am c.members.length V0.cm, .slice V0.al c.laws.length V0.cl, .slice V0.av c.levels.length V0.cv]).alloc (.cells #[.int .i64 n.kind, .int .i64 n.tick, .bool n.drill, .int .i64 n.a, .int .i64 n.b, .bool n.yes, .int .i64 n.chance.least, .int .i64 n.chance.most, .int .i64 n.chance.all] 31)
  have B6 := Blk.newAt (w.alloc (.cells #[.slice V0.am c.members.length V0.cm, .slice V0.al c.laws.length V0.cl, .slice V0.av c.levels.length V0.cv] 26)) 31 #[.int .i64 n.kind, .int .i64 n.tick, .bool n.drill, .int .i64 n.a, .int .i64 n.b, .bool n.yes, .int .i64 n.chance.least, .int .i64 n.chance.most, .int .i64 n.chance.all] (n := w.heap.size + 1) (by simp)
  have K0 := Kp.new2 w (.cells #[.slice V0.am c.members.length V0.cm, .slice V0.al c.laws.length V0.cl, .slice V0.av c.levels.length V0.cv] 26) (.cells #[.int .i64 n.kind, .int .i64 n.tick, .bool n.drill, .int .i64 n.a, .int .i64 n.b, .bool n.yes, .int .i64 n.chance.least, .int .i64 n.chance.most, .int .i64 n.chance.all] 31)
  have h1 := h.kpN K0
  clear h
  go_enter Try.func3, Try.ntmps3
  go_upto_region 1 with (fail)
  obtain ⟨b4, hb4⟩ : ∃ q, q = w.heap.size := ⟨_, rfl⟩
  rw [← hb4] at B4 B6
  rw [← hb4]
  have hb4w : w.heap.size ≤ b4 := by omega
  generalize (w.alloc (.cells #[.slice V0.am c.members.length V0.cm, .slice V0.al c.laws.length V0.cl, .slice V0.av c.levels.length V0.cv] 26)).alloc (.cells #[.int .i64 n.kind, .int .i64 n.tick, .bool n.drill, .int .i64 n.a, .int .i64 n.b, .bool n.yes, .int .i64 n.chance.least, .int .i64 n.chance.most, .int .i64 n.chance.all] 31) = w1 at B4 B6 K0 h1 ⊢
  replace hb4 := Lib.hid hb4
  have c4 := fun i => B4.cell i
  go_wp2_with fail
  refine (long_any V0 c A1 l.length cap1 _).mono ?_
  rintro e w2 ⟨rfl, k2⟩
  replace B4 := B4.kpN k2
  replace B6 := B6.kpN k2
  replace h1 := h1.kpN k2
  replace K0 := K0.thenN k2 (Nat.le_refl _)
  clear k2 c4
  cases hlong : longB c l.length with
  | true =>
    go_wp2_with fail
    refine (awake_any _).mono ?_
    rintro e w3 ⟨rfl, k3⟩
    have K9 := K0.thenN k3 (Nat.le_refl _)
    clear K0 k3 B4 B6 h1
    go_wp2
    go_ret
    exact ⟨rfl, K9⟩
  | false =>
  obtain ⟨n1, n2, n3, n4⟩ := long_no hlong
  have hca : CAt w.heap.size w2 V0 c := ((hC0.cat (by omega) (by omega) (by omega)).kp K0)
  have hra : Lo w.heap.size w2 9 encItem A1 l.length l := (Lo.of hl0).kp K0
  clear hlong hC0 hl0 n1 n2 n3
  replace hca := Lib.hid hca
  replace hra := Lib.hid hra
  replace n4 := Lib.hid (show l.length ≤ 1000000 by omega)
  go_wp2_with fail
  refine (newRing_any A cap nums _ h1 hn).mono ?_
  rintro e w3 ⟨g, rfl, hg, hr, k3⟩
  have hgW : w.heap.size ≤ g := Nat.le_trans K0.size hg
  have hb4g : b4 + 1 < g := by have := B6.lt; omega
  replace B4 := B4.kpN k3
  replace B6 := B6.kpN k3
  replace hca := Lib.hid (hca.out.kp (k3.mono K0.size))
  replace hra := Lib.hid (hra.out.kp (k3.mono K0.size))
  replace K0 := K0.thenN k3 (Nat.le_refl _)
  clear k3 h1
  go_wp2_with fail
  refine (councilOf_any g nums 0 _ hr (by omega)).mono ?_
  rintro e w4 ⟨V, own, k', rfl, hok, hco, hk', hr4, k4, hf⟩
  have hg1 := hr.lt
  have hfar : CFar V (g + 1) := ⟨fun ad e => by have := hf.1 ad e; omega, fun ad e => by have := hf.2.1 ad e; omega, fun ad e => by have := hf.2.2 ad e; omega⟩
  have kb4 : Kp w.heap.size none w3 w4 := ⟨k4.os, k4.tape, k4.output, k4.size, fun i hi _ => k4.block i (by have := K0.size; omega) (fun e => by injection e with e; omega)⟩
  replace B4 := B4.kp k4 B4.lt (sne (by omega))
  replace B6 := B6.kp k4 B6.lt (sne (by omega))
  replace hca := Lib.hid (hca.out.kp kb4)
  replace hra := Lib.hid (hra.out.kp kb4)
  replace K0 := K0.trans kb4
  clear k4 kb4 hr hf hg
  have hg5 := hr4.lt
  have kk := Kp.new w4 (.cells #[.slice V.am own.members.length V.cm, .slice V.al own.laws.length V.cl, .slice V.av own.levels.length V.cv] 26)
  have B10 := Blk.new w4 26 #[.slice V.am own.members.length V.cm, .slice V.al own.laws.length V.cl, .slice V.av own.levels.length V.cv]
  replace B4 := B4.kpN kk
  replace B6 := B6.kpN kk
  replace hca := Lib.hid (hca.out.kp (kk.mono K0.size))
  replace hra := Lib.hid (hra.out.kp (kk.mono K0.size))
  replace hco := hco.next kk
  replace hr4 := hr4.kpN kk
  replace K0 := K0.thenN kk (Nat.le_refl _)
  clear kk
  replace hr4 := Lib.hid hr4
  replace hco := Lib.hid hco
  go_upto_region 5 with (fail)
  obtain ⟨b10, hb10⟩ : ∃ q, q = w4.heap.size := ⟨_, rfl⟩
  rw [← hb10] at B10 hg5
  rw [← hb10]
  change Code.wp _ _ _ _ (w4.alloc (.cells #[.slice V.am own.members.length V.cm, .slice V.al own.laws.length V.cl, .slice V.av own.levels.length V.cv] 26))
  generalize w4.alloc (.cells #[.slice V.am own.members.length V.cm, .slice V.al own.laws.length V.cl, .slice V.av own.levels.length V.cv] 26) = w5 at B4 B6 B10 hca hra hco hr4 K0 ⊢
  clear hb10
  have c10 := fun i => B10.cell i
  go_wp2_with fail
  refine (itemsOf_any g nums k' V own 14 _ hr4.out (by omega) hco.out hfar hok (by omega)).mono ?_
  rintro e w6 ⟨A2, cap2, its, x0, k2, rfl, hl14, hD, hrd, hlf, hk2, hr6, k6, hcap, hcap0⟩
  have kb6 : Kp w.heap.size none w5 w6 := ⟨k6.os, k6.tape, k6.output, k6.size, fun i hi _ => k6.block i (by have := K0.size; omega) (fun e => by injection e with e; omega)⟩
  have U : BV w g b4 (b4 + 1) b10 nums k2 V0 V c own A1 l n A2 its w6 :=
    ⟨hr6, K0.trans kb6, hca.out.kp kb6, hra.out.kp kb6, (hco.out.turnB k6 hfar (by omega)).wide k6.size, hfar, hrd, B4.kp k6 B4.lt (sne (by omega)), B6.kp k6 B6.lt (sne (by omega)), B10.kp k6 B10.lt (sne (by omega)), hgW, by omega, by omega, by omega⟩
  clear hr6 K0 hca hra hco hr4 hfar hrd hlf B4 B6 B10 kb6 k6 hD c10 hg5 hg1 hb4w hb4 hb4g hgW
  go_wp2_with fail
  refine (next_any g nums k2 ((its.length : Int) + 1) _ U.ring (by omega) (by omega) (by omega)).mono ?_
  rintro e w7 ⟨v, rfl, ⟨a0, rfl, ha0, ha1⟩, hr7, k7⟩
  replace U := U.turn hr7 k7
  clear hr7 k7
  obtain ⟨at0, rfl⟩ := Int.eq_ofNat_of_zero_le ha0
  have hat : at0 ≤ its.length := by omega
  clear ha0 ha1
  go_upto_region 7 with (fail)
  obtain ⟨hd, hhd⟩ : ∃ q, q = its.take at0 := ⟨_, rfl⟩
  obtain ⟨tl, htl⟩ : ∃ q, q = its.drop at0 := ⟨_, rfl⟩
  have hdl : hd.length = at0 := by rw [hhd, List.length_take]; omega
  have htn : tl.length = its.length - at0 := by rw [htl, List.length_drop]
  have RHf : ∀ W, Rd (some g) W 9 encItem A2 its.length its → Rd none W 9 encItem A2 hd.length hd := fun W r => ⟨rfl, fun hn => by
    obtain ⟨b, o, e, q1, -, q3⟩ := r.free.2 (by omega)
    exact ⟨b, o, e, q1, by simp, fun i hi j v hv => q3 i (by omega) j v (by rw [← hv]; subst hhd; rw [List.getElem_take])⟩⟩
  have RTf : ∀ W, Rd (some g) W 9 encItem A2 its.length its → Rd none W 9 encItem (if cap2 = at0 then A2 else A2.map (fun x => x.add (at0 * 9))) tl.length tl := fun W r => ⟨rfl, fun hn => by
    obtain ⟨b, o, e, q1, -, q3⟩ := r.free.2 (by omega)
    rw [if_neg (by omega), e, Option.map_some, Go.WideShapes.add_plain]
    exact ⟨b, _, rfl, q1, by simp, fun i hi j v hv => by
      have := q3 (at0 + i) (by omega) j v (by rw [← hv]; subst htl; rw [List.getElem_drop])
      rw [← this]
      congr 2
      omega⟩⟩
  have RH := RHf _ U.rd
  have RT := RTf _ U.rd
  replace RHf := Lib.hid RHf
  replace RTf := Lib.hid RTf
  replace RT := Lib.hid RT
  have hg7 := U.ring.lt
  replace hdl := Lib.hid hdl
  replace htn := Lib.hid htn
  replace hhd := Lib.hid hhd
  replace htl := Lib.hid htl
  replace RH := Lib.hid RH
  have f1 : (at0 : Int) ≤ (cap2 : Int) := by omega
  have f2 : (at0 : Int) ≤ (its.length : Int) := by omega
  go_cut [13] (fun p wx => ∃ (A4 : Option Addr) (c4 : Nat) (m4 : List CItem), p = .slice A4 m4.length c4 ∧ m4.length ≤ 100 ∧ Rd (some g) wx 9 encItem A4 m4.length m4 ∧ BV w g b4 (b4 + 1) b10 nums (k2 + 1) V0 V c own A1 l n A2 its wx)
  case first =>
    have Q5 := (Kp.refl w7.heap.size none w7).drew
    obtain ⟨S0, hS⟩ : ∃ S0 : World → Prop, S0 = fun w' => Blk w' (b4 + 1) 31 #[.int .i64 n.kind, .int .i64 n.tick, .bool n.drill, .int .i64 n.a, .int .i64 n.b, .bool n.yes, .int .i64 n.chance.least, .int .i64 n.chance.most, .int .i64 n.chance.all] := ⟨_, rfl⟩
    have hS0 : ∀ w', S0 w' ↔ Blk w' (b4 + 1) 31 #[.int .i64 n.kind, .int .i64 n.tick, .bool n.drill, .int .i64 n.a, .int .i64 n.b, .bool n.yes, .int .i64 n.chance.least, .int .i64 n.chance.most, .int .i64 n.chance.all] := fun w' => by rw [hS]
    clear hS
    have z6 := fun (q : Ev S0) i => ((hS0 _).1 q.h).cell i
    have B6 := U.h6
    replace U := Lib.hid U
    have hevT := ev_true
    refine wp_region_tr S0 (.st 1 0 (.st 2 0 (.st 3 0 (.st 5 1 (.st 8 0 (.st 9 0 (.st 10 0 (.b2 0 (.b2 4 (.st 6 2 (.st 7 2 (.st 11 2 (.st 12 0 .nil)))) 6 (.st 4 2 (.st 7 2 (.st 11 2 (.st 12 0 .nil))))) 6 (.st 0 2 (.st 4 2 (.st 7 2 (.st 11 2 (.st 12 0 .nil))))))))))))) (by kernel_rfl) (by kernel_rfl) ((hS0 _).2 (B6.kpN Q5)) ?_
    intro _hev
    iterate 7 (first | (refine wpTr_v rfl rfl ?_; intro K hK; go_big_quiet_op; go_big_quiet_on) | (refine wpTr_q rfl rfl ?_; intro K hK; go_big_quiet_op; go_big_quiet_on) | refine wpTr_s rfl rfl ?_)
    refine wpTr_b2 ?_ ?_
    · refine wpOne_l rfl rfl ?_; intro K hK
      generalize w7.drew = wq at Q5 ⊢
      have hsz := Q5.size
      have kq := Kp.new wq (.cells #[] 31)
      have O1 := emptyItems wq w7.heap.size Q5.size
      try (have hxs : xb < wq.heap.size := XB.lt)
      try (replace XB := XB.kpN kq)
      replace Q5 := Q5.thenN kq (Nat.le_refl _)
      clear kq
      go_step
      change K _ (World.alloc wq (.cells #[] 31))
      obtain ⟨nb, hnb⟩ : ∃ q, q = wq.heap.size := ⟨_, rfl⟩
      rw [← hnb] at O1
      rw [← hnb]
      have hnb2 : w7.heap.size ≤ nb := by omega
      try (have hnx : nb ≠ xb := by omega)
      clear hnb hsz
      try clear hxs
      generalize World.alloc wq (.cells #[] 31) = wq9 at *
      rename World => wq
      refine hK _ _ ((hS0 _).2 (B6.kpN Q5)) ?_
      clear hK K
      refine wpTr_b2 ?_ ?_
      · refine wpOne_l rfl rfl ?_; intro K hK
        refine wp_append_items (.tmp 43) (.tmp 46) (by rfl) w7.heap.size (.slice (some ⟨nb, 0, none⟩) 0 0) [] A2 cap2 hd (by rfl) (by rw [hdl.out]; rfl) O1 ((RH.out).kpN Q5) (by have := hdl.out; simp; omega) Q5.size ?_
        intro u3 wq9 O3 gu au
        rw [List.nil_append] at O3
        try (have hx3 := ne_app au hnx XB.lt)
        try (replace XB := XB.past_own gu hnx)
        replace Q5 := Q5.grownN gu Q5.size hnb2
        refine hK _ _ ((hS0 _).2 (B6.kpN Q5)) ?_
        try simp only [Act.put, List.setIfInBounds_toArray, List.set_cons_zero, List.set_cons_succ]
        clear hK K O1 gu au
        try clear hnx
        rename World => wq
        refine wpTr_l rfl rfl ?_; intro K hK
        have hsz := Q5.size
        have kq := Kp.new wq (.cells #[.int .i64 n.kind, .int .i64 n.tick, .bool n.drill, .int .i64 n.a, .int .i64 n.b, .bool n.yes, .int .i64 n.chance.least, .int .i64 n.chance.most, .int .i64 n.chance.all] 31)
        have XB := Blk.new wq 31 #[.int .i64 n.kind, .int .i64 n.tick, .bool n.drill, .int .i64 n.a, .int .i64 n.b, .bool n.yes, .int .i64 n.chance.least, .int .i64 n.chance.most, .int .i64 n.chance.all]
        try (have hn1 : nb < wq.heap.size := (O1.ge nb rfl).2)
        try (have hn3 : ∀ b, u3.ownBlock = some b → b < wq.heap.size := fun b e => (O3.ge b e).2)
        try (replace O1 := O1.kpN kq)
        try (replace O3 := O3.kpN kq)
        replace Q5 := Q5.thenN kq (Nat.le_refl _)
        clear kq
        go_step
        change K _ (World.alloc wq (.cells #[.int .i64 n.kind, .int .i64 n.tick, .bool n.drill, .int .i64 n.a, .int .i64 n.b, .bool n.yes, .int .i64 n.chance.least, .int .i64 n.chance.most, .int .i64 n.chance.all] 31))
        obtain ⟨xb, hxb⟩ : ∃ q, q = wq.heap.size := ⟨_, rfl⟩
        rw [← hxb] at XB
        rw [← hxb]
        try (have hnx : nb ≠ xb := by omega)
        try (have hx3 : u3.ownBlock ≠ some xb := fun e => by have := hn3 xb e; omega)
        clear hxb hsz
        try clear hn1
        try clear hn3
        generalize World.alloc wq (.cells #[.int .i64 n.kind, .int .i64 n.tick, .bool n.drill, .int .i64 n.a, .int .i64 n.b, .bool n.yes, .int .i64 n.chance.least, .int .i64 n.chance.most, .int .i64 n.chance.all] 31) = wq9 at *
        rename World => wq
        refine hK _ _ ((hS0 _).2 (B6.kpN Q5)) ?_
        clear hK K
        refine wpTr_l rfl rfl ?_; intro K hK
        refine wp_append_items (.tmp 47) (.tmp 49) (by rfl) w7.heap.size u3 hd (some ⟨xb, 0, none⟩) 1 [n] (by rfl) (by rfl) O3 (Rd.of_blk (enc := encItem) (sz := 9) [n] (fun _ => rfl) rfl XB none (by simp)) (by have := hdl.out; simp; omega) Q5.size ?_
        intro u7 wq9 O7 gu au
        replace Q5 := Q5.grown gu Q5.size (fun b e => (O3.ge b e).1)
        refine hK _ _ ((hS0 _).2 (B6.kpN Q5)) ?_
        try simp only [Act.put, List.setIfInBounds_toArray, List.set_cons_zero, List.set_cons_succ]
        clear hK K O3 XB gu au hx3
        rename World => wq
        refine wpTr_l rfl rfl ?_; intro K hK
        refine wp_append_items (.tmp 50) (.tmp 53) (by rfl) w7.heap.size u7 (hd ++ [n]) _ _ tl (by rfl) (by rw [htn.out]; rfl) O7 (RT.out.kpN Q5) (by have := hdl.out; have := htn.out; simp; omega) Q5.size ?_
        intro u8 wq9 O8 gu au
        replace Q5 := Q5.grown gu Q5.size (fun b e => (O7.ge b e).1)
        obtain ⟨m4, hm4⟩ : ∃ q, q = hd ++ [n] ++ tl := ⟨_, rfl⟩
        have hm5 : m4.length ≤ 100 := by rw [hm4]; have := hdl.out; have := htn.out; simp; omega
        rw [← hm4] at O8
        replace hm4 := Lib.hid hm4
        obtain ⟨A4, c4, rfl, R4, -⟩ := O8.rd (row := some g) (fun _ => rfl) (fun b hb e => by injection e with e; omega)
        refine hK _ _ ((hS0 _).2 (B6.kpN Q5)) ?_
        try simp only [Act.put, List.setIfInBounds_toArray, List.set_cons_zero, List.set_cons_succ]
        clear hK K O7 O8 gu au
        generalize (if cap2 = at0 then A2 else Option.map (fun x => x.add (at0 * 9)) A2) = A3
        rename World => wq
        iterate 1 (first | (refine wpTr_v rfl rfl ?_; intro K hK; go_big_quiet_op; go_big_quiet_on) | (refine wpTr_q rfl rfl ?_; intro K hK; go_big_quiet_op; go_big_quiet_on) | refine wpTr_s rfl rfl ?_)
        refine wpTr_nil ?_
        clear hevT _hev
        go_wp2_with fail
        go_meet
        case rel => exact ⟨A4, c4, m4, rfl, hm5, R4, U.out.kpN Q5⟩
      · refine wpOne_l rfl rfl ?_; intro K hK
        have hsz := Q5.size
        have kq := Kp.new wq (.cells #[.int .i64 n.kind, .int .i64 n.tick, .bool n.drill, .int .i64 n.a, .int .i64 n.b, .bool n.yes, .int .i64 n.chance.least, .int .i64 n.chance.most, .int .i64 n.chance.all] 31)
        have XB := Blk.new wq 31 #[.int .i64 n.kind, .int .i64 n.tick, .bool n.drill, .int .i64 n.a, .int .i64 n.b, .bool n.yes, .int .i64 n.chance.least, .int .i64 n.chance.most, .int .i64 n.chance.all]
        try (have hn1 : nb < wq.heap.size := (O1.ge nb rfl).2)
        try (have hn3 : ∀ b, u3.ownBlock = some b → b < wq.heap.size := fun b e => (O3.ge b e).2)
        try (replace O1 := O1.kpN kq)
        try (replace O3 := O3.kpN kq)
        replace Q5 := Q5.thenN kq (Nat.le_refl _)
        clear kq
        go_step
        change K _ (World.alloc wq (.cells #[.int .i64 n.kind, .int .i64 n.tick, .bool n.drill, .int .i64 n.a, .int .i64 n.b, .bool n.yes, .int .i64 n.chance.least, .int .i64 n.chance.most, .int .i64 n.chance.all] 31))
        obtain ⟨xb, hxb⟩ : ∃ q, q = wq.heap.size := ⟨_, rfl⟩
        rw [← hxb] at XB
        rw [← hxb]
        try (have hnx : nb ≠ xb := by omega)
        try (have hx3 : u3.ownBlock ≠ some xb := fun e => by have := hn3 xb e; omega)
        clear hxb hsz
        try clear hn1
        try clear hn3
        generalize World.alloc wq (.cells #[.int .i64 n.kind, .int .i64 n.tick, .bool n.drill, .int .i64 n.a, .int .i64 n.b, .bool n.yes, .int .i64 n.chance.least, .int .i64 n.chance.most, .int .i64 n.chance.all] 31) = wq9 at *
        rename World => wq
        refine hK _ _ ((hS0 _).2 (B6.kpN Q5)) ?_
        clear hK K
        refine wpTr_l rfl rfl ?_; intro K hK
        refine wp_append_items (.tmp 43) (.tmp 46) (by rfl) w7.heap.size (.slice (some ⟨nb, 0, none⟩) 0 0) [] A2 cap2 hd (by rfl) (by rw [hdl.out]; rfl) O1 ((RH.out).kpN Q5) (by have := hdl.out; simp; omega) Q5.size ?_
        intro u3 wq9 O3 gu au
        rw [List.nil_append] at O3
        try (have hx3 := ne_app au hnx XB.lt)
        try (replace XB := XB.past_own gu hnx)
        replace Q5 := Q5.grownN gu Q5.size hnb2
        refine hK _ _ ((hS0 _).2 (B6.kpN Q5)) ?_
        try simp only [Act.put, List.setIfInBounds_toArray, List.set_cons_zero, List.set_cons_succ]
        clear hK K O1 gu au
        try clear hnx
        rename World => wq
        refine wpTr_l rfl rfl ?_; intro K hK
        refine wp_append_items (.tmp 47) (.tmp 49) (by rfl) w7.heap.size u3 hd (some ⟨xb, 0, none⟩) 1 [n] (by rfl) (by rfl) O3 (Rd.of_blk (enc := encItem) (sz := 9) [n] (fun _ => rfl) rfl XB none (by simp)) (by have := hdl.out; simp; omega) Q5.size ?_
        intro u7 wq9 O7 gu au
        replace Q5 := Q5.grown gu Q5.size (fun b e => (O3.ge b e).1)
        refine hK _ _ ((hS0 _).2 (B6.kpN Q5)) ?_
        try simp only [Act.put, List.setIfInBounds_toArray, List.set_cons_zero, List.set_cons_succ]
        clear hK K O3 XB gu au hx3
        rename World => wq
        refine wpTr_l rfl rfl ?_; intro K hK
        refine wp_append_items (.tmp 50) (.tmp 53) (by rfl) w7.heap.size u7 (hd ++ [n]) _ _ tl (by rfl) (by rw [htn.out]; rfl) O7 (RT.out.kpN Q5) (by have := hdl.out; have := htn.out; simp; omega) Q5.size ?_
        intro u8 wq9 O8 gu au
        replace Q5 := Q5.grown gu Q5.size (fun b e => (O7.ge b e).1)
        obtain ⟨m4, hm4⟩ : ∃ q, q = hd ++ [n] ++ tl := ⟨_, rfl⟩
        have hm5 : m4.length ≤ 100 := by rw [hm4]; have := hdl.out; have := htn.out; simp; omega
        rw [← hm4] at O8
        replace hm4 := Lib.hid hm4
        obtain ⟨A4, c4, rfl, R4, -⟩ := O8.rd (row := some g) (fun _ => rfl) (fun b hb e => by injection e with e; omega)
        refine hK _ _ ((hS0 _).2 (B6.kpN Q5)) ?_
        try simp only [Act.put, List.setIfInBounds_toArray, List.set_cons_zero, List.set_cons_succ]
        clear hK K O7 O8 gu au
        generalize (if cap2 = at0 then A2 else Option.map (fun x => x.add (at0 * 9)) A2) = A3
        rename World => wq
        iterate 1 (first | (refine wpTr_v rfl rfl ?_; intro K hK; go_big_quiet_op; go_big_quiet_on) | (refine wpTr_q rfl rfl ?_; intro K hK; go_big_quiet_op; go_big_quiet_on) | refine wpTr_s rfl rfl ?_)
        refine wpTr_nil ?_
        clear hevT _hev
        go_wp2_with fail
        go_meet
        case rel => exact ⟨A4, c4, m4, rfl, hm5, R4, U.out.kpN Q5⟩
    · refine wpOne_l rfl rfl ?_; intro K hK
      generalize w7.drew = wq at Q5 ⊢
      have hsz := Q5.size
      have kq := Kp.new wq (.cells #[.int .i64 n.kind, .int .i64 n.tick, .bool n.drill, .int .i64 n.a, .int .i64 n.b, .bool n.yes, .int .i64 n.chance.least, .int .i64 n.chance.most, .int .i64 n.chance.all] 31)
      have XB := Blk.new wq 31 #[.int .i64 n.kind, .int .i64 n.tick, .bool n.drill, .int .i64 n.a, .int .i64 n.b, .bool n.yes, .int .i64 n.chance.least, .int .i64 n.chance.most, .int .i64 n.chance.all]
      try (have hn1 : nb < wq.heap.size := (O1.ge nb rfl).2)
      try (have hn3 : ∀ b, u3.ownBlock = some b → b < wq.heap.size := fun b e => (O3.ge b e).2)
      try (replace O1 := O1.kpN kq)
      try (replace O3 := O3.kpN kq)
      replace Q5 := Q5.thenN kq (Nat.le_refl _)
      clear kq
      go_step
      change K _ (World.alloc wq (.cells #[.int .i64 n.kind, .int .i64 n.tick, .bool n.drill, .int .i64 n.a, .int .i64 n.b, .bool n.yes, .int .i64 n.chance.least, .int .i64 n.chance.most, .int .i64 n.chance.all] 31))
      obtain ⟨xb, hxb⟩ : ∃ q, q = wq.heap.size := ⟨_, rfl⟩
      rw [← hxb] at XB
      rw [← hxb]
      try (have hnx : nb ≠ xb := by omega)
      try (have hx3 : u3.ownBlock ≠ some xb := fun e => by have := hn3 xb e; omega)
      clear hxb hsz
      try clear hn1
      try clear hn3
      generalize World.alloc wq (.cells #[.int .i64 n.kind, .int .i64 n.tick, .bool n.drill, .int .i64 n.a, .int .i64 n.b, .bool n.yes, .int .i64 n.chance.least, .int .i64 n.chance.most, .int .i64 n.chance.all] 31) = wq9 at *
      rename World => wq
      refine hK _ _ ((hS0 _).2 (B6.kpN Q5)) ?_
      clear hK K
      refine wpTr_l rfl rfl ?_; intro K hK
      have hsz := Q5.size
      have kq := Kp.new wq (.cells #[] 31)
      have O1 := emptyItems wq w7.heap.size Q5.size
      try (have hxs : xb < wq.heap.size := XB.lt)
      try (replace XB := XB.kpN kq)
      replace Q5 := Q5.thenN kq (Nat.le_refl _)
      clear kq
      go_step
      change K _ (World.alloc wq (.cells #[] 31))
      obtain ⟨nb, hnb⟩ : ∃ q, q = wq.heap.size := ⟨_, rfl⟩
      rw [← hnb] at O1
      rw [← hnb]
      have hnb2 : w7.heap.size ≤ nb := by omega
      try (have hnx : nb ≠ xb := by omega)
      clear hnb hsz
      try clear hxs
      generalize World.alloc wq (.cells #[] 31) = wq9 at *
      rename World => wq
      refine hK _ _ ((hS0 _).2 (B6.kpN Q5)) ?_
      clear hK K
      refine wpTr_l rfl rfl ?_; intro K hK
      refine wp_append_items (.tmp 43) (.tmp 46) (by rfl) w7.heap.size (.slice (some ⟨nb, 0, none⟩) 0 0) [] A2 cap2 hd (by rfl) (by rw [hdl.out]; rfl) O1 ((RH.out).kpN Q5) (by have := hdl.out; simp; omega) Q5.size ?_
      intro u3 wq9 O3 gu au
      rw [List.nil_append] at O3
      try (have hx3 := ne_app au hnx XB.lt)
      try (replace XB := XB.past_own gu hnx)
      replace Q5 := Q5.grownN gu Q5.size hnb2
      refine hK _ _ ((hS0 _).2 (B6.kpN Q5)) ?_
      try simp only [Act.put, List.setIfInBounds_toArray, List.set_cons_zero, List.set_cons_succ]
      clear hK K O1 gu au
      try clear hnx
      rename World => wq
      refine wpTr_l rfl rfl ?_; intro K hK
      refine wp_append_items (.tmp 47) (.tmp 49) (by rfl) w7.heap.size u3 hd (some ⟨xb, 0, none⟩) 1 [n] (by rfl) (by rfl) O3 (Rd.of_blk (enc := encItem) (sz := 9) [n] (fun _ => rfl) rfl XB none (by simp)) (by have := hdl.out; simp; omega) Q5.size ?_
      intro u7 wq9 O7 gu au
      replace Q5 := Q5.grown gu Q5.size (fun b e => (O3.ge b e).1)
      refine hK _ _ ((hS0 _).2 (B6.kpN Q5)) ?_
      try simp only [Act.put, List.setIfInBounds_toArray, List.set_cons_zero, List.set_cons_succ]
      clear hK K O3 XB gu au hx3
      rename World => wq
      refine wpTr_l rfl rfl ?_; intro K hK
      refine wp_append_items (.tmp 50) (.tmp 53) (by rfl) w7.heap.size u7 (hd ++ [n]) _ _ tl (by rfl) (by rw [htn.out]; rfl) O7 (RT.out.kpN Q5) (by have := hdl.out; have := htn.out; simp; omega) Q5.size ?_
      intro u8 wq9 O8 gu au
      replace Q5 := Q5.grown gu Q5.size (fun b e => (O7.ge b e).1)
      obtain ⟨m4, hm4⟩ : ∃ q, q = hd ++ [n] ++ tl := ⟨_, rfl⟩
      have hm5 : m4.length ≤ 100 := by rw [hm4]; have := hdl.out; have := htn.out; simp; omega
      rw [← hm4] at O8
      replace hm4 := Lib.hid hm4
      obtain ⟨A4, c4, rfl, R4, -⟩ := O8.rd (row := some g) (fun _ => rfl) (fun b hb e => by injection e with e; omega)
      refine hK _ _ ((hS0 _).2 (B6.kpN Q5)) ?_
      try simp only [Act.put, List.setIfInBounds_toArray, List.set_cons_zero, List.set_cons_succ]
      clear hK K O7 O8 gu au
      generalize (if cap2 = at0 then A2 else Option.map (fun x => x.add (at0 * 9)) A2) = A3
      rename World => wq
      iterate 1 (first | (refine wpTr_v rfl rfl ?_; intro K hK; go_big_quiet_op; go_big_quiet_on) | (refine wpTr_q rfl rfl ?_; intro K hK; go_big_quiet_op; go_big_quiet_on) | refine wpTr_s rfl rfl ?_)
      refine wpTr_nil ?_
      clear hevT _hev
      go_wp2_with fail
      go_meet
      case rel => exact ⟨A4, c4, m4, rfl, hm5, R4, U.out.kpN Q5⟩
  case rest =>
  clear U
  rename World => w8
  obtain ⟨A4, cl4, m4, rfl, hm4, R4, U⟩ := hcut
  clear RH RT
  obtain ⟨R1, hR1⟩ : ∃ R, R = buildC own hd := ⟨_, rfl⟩
  have hx1 := buildC_ok own hd
  rw [← hR1] at hx1
  obtain ⟨x1, i1, e1⟩ := R1
  replace hx1 : HouseOk own hd.length x1 := hx1
  replace hx1 := Lib.hid hx1
  replace hR1 := Lib.hid hR1
  clear hg7
  have hg8 := U.ring.lt
  go_upto_region 8 with (fail)
  go_cut [14] (fun p wx => ∃ b14 X1 v1, p = .pointer (some ⟨b14, 0, none⟩) ∧ Rd (some g) wx 9 encItem A4 m4.length m4 ∧ HouseAt g b14 X1 v1 x1 wx ∧ BV w g b4 (b4 + 1) b10 nums (k2 + 1) V0 V c own A1 l n A2 its wx)
  case first =>
    have Q5 := (Kp.refl w8.heap.size none w8).drew
    have B10 := U.h10
    obtain ⟨S0, hS⟩ : ∃ S0 : World → Prop, S0 = fun w' => Blk w' b10 26 #[.slice V.am own.members.length V.cm, .slice V.al own.laws.length V.cl, .slice V.av own.levels.length V.cv] := ⟨_, rfl⟩
    have hS0 : ∀ w', S0 w' ↔ Blk w' b10 26 #[.slice V.am own.members.length V.cm, .slice V.al own.laws.length V.cl, .slice V.av own.levels.length V.cv] := fun w' => by rw [hS]
    clear hS
    have cc := fun (q : Ev S0) i => ((hS0 _).1 q.h).cell i
    have hcall := fun W (q : Kp w8.heap.size none w8 W) => ref_build_see V own A2 cap2 hd W ((U.co.kpN q).wide q.size) (RHf.out _ (U.rd.kpN q)) (by have := hdl.out; omega)
    rw [hdl.out, ← hR1.out] at hcall
    replace hcall := Lib.hid hcall
    replace U := Lib.hid U
    have hevT := ev_true
    refine wp_region_tr S0 (.st 0 1 (.st 1 0 (.st 2 0 (.st 3 0 (.b2 4 (.st 5 0 (.st 6 0 (.st 7 0 (.st 8 0 (.st 9 2 (.st 10 2 (.st 11 0 (.st 12 0 .nil)))))))) 9 (.st 4 2 (.st 5 0 (.st 6 0 (.st 7 0 (.st 8 0 (.st 10 2 (.st 11 0 (.st 12 0 .nil))))))))))))) (by kernel_rfl) (by kernel_rfl) ((hS0 _).2 (B10.kpN Q5)) ?_
    intro _hev
    iterate 4 (first | (refine wpTr_v rfl rfl ?_; intro K hK; go_big_quiet_op; go_big_quiet_on) | (refine wpTr_q rfl rfl ?_; intro K hK; go_big_quiet_op; go_big_quiet_on) | refine wpTr_s rfl rfl ?_)
    refine wpTr_b2 ?_ ?_
    · refine wpOne_l rfl rfl ?_; intro K hK
      go_step
      refine (hcall.out _ Q5).mono ?_
      rintro e w9 ⟨va, Xa, hXa, rfl, HA, -, k9⟩
      simp only
      replace HA : HAt _ w9 va x1 := HA
      replace hXa := Lib.hid hXa
      have hgA := Nat.lt_of_lt_of_le hg8 Q5.size
      replace Q5 := Q5.thenN k9 (Nat.le_refl _)
      try (have hap : ∀ k, (va k).ownBlock ≠ some ab := fun k e => by have := (HA.ge k _ e).1; have := YB.lt; omega)
      try (replace YB := YB.kpN k9)
      refine hK _ _ ((hS0 _).2 (B10.kpN Q5)) ?_
      clear hK K k9
      iterate 4 (first | (refine wpTr_v rfl rfl ?_; intro K hK; go_big_quiet_op; go_big_quiet_on) | (refine wpTr_q rfl rfl ?_; intro K hK; go_big_quiet_op; go_big_quiet_on) | refine wpTr_s rfl rfl ?_)
      refine wpTr_l rfl rfl ?_; intro K hK
      have YB := Blk.new w9 46 zeroCells
      have ky := Kp.new w9 (.cells zeroCells 46)
      go_step
      obtain ⟨ab, hab⟩ : ∃ q, q = w9.heap.size := ⟨_, rfl⟩
      have hab4 : w8.heap.size ≤ ab := by rw [hab]; exact Q5.size
      replace Q5 := Q5.thenN ky (Nat.le_refl _)
      have hap : ∀ k, (va k).ownBlock ≠ some ab := fun k e => by have := (HA.ge k _ e).2; omega
      replace HA := HA.kpN (Kp.new w9 (.cells zeroCells 46))
      rw [← hab] at YB ⊢
      clear hab ky
      change K _ (World.alloc w9 (.cells zeroCells 46))
      generalize World.alloc w9 (.cells zeroCells 46) = wy at YB Q5 HA ⊢
      refine hK _ _ ((hS0 _).2 (B10.kpN Q5)) ?_
      clear hK K
      refine wpTr_l rfl rfl ?_; intro K hK
      obtain ⟨wq, hwq, Q9, HY⟩ := put_house (g := g) Q5 YB HA hap hab4 Xa hXa.out hgA hg8
      replace hwq := Lib.hid hwq
      have YB9 : Blk _ ab 46 #[.int .i64 0, .int .i64 0, .slice none 0 0, .slice none 0 0, .slice none 0 0, .int .i64 0, .slice none 0 0, .slice none 0 0, .slice none 0 0] := YB
      have cB := fun i => YB9.cell i
      have fB := fun i => YB9.frozen i
      go_step
      change K _ (putH _ ab Xa x1)
      rw [← hwq.out]
      refine hK _ _ ((hS0 _).2 (B10.kpN Q9)) ?_
      clear hK K cB fB hwq YB9 YB HA hap Q5
      iterate 2 (first | (refine wpTr_v rfl rfl ?_; intro K hK; go_big_quiet_op; go_big_quiet_on) | (refine wpTr_q rfl rfl ?_; intro K hK; go_big_quiet_op; go_big_quiet_on) | refine wpTr_s rfl rfl ?_)
      refine wpTr_nil ?_
      clear hevT _hev
      go_wp2_with fail
      go_meet
      case rel => exact ⟨ab, Xa, va, rfl, R4.kpN Q9, HY, U.out.kpN Q9⟩
    · refine wpOne_l rfl rfl ?_; intro K hK
      generalize w8.drew = wz at Q5 ⊢
      have YB := Blk.new wz 46 zeroCells
      have ky := Kp.new wz (.cells zeroCells 46)
      go_step
      obtain ⟨ab, hab⟩ : ∃ q, q = wz.heap.size := ⟨_, rfl⟩
      have hab4 : w8.heap.size ≤ ab := by rw [hab]; exact Q5.size
      replace Q5 := Q5.thenN ky (Nat.le_refl _)
      rw [← hab] at YB ⊢
      clear hab ky
      change K _ (World.alloc wz (.cells zeroCells 46))
      generalize World.alloc wz (.cells zeroCells 46) = wy at YB Q5 ⊢
      refine hK _ _ ((hS0 _).2 (B10.kpN Q5)) ?_
      clear hK K
      refine wpTr_l rfl rfl ?_; intro K hK
      go_step
      refine (hcall.out _ Q5).mono ?_
      rintro e w9 ⟨va, Xa, hXa, rfl, HA, -, k9⟩
      simp only
      replace HA : HAt _ w9 va x1 := HA
      replace hXa := Lib.hid hXa
      have hgA := Nat.lt_of_lt_of_le hg8 Q5.size
      replace Q5 := Q5.thenN k9 (Nat.le_refl _)
      try (have hap : ∀ k, (va k).ownBlock ≠ some ab := fun k e => by have := (HA.ge k _ e).1; have := YB.lt; omega)
      try (replace YB := YB.kpN k9)
      refine hK _ _ ((hS0 _).2 (B10.kpN Q5)) ?_
      clear hK K k9
      iterate 4 (first | (refine wpTr_v rfl rfl ?_; intro K hK; go_big_quiet_op; go_big_quiet_on) | (refine wpTr_q rfl rfl ?_; intro K hK; go_big_quiet_op; go_big_quiet_on) | refine wpTr_s rfl rfl ?_)
      refine wpTr_l rfl rfl ?_; intro K hK
      obtain ⟨wq, hwq, Q9, HY⟩ := put_house (g := g) Q5 YB HA hap hab4 Xa hXa.out hgA hg8
      replace hwq := Lib.hid hwq
      have YB9 : Blk _ ab 46 #[.int .i64 0, .int .i64 0, .slice none 0 0, .slice none 0 0, .slice none 0 0, .int .i64 0, .slice none 0 0, .slice none 0 0, .slice none 0 0] := YB
      have cB := fun i => YB9.cell i
      have fB := fun i => YB9.frozen i
      go_step
      change K _ (putH _ ab Xa x1)
      rw [← hwq.out]
      refine hK _ _ ((hS0 _).2 (B10.kpN Q9)) ?_
      clear hK K cB fB hwq YB9 YB HA hap Q5
      iterate 2 (first | (refine wpTr_v rfl rfl ?_; intro K hK; go_big_quiet_op; go_big_quiet_on) | (refine wpTr_q rfl rfl ?_; intro K hK; go_big_quiet_op; go_big_quiet_on) | refine wpTr_s rfl rfl ?_)
      refine wpTr_nil ?_
      clear hevT _hev
      go_wp2_with fail
      go_meet
      case rel => exact ⟨ab, Xa, va, rfl, R4.kpN Q9, HY, U.out.kpN Q9⟩
  case rest =>
  clear U R4
  rename World => w9
  obtain ⟨b14, X1, v1, rfl, R4, HX, U⟩ := hcut
  clear hg8
  have hg9 := U.ring.lt
  have RH9 := RHf.out _ U.rd
  have RT9 := RTf.out _ U.rd
  have ring := U.ring
  have hco9 := U.co
  have hfar := U.far
  have HB := HX.hl
  have h14 := HX.gb
  have B10 := U.h10
  have h10g := U.g10
  replace RH9 := Lib.hid RH9
  replace RT9 := Lib.hid RT9
  replace hco9 := Lib.hid hco9
  replace U := Lib.hid U
  replace HX := Lib.hid HX
  replace R4 := Lib.hid R4
  go_upto_region 9 with (fail)
  have sx1 := HX.out
  have Q5 := (Kp.refl w9.heap.size (some g) w9).drew
  replace ring := ring.kpN (Kp.refl _ none w9).drew
  obtain ⟨S, hS⟩ : ∃ S : Nat → World → Prop, S = fun n w' => if n = 0 then Blk w' b10 26 #[.slice V.am own.members.length V.cm, .slice V.al own.laws.length V.cl, .slice V.av own.levels.length V.cv] ∧ Blk w' b14 46 #[.int .i64 x1.tick, .int .i64 x1.real.items, .slice X1.r.fa x1.real.facts.length X1.r.fc, .slice X1.r.ma x1.real.motions.length X1.r.mc, .slice X1.r.sa x1.real.sent.length X1.r.sc, .int .i64 x1.drill.items, .slice X1.d.fa x1.drill.facts.length X1.d.fc, .slice X1.d.ma x1.drill.motions.length X1.d.mc, .slice X1.d.sa x1.drill.sent.length X1.d.sc] else True := ⟨_, rfl⟩
  have hS0 : ∀ w', S 0 w' ↔ (Blk w' b10 26 #[.slice V.am own.members.length V.cm, .slice V.al own.laws.length V.cl, .slice V.av own.levels.length V.cv] ∧ Blk w' b14 46 #[.int .i64 x1.tick, .int .i64 x1.real.items, .slice X1.r.fa x1.real.facts.length X1.r.fc, .slice X1.r.ma x1.real.motions.length X1.r.mc, .slice X1.r.sa x1.real.sent.length X1.r.sc, .int .i64 x1.drill.items, .slice X1.d.fa x1.drill.facts.length X1.d.fc, .slice X1.d.ma x1.drill.motions.length X1.d.mc, .slice X1.d.sa x1.drill.sent.length X1.d.sc]) := fun w' => by rw [hS]; exact Iff.rfl
  have hS1 : ∀ w', S 1 w' ↔ (True) := fun w' => by rw [hS]; exact Iff.rfl
  clear hS
  have cc := fun (q : Ev (S 0)) i => ((hS0 _).1 q.h).1.cell i
  have ch := fun (q : Ev (S 0)) i => ((hS0 _).1 q.h).2.cell i
  have h10l := B10.lt
  have h14l := HB.lt
  have hB10 := fun W (q : Kp w9.heap.size (some g) w9 W) => B10.kp q h10l (sne h10g)
  have hB14 := fun W (q : Kp w9.heap.size (some g) w9 W) => HB.kp q h14l (sne (by omega))
  have hevT := ev_true
  refine wp_region_ord S [(1, 0), (2, 0), (3, 0), (5, 0), (6, 1), (7, 1), (11, 0), (12, 0), (13, 0), (0, 2), (4, 2), (8, 2), (9, 2), (10, 2), (14, 2), (15, 0)] [] (by kernel_rfl) (by kernel_rfl) ((hS0 _).2 ⟨hB10 _ Q5, hB14 _ Q5⟩) ?_
  intro _hev
  iterate 9 (first | (refine wpOrd_v rfl rfl ?_; intro K hK; go_big_quiet_op; go_big_quiet_on) | (refine wpOrd_q rfl rfl ?_; intro K hK; go_big_quiet_op; go_big_quiet_on) | refine wpOrd_s (by decide) rfl rfl ?_)
  refine wpOrd_l rfl rfl ?_; intro K hK
  generalize w9.drew = wq at Q5 ring ⊢
  have hsz := Q5.size
  have O1 := emptyItems wq w9.heap.size Q5.size
  have kq := Kp.new wq (.cells #[] 31)
  replace Q5 := Q5.thenN kq (Nat.le_refl _)
  replace ring := ring.kpN kq
  go_step
  obtain ⟨nb, hnb⟩ : ∃ q, q = wq.heap.size := ⟨_, rfl⟩
  rw [← hnb] at O1 ⊢
  have hnb2 : w9.heap.size ≤ nb := by omega
  clear hnb hsz kq
  generalize wq.alloc (.cells #[] 31) = wa at Q5 ring O1 ⊢
  refine hK _ _ ((hS0 _).2 ⟨hB10 _ Q5, hB14 _ Q5⟩) ?_
  clear hK K
  refine wpOrd_l rfl rfl ?_; intro K hK
  have hsz := Q5.size
  refine wp_append_items (.tmp 64) (.tmp 67) (by rfl) w9.heap.size (.slice (some ⟨nb, 0, none⟩) 0 0) [] A2 cap2 hd (by rfl) (by rw [hdl.out]; rfl) O1 (RHf.out _ ((U.out.rd).kp Q5)).free (by have := hdl.out; simp; omega) Q5.size ?_
  intro u3 wb O3 gu au
  rw [List.nil_append] at O3
  replace Q5 := Q5.grown gu Q5.size (fun b e => (O1.ge b e).1)
  replace ring := ring.grown gu (fun b e => by have := (O1.ge b e).1; omega)
  refine hK _ _ ((hS0 _).2 ⟨hB10 _ Q5, hB14 _ Q5⟩) ?_
  try simp only [Act.put, List.setIfInBounds_toArray, List.set_cons_zero, List.set_cons_succ]
  clear hK K O1 gu au hsz
  refine wpOrd_l rfl rfl ?_; intro K hK
  have hsz := Q5.size
  go_step
  refine (itemOf_any g nums (k2 + 1) V own X1 x1 hd.length _ ring (by omega) ((hco9.out.turnB Q5 hfar (by omega)).wide Q5.size) hfar hok hx1.out).mono ?_
  rintro e wc ⟨it, k9, rfl, hk9, hR9, kk9⟩
  replace ring := hR9
  replace O3 := O3.kp kk9 (fun b hb e => by injection e with e; omega)
  replace Q5 := Q5.then_ kk9 (Nat.le_refl _)
  refine hK _ _ ((hS0 _).2 ⟨hB10 _ Q5, hB14 _ Q5⟩) ?_
  clear hK K kk9 hR9 hsz
  refine wpOrd_l rfl rfl ?_; intro K hK
  have hsz := Q5.size
  have XB := Blk.new wc 31 #[.int .i64 it.kind, .int .i64 it.tick, .bool it.drill, .int .i64 it.a, .int .i64 it.b, .bool it.yes, .int .i64 it.chance.least, .int .i64 it.chance.most, .int .i64 it.chance.all]
  have kq := Kp.new wc (.cells #[.int .i64 it.kind, .int .i64 it.tick, .bool it.drill, .int .i64 it.a, .int .i64 it.b, .bool it.yes, .int .i64 it.chance.least, .int .i64 it.chance.most, .int .i64 it.chance.all] 31)
  replace O3 := O3.kpN kq
  replace ring := ring.kpN kq
  replace Q5 := Q5.thenN kq (Nat.le_refl _)
  go_step
  change K _ (World.alloc wc (.cells #[.int .i64 it.kind, .int .i64 it.tick, .bool it.drill, .int .i64 it.a, .int .i64 it.b, .bool it.yes, .int .i64 it.chance.least, .int .i64 it.chance.most, .int .i64 it.chance.all] 31))
  obtain ⟨xb, hxb⟩ : ∃ q, q = wc.heap.size := ⟨_, rfl⟩
  rw [← hxb] at XB ⊢
  generalize World.alloc wc (.cells #[.int .i64 it.kind, .int .i64 it.tick, .bool it.drill, .int .i64 it.a, .int .i64 it.b, .bool it.yes, .int .i64 it.chance.least, .int .i64 it.chance.most, .int .i64 it.chance.all] 31) = wd at Q5 ring O3 XB ⊢
  refine hK _ _ ((hS0 _).2 ⟨hB10 _ Q5, hB14 _ Q5⟩) ?_
  clear hK K kq hsz hxb
  refine wpOrd_l rfl rfl ?_; intro K hK
  have hsz := Q5.size
  refine wp_append_items (.tmp 68) (.tmp 73) (by rfl) w9.heap.size u3 hd (some ⟨xb, 0, none⟩) 1 [it] (by rfl) (by rfl) O3 (Rd.of_blk (enc := encItem) (sz := 9) [it] (fun _ => rfl) rfl XB none (by simp)) (by have := hdl.out; simp; omega) Q5.size ?_
  intro u7 we O7 gu au
  replace Q5 := Q5.grown gu Q5.size (fun b e => (O3.ge b e).1)
  replace ring := ring.grown gu (fun b e => by have := (O3.ge b e).1; omega)
  refine hK _ _ ((hS0 _).2 ⟨hB10 _ Q5, hB14 _ Q5⟩) ?_
  try simp only [Act.put, List.setIfInBounds_toArray, List.set_cons_zero, List.set_cons_succ]
  clear hK K O3 XB gu au hsz
  refine wpOrd_l rfl rfl ?_; intro K hK
  have hsz := Q5.size
  refine wp_append_items (.tmp 74) (.tmp 77) (by rfl) w9.heap.size u7 (hd ++ [it]) _ _ tl (by rfl) (by rw [htn.out]; rfl) O7 (RTf.out _ ((U.out.rd).kp Q5)) (by have := hdl.out; have := htn.out; simp; omega) Q5.size ?_
  intro u8 wf O8 gu au
  replace Q5 := Q5.grown gu Q5.size (fun b e => (O7.ge b e).1)
  replace ring := ring.grown gu (fun b e => by have := (O7.ge b e).1; omega)
  obtain ⟨m9, hm9⟩ : ∃ q, q = hd ++ [it] ++ tl := ⟨_, rfl⟩
  have hm95 : m9.length ≤ 100 := by rw [hm9]; have := hdl.out; have := htn.out; simp; omega
  rw [← hm9] at O8
  replace hm9 := Lib.hid hm9
  obtain ⟨A9, cl9, rfl, R9, -⟩ := O8.rd (row := none) (fun _ => rfl) (fun b hb e => by cases e)
  refine hK _ _ ((hS0 _).2 ⟨hB10 _ Q5, hB14 _ Q5⟩) ?_
  try simp only [Act.put, List.setIfInBounds_toArray, List.set_cons_zero, List.set_cons_succ]
  clear hK K O7 O8 gu au hsz
  generalize (if cap2 = at0 then A2 else Option.map (fun x => x.add (at0 * 9)) A2) = A3
  iterate 1 (first | (refine wpOrd_v rfl rfl ?_; intro K hK; go_big_quiet_op; go_big_quiet_on) | (refine wpOrd_q rfl rfl ?_; intro K hK; go_big_quiet_op; go_big_quiet_on) | refine wpOrd_s (by decide) rfl rfl ?_)
  refine wpOrd_nil ?_
  clear hevT _hev
  clear hS0 hS1 S cc ch hB10 hB14 RH9 RT9 RHf RTf
  have U2 := U.out.turn ring Q5
  have R42 := R4.out.kp Q5
  clear U R4 HX sx1 hco9 HB B10 ring Q5
  have e4 := fun i => U2.h4.cell i
  have e10 := fun i => U2.h10.cell i
  replace U2 := Lib.hid U2
  replace R42 := Lib.hid R42
  replace R9 := Lib.hid R9
  clear hm9 hhd htl hdl htn hx1 hR1 hg9 hfar hok f1 f2
  go_upto_block 0 with (fail)
  clear e4 e10
  have T : ∃ b83 b88, b83 = wf.heap.size ∧ b88 = wf.heap.size + 1 ∧ BK w b83 b88 V0 V c own A1 A2 A4 A9 cap1 cap2 cl4 cl9 l its m4 m9 ((wf.alloc (.cells #[.slice V0.am c.members.length V0.cm, .slice V0.al c.laws.length V0.cl, .slice V0.av c.levels.length V0.cv, .slice V.am own.members.length V.cm, .slice V.al own.laws.length V.cl, .slice V.av own.levels.length V.cv, .slice V.am own.members.length V.cm, .slice V.al own.laws.length V.cl, .slice V.av own.levels.length V.cv, .slice V.am own.members.length V.cm, .slice V.al own.laws.length V.cl, .slice V.av own.levels.length V.cv] 26)).alloc (.cells #[.slice A1 l.length cap1, .slice A2 its.length cap2, .slice A4 m4.length cl4, .slice A9 m9.length cl9] 27)) := by
    have U3 := U2.out
    have k2 := Kp.new2 wf (.cells #[.slice V0.am c.members.length V0.cm, .slice V0.al c.laws.length V0.cl, .slice V0.av c.levels.length V0.cv, .slice V.am own.members.length V.cm, .slice V.al own.laws.length V.cl, .slice V.av own.levels.length V.cv, .slice V.am own.members.length V.cm, .slice V.al own.laws.length V.cl, .slice V.av own.levels.length V.cv, .slice V.am own.members.length V.cm, .slice V.al own.laws.length V.cl, .slice V.av own.levels.length V.cv] 26) (.cells #[.slice A1 l.length cap1, .slice A2 its.length cap2, .slice A4 m4.length cl4, .slice A9 m9.length cl9] 27)
    refine ⟨_, _, rfl, rfl, U3.kp.thenN k2 (Nat.le_refl _), (U3.ca.wide U3.kp.size).next k2, U3.co.next k2, U3.ra.rdN.kpN k2, U3.rd.free.kpN k2, R42.out.free.kpN k2, R9.out.kpN k2, (Blk.new wf _ _).alloc _, Blk.newAt _ _ _ (by simp), n4.out, by omega, by omega, by omega⟩
  obtain ⟨b83, b88, h83, h88, T⟩ := T
  rw [← h88, ← h83]
  clear h83 h88
  generalize World.alloc (wf.alloc _) _ = w10 at T ⊢
  clear U2 R42 R9
  go_wp2_with fail
  go_loopw [20] (fun n wr => ∃ i : Nat, n = .int .i64 (i : Int) ∧ i ≤ 4 ∧ BK w b83 b88 V0 V c own A1 A2 A4 A9 cap1 cap2 cl4 cl9 l its m4 m9 wr) (fun n _ => (4 - intOf n).toNat)
  case atStart => exact ⟨0, rfl, by omega, T⟩
  case round =>
    clear T
    obtain ⟨i, rfl, hi, T⟩ := hrel
    by_cases hi' : i < 4
    · have hii : (i : Int) < 4 := by omega
      obtain ⟨Vi, ci, Ai, qi, li, hBF⟩ := T.rounds hi'
      have hli : li.length ≤ 1000000 := (hBF _ T).n
      obtain ⟨Ri, hRi⟩ : ∃ R, R = buildC ci li := ⟨_, rfl⟩
      have hx2 := buildC_ok ci li
      rw [← hRi] at hx2
      obtain ⟨x2, i2, e2⟩ := Ri
      replace hx2 : HouseOk ci li.length x2 := hx2
      replace hx2 := Lib.hid hx2
      replace hRi := Lib.hid hRi
      replace hBF := Lib.hid hBF
      replace hli := Lib.hid hli
      go_upto_region 14 with (fail)
      go_cut [21, 22, 23] (fun p n e wx => ∃ ab Xa, p = .pointer (some ⟨ab, 0, none⟩) ∧ n = .int .i64 i2 ∧ e = .int .i64 e2 ∧ Hs ab Xa x2 wx ∧ BK w b83 b88 V0 V c own A1 A2 A4 A9 cap1 cap2 cl4 cl9 l its m4 m9 wx)
      case first =>
        have Q5 := (Kp.refl wr.heap.size none wr).drew
        obtain ⟨S0, hS⟩ : ∃ S0 : World → Prop, S0 = fun w' => BK w b83 b88 V0 V c own A1 A2 A4 A9 cap1 cap2 cl4 cl9 l its m4 m9 w' := ⟨_, rfl⟩
        have hS0 : ∀ w', S0 w' ↔ BK w b83 b88 V0 V c own A1 A2 A4 A9 cap1 cap2 cl4 cl9 l its m4 m9 w' := fun w' => by rw [hS]
        clear hS
        have d0 := fun (q : Ev S0) => (hBF.out _ ((hS0 _).1 q.h)).d0
        have d1 := fun (q : Ev S0) => (hBF.out _ ((hS0 _).1 q.h)).d1
        have d2 := fun (q : Ev S0) => (hBF.out _ ((hS0 _).1 q.h)).d2
        have e0 := fun (q : Ev S0) => (hBF.out _ ((hS0 _).1 q.h)).e0
        have TT := T
        replace T := Lib.hid T
        have hcall := fun W (q : BK w b83 b88 V0 V c own A1 A2 A4 A9 cap1 cap2 cl4 cl9 l its m4 m9 W) => build_see Vi ci Ai qi li W (hBF.out _ q).ca (hBF.out _ q).r (hBF.out _ q).n
        rw [← hRi.out] at hcall
        replace hcall := Lib.hid hcall
        have hevT := ev_true
        refine wp_region_tr S0 (.st 0 0 (.st 1 0 (.st 2 0 (.st 3 1 (.st 4 0 (.st 5 0 (.st 6 0 (.st 7 1 (.b2 8 (.st 9 0 (.st 10 0 (.st 11 0 (.st 12 0 (.st 13 2 (.st 14 2 (.st 15 0 (.st 16 0 .nil)))))))) 13 (.st 8 2 (.st 9 0 (.st 10 0 (.st 11 0 (.st 12 0 (.st 14 2 (.st 15 0 (.st 16 0 .nil))))))))))))))))) (by kernel_rfl) (by kernel_rfl) ((hS0 _).2 (TT.kpN Q5)) ?_
        intro _hev
        iterate 8 (first | (refine wpTr_v rfl rfl ?_; intro K hK; go_big_quiet_op; go_big_quiet_on) | (refine wpTr_q rfl rfl ?_; intro K hK; go_big_quiet_op; go_big_quiet_on) | refine wpTr_s rfl rfl ?_)
        refine wpTr_b2 ?_ ?_
        · refine wpOne_l rfl rfl ?_; intro K hK
          go_step
          refine (hcall.out _ (T.out.kpN Q5)).mono ?_
          rintro e w9 ⟨va, Xa, hXa, rfl, HA, -, k9⟩
          simp only
          replace HA : HAt _ w9 va x2 := HA
          replace hXa := Lib.hid hXa
          replace Q5 := Q5.thenN k9 (Nat.le_refl _)
          try (have hap : ∀ k, (va k).ownBlock ≠ some ab := fun k e => by have := (HA.ge k _ e).1; have := YB.lt; omega)
          try (replace YB := YB.kpN k9)
          refine hK _ _ ((hS0 _).2 (TT.kpN Q5)) ?_
          clear hK K k9
          iterate 4 (first | (refine wpTr_v rfl rfl ?_; intro K hK; go_big_quiet_op; go_big_quiet_on) | (refine wpTr_q rfl rfl ?_; intro K hK; go_big_quiet_op; go_big_quiet_on) | refine wpTr_s rfl rfl ?_)
          refine wpTr_l rfl rfl ?_; intro K hK
          have YB := Blk.new w9 46 zeroCells
          have ky := Kp.new w9 (.cells zeroCells 46)
          go_step
          obtain ⟨ab, hab⟩ : ∃ q, q = w9.heap.size := ⟨_, rfl⟩
          have hab4 : wr.heap.size ≤ ab := by rw [hab]; exact Q5.size
          replace Q5 := Q5.thenN ky (Nat.le_refl _)
          have hap : ∀ k, (va k).ownBlock ≠ some ab := fun k e => by have := (HA.ge k _ e).2; omega
          replace HA := HA.kpN (Kp.new w9 (.cells zeroCells 46))
          rw [← hab] at YB ⊢
          clear hab ky
          change K _ (World.alloc w9 (.cells zeroCells 46))
          generalize World.alloc w9 (.cells zeroCells 46) = wy at YB Q5 HA ⊢
          refine hK _ _ ((hS0 _).2 (TT.kpN Q5)) ?_
          clear hK K
          refine wpTr_l rfl rfl ?_; intro K hK
          obtain ⟨wq, hwq, Q9, HY⟩ := put_hs Q5 YB HA hap hab4 Xa hXa.out hx2.out hli.out
          replace hwq := Lib.hid hwq
          have YB9 : Blk _ ab 46 #[.int .i64 0, .int .i64 0, .slice none 0 0, .slice none 0 0, .slice none 0 0, .int .i64 0, .slice none 0 0, .slice none 0 0, .slice none 0 0] := YB
          have cB := fun i => YB9.cell i
          have fB := fun i => YB9.frozen i
          go_step
          change K _ (putH _ ab Xa x2)
          rw [← hwq.out]
          refine hK _ _ ((hS0 _).2 (TT.kpN Q9)) ?_
          clear hK K cB fB hwq YB9 YB HA hap Q5
          iterate 2 (first | (refine wpTr_v rfl rfl ?_; intro K hK; go_big_quiet_op; go_big_quiet_on) | (refine wpTr_q rfl rfl ?_; intro K hK; go_big_quiet_op; go_big_quiet_on) | refine wpTr_s rfl rfl ?_)
          refine wpTr_nil ?_
          clear hevT _hev
          go_wp2_with fail
          go_meet
          case rel => exact ⟨ab, Xa, rfl, rfl, rfl, HY, T.out.kpN Q9⟩
        · refine wpOne_l rfl rfl ?_; intro K hK
          generalize wr.drew = wz at Q5 ⊢
          have YB := Blk.new wz 46 zeroCells
          have ky := Kp.new wz (.cells zeroCells 46)
          go_step
          obtain ⟨ab, hab⟩ : ∃ q, q = wz.heap.size := ⟨_, rfl⟩
          have hab4 : wr.heap.size ≤ ab := by rw [hab]; exact Q5.size
          replace Q5 := Q5.thenN ky (Nat.le_refl _)
          rw [← hab] at YB ⊢
          clear hab ky
          change K _ (World.alloc wz (.cells zeroCells 46))
          generalize World.alloc wz (.cells zeroCells 46) = wy at YB Q5 ⊢
          refine hK _ _ ((hS0 _).2 (TT.kpN Q5)) ?_
          clear hK K
          refine wpTr_l rfl rfl ?_; intro K hK
          go_step
          refine (hcall.out _ (T.out.kpN Q5)).mono ?_
          rintro e w9 ⟨va, Xa, hXa, rfl, HA, -, k9⟩
          simp only
          replace HA : HAt _ w9 va x2 := HA
          replace hXa := Lib.hid hXa
          replace Q5 := Q5.thenN k9 (Nat.le_refl _)
          try (have hap : ∀ k, (va k).ownBlock ≠ some ab := fun k e => by have := (HA.ge k _ e).1; have := YB.lt; omega)
          try (replace YB := YB.kpN k9)
          refine hK _ _ ((hS0 _).2 (TT.kpN Q5)) ?_
          clear hK K k9
          iterate 4 (first | (refine wpTr_v rfl rfl ?_; intro K hK; go_big_quiet_op; go_big_quiet_on) | (refine wpTr_q rfl rfl ?_; intro K hK; go_big_quiet_op; go_big_quiet_on) | refine wpTr_s rfl rfl ?_)
          refine wpTr_l rfl rfl ?_; intro K hK
          obtain ⟨wq, hwq, Q9, HY⟩ := put_hs Q5 YB HA hap hab4 Xa hXa.out hx2.out hli.out
          replace hwq := Lib.hid hwq
          have YB9 : Blk _ ab 46 #[.int .i64 0, .int .i64 0, .slice none 0 0, .slice none 0 0, .slice none 0 0, .int .i64 0, .slice none 0 0, .slice none 0 0, .slice none 0 0] := YB
          have cB := fun i => YB9.cell i
          have fB := fun i => YB9.frozen i
          go_step
          change K _ (putH _ ab Xa x2)
          rw [← hwq.out]
          refine hK _ _ ((hS0 _).2 (TT.kpN Q9)) ?_
          clear hK K cB fB hwq YB9 YB HA hap Q5
          iterate 2 (first | (refine wpTr_v rfl rfl ?_; intro K hK; go_big_quiet_op; go_big_quiet_on) | (refine wpTr_q rfl rfl ?_; intro K hK; go_big_quiet_op; go_big_quiet_on) | refine wpTr_s rfl rfl ?_)
          refine wpTr_nil ?_
          clear hevT _hev
          go_wp2_with fail
          go_meet
          case rel => exact ⟨ab, Xa, rfl, rfl, rfl, HY, T.out.kpN Q9⟩
      case rest =>
      clear T
      rename World => w11
      obtain ⟨ab, Xa, rfl, rfl, rfl, HY, T⟩ := hcut
      go_upto_region 15 with (fail)
      go_cut [24, 25, 26] (fun p n e wx => ∃ bb Xb, p = .pointer (some ⟨bb, 0, none⟩) ∧ n = .int .i64 i2 ∧ e = .int .i64 e2 ∧ Hs bb Xb x2 wx ∧ Hs ab Xa x2 wx ∧ BK w b83 b88 V0 V c own A1 A2 A4 A9 cap1 cap2 cl4 cl9 l its m4 m9 wx)
      case first =>
        have H1 := HY
        clear HY
        replace H1 := Lib.hid H1
        have Q5 := (Kp.refl w11.heap.size none w11).drew
        obtain ⟨S0, hS⟩ : ∃ S0 : World → Prop, S0 = fun w' => BK w b83 b88 V0 V c own A1 A2 A4 A9 cap1 cap2 cl4 cl9 l its m4 m9 w' := ⟨_, rfl⟩
        have hS0 : ∀ w', S0 w' ↔ BK w b83 b88 V0 V c own A1 A2 A4 A9 cap1 cap2 cl4 cl9 l its m4 m9 w' := fun w' => by rw [hS]
        clear hS
        have d0 := fun (q : Ev S0) => (hBF.out _ ((hS0 _).1 q.h)).d0
        have d1 := fun (q : Ev S0) => (hBF.out _ ((hS0 _).1 q.h)).d1
        have d2 := fun (q : Ev S0) => (hBF.out _ ((hS0 _).1 q.h)).d2
        have e0 := fun (q : Ev S0) => (hBF.out _ ((hS0 _).1 q.h)).e0
        have TT := T
        replace T := Lib.hid T
        have hcall := fun W (q : BK w b83 b88 V0 V c own A1 A2 A4 A9 cap1 cap2 cl4 cl9 l its m4 m9 W) => ref_build_see Vi ci Ai qi li W (hBF.out _ q).ca (hBF.out _ q).r (hBF.out _ q).n
        rw [← hRi.out] at hcall
        replace hcall := Lib.hid hcall
        have hevT := ev_true
        refine wp_region_tr S0 (.st 0 0 (.st 1 0 (.st 2 0 (.st 3 1 (.st 4 0 (.st 5 0 (.st 6 0 (.st 7 1 (.b2 8 (.st 9 0 (.st 10 0 (.st 11 0 (.st 12 0 (.st 13 2 (.st 14 2 (.st 15 0 (.st 16 0 .nil)))))))) 13 (.st 8 2 (.st 9 0 (.st 10 0 (.st 11 0 (.st 12 0 (.st 14 2 (.st 15 0 (.st 16 0 .nil))))))))))))))))) (by kernel_rfl) (by kernel_rfl) ((hS0 _).2 (TT.kpN Q5)) ?_
        intro _hev
        iterate 8 (first | (refine wpTr_v rfl rfl ?_; intro K hK; go_big_quiet_op; go_big_quiet_on) | (refine wpTr_q rfl rfl ?_; intro K hK; go_big_quiet_op; go_big_quiet_on) | refine wpTr_s rfl rfl ?_)
        refine wpTr_b2 ?_ ?_
        · refine wpOne_l rfl rfl ?_; intro K hK
          go_step
          refine (hcall.out _ (T.out.kpN Q5)).mono ?_
          rintro e w9 ⟨va, Xb, hXb, rfl, HA, -, k9⟩
          simp only
          replace HA : HAt _ w9 va x2 := HA
          replace hXb := Lib.hid hXb
          replace Q5 := Q5.thenN k9 (Nat.le_refl _)
          try (have hap : ∀ k, (va k).ownBlock ≠ some bb := fun k e => by have := (HA.ge k _ e).1; have := YB.lt; omega)
          try (replace YB := YB.kpN k9)
          refine hK _ _ ((hS0 _).2 (TT.kpN Q5)) ?_
          clear hK K k9
          iterate 4 (first | (refine wpTr_v rfl rfl ?_; intro K hK; go_big_quiet_op; go_big_quiet_on) | (refine wpTr_q rfl rfl ?_; intro K hK; go_big_quiet_op; go_big_quiet_on) | refine wpTr_s rfl rfl ?_)
          refine wpTr_l rfl rfl ?_; intro K hK
          have YB := Blk.new w9 46 zeroCells
          have ky := Kp.new w9 (.cells zeroCells 46)
          go_step
          obtain ⟨bb, hab⟩ : ∃ q, q = w9.heap.size := ⟨_, rfl⟩
          have hab4 : w11.heap.size ≤ bb := by rw [hab]; exact Q5.size
          replace Q5 := Q5.thenN ky (Nat.le_refl _)
          have hap : ∀ k, (va k).ownBlock ≠ some bb := fun k e => by have := (HA.ge k _ e).2; omega
          replace HA := HA.kpN (Kp.new w9 (.cells zeroCells 46))
          rw [← hab] at YB ⊢
          clear hab ky
          change K _ (World.alloc w9 (.cells zeroCells 46))
          generalize World.alloc w9 (.cells zeroCells 46) = wy at YB Q5 HA ⊢
          refine hK _ _ ((hS0 _).2 (TT.kpN Q5)) ?_
          clear hK K
          refine wpTr_l rfl rfl ?_; intro K hK
          obtain ⟨wq, hwq, Q9, HY⟩ := put_hs Q5 YB HA hap hab4 Xb hXb.out hx2.out hli.out
          replace hwq := Lib.hid hwq
          have YB9 : Blk _ bb 46 #[.int .i64 0, .int .i64 0, .slice none 0 0, .slice none 0 0, .slice none 0 0, .int .i64 0, .slice none 0 0, .slice none 0 0, .slice none 0 0] := YB
          have cB := fun i => YB9.cell i
          have fB := fun i => YB9.frozen i
          go_step
          change K _ (putH _ bb Xb x2)
          rw [← hwq.out]
          refine hK _ _ ((hS0 _).2 (TT.kpN Q9)) ?_
          clear hK K cB fB hwq YB9 YB HA hap Q5
          iterate 2 (first | (refine wpTr_v rfl rfl ?_; intro K hK; go_big_quiet_op; go_big_quiet_on) | (refine wpTr_q rfl rfl ?_; intro K hK; go_big_quiet_op; go_big_quiet_on) | refine wpTr_s rfl rfl ?_)
          refine wpTr_nil ?_
          clear hevT _hev
          go_wp2_with fail
          go_meet
          case rel => exact ⟨bb, Xb, rfl, rfl, rfl, HY, H1.out.kpN Q9, T.out.kpN Q9⟩
        · refine wpOne_l rfl rfl ?_; intro K hK
          generalize w11.drew = wz at Q5 ⊢
          have YB := Blk.new wz 46 zeroCells
          have ky := Kp.new wz (.cells zeroCells 46)
          go_step
          obtain ⟨bb, hab⟩ : ∃ q, q = wz.heap.size := ⟨_, rfl⟩
          have hab4 : w11.heap.size ≤ bb := by rw [hab]; exact Q5.size
          replace Q5 := Q5.thenN ky (Nat.le_refl _)
          rw [← hab] at YB ⊢
          clear hab ky
          change K _ (World.alloc wz (.cells zeroCells 46))
          generalize World.alloc wz (.cells zeroCells 46) = wy at YB Q5 ⊢
          refine hK _ _ ((hS0 _).2 (TT.kpN Q5)) ?_
          clear hK K
          refine wpTr_l rfl rfl ?_; intro K hK
          go_step
          refine (hcall.out _ (T.out.kpN Q5)).mono ?_
          rintro e w9 ⟨va, Xb, hXb, rfl, HA, -, k9⟩
          simp only
          replace HA : HAt _ w9 va x2 := HA
          replace hXb := Lib.hid hXb
          replace Q5 := Q5.thenN k9 (Nat.le_refl _)
          try (have hap : ∀ k, (va k).ownBlock ≠ some bb := fun k e => by have := (HA.ge k _ e).1; have := YB.lt; omega)
          try (replace YB := YB.kpN k9)
          refine hK _ _ ((hS0 _).2 (TT.kpN Q5)) ?_
          clear hK K k9
          iterate 4 (first | (refine wpTr_v rfl rfl ?_; intro K hK; go_big_quiet_op; go_big_quiet_on) | (refine wpTr_q rfl rfl ?_; intro K hK; go_big_quiet_op; go_big_quiet_on) | refine wpTr_s rfl rfl ?_)
          refine wpTr_l rfl rfl ?_; intro K hK
          obtain ⟨wq, hwq, Q9, HY⟩ := put_hs Q5 YB HA hap hab4 Xb hXb.out hx2.out hli.out
          replace hwq := Lib.hid hwq
          have YB9 : Blk _ bb 46 #[.int .i64 0, .int .i64 0, .slice none 0 0, .slice none 0 0, .slice none 0 0, .int .i64 0, .slice none 0 0, .slice none 0 0, .slice none 0 0] := YB
          have cB := fun i => YB9.cell i
          have fB := fun i => YB9.frozen i
          go_step
          change K _ (putH _ bb Xb x2)
          rw [← hwq.out]
          refine hK _ _ ((hS0 _).2 (TT.kpN Q9)) ?_
          clear hK K cB fB hwq YB9 YB HA hap Q5
          iterate 2 (first | (refine wpTr_v rfl rfl ?_; intro K hK; go_big_quiet_op; go_big_quiet_on) | (refine wpTr_q rfl rfl ?_; intro K hK; go_big_quiet_op; go_big_quiet_on) | refine wpTr_s rfl rfl ?_)
          refine wpTr_nil ?_
          clear hevT _hev
          go_wp2_with fail
          go_meet
          case rel => exact ⟨bb, Xb, rfl, rfl, rfl, HY, H1.out.kpN Q9, T.out.kpN Q9⟩
      case rest =>
      clear T HY
      rename World => w12
      obtain ⟨bb, Xb, rfl, rfl, rfl, H2, H1, T⟩ := hcut
      have ca := fun i => H1.hl.cell i
      have cb := fun i => H2.hl.cell i
      go_wp2_with fail
      refine (ref_Same_any Xa Xb x2 x2 _ H1.sa H2.sa).mono ?_
      rintro e w13 ⟨rfl, k13⟩
      have ht : decide (x2 = x2) = true := decide_eq_true rfl
      rw [ht]
      replace T := T.kpN k13
      clear k13 H1 H2 ca cb ht
      go_wp2
      go_roundw
      case rel => exact ⟨i + 1, by congr 1, by omega, T⟩
      case measure => simp [intOf]; omega
    · have hii : ¬ (i : Int) < 4 := by omega
      have K9 := T.kp
      clear T
      go_wp2_with fail
      refine (awake_any _).mono ?_
      rintro e w14 ⟨rfl, k14⟩
      have K10 := K9.thenN k14 (Nat.le_refl _)
      clear K9 k14
      go_wp2
      go_ret
      exact ⟨rfl, K10⟩
end Go.Proofs.Ytogpgnljomchcaa
