/- CouncilKnown: the walk. -/
import Derived.Test.YtogpgnljomchcaaLSen
import Derived.Test.YtogpgnljomchcaaAl
import Derived.Test.YtogpgnljomchcaaTree
import Derived.Deep.DeepCutAuto
import Derived.Deep.CutBlock
namespace Go.Proofs.Ytogpgnljomchcaa
open Go.RowKit

/-- the council's cell and the first item's -/
structure KS (W : World) (cb ib : Nat) (V : CV) (q0 : CItem) (w : World) : Prop where
  cl : Blk w cb 26 #[.slice V.am shownC.members.length V.cm, .slice V.al shownC.laws.length V.cl, .slice V.av shownC.levels.length V.cv]
  il : Blk w ib 31 #[.int .i64 q0.kind, .int .i64 q0.tick, .bool q0.drill, .int .i64 q0.a, .int .i64 q0.b, .bool q0.yes, .int .i64 q0.chance.least, .int .i64 q0.chance.most, .int .i64 q0.chance.all]
  ca : CAt cb w V shownC
  kp : Kp W.heap.size none W w
theorem KS.kpN {W : World} {cb ib : Nat} {V : CV} {q0 : CItem} {w w' : World} (s : KS W cb ib V q0 w) (q : Kp w.heap.size none w w') : KS W cb ib V q0 w' :=
  ⟨s.cl.kpN q, s.il.kpN q, s.ca.kpN q, s.kp.thenN q (Nat.le_refl _)⟩
theorem kn_lev1 : levelI shownC ⟨0, 0, 1000⟩ = 0 := by decide
theorem kn_lev2 : levelI shownC ⟨5, 100, 1000⟩ = 2 := by decide
theorem kn_lev3 : levelI shownC ⟨5, 99, 1000⟩ = 1 := by decide
theorem kn_vot1 : votesB shownC 7 50 10 = true := by decide
theorem kn_vot2 : votesB shownC 7 50 9 = false := by decide
theorem kn_vot3 : votesB shownC 7 49 51 = false := by decide
theorem kn_vot4 : votesB shownC 8 100 0 = false := by decide
theorem KS.fresh {W : World} {cb ib : Nat} {V : CV} {q0 : CItem} {w : World} (s : KS W cb ib V q0 w) (t : TypeId) (cs : Array Value) :
    ∃ nb wq, wq = w.alloc (.cells cs t) ∧ nb = w.heap.size ∧ KS W cb ib V q0 wq ∧ Blk wq nb t cs ∧ Kp w.heap.size none w wq ∧ cb < nb ∧ nb ≠ ib ∧ W.heap.size ≤ nb :=
  ⟨w.heap.size, _, rfl, rfl, s.kpN (Kp.new _ _), Blk.new _ _ _, Kp.new _ _, s.cl.lt, by have := s.il.lt; omega, s.kp.size⟩
theorem KS.own {W : World} {cb ib g : Nat} {V : CV} {q0 : CItem} {w w' : World} (s : KS W cb ib V q0 w) (hg : w.grownBy w' (some g)) (h1 : cb < g) (h2 : g ≠ ib) (h3 : W.heap.size ≤ g) : KS W cb ib V q0 w' :=
  ⟨s.cl.keep hg (by omega), s.il.keep hg h2, s.ca.kp ⟨hg.os, hg.tape, hg.output, hg.size, fun i hi _ => hg.block i (by have := s.cl.lt; omega) (fun e => by injection e with e; omega)⟩, s.kp.grown hg s.kp.size (fun q e => by injection e with e; omega)⟩
theorem HAt.set {B g : Nat} {w w' : World} {v : Ky → Value} {h : House} (r : HAt B w v h) (hg : w.grownBy w' (some g)) (ha : ∀ k, (v k).ownBlock ≠ some g) : HAt B w' v h := by
  obtain ⟨hb, r⟩ := r
  exact ⟨hb, ⟨fun k => World.ownsRow.kept (r.own k) hg (.inr (by rw [rowOf_v]; exact ha k)), r.ap, r.hb⟩⟩
theorem HAt.ge {B : Nat} {w : World} {v : Ky → Value} {h : House} (r : HAt B w v h) (k : Ky) (b : Nat) (e : (v k).ownBlock = some b) : B ≤ b ∧ b < w.heap.size := by
  obtain ⟨hb, r⟩ := r
  exact World.ownsRow.lt (r.own k) b (by rw [rowOf_v]; exact e)
theorem HAt.sat {B n : Nat} {w : World} {v : Ky → Value} {h : House} {c : Council} (r : HAt B w v h) (ho : HouseOk c n h) (hn : n ≤ 1000000) : SAt w.heap.size w (hvOf v) h := by
  obtain ⟨hb, r⟩ := r
  exact ⟨r.see ho hn false, r.see ho hn true⟩
def putH (w : World) (g : Nat) (X : HV) (h : House) : World := setR0 w g (.int .i64 h.tick) (.int .i64 h.real.items) (.slice X.r.fa h.real.facts.length X.r.fc) (.slice X.r.ma h.real.motions.length X.r.mc) (.slice X.r.sa h.real.sent.length X.r.sc) (.int .i64 h.drill.items) (.slice X.d.fa h.drill.facts.length X.d.fc) (.slice X.d.ma h.drill.motions.length X.d.mc) (.slice X.d.sa h.drill.sent.length X.d.sc)
theorem KS.put {W : World} {cb ib g B n : Nat} {V : CV} {q0 : CItem} {w : World} {v : Ky → Value} {h : House} {c : Council} {x0 x1 x2 x3 x4 x5 x6 x7 x8 : Value} (s : KS W cb ib V q0 w) (hB : Blk w g 46 #[x0, x1, x2, x3, x4, x5, x6, x7, x8]) (ha : HAt B w v h) (ho : HouseOk c n h) (hn : n ≤ 1000000) (hap : ∀ k, (v k).ownBlock ≠ some g) (h1 : cb < g) (h2 : g ≠ ib) (h3 : W.heap.size ≤ g) (X : HV) (hX : X = hvOf v) :
    ∃ wq, wq = putH w g X h ∧ KS W cb ib V q0 wq ∧ Blk wq g 46 #[.int .i64 h.tick, .int .i64 h.real.items, .slice X.r.fa h.real.facts.length X.r.fc, .slice X.r.ma h.real.motions.length X.r.mc, .slice X.r.sa h.real.sent.length X.r.sc, .int .i64 h.drill.items, .slice X.d.fa h.drill.facts.length X.d.fc, .slice X.d.ma h.drill.motions.length X.d.mc, .slice X.d.sa h.drill.sent.length X.d.sc] ∧ SAt wq.heap.size wq X h := by
  have hg : w.grownBy (putH w g X h) (some g) := setR0_grown _ _ _ _ _ _ _ _ _ _ _
  exact ⟨_, rfl, s.own hg h1 h2 h3, Blk.setR0 hB _ _ _ _ _ _ _ _ _, by rw [hX]; rw [← hX]; have := (ha.set hg hap).sat ho hn; rw [← hX] at this; exact this⟩
def kn3H : House := ⟨2, ⟨2, [⟨9, 0, 1, ⟨0, 0, 1000⟩⟩], [], [⟨1, 9, 1, false⟩, ⟨2, 9, 0, true⟩]⟩, ⟨0, [], [], []⟩⟩
theorem kn3 : buildC shownC [factI 1 9 0 1 1000, factI 2 9 0 0 1000] = (kn3H, -1, 0) := by decide
theorem kn3_ok : HouseOk shownC 2 kn3H := by
  have := buildC_ok shownC [factI 1 9 0 1 1000, factI 2 9 0 0 1000]
  rw [kn3] at this
  exact this
theorem kn4 : (buildC shownC [factI 1 9 0 1 1000, moveI 2 9 7, voteI 3 0 1 true, voteI 3 0 3 false, closedI 12 0]).2 = (4, 11) := by decide
theorem kn5 : (buildC shownC [factI 1 9 0 1 1000, moveI 2 9 7, factI 3 9 0 0 1000, voteI 4 0 1 true]).2 = (3, 10) ∧ (soleM (buildC shownC [factI 1 9 0 1 1000, moveI 2 9 7, factI 3 9 0 0 1000, voteI 4 0 1 true]).1).state = 4 := by decide
theorem field_state (a0 a1 a2 a3 a4 a5 a6 a7 : Value) (w : World) : (Instr.field 76 (.agg #[a0, a1, a2, a3, a4, a5, a6, a7]) 3).run Try.prog w = .ok a3 w := by kernel_rfl
theorem kn6 : (buildC shownC [factI 1 9 0 1 1000, moveI 2 9 7, { voteI 3 0 1 true with drill := true }]).2 = (2, 15) := by decide
theorem kn7 : (buildC shownC [{ factI 1 9 0 100 1000 with drill := true }]).2.2 = 0 ∧ (buildC shownC [{ factI 1 9 0 100 1000 with drill := true }]).1.real.sent.length = 0 := by decide
def KnAt (W : World) (cb ib : Nat) (V : CV) (q0 : CItem) (p5 n6 e7 : Value) (wx : World) : Prop :=
  ∃ X hb, p5 = .pointer (some ⟨hb, 0, none⟩) ∧ n6 = .int .i64 (-1) ∧ e7 = .int .i64 0 ∧ KS W cb ib V q0 wx ∧ Blk wx hb 46 #[.int .i64 kn3H.tick, .int .i64 kn3H.real.items, .slice X.r.fa kn3H.real.facts.length X.r.fc, .slice X.r.ma kn3H.real.motions.length X.r.mc, .slice X.r.sa kn3H.real.sent.length X.r.sc, .int .i64 kn3H.drill.items, .slice X.d.fa kn3H.drill.facts.length X.d.fc, .slice X.d.ma kn3H.drill.motions.length X.d.mc, .slice X.d.sa kn3H.drill.sent.length X.d.sc] ∧ SAt wx.heap.size wx X kn3H ∧ cb < hb ∧ hb ≠ ib ∧ W.heap.size ≤ hb
set_option maxRecDepth 20000 in
set_option maxHeartbeats 8000000 in
theorem law_CouncilKnown_any (w : World) :
    Calls Try.prog 8 #[] w fun e w' => e = .returned (.bool true) ∧ Kp w.heap.size none w w' := by
  obtain ⟨q0, hq0⟩ : ∃ q, q = factI 1 9 0 1 1000 := ⟨_, rfl⟩
  obtain ⟨q1, hq1⟩ : ∃ q, q = factI 2 9 0 0 1000 := ⟨_, rfl⟩
  obtain ⟨f1, hf1⟩ : ∃ q, q = factI 3 9 0 0 1000 := ⟨_, rfl⟩
  obtain ⟨m5, hm5⟩ : ∃ q, q = voteI 4 0 1 true := ⟨_, rfl⟩
  obtain ⟨m1, hm1⟩ : ∃ q, q = moveI 2 9 7 := ⟨_, rfl⟩
  obtain ⟨m2, hm2⟩ : ∃ q, q = voteI 3 0 1 true := ⟨_, rfl⟩
  obtain ⟨m3, hm3⟩ : ∃ q, q = voteI 3 0 3 false := ⟨_, rfl⟩
  obtain ⟨m4, hm4⟩ : ∃ q, q = closedI 12 0 := ⟨_, rfl⟩
  have hl4 : (buildC shownC [q0, m1, m2, m3, m4]).2 = (4, 11) := by rw [hq0, hm1, hm2, hm3, hm4]; exact kn4
  have hl5 : (buildC shownC [q0, m1, f1, m5]).2 = (3, 10) ∧ (soleM (buildC shownC [q0, m1, f1, m5]).1).state = 4 := by rw [hq0, hm1, hf1, hm5]; exact kn5
  have hl6 : (buildC shownC [q0, m1, { m2 with drill := true }]).2 = (2, 15) := by rw [hq0, hm1, hm2]; exact kn6
  obtain ⟨f7, hf7⟩ : ∃ q, q = factI 1 9 0 100 1000 := ⟨_, rfl⟩
  have hl7 : (buildC shownC [{ f7 with drill := true }]).2.2 = 0 ∧ (buildC shownC [{ f7 with drill := true }]).1.real.sent.length = 0 := by rw [hf7]; exact kn7
  replace hl7 := Lib.hid hl7
  replace hf7 := Lib.hid hf7
  replace hl6 := Lib.hid hl6
  replace hl4 := Lib.hid hl4
  replace hl5 := Lib.hid hl5
  replace hf1 := Lib.hid hf1
  replace hm5 := Lib.hid hm5
  replace hm1 := Lib.hid hm1
  replace hm2 := Lib.hid hm2
  replace hm3 := Lib.hid hm3
  replace hm4 := Lib.hid hm4
  have hl3 : buildC shownC [q0, q1] = (kn3H, -1, 0) := by rw [hq0, hq1]; exact kn3
  replace hl3 := Lib.hid hl3
  replace hq0 := Lib.hid hq0
  replace hq1 := Lib.hid hq1
  go_enter Try.func8, Try.ntmps8
  go_wp2_with fail
  refine (awake_any w).mono ?_
  rintro e w0 ⟨rfl, K0⟩
  go_wp2_with fail
  refine (shown_any w0).mono ?_
  rintro e w1 ⟨V, rfl, hC, k1⟩
  replace K0 := K0.thenN k1 (Nat.le_refl _)
  clear k1
  have CB := Blk.new w1 26 #[.slice V.am shownC.members.length V.cm, .slice V.al shownC.laws.length V.cl, .slice V.av shownC.levels.length V.cv]
  have kc := Kp.new w1 (.cells #[.slice V.am shownC.members.length V.cm, .slice V.al shownC.laws.length V.cl, .slice V.av shownC.levels.length V.cv] 26)
  replace hC := hC.kpN kc
  replace K0 := K0.thenN kc (Nat.le_refl _)
  clear kc
  go_upto_region 4 with (fail)
  change Code.wp _ _ _ _ (w1.alloc (.cells #[.slice V.am shownC.members.length V.cm, .slice V.al shownC.laws.length V.cl, .slice V.av shownC.levels.length V.cv] 26))
  obtain ⟨cb, hcb⟩ : ∃ q, q = w1.heap.size := ⟨_, rfl⟩
  rw [← hcb] at CB hC
  try rw [← hcb]
  generalize w1.alloc (.cells #[.slice V.am shownC.members.length V.cm, .slice V.al shownC.laws.length V.cl, .slice V.av shownC.levels.length V.cv] 26) = w2 at CB hC K0 ⊢
  clear hcb
  have cc := fun i => CB.cell i
  go_wp2_with fail
  refine (council_Level_any ⟨0, 0, 1000⟩ _ V shownC _ hC).mono ?_
  rintro e w3 ⟨rfl, k3⟩
  rw [kn_lev1]
  replace CB := CB.kpN k3
  replace hC := hC.kpN k3
  replace K0 := K0.thenN k3 (Nat.le_refl _)
  clear cc k3
  have cc := fun i => CB.cell i
  go_wp2_with fail
  refine (council_Level_any ⟨5, 100, 1000⟩ _ V shownC _ hC).mono ?_
  rintro e w3 ⟨rfl, k3⟩
  rw [kn_lev2]
  replace CB := CB.kpN k3
  replace hC := hC.kpN k3
  replace K0 := K0.thenN k3 (Nat.le_refl _)
  clear cc k3
  have cc := fun i => CB.cell i
  go_wp2_with fail
  refine (council_Level_any ⟨5, 99, 1000⟩ _ V shownC _ hC).mono ?_
  rintro e w3 ⟨rfl, k3⟩
  rw [kn_lev3]
  replace CB := CB.kpN k3
  replace hC := hC.kpN k3
  replace K0 := K0.thenN k3 (Nat.le_refl _)
  clear cc k3
  have cc := fun i => CB.cell i
  go_wp2_with fail
  refine (council_Votes_any 7 50 10 _ V shownC _ hC).mono ?_
  rintro e w3 ⟨rfl, k3⟩
  rw [kn_vot1]
  replace CB := CB.kpN k3
  replace hC := hC.kpN k3
  replace K0 := K0.thenN k3 (Nat.le_refl _)
  clear cc k3
  have cc := fun i => CB.cell i
  go_wp2_with fail
  refine (council_Votes_any 7 50 9 _ V shownC _ hC).mono ?_
  rintro e w3 ⟨rfl, k3⟩
  rw [kn_vot2]
  replace CB := CB.kpN k3
  replace hC := hC.kpN k3
  replace K0 := K0.thenN k3 (Nat.le_refl _)
  clear cc k3
  have cc := fun i => CB.cell i
  go_wp2_with fail
  refine (council_Votes_any 7 49 51 _ V shownC _ hC).mono ?_
  rintro e w3 ⟨rfl, k3⟩
  rw [kn_vot3]
  replace CB := CB.kpN k3
  replace hC := hC.kpN k3
  replace K0 := K0.thenN k3 (Nat.le_refl _)
  clear cc k3
  have cc := fun i => CB.cell i
  go_wp2_with fail
  refine (council_Votes_any 8 100 0 _ V shownC _ hC).mono ?_
  rintro e w3 ⟨rfl, k3⟩
  rw [kn_vot4]
  replace CB := CB.kpN k3
  replace hC := hC.kpN k3
  replace K0 := K0.thenN k3 (Nat.le_refl _)
  clear cc k3
  have cc := fun i => CB.cell i
  go_wp2_with fail
  refine (fact_item 1 9 0 1 1000 _ _ hq0.out).mono ?_
  rintro e w4 ⟨rfl, k4⟩
  replace CB := CB.kpN k4
  replace hC := hC.kpN k4
  replace K0 := K0.thenN k4 (Nat.le_refl _)
  clear cc k4
  have IB := Blk.new w4 31 #[.int .i64 q0.kind, .int .i64 q0.tick, .bool q0.drill, .int .i64 q0.a, .int .i64 q0.b, .bool q0.yes, .int .i64 q0.chance.least, .int .i64 q0.chance.most, .int .i64 q0.chance.all]
  have ki := Kp.new w4 (.cells #[.int .i64 q0.kind, .int .i64 q0.tick, .bool q0.drill, .int .i64 q0.a, .int .i64 q0.b, .bool q0.yes, .int .i64 q0.chance.least, .int .i64 q0.chance.most, .int .i64 q0.chance.all] 31)
  have S : KS w cb w4.heap.size V q0 (w4.alloc (.cells #[.int .i64 q0.kind, .int .i64 q0.tick, .bool q0.drill, .int .i64 q0.a, .int .i64 q0.b, .bool q0.yes, .int .i64 q0.chance.least, .int .i64 q0.chance.most, .int .i64 q0.chance.all] 31)) := ⟨CB.kpN ki, IB, hC.kpN ki, K0.thenN ki (Nat.le_refl _)⟩
  clear CB hC K0 IB ki
  go_upto_region 7 with (fail)
  change Code.wp _ _ _ _ (w4.alloc (.cells #[.int .i64 q0.kind, .int .i64 q0.tick, .bool q0.drill, .int .i64 q0.a, .int .i64 q0.b, .bool q0.yes, .int .i64 q0.chance.least, .int .i64 q0.chance.most, .int .i64 q0.chance.all] 31))
  obtain ⟨ib, hib⟩ : ∃ q, q = w4.heap.size := ⟨_, rfl⟩
  rw [← hib] at S
  rw [← hib]
  generalize w4.alloc (.cells #[.int .i64 q0.kind, .int .i64 q0.tick, .bool q0.drill, .int .i64 q0.a, .int .i64 q0.b, .bool q0.yes, .int .i64 q0.chance.least, .int .i64 q0.chance.most, .int .i64 q0.chance.all] 31) = w5 at S ⊢
  clear hib
  go_cut [5, 6, 7] (fun p5 n6 e7 wx => KnAt w cb ib V q0 p5 n6 e7 wx)
  case first =>
    replace S := S.kpN (Kp.refl _ _ _).drew
    obtain ⟨S0, hS⟩ : ∃ S0 : World → Prop, S0 = fun w' => Blk w' cb 26 #[.slice V.am shownC.members.length V.cm, .slice V.al shownC.laws.length V.cl, .slice V.av shownC.levels.length V.cv] ∧ Blk w' ib 31 #[.int .i64 q0.kind, .int .i64 q0.tick, .bool q0.drill, .int .i64 q0.a, .int .i64 q0.b, .bool q0.yes, .int .i64 q0.chance.least, .int .i64 q0.chance.most, .int .i64 q0.chance.all] := ⟨_, rfl⟩
    have hS0 : ∀ w', S0 w' ↔ (Blk w' cb 26 #[.slice V.am shownC.members.length V.cm, .slice V.al shownC.laws.length V.cl, .slice V.av shownC.levels.length V.cv] ∧ Blk w' ib 31 #[.int .i64 q0.kind, .int .i64 q0.tick, .bool q0.drill, .int .i64 q0.a, .int .i64 q0.b, .bool q0.yes, .int .i64 q0.chance.least, .int .i64 q0.chance.most, .int .i64 q0.chance.all]) := fun w' => by rw [hS]
    clear hS
    have cc := fun (q : Ev S0) i => ((hS0 _).1 q.h).1.cell i
    have ci := fun (q : Ev S0) i => ((hS0 _).1 q.h).2.cell i
    have hevT := ev_true
    refine wp_region_tr S0 (.st 0 1 (.st 1 1 (.b2 2 (.b2 3 (.b2 4 (.st 5 0 (.st 6 0 (.st 7 0 (.st 8 0 (.st 9 2 (.st 10 2 (.st 11 0 (.st 12 0 .nil)))))))) 9 (.st 4 2 (.st 5 0 (.st 6 0 (.st 7 0 (.st 8 0 (.st 10 2 (.st 11 0 (.st 12 0 .nil))))))))) 9 (.st 3 2 (.st 4 2 (.st 5 0 (.st 6 0 (.st 7 0 (.st 8 0 (.st 10 2 (.st 11 0 (.st 12 0 .nil)))))))))) 9 (.st 2 2 (.st 3 2 (.st 4 2 (.st 5 0 (.st 6 0 (.st 7 0 (.st 8 0 (.st 10 2 (.st 11 0 (.st 12 0 .nil))))))))))))) (by kernel_rfl) (by kernel_rfl) ((hS0 _).2 ⟨S.cl, S.il⟩) ?_
    intro _hev
    iterate 2 (first | (refine wpTr_v rfl rfl ?_; intro K hK; go_big_quiet_op; go_big_quiet_on) | (refine wpTr_q rfl rfl ?_; intro K hK; go_big_quiet_op; go_big_quiet_on) | refine wpTr_s rfl rfl ?_)
    refine wpTr_b2 ?_ ?_
    · refine wpOne_l rfl rfl ?_; intro K hK
      go_step
      refine (fact_item 2 9 0 0 1000 _ _ hq1.out).mono ?_
      rintro e w6 ⟨rfl, k6⟩
      replace S := S.kpN k6
      try (replace HB := HB.kpN k6)
      refine hK _ _ ((hS0 _).2 ⟨S.cl, S.il⟩) ?_
      clear hK K k6
      refine wpTr_b2 ?_ ?_
      · refine wpOne_l rfl rfl ?_; intro K hK
        obtain ⟨xb, wq, hwq, hxb, S2, XB, kq, -, -, -⟩ := S.fresh 31 #[.int .i64 q0.kind, .int .i64 q0.tick, .bool q0.drill, .int .i64 q0.a, .int .i64 q0.b, .bool q0.yes, .int .i64 q0.chance.least, .int .i64 q0.chance.most, .int .i64 q0.chance.all, .int .i64 q1.kind, .int .i64 q1.tick, .bool q1.drill, .int .i64 q1.a, .int .i64 q1.b, .bool q1.yes, .int .i64 q1.chance.least, .int .i64 q1.chance.most, .int .i64 q1.chance.all]
        clear S
        have S := S2
        clear S2
        try (replace HB := HB.kpN kq)
        go_step
        rw [← hwq, ← hxb]
        refine hK _ _ ((hS0 _).2 ⟨S.cl, S.il⟩) ?_
        clear hK K kq hwq hxb
        refine wpTr_b2 ?_ ?_
        · refine wpOne_l rfl rfl ?_; intro K hK
          go_step
          refine (build_see V shownC (some ⟨xb, 0, none⟩) 2 [q0, q1] _ (S.ca.wide (Nat.le_of_lt S.cl.lt)) (Rd.of_blk (enc := encItem) (sz := 9) [q0, q1] (fun _ => rfl) rfl XB none (by simp)) (by simp)).mono ?_
          rw [hl3.out]
          rintro e w7 ⟨v, X, hX, rfl, HA, -, k7⟩
          replace hX := Lib.hid hX
          try (have hap : ∀ k, (v k).ownBlock ≠ some hb := fun k e => by have := (HA.ge k _ e).1; have := HB.lt; omega)
          simp only
          replace S := S.kpN k7
          try (replace HB := HB.kpN k7)
          refine hK _ _ ((hS0 _).2 ⟨S.cl, S.il⟩) ?_
          clear hK K k7 XB
          iterate 4 (first | (refine wpTr_v rfl rfl ?_; intro K hK; go_big_quiet_op; go_big_quiet_on) | (refine wpTr_q rfl rfl ?_; intro K hK; go_big_quiet_op; go_big_quiet_on) | refine wpTr_s rfl rfl ?_)
          refine wpTr_l rfl rfl ?_; intro K hK
          obtain ⟨hb, wq, hwq, hhb, S2, HB, kq, hb1, hb2, hb3⟩ := S.fresh 46 #[.int .i64 0, .int .i64 0, .slice none 0 0, .slice none 0 0, .slice none 0 0, .int .i64 0, .slice none 0 0, .slice none 0 0, .slice none 0 0]
          try (have hap : ∀ k, (v k).ownBlock ≠ some hb := fun k e => by have := (HA.ge k _ e).2; omega)
          try (replace HA := HA.kpN kq)
          try (replace XB := XB.kpN kq)
          clear S
          have S := S2
          clear S2
          go_step
          first | rw [← hwq] | rw [show (World.alloc w5 (.cells #[.int .i64 0, .int .i64 0, .slice none 0 0, .slice none 0 0, .slice none 0 0, .int .i64 0, .slice none 0 0, .slice none 0 0, .slice none 0 0] 46)).drew = wq from hwq.symm]
          first | rw [← hhb] | rw [← show hb = w5.heap.size from hhb]
          refine hK _ _ ((hS0 _).2 ⟨S.cl, S.il⟩) ?_
          clear hK K kq hwq hhb
          refine wpTr_l rfl rfl ?_; intro K hK
          have cB := fun i => HB.cell i
          have fB := fun i => HB.frozen i
          obtain ⟨wq, hwq, S2, HB2, SA⟩ := S.put HB HA kn3_ok (by omega) hap hb1 hb2 hb3 X hX.out
          replace hwq := Lib.hid hwq
          go_step
          change K _ (putH _ hb X kn3H)
          rw [← hwq.out]
          clear cB fB
          refine hK _ _ ((hS0 _).2 ⟨S2.cl, S2.il⟩) ?_
          clear hK K hwq
          iterate 2 (first | (refine wpTr_v rfl rfl ?_; intro K hK; go_big_quiet_op; go_big_quiet_on) | (refine wpTr_q rfl rfl ?_; intro K hK; go_big_quiet_op; go_big_quiet_on) | refine wpTr_s rfl rfl ?_)
          refine wpTr_nil ?_
          clear hevT _hev
          go_wp2_with fail
          go_meet
          case rel => exact ⟨X, hb, rfl, rfl, rfl, S2, HB2, SA, hb1, hb2, hb3⟩
        · refine wpOne_l rfl rfl ?_; intro K hK
          obtain ⟨hb, wq, hwq, hhb, S2, HB, kq, hb1, hb2, hb3⟩ := S.fresh 46 #[.int .i64 0, .int .i64 0, .slice none 0 0, .slice none 0 0, .slice none 0 0, .int .i64 0, .slice none 0 0, .slice none 0 0, .slice none 0 0]
          try (have hap : ∀ k, (v k).ownBlock ≠ some hb := fun k e => by have := (HA.ge k _ e).2; omega)
          try (replace HA := HA.kpN kq)
          try (replace XB := XB.kpN kq)
          clear S
          have S := S2
          clear S2
          go_step
          first | rw [← hwq] | rw [show (World.alloc w5 (.cells #[.int .i64 0, .int .i64 0, .slice none 0 0, .slice none 0 0, .slice none 0 0, .int .i64 0, .slice none 0 0, .slice none 0 0, .slice none 0 0] 46)).drew = wq from hwq.symm]
          first | rw [← hhb] | rw [← show hb = w5.heap.size from hhb]
          refine hK _ _ ((hS0 _).2 ⟨S.cl, S.il⟩) ?_
          clear hK K kq hwq hhb
          refine wpTr_l rfl rfl ?_; intro K hK
          go_step
          refine (build_see V shownC (some ⟨xb, 0, none⟩) 2 [q0, q1] _ (S.ca.wide (Nat.le_of_lt S.cl.lt)) (Rd.of_blk (enc := encItem) (sz := 9) [q0, q1] (fun _ => rfl) rfl XB none (by simp)) (by simp)).mono ?_
          rw [hl3.out]
          rintro e w7 ⟨v, X, hX, rfl, HA, -, k7⟩
          replace hX := Lib.hid hX
          try (have hap : ∀ k, (v k).ownBlock ≠ some hb := fun k e => by have := (HA.ge k _ e).1; have := HB.lt; omega)
          simp only
          replace S := S.kpN k7
          try (replace HB := HB.kpN k7)
          refine hK _ _ ((hS0 _).2 ⟨S.cl, S.il⟩) ?_
          clear hK K k7 XB
          iterate 4 (first | (refine wpTr_v rfl rfl ?_; intro K hK; go_big_quiet_op; go_big_quiet_on) | (refine wpTr_q rfl rfl ?_; intro K hK; go_big_quiet_op; go_big_quiet_on) | refine wpTr_s rfl rfl ?_)
          refine wpTr_l rfl rfl ?_; intro K hK
          have cB := fun i => HB.cell i
          have fB := fun i => HB.frozen i
          obtain ⟨wq, hwq, S2, HB2, SA⟩ := S.put HB HA kn3_ok (by omega) hap hb1 hb2 hb3 X hX.out
          replace hwq := Lib.hid hwq
          go_step
          change K _ (putH _ hb X kn3H)
          rw [← hwq.out]
          clear cB fB
          refine hK _ _ ((hS0 _).2 ⟨S2.cl, S2.il⟩) ?_
          clear hK K hwq
          iterate 2 (first | (refine wpTr_v rfl rfl ?_; intro K hK; go_big_quiet_op; go_big_quiet_on) | (refine wpTr_q rfl rfl ?_; intro K hK; go_big_quiet_op; go_big_quiet_on) | refine wpTr_s rfl rfl ?_)
          refine wpTr_nil ?_
          clear hevT _hev
          go_wp2_with fail
          go_meet
          case rel => exact ⟨X, hb, rfl, rfl, rfl, S2, HB2, SA, hb1, hb2, hb3⟩
      · refine wpOne_l rfl rfl ?_; intro K hK
        obtain ⟨hb, wq, hwq, hhb, S2, HB, kq, hb1, hb2, hb3⟩ := S.fresh 46 #[.int .i64 0, .int .i64 0, .slice none 0 0, .slice none 0 0, .slice none 0 0, .int .i64 0, .slice none 0 0, .slice none 0 0, .slice none 0 0]
        try (have hap : ∀ k, (v k).ownBlock ≠ some hb := fun k e => by have := (HA.ge k _ e).2; omega)
        try (replace HA := HA.kpN kq)
        try (replace XB := XB.kpN kq)
        clear S
        have S := S2
        clear S2
        go_step
        first | rw [← hwq] | rw [show (World.alloc w5 (.cells #[.int .i64 0, .int .i64 0, .slice none 0 0, .slice none 0 0, .slice none 0 0, .int .i64 0, .slice none 0 0, .slice none 0 0, .slice none 0 0] 46)).drew = wq from hwq.symm]
        first | rw [← hhb] | rw [← show hb = w5.heap.size from hhb]
        refine hK _ _ ((hS0 _).2 ⟨S.cl, S.il⟩) ?_
        clear hK K kq hwq hhb
        refine wpTr_l rfl rfl ?_; intro K hK
        obtain ⟨xb, wq, hwq, hxb, S2, XB, kq, -, -, -⟩ := S.fresh 31 #[.int .i64 q0.kind, .int .i64 q0.tick, .bool q0.drill, .int .i64 q0.a, .int .i64 q0.b, .bool q0.yes, .int .i64 q0.chance.least, .int .i64 q0.chance.most, .int .i64 q0.chance.all, .int .i64 q1.kind, .int .i64 q1.tick, .bool q1.drill, .int .i64 q1.a, .int .i64 q1.b, .bool q1.yes, .int .i64 q1.chance.least, .int .i64 q1.chance.most, .int .i64 q1.chance.all]
        clear S
        have S := S2
        clear S2
        try (replace HB := HB.kpN kq)
        go_step
        rw [← hwq, ← hxb]
        refine hK _ _ ((hS0 _).2 ⟨S.cl, S.il⟩) ?_
        clear hK K kq hwq hxb
        refine wpTr_l rfl rfl ?_; intro K hK
        go_step
        refine (build_see V shownC (some ⟨xb, 0, none⟩) 2 [q0, q1] _ (S.ca.wide (Nat.le_of_lt S.cl.lt)) (Rd.of_blk (enc := encItem) (sz := 9) [q0, q1] (fun _ => rfl) rfl XB none (by simp)) (by simp)).mono ?_
        rw [hl3.out]
        rintro e w7 ⟨v, X, hX, rfl, HA, -, k7⟩
        replace hX := Lib.hid hX
        try (have hap : ∀ k, (v k).ownBlock ≠ some hb := fun k e => by have := (HA.ge k _ e).1; have := HB.lt; omega)
        simp only
        replace S := S.kpN k7
        try (replace HB := HB.kpN k7)
        refine hK _ _ ((hS0 _).2 ⟨S.cl, S.il⟩) ?_
        clear hK K k7 XB
        iterate 4 (first | (refine wpTr_v rfl rfl ?_; intro K hK; go_big_quiet_op; go_big_quiet_on) | (refine wpTr_q rfl rfl ?_; intro K hK; go_big_quiet_op; go_big_quiet_on) | refine wpTr_s rfl rfl ?_)
        refine wpTr_l rfl rfl ?_; intro K hK
        have cB := fun i => HB.cell i
        have fB := fun i => HB.frozen i
        obtain ⟨wq, hwq, S2, HB2, SA⟩ := S.put HB HA kn3_ok (by omega) hap hb1 hb2 hb3 X hX.out
        replace hwq := Lib.hid hwq
        go_step
        change K _ (putH _ hb X kn3H)
        rw [← hwq.out]
        clear cB fB
        refine hK _ _ ((hS0 _).2 ⟨S2.cl, S2.il⟩) ?_
        clear hK K hwq
        iterate 2 (first | (refine wpTr_v rfl rfl ?_; intro K hK; go_big_quiet_op; go_big_quiet_on) | (refine wpTr_q rfl rfl ?_; intro K hK; go_big_quiet_op; go_big_quiet_on) | refine wpTr_s rfl rfl ?_)
        refine wpTr_nil ?_
        clear hevT _hev
        go_wp2_with fail
        go_meet
        case rel => exact ⟨X, hb, rfl, rfl, rfl, S2, HB2, SA, hb1, hb2, hb3⟩
    · refine wpOne_l rfl rfl ?_; intro K hK
      obtain ⟨hb, wq, hwq, hhb, S2, HB, kq, hb1, hb2, hb3⟩ := S.fresh 46 #[.int .i64 0, .int .i64 0, .slice none 0 0, .slice none 0 0, .slice none 0 0, .int .i64 0, .slice none 0 0, .slice none 0 0, .slice none 0 0]
      try (have hap : ∀ k, (v k).ownBlock ≠ some hb := fun k e => by have := (HA.ge k _ e).2; omega)
      try (replace HA := HA.kpN kq)
      try (replace XB := XB.kpN kq)
      clear S
      have S := S2
      clear S2
      go_step
      first | rw [← hwq] | rw [show (World.alloc w5 (.cells #[.int .i64 0, .int .i64 0, .slice none 0 0, .slice none 0 0, .slice none 0 0, .int .i64 0, .slice none 0 0, .slice none 0 0, .slice none 0 0] 46)).drew = wq from hwq.symm]
      first | rw [← hhb] | rw [← show hb = w5.heap.size from hhb]
      refine hK _ _ ((hS0 _).2 ⟨S.cl, S.il⟩) ?_
      clear hK K kq hwq hhb
      refine wpTr_l rfl rfl ?_; intro K hK
      go_step
      refine (fact_item 2 9 0 0 1000 _ _ hq1.out).mono ?_
      rintro e w6 ⟨rfl, k6⟩
      replace S := S.kpN k6
      try (replace HB := HB.kpN k6)
      refine hK _ _ ((hS0 _).2 ⟨S.cl, S.il⟩) ?_
      clear hK K k6
      refine wpTr_l rfl rfl ?_; intro K hK
      obtain ⟨xb, wq, hwq, hxb, S2, XB, kq, -, -, -⟩ := S.fresh 31 #[.int .i64 q0.kind, .int .i64 q0.tick, .bool q0.drill, .int .i64 q0.a, .int .i64 q0.b, .bool q0.yes, .int .i64 q0.chance.least, .int .i64 q0.chance.most, .int .i64 q0.chance.all, .int .i64 q1.kind, .int .i64 q1.tick, .bool q1.drill, .int .i64 q1.a, .int .i64 q1.b, .bool q1.yes, .int .i64 q1.chance.least, .int .i64 q1.chance.most, .int .i64 q1.chance.all]
      clear S
      have S := S2
      clear S2
      try (replace HB := HB.kpN kq)
      go_step
      rw [← hwq, ← hxb]
      refine hK _ _ ((hS0 _).2 ⟨S.cl, S.il⟩) ?_
      clear hK K kq hwq hxb
      refine wpTr_l rfl rfl ?_; intro K hK
      go_step
      refine (build_see V shownC (some ⟨xb, 0, none⟩) 2 [q0, q1] _ (S.ca.wide (Nat.le_of_lt S.cl.lt)) (Rd.of_blk (enc := encItem) (sz := 9) [q0, q1] (fun _ => rfl) rfl XB none (by simp)) (by simp)).mono ?_
      rw [hl3.out]
      rintro e w7 ⟨v, X, hX, rfl, HA, -, k7⟩
      replace hX := Lib.hid hX
      try (have hap : ∀ k, (v k).ownBlock ≠ some hb := fun k e => by have := (HA.ge k _ e).1; have := HB.lt; omega)
      simp only
      replace S := S.kpN k7
      try (replace HB := HB.kpN k7)
      refine hK _ _ ((hS0 _).2 ⟨S.cl, S.il⟩) ?_
      clear hK K k7 XB
      iterate 4 (first | (refine wpTr_v rfl rfl ?_; intro K hK; go_big_quiet_op; go_big_quiet_on) | (refine wpTr_q rfl rfl ?_; intro K hK; go_big_quiet_op; go_big_quiet_on) | refine wpTr_s rfl rfl ?_)
      refine wpTr_l rfl rfl ?_; intro K hK
      have cB := fun i => HB.cell i
      have fB := fun i => HB.frozen i
      obtain ⟨wq, hwq, S2, HB2, SA⟩ := S.put HB HA kn3_ok (by omega) hap hb1 hb2 hb3 X hX.out
      replace hwq := Lib.hid hwq
      go_step
      change K _ (putH _ hb X kn3H)
      rw [← hwq.out]
      clear cB fB
      refine hK _ _ ((hS0 _).2 ⟨S2.cl, S2.il⟩) ?_
      clear hK K hwq
      iterate 2 (first | (refine wpTr_v rfl rfl ?_; intro K hK; go_big_quiet_op; go_big_quiet_on) | (refine wpTr_q rfl rfl ?_; intro K hK; go_big_quiet_op; go_big_quiet_on) | refine wpTr_s rfl rfl ?_)
      refine wpTr_nil ?_
      clear hevT _hev
      go_wp2_with fail
      go_meet
      case rel => exact ⟨X, hb, rfl, rfl, rfl, S2, HB2, SA, hb1, hb2, hb3⟩
  case rest =>
  clear S hl3 hq1
  rename World => w6
  obtain ⟨X, hb, rfl, rfl, rfl, S, HB, SA, hb1, hb2, hb3⟩ := hcut
  have ch := fun i => HB.cell i
  go_wp2_with fail
  refine (council_Of_any X.r kn3H.real 9 w6 SA.r).mono ?_
  rintro e w7 ⟨k9, b9, rfl, hof, k7⟩
  have hk9 : k9 = ⟨9, 0, 1, ⟨0, 0, 1000⟩⟩ ∧ b9 = true := by
    have h1 : knownOf kn3H.real 9 = some ⟨9, 0, 1, ⟨0, 0, 1000⟩⟩ := by decide
    rcases hof with ⟨h2, h3⟩ | ⟨h2, -, -⟩
    · rw [h1] at h2; injection h2 with h2; exact ⟨h2.symm, h3⟩
    · rw [h1] at h2; cases h2
  obtain ⟨rfl, rfl⟩ := hk9
  clear hof ch
  replace S := S.kpN k7
  replace HB := HB.kpN k7
  replace SA := SA.next k7
  clear k7
  have KB := Blk.new w7 71 #[.int .i64 9, .int .i64 0, .int .i64 1, .int .i64 0, .int .i64 0, .int .i64 1000]
  have kk := Kp.new w7 (.cells #[.int .i64 9, .int .i64 0, .int .i64 1, .int .i64 0, .int .i64 0, .int .i64 1000] 71)
  replace S := S.kpN kk
  replace HB := HB.kpN kk
  replace SA := SA.next kk
  clear kk
  go_upto_region 9 with (fail)
  change Code.wp _ _ _ _ (w7.alloc (.cells #[.int .i64 9, .int .i64 0, .int .i64 1, .int .i64 0, .int .i64 0, .int .i64 1000] 71))
  obtain ⟨kb, hkb⟩ : ∃ q, q = w7.heap.size := ⟨_, rfl⟩
  rw [← hkb] at KB
  try rw [← hkb]
  generalize w7.alloc (.cells #[.int .i64 9, .int .i64 0, .int .i64 1, .int .i64 0, .int .i64 0, .int .i64 1000] 71) = w8 at S HB SA KB ⊢
  clear hkb
  have ch := fun i => HB.cell i
  have ck := fun i => KB.cell i
  obtain ⟨b, o, eA, -, -, hc⟩ := SA.r.s.2 (by decide)
  obtain ⟨⟨fa, fc, ma, mc, sa, sc, vo⟩, xd⟩ := X
  have eA' : sa = some ⟨b, o, none⟩ := eA
  subst eA'
  clear eA
  have hcc := fun i (hi : i < kn3H.real.sent.length) j v => hc i hi j v
  have d0 : w8.cell? ⟨b, o, none⟩ = some (.int .i64 1) := hcc 0 (by decide) 0 _ rfl
  have d1 : w8.cell? ⟨b, o + 1, none⟩ = some (.int .i64 9) := hcc 0 (by decide) 1 _ rfl
  have d2 : w8.cell? ⟨b, o + 2, none⟩ = some (.int .i64 1) := hcc 0 (by decide) 2 _ rfl
  have d3 : w8.cell? ⟨b, o + 3, none⟩ = some (.bool false) := hcc 0 (by decide) 3 _ rfl
  have d4 : w8.cell? ⟨b, o + 4, none⟩ = some (.int .i64 2) := hcc 1 (by decide) 0 _ rfl
  have d5 : w8.cell? ⟨b, o + 5, none⟩ = some (.int .i64 9) := hcc 1 (by decide) 1 _ rfl
  have d6 : w8.cell? ⟨b, o + 6, none⟩ = some (.int .i64 0) := hcc 1 (by decide) 2 _ rfl
  have d7 : w8.cell? ⟨b, o + 7, none⟩ = some (.bool true) := hcc 1 (by decide) 3 _ rfl
  have dn : kn3H.real.sent.length = 2 := rfl
  clear hc hcc
  replace S := Lib.hid S
  replace SA := Lib.hid SA
  go_upto_region 10 with (fail)
  clear ch ck d0 d1 d2 d3 d4 d5 d6 d7 dn SA KB
  have T := S.out.kpN (Kp.refl _ _ _).drew
  clear S
  replace HB := HB.kpN (Kp.refl _ _ _).drew
  obtain ⟨S, hS⟩ : ∃ S : Nat → World → Prop, S = fun n w' => if n = 0 then Blk w' cb 26 #[.slice V.am shownC.members.length V.cm, .slice V.al shownC.laws.length V.cl, .slice V.av shownC.levels.length V.cv] ∧ Blk w' ib 31 #[.int .i64 q0.kind, .int .i64 q0.tick, .bool q0.drill, .int .i64 q0.a, .int .i64 q0.b, .bool q0.yes, .int .i64 q0.chance.least, .int .i64 q0.chance.most, .int .i64 q0.chance.all] else True := ⟨_, rfl⟩
  have hS0 : ∀ w', S 0 w' ↔ (Blk w' cb 26 #[.slice V.am shownC.members.length V.cm, .slice V.al shownC.laws.length V.cl, .slice V.av shownC.levels.length V.cv] ∧ Blk w' ib 31 #[.int .i64 q0.kind, .int .i64 q0.tick, .bool q0.drill, .int .i64 q0.a, .int .i64 q0.b, .bool q0.yes, .int .i64 q0.chance.least, .int .i64 q0.chance.most, .int .i64 q0.chance.all]) := fun w' => by rw [hS]; exact Iff.rfl
  have hS1 : ∀ w', S 1 w' ↔ (True) := fun w' => by rw [hS]; exact Iff.rfl
  clear hS
  have cc := fun (q : Ev (S 0)) i => ((hS0 _).1 q.h).1.cell i
  have ci := fun (q : Ev (S 0)) i => ((hS0 _).1 q.h).2.cell i
  have hevT := ev_true
  refine wp_region_ord S [(0, 1), (1, 1), (2, 2), (3, 2), (4, 2), (5, 2), (6, 2), (7, 2), (8, 0), (9, 0), (10, 0), (11, 0), (12, 0), (13, 0)] [] (by kernel_rfl) (by kernel_rfl) ((hS0 _).2 ⟨T.cl, T.il⟩) ?_
  intro _hev
  iterate 2 (first | (refine wpOrd_v rfl rfl ?_; intro K hK; go_big_quiet_op; go_big_quiet_on) | (refine wpOrd_q rfl rfl ?_; intro K hK; go_big_quiet_op; go_big_quiet_on) | refine wpOrd_s (by decide) rfl rfl ?_)
  refine wpOrd_l rfl rfl ?_; intro K hK
  go_step
  refine (move_item 2 9 7 _ _ hm1.out).mono ?_
  rintro e w9 ⟨rfl, k9⟩
  replace T := T.kpN k9
  replace HB := HB.kpN k9
  refine hK _ _ ((hS0 _).2 ⟨T.cl, T.il⟩) ?_
  clear hK K k9
  refine wpOrd_l rfl rfl ?_; intro K hK
  go_step
  refine (vote_item 3 0 1 true _ _ hm2.out).mono ?_
  rintro e w9 ⟨rfl, k9⟩
  replace T := T.kpN k9
  replace HB := HB.kpN k9
  refine hK _ _ ((hS0 _).2 ⟨T.cl, T.il⟩) ?_
  clear hK K k9
  refine wpOrd_l rfl rfl ?_; intro K hK
  go_step
  refine (vote_item 3 0 3 false _ _ hm3.out).mono ?_
  rintro e w9 ⟨rfl, k9⟩
  replace T := T.kpN k9
  replace HB := HB.kpN k9
  refine hK _ _ ((hS0 _).2 ⟨T.cl, T.il⟩) ?_
  clear hK K k9
  refine wpOrd_l rfl rfl ?_; intro K hK
  go_step
  refine (closed_item 12 0 _ _ hm4.out).mono ?_
  rintro e w9 ⟨rfl, k9⟩
  replace T := T.kpN k9
  replace HB := HB.kpN k9
  refine hK _ _ ((hS0 _).2 ⟨T.cl, T.il⟩) ?_
  clear hK K k9
  refine wpOrd_l rfl rfl ?_; intro K hK
  obtain ⟨xb, wq, hwq, hxb, T2, XB, kq, -, -, -⟩ := T.fresh 31 #[.int .i64 q0.kind, .int .i64 q0.tick, .bool q0.drill, .int .i64 q0.a, .int .i64 q0.b, .bool q0.yes, .int .i64 q0.chance.least, .int .i64 q0.chance.most, .int .i64 q0.chance.all, .int .i64 m1.kind, .int .i64 m1.tick, .bool m1.drill, .int .i64 m1.a, .int .i64 m1.b, .bool m1.yes, .int .i64 m1.chance.least, .int .i64 m1.chance.most, .int .i64 m1.chance.all, .int .i64 m2.kind, .int .i64 m2.tick, .bool m2.drill, .int .i64 m2.a, .int .i64 m2.b, .bool m2.yes, .int .i64 m2.chance.least, .int .i64 m2.chance.most, .int .i64 m2.chance.all, .int .i64 m3.kind, .int .i64 m3.tick, .bool m3.drill, .int .i64 m3.a, .int .i64 m3.b, .bool m3.yes, .int .i64 m3.chance.least, .int .i64 m3.chance.most, .int .i64 m3.chance.all, .int .i64 m4.kind, .int .i64 m4.tick, .bool m4.drill, .int .i64 m4.a, .int .i64 m4.b, .bool m4.yes, .int .i64 m4.chance.least, .int .i64 m4.chance.most, .int .i64 m4.chance.all]
  clear T
  have T := T2
  clear T2
  replace HB := HB.kpN kq
  go_step
  rw [← hwq, ← hxb]
  refine hK _ _ ((hS0 _).2 ⟨T.cl, T.il⟩) ?_
  clear hK K kq hwq hxb
  refine wpOrd_l rfl rfl ?_; intro K hK
  go_step
  refine (build_see V shownC (some ⟨xb, 0, none⟩) 5 [q0, m1, m2, m3, m4] _ (T.ca.wide (Nat.le_of_lt T.cl.lt)) (Rd.of_blk (enc := encItem) (sz := 9) [q0, m1, m2, m3, m4] (fun _ => rfl) rfl XB none (by simp)) (by simp)).mono ?_
  generalize hR : buildC shownC [q0, m1, m2, m3, m4] = R
  have h2 := hl4.out
  rw [hR] at h2
  obtain ⟨x4, i4, e4⟩ := R
  simp only [Prod.mk.injEq] at h2
  obtain ⟨rfl, rfl⟩ := h2
  clear hR hl4
  rintro e w10 ⟨v4, X4, -, rfl, -, -, k10⟩
  simp only
  replace T := T.kpN k10
  replace HB := HB.kpN k10
  refine hK _ _ ((hS0 _).2 ⟨T.cl, T.il⟩) ?_
  clear hK K k10 XB
  iterate 6 (first | (refine wpOrd_v rfl rfl ?_; intro K hK; go_big_quiet_op; go_big_quiet_on) | (refine wpOrd_q rfl rfl ?_; intro K hK; go_big_quiet_op; go_big_quiet_on) | refine wpOrd_s (by decide) rfl rfl ?_)
  refine wpOrd_nil ?_
  clear hevT _hev
  clear hS0 hS1 S cc ci
  replace T := Lib.hid T
  go_upto_region 12 with (fail)
  replace T := T.out.kpN (Kp.refl _ _ _).drew
  replace HB := HB.kpN (Kp.refl _ _ _).drew
  obtain ⟨S, hS⟩ : ∃ S : Nat → World → Prop, S = fun n w' => if n = 0 then Blk w' cb 26 #[.slice V.am shownC.members.length V.cm, .slice V.al shownC.laws.length V.cl, .slice V.av shownC.levels.length V.cv] ∧ Blk w' ib 31 #[.int .i64 q0.kind, .int .i64 q0.tick, .bool q0.drill, .int .i64 q0.a, .int .i64 q0.b, .bool q0.yes, .int .i64 q0.chance.least, .int .i64 q0.chance.most, .int .i64 q0.chance.all] else True := ⟨_, rfl⟩
  have hS0 : ∀ w', S 0 w' ↔ (Blk w' cb 26 #[.slice V.am shownC.members.length V.cm, .slice V.al shownC.laws.length V.cl, .slice V.av shownC.levels.length V.cv] ∧ Blk w' ib 31 #[.int .i64 q0.kind, .int .i64 q0.tick, .bool q0.drill, .int .i64 q0.a, .int .i64 q0.b, .bool q0.yes, .int .i64 q0.chance.least, .int .i64 q0.chance.most, .int .i64 q0.chance.all]) := fun w' => by rw [hS]; exact Iff.rfl
  have hS1 : ∀ w', S 1 w' ↔ (True) := fun w' => by rw [hS]; exact Iff.rfl
  clear hS
  have cc := fun (q : Ev (S 0)) i => ((hS0 _).1 q.h).1.cell i
  have ci := fun (q : Ev (S 0)) i => ((hS0 _).1 q.h).2.cell i
  have hevT := ev_true
  refine wp_region_ord S [(0, 1), (1, 1), (2, 2), (3, 2), (4, 2), (5, 2), (6, 2), (7, 0), (8, 0), (9, 0), (10, 0), (11, 2), (12, 0), (13, 0)] [] (by kernel_rfl) (by kernel_rfl) ((hS0 _).2 ⟨T.cl, T.il⟩) ?_
  intro _hev
  iterate 2 (first | (refine wpOrd_v rfl rfl ?_; intro K hK; go_big_quiet_op; go_big_quiet_on) | (refine wpOrd_q rfl rfl ?_; intro K hK; go_big_quiet_op; go_big_quiet_on) | refine wpOrd_s (by decide) rfl rfl ?_)
  refine wpOrd_l rfl rfl ?_; intro K hK
  go_step
  refine (move_item 2 9 7 _ _ hm1.out).mono ?_
  rintro e w9 ⟨rfl, k9⟩
  replace T := T.kpN k9
  replace HB := HB.kpN k9
  refine hK _ _ ((hS0 _).2 ⟨T.cl, T.il⟩) ?_
  clear hK K k9
  refine wpOrd_l rfl rfl ?_; intro K hK
  go_step
  refine (fact_item 3 9 0 0 1000 _ _ hf1.out).mono ?_
  rintro e w9 ⟨rfl, k9⟩
  replace T := T.kpN k9
  replace HB := HB.kpN k9
  refine hK _ _ ((hS0 _).2 ⟨T.cl, T.il⟩) ?_
  clear hK K k9
  refine wpOrd_l rfl rfl ?_; intro K hK
  go_step
  refine (vote_item 4 0 1 true _ _ hm5.out).mono ?_
  rintro e w9 ⟨rfl, k9⟩
  replace T := T.kpN k9
  replace HB := HB.kpN k9
  refine hK _ _ ((hS0 _).2 ⟨T.cl, T.il⟩) ?_
  clear hK K k9
  refine wpOrd_l rfl rfl ?_; intro K hK
  obtain ⟨xb, wq, hwq, hxb, T2, XB, kq, -, -, -⟩ := T.fresh 31 #[.int .i64 q0.kind, .int .i64 q0.tick, .bool q0.drill, .int .i64 q0.a, .int .i64 q0.b, .bool q0.yes, .int .i64 q0.chance.least, .int .i64 q0.chance.most, .int .i64 q0.chance.all, .int .i64 m1.kind, .int .i64 m1.tick, .bool m1.drill, .int .i64 m1.a, .int .i64 m1.b, .bool m1.yes, .int .i64 m1.chance.least, .int .i64 m1.chance.most, .int .i64 m1.chance.all, .int .i64 f1.kind, .int .i64 f1.tick, .bool f1.drill, .int .i64 f1.a, .int .i64 f1.b, .bool f1.yes, .int .i64 f1.chance.least, .int .i64 f1.chance.most, .int .i64 f1.chance.all, .int .i64 m5.kind, .int .i64 m5.tick, .bool m5.drill, .int .i64 m5.a, .int .i64 m5.b, .bool m5.yes, .int .i64 m5.chance.least, .int .i64 m5.chance.most, .int .i64 m5.chance.all]
  clear T
  have T := T2
  clear T2
  replace HB := HB.kpN kq
  go_step
  rw [← hwq, ← hxb]
  refine hK _ _ ((hS0 _).2 ⟨T.cl, T.il⟩) ?_
  clear hK K kq hwq hxb
  refine wpOrd_l rfl rfl ?_; intro K hK
  go_step
  refine (build_see V shownC (some ⟨xb, 0, none⟩) 4 [q0, m1, f1, m5] _ (T.ca.wide (Nat.le_of_lt T.cl.lt)) (Rd.of_blk (enc := encItem) (sz := 9) [q0, m1, f1, m5] (fun _ => rfl) rfl XB none (by simp)) (by simp)).mono ?_
  have hbl := HB.lt
  have h3 := buildC_ok shownC [q0, m1, f1, m5]
  generalize hR : buildC shownC [q0, m1, f1, m5] = R at h3
  obtain ⟨h2, h4⟩ := hl5.out
  rw [hR] at h2 h4
  obtain ⟨x5, i5, e5⟩ := R
  simp only [Prod.mk.injEq] at h2
  obtain ⟨rfl, rfl⟩ := h2
  have h3' : HouseOk shownC 4 x5 := h3
  have h4' : (soleM x5).state = 4 := h4
  clear hR hl5 h3 h4
  rintro e w10 ⟨v5, X5, hX5, rfl, HA, -, k10⟩
  replace hX5 := Lib.hid hX5
  have hap : ∀ k, (v5 k).ownBlock ≠ some hb := fun k e => by have := (HA.ge k _ e).1; omega
  simp only
  replace T := T.kpN k10
  replace HB := HB.kpN k10
  refine hK _ _ ((hS0 _).2 ⟨T.cl, T.il⟩) ?_
  clear hK K k10 XB hbl
  replace h4' := Lib.hid h4'
  iterate 4 (first | (refine wpOrd_v rfl rfl ?_; intro K hK; go_big_quiet_op; go_big_quiet_on) | (refine wpOrd_q rfl rfl ?_; intro K hK; go_big_quiet_op; go_big_quiet_on) | refine wpOrd_s (by decide) rfl rfl ?_)
  have cB := fun i => HB.cell i
  have fB := fun i => HB.frozen i
  refine wpOrd_l rfl rfl ?_; intro K hK
  obtain ⟨wq, hwq, T2, HB2, SA⟩ := T.put HB HA h3' (by omega) hap hb1 hb2 hb3 X5 hX5.out
  replace hwq := Lib.hid hwq
  go_step
  change K _ (putH _ hb X5 x5)
  rw [← hwq.out]
  clear cB fB
  refine hK _ _ ((hS0 _).2 ⟨T2.cl, T2.il⟩) ?_
  clear hK K hwq HB HA T hap
  iterate 2 (first | (refine wpOrd_v rfl rfl ?_; intro K hK; go_big_quiet_op; go_big_quiet_on) | (refine wpOrd_q rfl rfl ?_; intro K hK; go_big_quiet_op; go_big_quiet_on) | refine wpOrd_s (by decide) rfl rfl ?_)
  refine wpOrd_nil ?_
  clear hevT _hev
  clear hS0 hS1 S cc ci hX5 h3'
  have T := T2
  clear T2
  have ch := fun i => HB2.cell i
  go_wp2_with fail
  refine (sole_any X5 x5 _ SA).mono ?_
  rintro e w11 ⟨⟨A5, l5, r5, m, hm, rfl⟩, k11⟩
  have m3 : m.state = 4 := by rw [hm]; exact h4'.out
  clear hm h4' ch SA
  replace T := T.kpN k11
  clear k11 HB2
  replace T := Lib.hid T
  have hfs := field_state (.int .i64 m.target) (.int .i64 m.act) (.int .i64 m.opened) (.int .i64 4) (.int .i64 m.yes) (.int .i64 m.no) (.slice A5 l5 r5) (.int .i64 m.fact)
  go_upto_region 14 with (fail)
  clear hfs
  replace T := T.out
  go_wp2_with fail
  refine (vote_item 3 0 1 true _ _ hm2.out).mono ?_
  rintro e w12 ⟨rfl, k12⟩
  replace T := T.kpN k12
  clear k12
  obtain ⟨db, wq, hwq, hdb, T2, DB, kq, g1, g2, g3⟩ := T.fresh 31 #[.int .i64 m2.kind, .int .i64 m2.tick, .bool m2.drill, .int .i64 m2.a, .int .i64 m2.b, .bool m2.yes, .int .i64 m2.chance.least, .int .i64 m2.chance.most, .int .i64 m2.chance.all]
  have DB2 := DB.set_ 2 (.bool true)
  have T3 := T2.own (grown_set wq db 2 (.bool true)) g1 g2 g3
  simp only [List.setIfInBounds_toArray, List.set_cons_zero, List.set_cons_succ] at DB2
  have cB := fun i => DB.cell i
  have fB := fun i => DB.frozen i
  clear T T2 kq
  go_upto_region 15 with (fail)
  rw [← hwq, ← hdb]
  clear hwq hdb
  go_upto_region 16 with (fail)
  clear cB fB DB
  have T := T3
  clear T3
  generalize wq.setCell ⟨db, 2, none⟩ (.bool true) = w13 at T DB2 ⊢
  replace T := T.kpN (Kp.refl _ _ _).drew
  have HB := DB2.kpN (Kp.refl w13.heap.size none w13).drew
  clear DB2
  obtain ⟨S, hS⟩ : ∃ S : Nat → World → Prop, S = fun n w' => if n = 0 then Blk w' cb 26 #[.slice V.am shownC.members.length V.cm, .slice V.al shownC.laws.length V.cl, .slice V.av shownC.levels.length V.cv] ∧ Blk w' ib 31 #[.int .i64 q0.kind, .int .i64 q0.tick, .bool q0.drill, .int .i64 q0.a, .int .i64 q0.b, .bool q0.yes, .int .i64 q0.chance.least, .int .i64 q0.chance.most, .int .i64 q0.chance.all] ∧ Blk w' db 31 #[.int .i64 m2.kind, .int .i64 m2.tick, .bool true, .int .i64 m2.a, .int .i64 m2.b, .bool m2.yes, .int .i64 m2.chance.least, .int .i64 m2.chance.most, .int .i64 m2.chance.all] else True := ⟨_, rfl⟩
  have hS0 : ∀ w', S 0 w' ↔ (Blk w' cb 26 #[.slice V.am shownC.members.length V.cm, .slice V.al shownC.laws.length V.cl, .slice V.av shownC.levels.length V.cv] ∧ Blk w' ib 31 #[.int .i64 q0.kind, .int .i64 q0.tick, .bool q0.drill, .int .i64 q0.a, .int .i64 q0.b, .bool q0.yes, .int .i64 q0.chance.least, .int .i64 q0.chance.most, .int .i64 q0.chance.all] ∧ Blk w' db 31 #[.int .i64 m2.kind, .int .i64 m2.tick, .bool true, .int .i64 m2.a, .int .i64 m2.b, .bool m2.yes, .int .i64 m2.chance.least, .int .i64 m2.chance.most, .int .i64 m2.chance.all]) := fun w' => by rw [hS]; exact Iff.rfl
  have hS1 : ∀ w', S 1 w' ↔ (True) := fun w' => by rw [hS]; exact Iff.rfl
  clear hS
  have cc := fun (q : Ev (S 0)) i => ((hS0 _).1 q.h).1.cell i
  have ci := fun (q : Ev (S 0)) i => ((hS0 _).1 q.h).2.1.cell i
  have cd := fun (q : Ev (S 0)) i => ((hS0 _).1 q.h).2.2.cell i
  have hevT := ev_true
  refine wp_region_ord S [(0, 1), (1, 1), (3, 1), (2, 2), (4, 2), (5, 2), (6, 0), (7, 0), (8, 0), (9, 0), (10, 0), (11, 0)] [] (by kernel_rfl) (by kernel_rfl) ((hS0 _).2 ⟨T.cl, T.il, HB⟩) ?_
  intro _hev
  iterate 3 (first | (refine wpOrd_v rfl rfl ?_; intro K hK; go_big_quiet_op; go_big_quiet_on) | (refine wpOrd_q rfl rfl ?_; intro K hK; go_big_quiet_op; go_big_quiet_on) | refine wpOrd_s (by decide) rfl rfl ?_)
  refine wpOrd_l rfl rfl ?_; intro K hK
  go_step
  refine (move_item 2 9 7 _ _ hm1.out).mono ?_
  rintro e w9 ⟨rfl, k9⟩
  replace T := T.kpN k9
  replace HB := HB.kpN k9
  refine hK _ _ ((hS0 _).2 ⟨T.cl, T.il, HB⟩) ?_
  clear hK K k9
  refine wpOrd_l rfl rfl ?_; intro K hK
  obtain ⟨xb, wq, hwq, hxb, T2, XB, kq, -, -, -⟩ := T.fresh 31 #[.int .i64 q0.kind, .int .i64 q0.tick, .bool q0.drill, .int .i64 q0.a, .int .i64 q0.b, .bool q0.yes, .int .i64 q0.chance.least, .int .i64 q0.chance.most, .int .i64 q0.chance.all, .int .i64 m1.kind, .int .i64 m1.tick, .bool m1.drill, .int .i64 m1.a, .int .i64 m1.b, .bool m1.yes, .int .i64 m1.chance.least, .int .i64 m1.chance.most, .int .i64 m1.chance.all, .int .i64 m2.kind, .int .i64 m2.tick, .bool true, .int .i64 m2.a, .int .i64 m2.b, .bool m2.yes, .int .i64 m2.chance.least, .int .i64 m2.chance.most, .int .i64 m2.chance.all]
  clear T
  have T := T2
  clear T2
  replace HB := HB.kpN kq
  go_step
  rw [← hwq, ← hxb]
  refine hK _ _ ((hS0 _).2 ⟨T.cl, T.il, HB⟩) ?_
  clear hK K kq hwq hxb
  refine wpOrd_l rfl rfl ?_; intro K hK
  go_step
  refine (build_see V shownC (some ⟨xb, 0, none⟩) 3 [q0, m1, { m2 with drill := true }] _ (T.ca.wide (Nat.le_of_lt T.cl.lt)) (Rd.of_blk (enc := encItem) (sz := 9) [q0, m1, { m2 with drill := true }] (fun _ => rfl) rfl XB none (by simp)) (by simp)).mono ?_
  generalize hR : buildC shownC [q0, m1, { m2 with drill := true }] = R
  have h2 := hl6.out
  rw [hR] at h2
  obtain ⟨x6, i6, e6⟩ := R
  simp only [Prod.mk.injEq] at h2
  obtain ⟨rfl, rfl⟩ := h2
  clear hR hl6
  rintro e w10 ⟨v6, X6, -, rfl, -, -, k10⟩
  simp only
  replace T := T.kpN k10
  replace HB := HB.kpN k10
  refine hK _ _ ((hS0 _).2 ⟨T.cl, T.il, HB⟩) ?_
  clear hK K k10 XB
  iterate 6 (first | (refine wpOrd_v rfl rfl ?_; intro K hK; go_big_quiet_op; go_big_quiet_on) | (refine wpOrd_q rfl rfl ?_; intro K hK; go_big_quiet_op; go_big_quiet_on) | refine wpOrd_s (by decide) rfl rfl ?_)
  refine wpOrd_nil ?_
  clear hevT _hev
  clear hS0 hS1 S cc ci cd
  replace T := Lib.hid T
  replace HB := Lib.hid HB
  go_upto_region 18 with (fail)
  replace T := T.out
  replace HB := HB.out
  go_wp2_with fail
  refine (fact_item 1 9 0 100 1000 _ _ hf7.out).mono ?_
  rintro e w14 ⟨rfl, k14⟩
  replace T := T.kpN k14
  replace HB := HB.kpN k14
  clear k14
  have hg7 := setI_grown w14 db f7
  have HB2 := Blk.setI HB f7
  have T2 := T.own hg7 g1 g2 g3
  have cB := fun i => HB.cell i
  have fB := fun i => HB.frozen i
  replace T2 := Lib.hid T2
  replace HB2 := Lib.hid HB2
  clear T hg7
  go_upto_region 19 with (fail)
  change Code.wp _ _ _ _ (setI w14 db f7)
  clear cB fB HB
  replace T2 := T2.out
  replace HB2 := HB2.out
  generalize setI w14 db f7 = w15 at T2 HB2 ⊢
  have HB3 := HB2.set_ 2 (.bool true)
  have T3 := T2.own (grown_set w15 db 2 (.bool true)) g1 g2 g3
  simp only [List.setIfInBounds_toArray, List.set_cons_zero, List.set_cons_succ] at HB3
  have cB := fun i => HB2.cell i
  have fB := fun i => HB2.frozen i
  replace T3 := Lib.hid T3
  replace HB3 := Lib.hid HB3
  clear T2
  go_upto_region 20 with (fail)
  clear cB fB HB2
  replace T := T3.out
  replace HB := HB3.out
  clear T3 HB3
  generalize w15.setCell ⟨db, 2, none⟩ (.bool true) = w16 at T HB ⊢
  have cB := fun i => HB.cell i
  have cc := fun i => T.cl.cell i
  obtain ⟨xb, wq, hwq, hxb, T2, XB, kq, -, -, -⟩ := T.fresh 31 #[.int .i64 f7.kind, .int .i64 f7.tick, .bool true, .int .i64 f7.a, .int .i64 f7.b, .bool f7.yes, .int .i64 f7.chance.least, .int .i64 f7.chance.most, .int .i64 f7.chance.all]
  clear T
  go_wp2_with fail
  rw [← hwq, ← hxb]
  clear hwq hxb kq
  refine (council_Alarms_any V shownC (some ⟨xb, 0, none⟩) 1 [{ f7 with drill := true }] _ (T2.ca.wide (Nat.le_of_lt T2.cl.lt)) (Rd.of_blk (enc := encItem) (sz := 9) [{ f7 with drill := true }] (fun _ => rfl) rfl XB none (by simp)) (by simp)).mono ?_
  rintro e w17 ⟨A9, n9, q9, rfl, hn9, k17⟩
  rw [hl7.out.1] at hn9 ⊢
  obtain rfl := (hn9 rfl).trans hl7.out.2
  have K9 := (T2.kpN k17).kp
  clear hn9 hl7 T2 k17 XB cB cc
  go_wp2
  go_ret
  exact ⟨rfl, K9⟩
end Go.Proofs.Ytogpgnljomchcaa
