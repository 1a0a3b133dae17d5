/- CouncilOrders: the walk. -/
import Derived.Test.YtogpgnljomchcaaOr
import Derived.Test.YtogpgnljomchcaaMd
import Derived.Test.YtogpgnljomchcaaSameAll
import Derived.Test.YtogpgnljomchcaaTree
import Derived.Deep.DeepCutAuto
import Derived.Deep.CutBlock
namespace Go.Proofs.Ytogpgnljomchcaa
open Go.RowKit

/-- what stands throughout: the item, the council, the items -/
structure OS (W : World) (b5 cb : Nat) (n : CItem) (V : CV) (c : Council) (A : Option Addr) (l : List CItem) (w : World) : Prop where
  n5 : Blk w b5 31 #[.int .i64 n.kind, .int .i64 n.tick, .bool n.drill, .int .i64 n.a, .int .i64 n.b, .bool n.yes, .int .i64 n.chance.least, .int .i64 n.chance.most, .int .i64 n.chance.all]
  cl : Blk w cb 26 #[.slice V.am c.members.length V.cm, .slice V.al c.laws.length V.cl, .slice V.av c.levels.length V.cv]
  ca : CAt w.heap.size w V c
  rd : Rd none w 9 encItem A l.length l
  kp : Kp W.heap.size none W w
section
variable {W w w' : World} {b5 cb : Nat} {n : CItem} {V : CV} {c : Council} {A : Option Addr} {l : List CItem}
theorem OS.kpN (s : OS W b5 cb n V c A l w) (q : Kp w.heap.size none w w') : OS W b5 cb n V c A l w' :=
  ⟨s.n5.kpN q, s.cl.kpN q, s.ca.next q, s.rd.kpN q, s.kp.thenN q (Nat.le_refl _)⟩
end
/-- a house in a cell, to be read only -/
structure Hs (hb : Nat) (X : HV) (x : House) (w : World) : Prop where
  hl : Blk w hb 46 #[.int .i64 x.tick, .int .i64 x.real.items, .slice X.r.fa x.real.facts.length X.r.fc, .slice X.r.ma x.real.motions.length X.r.mc, .slice X.r.sa x.real.sent.length X.r.sc, .int .i64 x.drill.items, .slice X.d.fa x.drill.facts.length X.d.fc, .slice X.d.ma x.drill.motions.length X.d.mc, .slice X.d.sa x.drill.sent.length X.d.sc]
  sa : SAt w.heap.size w X x
theorem Hs.kpN {w w' : World} {hb : Nat} {X : HV} {x : House} (s : Hs hb X x w) (q : Kp w.heap.size none w w') : Hs hb X x w' := ⟨s.hl.kpN q, s.sa.next q⟩
def zeroI : Array Value := #[.int .i64 0, .int .i64 0, .bool false, .int .i64 0, .int .i64 0, .bool false, .int .i64 0, .int .i64 0, .int .i64 0]
set_option maxRecDepth 20000 in
set_option maxHeartbeats 8000000 in
theorem law_CouncilOrders_any (A : Option Addr) (cap : Nat) (nums : List Int) (at0 : Int) (nn : CItem) (w : World) (h : Rd none w 1 (fun x => [Value.int .i64 x]) A nums.length nums) (hn : nums.length ≤ 17592186044416) :
    Calls Try.prog 10 #[.slice A nums.length cap, .int .i64 at0, .agg #[.int .i64 nn.kind, .int .i64 nn.tick, .bool nn.drill, .int .i64 nn.a, .int .i64 nn.b, .bool nn.yes, .int .i64 nn.chance.least, .int .i64 nn.chance.most, .int .i64 nn.chance.all]] w fun e w' => e = .returned (.bool true) ∧ Kp w.heap.size none w w' := by
  have B5 := Blk.new w 31 #[.int .i64 nn.kind, .int .i64 nn.tick, .bool nn.drill, .int .i64 nn.a, .int .i64 nn.b, .bool nn.yes, .int .i64 nn.chance.least, .int .i64 nn.chance.most, .int .i64 nn.chance.all]
  have K0 := Kp.new w (.cells #[.int .i64 nn.kind, .int .i64 nn.tick, .bool nn.drill, .int .i64 nn.a, .int .i64 nn.b, .bool nn.yes, .int .i64 nn.chance.least, .int .i64 nn.chance.most, .int .i64 nn.chance.all] 31)
  replace h := h.kpN K0
  go_enter Try.func10, Try.ntmps10
  go_upto_region 1 with (fail)
  obtain ⟨b5, hb5⟩ : ∃ q, q = w.heap.size := ⟨_, rfl⟩
  rw [← hb5] at B5
  rw [← hb5]
  change Code.wp _ _ _ _ (w.alloc (.cells #[.int .i64 nn.kind, .int .i64 nn.tick, .bool nn.drill, .int .i64 nn.a, .int .i64 nn.b, .bool nn.yes, .int .i64 nn.chance.least, .int .i64 nn.chance.most, .int .i64 nn.chance.all] 31))
  generalize w.alloc (.cells #[.int .i64 nn.kind, .int .i64 nn.tick, .bool nn.drill, .int .i64 nn.a, .int .i64 nn.b, .bool nn.yes, .int .i64 nn.chance.least, .int .i64 nn.chance.most, .int .i64 nn.chance.all] 31) = w1 at B5 K0 h ⊢
  clear hb5
  go_wp2_with fail
  refine (made_any A cap nums _ h hn).mono ?_
  rintro e w2 ⟨g, V, c, A2, cap2, l, x, k, rfl, hok, hl, hD, hC, hfar, hrd, hk, hrg, hgW, K1⟩
  clear h hn
  have kc := Kp.new w2 (.cells #[.slice V.am c.members.length V.cm, .slice V.al c.laws.length V.cl, .slice V.av c.levels.length V.cv] 26)
  have T : OS w b5 w2.heap.size nn V c A2 l (w2.alloc (.cells #[.slice V.am c.members.length V.cm, .slice V.al c.laws.length V.cl, .slice V.av c.levels.length V.cv] 26)) := ⟨(B5.kpN K1).kpN kc, Blk.new w2 _ _, hC.next kc, hrd.free.kpN kc, (K0.thenN K1 (Nat.le_refl _)).thenN kc (Nat.le_refl _)⟩
  clear hC hfar hrd hrg K1 kc hgW hk B5 K0
  go_upto_region 2 with (fail)
  obtain ⟨cb, hcb⟩ : ∃ q, q = w2.heap.size := ⟨_, rfl⟩
  rw [← hcb] at T ⊢
  change Code.wp _ _ _ _ (w2.alloc (.cells #[.slice V.am c.members.length V.cm, .slice V.al c.laws.length V.cl, .slice V.av c.levels.length V.cv] 26))
  generalize w2.alloc (.cells #[.slice V.am c.members.length V.cm, .slice V.al c.laws.length V.cl, .slice V.av c.levels.length V.cv] 26) = w3 at T ⊢
  clear hcb
  have hbx := build_done hok.chk (by omega) hD
  have hxo : HouseOk c (0 + l.length) x := hD.ok (councilOk_of hok.chk) (zeroHouse_ok c 0)
  rw [Nat.zero_add] at hxo
  replace hbx := Lib.hid hbx
  replace hxo := Lib.hid hxo
  replace hD := Lib.hid hD
  have cc := fun i => T.cl.cell i
  go_wp2_with fail
  refine (build_see V c A2 cap2 l _ T.ca T.rd (by omega)).mono ?_
  rw [hbx.out]
  rintro e w4 ⟨v, X, hX, rfl, -, sx, k4⟩
  simp only
  replace sx : SAt w4.heap.size w4 X x := sx
  replace T := T.kpN k4
  clear k4 cc v hX hbx
  have kh := Kp.new w4 (.cells #[.int .i64 x.tick, .int .i64 x.real.items, .slice X.r.fa x.real.facts.length X.r.fc, .slice X.r.ma x.real.motions.length X.r.mc, .slice X.r.sa x.real.sent.length X.r.sc, .int .i64 x.drill.items, .slice X.d.fa x.drill.facts.length X.d.fc, .slice X.d.ma x.drill.motions.length X.d.mc, .slice X.d.sa x.drill.sent.length X.d.sc] 46)
  have HX : Hs w4.heap.size X x (w4.alloc (.cells #[.int .i64 x.tick, .int .i64 x.real.items, .slice X.r.fa x.real.facts.length X.r.fc, .slice X.r.ma x.real.motions.length X.r.mc, .slice X.r.sa x.real.sent.length X.r.sc, .int .i64 x.drill.items, .slice X.d.fa x.drill.facts.length X.d.fc, .slice X.d.ma x.drill.motions.length X.d.mc, .slice X.d.sa x.drill.sent.length X.d.sc] 46)) := ⟨Blk.new _ _ _, sx.next kh⟩
  replace T := T.kpN kh
  clear kh sx
  go_upto_region 5 with (fail)
  obtain ⟨hb, hhb⟩ : ∃ q, q = w4.heap.size := ⟨_, rfl⟩
  rw [← hhb] at HX
  rw [← hhb]
  change Code.wp _ _ _ _ (w4.alloc (.cells #[.int .i64 x.tick, .int .i64 x.real.items, .slice X.r.fa x.real.facts.length X.r.fc, .slice X.r.ma x.real.motions.length X.r.mc, .slice X.r.sa x.real.sent.length X.r.sc, .int .i64 x.drill.items, .slice X.d.fa x.drill.facts.length X.d.fc, .slice X.d.ma x.drill.motions.length X.d.mc, .slice X.d.sa x.drill.sent.length X.d.sc] 46))
  generalize w4.alloc (.cells #[.int .i64 x.tick, .int .i64 x.real.items, .slice X.r.fa x.real.facts.length X.r.fc, .slice X.r.ma x.real.motions.length X.r.mc, .slice X.r.sa x.real.sent.length X.r.sc, .int .i64 x.drill.items, .slice X.d.fa x.drill.facts.length X.d.fc, .slice X.d.ma x.drill.motions.length X.d.mc, .slice X.d.sa x.drill.sent.length X.d.sc] 46) = wb at T HX ⊢
  clear hhb
  obtain ⟨m, hm⟩ : ∃ q, q = l ++ [nn] := ⟨_, rfl⟩
  have hml : m.length = l.length + 1 := by rw [hm]; simp
  have hyo := buildC_ok c m
  have hy := orders_more (n := nn) hok.chk (by omega) hD.out
  rw [← hm] at hy
  obtain ⟨R, hR⟩ : ∃ R, R = buildC c m := ⟨_, rfl⟩
  rw [← hR] at hyo hy
  obtain ⟨y, yi, ye⟩ := R
  replace hyo : HouseOk c m.length y := hyo
  replace hy : (ye ≠ 0 ∧ yi = (l.length : Int) ∧ y = x) ∨ (ye = 0 ∧ yi = -1 ∧ y.real.items + y.drill.items = (l.length : Int) + 1) := hy
  replace hR := Lib.hid hR
  replace hyo := Lib.hid hyo
  replace hy := Lib.hid hy
  replace hm := Lib.hid hm
  replace hml := Lib.hid hml
  have CB := T.cl
  have IB := T.n5
  have hrd0 := T.rd
  have hca0 := T.ca
  go_cut [13, 14, 15] (fun p q r wx => ∃ yb Y, p = .pointer (some ⟨yb, 0, none⟩) ∧ q = .int .i64 yi ∧ r = .int .i64 ye ∧ OS w b5 cb nn V c A2 l wx ∧ Hs hb X x wx ∧ Hs yb Y y wx)
  case first =>
    refine wp_region_inv (Γ := GM) [none, none, none, none, none, none, none, none, none, none, none, none, none, some 12, some 14, some 15, none, none, none, none, none, none, none, none, none, none, none, none, none, none, none, none, none, none, none, none, none, none, none, some 8, some 0, some 1, some 2, some 3, some 4, some 5, some 6, some 7, some 9, some 10, some 11] [[], [], [], [1, 2], [], [4], [1, 2, 3, 4, 5], [0, 1, 2, 3, 4, 5, 6], [0, 1, 2, 3, 4, 5, 6, 7], [0, 1, 2, 3, 4, 5, 6, 7, 8], [0, 1, 2, 3, 4, 5, 6, 7, 8], [0, 1, 2, 3, 4, 5, 6, 7, 8], [], [0, 1, 2, 3, 4, 5, 6, 7, 8, 9, 12], [0, 1, 2, 3, 4, 5, 6, 7, 8, 9, 10, 12, 13], [0, 1, 2, 3, 4, 5, 6, 7, 8, 9, 10, 11, 12, 13, 14]] [[1, 2, 3, 4, 5, 6, 12], [0, 2, 4, 5, 12], [0, 1, 4, 5, 12], [0, 1, 2, 4, 5, 12], [0, 1, 2, 3, 12], [0, 1, 2, 3, 4, 12], [0, 1, 2, 3, 4, 5, 12], [0, 1, 2, 3, 4, 5, 6, 12], [0, 1, 2, 3, 4, 5, 6, 7, 12], [0, 1, 2, 3, 4, 5, 6, 7, 8, 10, 11, 12], [0, 1, 2, 3, 4, 5, 6, 7, 8, 9, 11, 12, 13], [0, 1, 2, 3, 4, 5, 6, 7, 8, 9, 10, 12, 13, 14], [0, 1, 2, 3, 4, 5, 6, 7, 8, 9, 10, 11], [0, 1, 2, 3, 4, 5, 6, 7, 8, 9, 10, 11, 12], [0, 1, 2, 3, 4, 5, 6, 7, 8, 9, 10, 11, 12, 13], [0, 1, 2, 3, 4, 5, 6, 7, 8, 9, 10, 11, 12, 13, 14]] (fun γ => [.agg #[.slice V.am c.members.length V.cm, .slice V.al c.laws.length V.cl, .slice V.av c.levels.length V.cv], .slice (some ⟨γ.nb, 0, none⟩) 0 0, .slice A2 l.length cap2, .slice γ.A3 l.length γ.c3, .agg #[.int .i64 nn.kind, .int .i64 nn.tick, .bool nn.drill, .int .i64 nn.a, .int .i64 nn.b, .bool nn.yes, .int .i64 nn.chance.least, .int .i64 nn.chance.most, .int .i64 nn.chance.all], .slice (some ⟨γ.xb, 0, none⟩) 1 1, .slice γ.A6 m.length γ.c6, .tuple #[.agg #[.int .i64 y.tick, .int .i64 y.real.items, .slice γ.X.r.fa y.real.facts.length γ.X.r.fc, .slice γ.X.r.ma y.real.motions.length γ.X.r.mc, .slice γ.X.r.sa y.real.sent.length γ.X.r.sc, .int .i64 y.drill.items, .slice γ.X.d.fa y.drill.facts.length γ.X.d.fc, .slice γ.X.d.ma y.drill.motions.length γ.X.d.mc, .slice γ.X.d.sa y.drill.sent.length γ.X.d.sc], .int .i64 yi, .int .i64 ye], .tuple #[.agg #[.int .i64 y.tick, .int .i64 y.real.items, .slice γ.X.r.fa y.real.facts.length γ.X.r.fc, .slice γ.X.r.ma y.real.motions.length γ.X.r.mc, .slice γ.X.r.sa y.real.sent.length γ.X.r.sc, .int .i64 y.drill.items, .slice γ.X.d.fa y.drill.facts.length γ.X.d.fc, .slice γ.X.d.ma y.drill.motions.length γ.X.d.mc, .slice γ.X.d.sa y.drill.sent.length γ.X.d.sc], .int .i64 yi, .int .i64 ye], .agg #[.int .i64 y.tick, .int .i64 y.real.items, .slice γ.X.r.fa y.real.facts.length γ.X.r.fc, .slice γ.X.r.ma y.real.motions.length γ.X.r.mc, .slice γ.X.r.sa y.real.sent.length γ.X.r.sc, .int .i64 y.drill.items, .slice γ.X.d.fa y.drill.facts.length γ.X.d.fc, .slice γ.X.d.ma y.drill.motions.length γ.X.d.mc, .slice γ.X.d.sa y.drill.sent.length γ.X.d.sc], .int .i64 yi, .int .i64 ye, .pointer (some ⟨γ.yb, 0, none⟩), undef, .int .i64 yi, .int .i64 ye]) (fun γ => [none, none, none, none, none, none, none, none, none, none, none, none, none, some (.pointer (some ⟨γ.yb, 0, none⟩)), some (.int .i64 yi), some (.int .i64 ye), none, none, none, none, none, none, none, none, none, none, none, none, none, none, none, none, none, none, none, none, none, none, none, some (.tuple #[.agg #[.int .i64 y.tick, .int .i64 y.real.items, .slice γ.X.r.fa y.real.facts.length γ.X.r.fc, .slice γ.X.r.ma y.real.motions.length γ.X.r.mc, .slice γ.X.r.sa y.real.sent.length γ.X.r.sc, .int .i64 y.drill.items, .slice γ.X.d.fa y.drill.facts.length γ.X.d.fc, .slice γ.X.d.ma y.drill.motions.length γ.X.d.mc, .slice γ.X.d.sa y.drill.sent.length γ.X.d.sc], .int .i64 yi, .int .i64 ye]), some (.agg #[.slice V.am c.members.length V.cm, .slice V.al c.laws.length V.cl, .slice V.av c.levels.length V.cv]), some (.slice (some ⟨γ.nb, 0, none⟩) 0 0), some (.slice A2 l.length cap2), some (.slice γ.A3 l.length γ.c3), some (.agg #[.int .i64 nn.kind, .int .i64 nn.tick, .bool nn.drill, .int .i64 nn.a, .int .i64 nn.b, .bool nn.yes, .int .i64 nn.chance.least, .int .i64 nn.chance.most, .int .i64 nn.chance.all]), some (.slice (some ⟨γ.xb, 0, none⟩) 1 1), some (.slice γ.A6 m.length γ.c6), some (.tuple #[.agg #[.int .i64 y.tick, .int .i64 y.real.items, .slice γ.X.r.fa y.real.facts.length γ.X.r.fc, .slice γ.X.r.ma y.real.motions.length γ.X.r.mc, .slice γ.X.r.sa y.real.sent.length γ.X.r.sc, .int .i64 y.drill.items, .slice γ.X.d.fa y.drill.facts.length γ.X.d.fc, .slice γ.X.d.ma y.drill.motions.length γ.X.d.mc, .slice γ.X.d.sa y.drill.sent.length γ.X.d.sc], .int .i64 yi, .int .i64 ye]), some (.agg #[.int .i64 y.tick, .int .i64 y.real.items, .slice γ.X.r.fa y.real.facts.length γ.X.r.fc, .slice γ.X.r.ma y.real.motions.length γ.X.r.mc, .slice γ.X.r.sa y.real.sent.length γ.X.r.sc, .int .i64 y.drill.items, .slice γ.X.d.fa y.drill.facts.length γ.X.d.fc, .slice γ.X.d.ma y.drill.motions.length γ.X.d.mc, .slice γ.X.d.sa y.drill.sent.length γ.X.d.sc]), some (.int .i64 yi), some (.int .i64 ye)]) ?A5_1 (fun n D γ w => LMore wb l m nn y D γ w) (fun k γ w => match k with | 1 => γ.d1 = true | 3 => γ.d3 = true | 5 => γ.d5 = true | 6 => γ.d6 = true | 7 => γ.d7 = true | 12 => γ.d12 = true | 13 => γ.d13 = true | _ => True) gm0 (by kernel_rfl) (fun _ => rfl) ?hA5_1 (by kernel_rfl) ?hB05_1 ?hop5_1 ?hend5_1
    case hA5_1 => intro γ; dsimp only [fullV]; rfl
    case hB05_1 =>
      exact LMore.start (Kp.refl _ _ _).drew
    case hop5_1 =>
      intro hA
      refine ⟨?_, ?_, ?_, ?_, ?_, ?_, ?_, ?_, ?_, ?_, ?_, ?_, ?_, ?_, ?_, ?_, trivial⟩
      · refine opOk_v hA (fun _ => rfl) (fun _ _ => trivial) ?_ ?_
        · intro n D γ w hn h
          replace hn : n < 16 := hn
          try dsimp only at h
          exact { h with f1 := h.f1, f3 := h.f3, f5 := h.f5, f6 := h.f6, f7 := h.f7, f12 := h.f12, f13 := h.f13 }
        intro n D γ w hB hU K hK
        try dsimp only at hB
        try dsimp only
        have cc := fun i => (CB.kpN hB.kp).cell i
        have ci := fun i => (IB.kpN hB.kp).cell i
        clear hB hU
        go_step
        exact hK _ rfl
      · refine opOk_l hA (fun _ => rfl) ?_
        intro n D γ w hn hD hB hU K hK
        try dsimp only at hB
        clear hU
        replace hn : n < 16 := hn
        try dsimp only
        go_step
        refine hK _ _ { γ with nb := w.heap.size, d1 := true } rfl (hB.op1 hD rfl) rfl ?_
        try dsimp only [allP, List.getD_cons_zero, List.getD_cons_succ]
        (repeat' apply And.intro) <;> first | exact rfl | exact trivial | exact id | assumption
      · refine opOk_v hA (fun _ => rfl) (fun _ _ => trivial) ?_ ?_
        · intro n D γ w hn h
          replace hn : n < 16 := hn
          try dsimp only at h
          exact { h with f1 := h.f1, f3 := h.f3, f5 := h.f5, f6 := h.f6, f7 := h.f7, f12 := h.f12, f13 := h.f13 }
        intro n D γ w hB hU K hK
        try dsimp only at hB
        try dsimp only
        clear hB hU
        go_step
        exact hK _ rfl
      · refine opOk_l hA (fun _ => rfl) ?_
        intro n D γ w hn hD hB hU K hK
        try dsimp only at hB
        replace hU : (γ.d1 = true) := hU.1
        replace hn : n < 16 := hn
        try dsimp only
        have e3 : γ.d3 = false := hB.f3.symm.trans hD
        refine wp_append_items (.tmp 41) (.tmp 42) (by rfl) wb.heap.size (.slice (some ⟨γ.nb, 0, none⟩) 0 0) [] A2 cap2 l (by rfl) (by rfl) (hB.r1 hU e3) (hrd0.kpN hB.kp) (by simp; omega) hB.kp.size ?_
        intro v' w' own hg hat
        rw [List.nil_append] at own
        obtain ⟨A9, c9, rfl, -, -⟩ := own.rd (row := none) (fun _ => rfl) (fun b hb e => by cases e)
        refine hK _ _ { γ with A3 := A9, c3 := c9, d3 := true } rfl (hB.op3 hD hU own hg hat) rfl ?_
        try dsimp only [allP, List.getD_cons_zero, List.getD_cons_succ]
        (repeat' apply And.intro) <;> first | exact rfl | exact trivial | exact id | assumption
      · refine opOk_v hA (fun _ => rfl) (fun _ _ => trivial) ?_ ?_
        · intro n D γ w hn h
          replace hn : n < 16 := hn
          try dsimp only at h
          exact { h with f1 := h.f1, f3 := h.f3, f5 := h.f5, f6 := h.f6, f7 := h.f7, f12 := h.f12, f13 := h.f13 }
        intro n D γ w hB hU K hK
        try dsimp only at hB
        try dsimp only
        have cc := fun i => (CB.kpN hB.kp).cell i
        have ci := fun i => (IB.kpN hB.kp).cell i
        clear hB hU
        go_step
        exact hK _ rfl
      · refine opOk_l hA (fun _ => rfl) ?_
        intro n D γ w hn hD hB hU K hK
        try dsimp only at hB
        clear hU
        replace hn : n < 16 := hn
        try dsimp only
        go_step
        refine hK _ _ { γ with xb := w.heap.size, d5 := true } rfl (hB.op5 hD rfl) rfl ?_
        try dsimp only [allP, List.getD_cons_zero, List.getD_cons_succ]
        (repeat' apply And.intro) <;> first | exact rfl | exact trivial | exact id | assumption
      · refine opOk_l hA (fun _ => rfl) ?_
        intro n D γ w hn hD hB hU K hK
        try dsimp only at hB
        replace hU : (γ.d1 = true) ∧ (γ.d3 = true) ∧ (γ.d5 = true) := ⟨hU.1, hU.2.2.1, hU.2.2.2.2.1⟩
        replace hn : n < 16 := hn
        try dsimp only
        obtain ⟨h1, h3, h5⟩ := hU
        have e6 : γ.d6 = false := hB.f6.symm.trans hD
        refine wp_append_items (.tmp 43) (.tmp 45) (by rfl) wb.heap.size (.slice γ.A3 l.length γ.c3) l (some ⟨γ.xb, 0, none⟩) 1 [nn] (by rfl) (by rfl) (hB.r3 h3 e6) (Rd.of_blk (enc := encItem) (sz := 9) [nn] (fun _ => rfl) rfl (hB.r5 h5 e6) none (by simp)) (by simp; omega) hB.kp.size ?_
        intro v' w' own hg hat
        rw [← hm.out] at own
        obtain ⟨A9, c9, rfl, -, -⟩ := own.rd (row := none) (fun _ => rfl) (fun b hb e => by cases e)
        refine hK _ _ { γ with A6 := A9, c6 := c9, d6 := true } rfl (hB.op6 hD h3 h5 own hg) rfl ?_
        try dsimp only [allP, List.getD_cons_zero, List.getD_cons_succ]
        (repeat' apply And.intro) <;> first | exact rfl | exact trivial | exact id | assumption
      · refine opOk_l hA (fun _ => rfl) ?_
        intro n D γ w hn hD hB hU K hK
        try dsimp only at hB
        replace hU : (γ.d1 = true) ∧ (γ.d3 = true) ∧ (γ.d5 = true) ∧ (γ.d6 = true) := ⟨hU.2.1, hU.2.2.2.1, hU.2.2.2.2.2.1, hU.2.2.2.2.2.2.1⟩
        replace hn : n < 16 := hn
        try dsimp only
        obtain ⟨h1, h3, h5, h6⟩ := hU
        have e7 : γ.d7 = false := hB.f7.symm.trans hD
        have R9 : Rd none w 9 encItem γ.A6 m.length m := by
          obtain ⟨A9, c9, e9, R9, -⟩ := (hB.r6 h6 e7).rd (row := none) (fun _ => rfl) (fun b hb e => by cases e)
          injection e9 with e91 e92 e93
          rw [← e91] at R9
          exact R9
        go_step
        refine (build_see V c γ.A6 γ.c6 m _ ((hca0.kpN hB.kp).wide hB.kp.size) R9 (by have := hml.out; omega)).mono ?_
        rw [← hR.out]
        rintro e w7 ⟨v, X, hX, rfl, HA, -, k7⟩
        refine hK _ _ { γ with v := v, X := X, d7 := true } rfl (hB.op7 hD h6 hX HA k7) rfl ?_
        try dsimp only [allP, List.getD_cons_zero, List.getD_cons_succ]
        (repeat' apply And.intro) <;> first | exact rfl | exact trivial | exact id | assumption
      · refine opOk_v hA (fun _ => rfl) (fun _ _ => trivial) ?_ ?_
        · intro n D γ w hn h
          replace hn : n < 16 := hn
          try dsimp only at h
          exact { h with f1 := h.f1, f3 := h.f3, f5 := h.f5, f6 := h.f6, f7 := h.f7, f12 := h.f12, f13 := h.f13 }
        intro n D γ w hB hU K hK
        try dsimp only at hB
        try dsimp only
        clear hB hU
        go_step
        exact hK _ rfl
      · refine opOk_v hA (fun _ => rfl) (fun _ _ => trivial) ?_ ?_
        · intro n D γ w hn h
          replace hn : n < 16 := hn
          try dsimp only at h
          exact { h with f1 := h.f1, f3 := h.f3, f5 := h.f5, f6 := h.f6, f7 := h.f7, f12 := h.f12, f13 := h.f13 }
        intro n D γ w hB hU K hK
        try dsimp only at hB
        try dsimp only
        clear hB hU
        go_step
        exact hK _ rfl
      · refine opOk_v hA (fun _ => rfl) (fun _ _ => trivial) ?_ ?_
        · intro n D γ w hn h
          replace hn : n < 16 := hn
          try dsimp only at h
          exact { h with f1 := h.f1, f3 := h.f3, f5 := h.f5, f6 := h.f6, f7 := h.f7, f12 := h.f12, f13 := h.f13 }
        intro n D γ w hB hU K hK
        try dsimp only at hB
        try dsimp only
        clear hB hU
        go_step
        exact hK _ rfl
      · refine opOk_v hA (fun _ => rfl) (fun _ _ => trivial) ?_ ?_
        · intro n D γ w hn h
          replace hn : n < 16 := hn
          try dsimp only at h
          exact { h with f1 := h.f1, f3 := h.f3, f5 := h.f5, f6 := h.f6, f7 := h.f7, f12 := h.f12, f13 := h.f13 }
        intro n D γ w hB hU K hK
        try dsimp only at hB
        try dsimp only
        clear hB hU
        go_step
        exact hK _ rfl
      · refine opOk_l hA (fun _ => rfl) ?_
        intro n D γ w hn hD hB hU K hK
        try dsimp only at hB
        clear hU
        replace hn : n < 16 := hn
        try dsimp only
        go_step
        refine hK _ _ { γ with yb := w.heap.size, d12 := true } rfl (hB.op12 hD rfl) rfl ?_
        try dsimp only [allP, List.getD_cons_zero, List.getD_cons_succ]
        (repeat' apply And.intro) <;> first | exact rfl | exact trivial | exact id | assumption
      · refine opOk_l hA (fun _ => rfl) ?_
        intro n D γ w hn hD hB hU K hK
        try dsimp only at hB
        replace hU : (γ.d1 = true) ∧ (γ.d3 = true) ∧ (γ.d5 = true) ∧ (γ.d6 = true) ∧ (γ.d7 = true) ∧ (γ.d12 = true) := ⟨hU.2.1, hU.2.2.2.1, hU.2.2.2.2.2.1, hU.2.2.2.2.2.2.1, hU.2.2.2.2.2.2.2.1, hU.2.2.2.2.2.2.2.2.2.2.1⟩
        replace hn : n < 16 := hn
        try dsimp only
        obtain ⟨h1, h3, h5, h6, h7, h12⟩ := hU
        have e13 : γ.d13 = false := hB.f13.symm.trans hD
        have YB9 : Blk w γ.yb 46 #[.int .i64 0, .int .i64 0, .slice none 0 0, .slice none 0 0, .slice none 0 0, .int .i64 0, .slice none 0 0, .slice none 0 0, .slice none 0 0] := hB.r12 h12 e13
        have cB := fun i => YB9.cell i
        have fB := fun i => YB9.frozen i
        go_step
        refine hK _ _ { γ with d13 := true } rfl (hB.op13 hD h7 h12 rfl) rfl ?_
        try dsimp only [allP, List.getD_cons_zero, List.getD_cons_succ]
        (repeat' apply And.intro) <;> first | exact rfl | exact trivial | exact id | assumption
      · refine opOk_v hA (fun _ => rfl) (fun _ _ => trivial) ?_ ?_
        · intro n D γ w hn h
          replace hn : n < 16 := hn
          try dsimp only at h
          exact { h with f1 := h.f1, f3 := h.f3, f5 := h.f5, f6 := h.f6, f7 := h.f7, f12 := h.f12, f13 := h.f13 }
        intro n D γ w hB hU K hK
        try dsimp only at hB
        try dsimp only
        clear hB hU
        go_step
        exact hK _ rfl
      · refine opOk_v hA (fun _ => rfl) (fun _ _ => trivial) ?_ ?_
        · intro n D γ w hn h
          replace hn : n < 16 := hn
          try dsimp only at h
          exact { h with f1 := h.f1, f3 := h.f3, f5 := h.f5, f6 := h.f6, f7 := h.f7, f12 := h.f12, f13 := h.f13 }
        intro n D γ w hB hU K hK
        try dsimp only at hB
        try dsimp only
        clear hB hU
        go_step
        exact hK _ rfl
    case hend5_1 =>
      intro n D γ w hn hD hB hF
      replace hF := fun k (hk : k < 16) => hF k hk
      replace hF := (⟨hF 1 (by decide), hF 3 (by decide), hF 5 (by decide), hF 6 (by decide), hF 7 (by decide), hF 12 (by decide), hF 13 (by decide)⟩ : _ ∧ _ ∧ _ ∧ _ ∧ _ ∧ _ ∧ _)
      try dsimp only at hB
      try dsimp only at hF
      replace hn : n ≤ 16 := hn
      try dsimp only
      obtain ⟨-, -, -, -, h7, h12, h13⟩ := hF
      have HY0 := hB.r13 h13
      obtain ⟨⟨B9, hB9, HA⟩, hX9⟩ := hB.r7 h7
      have HY : Hs γ.yb γ.X y w := ⟨HY0, by rw [hX9]; exact HA.sat hyo.out (by have := hml.out; omega)⟩
      replace T := T.kpN hB.kp
      replace HX := HX.kpN hB.kp
      go_wp2_with fail
      go_meet
      case rel => exact ⟨γ.yb, γ.X, rfl, rfl, rfl, T, HX, HY⟩
  case rest =>
  clear T HX CB IB hrd0 hca0 hm hR
  rename World => wc
  obtain ⟨yb, Y, rfl, rfl, rfl, T, HX, HY⟩ := hcut
  go_upto_region 6 with (fail)
  go_cut [6, 85] (fun p q wx => p = .bool false ∧ q = .bool false ∧ OS w b5 cb nn V c A2 l wx ∧ Hs hb X x wx)
  case first =>
    have cx := fun i => HX.hl.cell i
    rcases hy.out with ⟨e1, e2, e3⟩ | ⟨e1, e2, e3⟩
    · subst e2
      have HY2 := HY
      rw [e3] at HY2
      clear e3
      have e4 : (ye != 0) = true := by simpa using e1
      have e5 : (ye == 0) = false := by simpa using e1
      have sx := HX.sa
      have sy := HY2.sa
      have cy := fun i => HY2.hl.cell i
      clear HY HY2 e1
      replace sx := Lib.hid sx
      replace sy := Lib.hid sy
      go_wp2_with fail
      refine (council_Same_any X Y x x _ sx.out sy.out).mono ?_
      rintro e w5 ⟨rfl, k5⟩
      rw [show decide (x = x) = true from decide_eq_true rfl]
      replace T := T.kpN k5
      replace HX := HX.kpN k5
      clear k5 cx cy sx sy
      go_wp2_with fail
      go_meet
      case rel => exact ⟨rfl, rfl, T, HX⟩
    · subst e1 e2
      have i0 : 0 ≤ y.real.items := (hyo.out.led false).it0
      have i1 : y.real.items ≤ m.length := (hyo.out.led false).itn
      have i2 : 0 ≤ y.drill.items := (hyo.out.led true).it0
      have i3 : y.drill.items ≤ m.length := (hyo.out.led true).itn
      have i4 := hml.out
      have i5 : y.real.items ≤ 17 := by omega
      have i6 : y.drill.items ≤ 17 := by omega
      clear i1 i3 i4
      have e6 : (y.real.items + y.drill.items != (l.length : Int) + 1) = false := by rw [e3]; simp
      clear e3
      have cy := fun i => HY.hl.cell i
      go_wp2_with fail
      go_meet
      case rel => exact ⟨rfl, rfl, T, HX⟩
  case rest =>
  clear T HX HY hy hyo hml
  rename World => wd
  obtain ⟨rfl, rfl, T, HX⟩ := hcut
  by_cases hl2 : l.length < 2
  · have hl3 : (l.length : Int) < 2 := by omega
    go_wp2_with fail
    refine (awake_any _).mono ?_
    rintro e w99 ⟨rfl, k99⟩
    have K9 := T.kp.thenN k99 (Nat.le_refl _)
    go_wp2
    go_ret
    exact ⟨rfl, K9⟩
  have hl3 : ¬ (l.length : Int) < 2 := by omega
  go_wp2_with fail
  refine (mod_any at0 ((l.length : Int) - 1) _ (by omega) (by omega)).mono ?_
  rintro e we ⟨rfl, rfl⟩
  obtain ⟨i, hi⟩ : ∃ i : Nat, at0 % ((l.length : Int) - 1) = (i : Int) := ⟨(at0 % ((l.length : Int) - 1)).toNat, by have := Int.emod_nonneg at0 (show (l.length : Int) - 1 ≠ 0 by omega); omega⟩
  have hi2 : i + 1 < l.length := by have := Int.emod_lt_of_pos at0 (show 0 < (l.length : Int) - 1 by omega); omega
  simp only [hi]
  clear hi
  obtain ⟨b, o, eA, -, -, -⟩ := T.rd.2 (by omega)
  subst eA
  have hlc : ∀ j, (hj : j < l.length) → ∀ W, OS w b5 cb nn V c (some ⟨b, o, none⟩) l W → ∀ k u, (encItem l[j])[k]? = some u → W.cell? ⟨b, o + (j * 9 + k), none⟩ = some u := fun j hj W q k u hu => by
    obtain ⟨b2, o2, e2, -, -, hc⟩ := q.rd.2 (by omega)
    simp only [Option.some.injEq, Addr.mk.injEq] at e2
    obtain ⟨rfl, rfl, -⟩ := e2
    exact hc j hj k u hu
  have hA := hlc i (by omega)
  have hB := hlc (i + 1) hi2
  have hsw := fun ka kb ht hd => orders_swap hi2 ka kb ht hd hD.out
  obtain ⟨a, ha⟩ : ∃ q, q = l[i] := ⟨_, rfl⟩
  obtain ⟨b1, hb1⟩ : ∃ q, q = l[i + 1] := ⟨_, rfl⟩
  rw [← ha] at hA hsw
  rw [← hb1] at hB hsw
  have hj0 : (i : Int) < (l.length : Int) := by omega
  have hj1 : (i : Int) + 1 < (l.length : Int) := by omega
  clear hlc ha hb1
  replace hA := Lib.hid hA
  replace hB := Lib.hid hB
  replace hsw := Lib.hid hsw
  replace hD := Lib.hid hD
  go_upto_region 11 with (fail)
  go_cut [16, 17] (fun p q wx => ∃ ab bb, p = .pointer (some ⟨ab, 0, none⟩) ∧ q = .pointer (some ⟨bb, 0, none⟩) ∧ Blk wx ab 31 #[.int .i64 a.kind, .int .i64 a.tick, .bool a.drill, .int .i64 a.a, .int .i64 a.b, .bool a.yes, .int .i64 a.chance.least, .int .i64 a.chance.most, .int .i64 a.chance.all] ∧ Blk wx bb 31 #[.int .i64 b1.kind, .int .i64 b1.tick, .bool b1.drill, .int .i64 b1.a, .int .i64 b1.b, .bool b1.yes, .int .i64 b1.chance.least, .int .i64 b1.chance.most, .int .i64 b1.chance.all] ∧ OS w b5 cb nn V c (some ⟨b, o, none⟩) l wx ∧ Hs hb X x wx)
  case first =>
    have Q5 := (Kp.refl wd.heap.size none wd).drew
    obtain ⟨S0, hS⟩ : ∃ S0 : World → Prop, S0 = fun w' => OS w b5 cb nn V c (some ⟨b, o, none⟩) l w' := ⟨_, rfl⟩
    have hS0 : ∀ w', S0 w' ↔ OS w b5 cb nn V c (some ⟨b, o, none⟩) l w' := fun w' => by rw [hS]
    clear hS
    have x0 : ∀ q : Ev S0, q.w.cell? ⟨b, o + i * 9 + 0, none⟩ = some (.int .i64 a.kind) := fun q => by rw [Nat.add_assoc]; exact hA.out _ ((hS0 _).1 q.h) 0 _ rfl
    have y0 : ∀ q : Ev S0, q.w.cell? ⟨b, o + (i + 1) * 9 + 0, none⟩ = some (.int .i64 b1.kind) := fun q => by rw [Nat.add_assoc]; exact hB.out _ ((hS0 _).1 q.h) 0 _ rfl
    have x1 : ∀ q : Ev S0, q.w.cell? ⟨b, o + i * 9 + 1, none⟩ = some (.int .i64 a.tick) := fun q => by rw [Nat.add_assoc]; exact hA.out _ ((hS0 _).1 q.h) 1 _ rfl
    have y1 : ∀ q : Ev S0, q.w.cell? ⟨b, o + (i + 1) * 9 + 1, none⟩ = some (.int .i64 b1.tick) := fun q => by rw [Nat.add_assoc]; exact hB.out _ ((hS0 _).1 q.h) 1 _ rfl
    have x2 : ∀ q : Ev S0, q.w.cell? ⟨b, o + i * 9 + 2, none⟩ = some (.bool a.drill) := fun q => by rw [Nat.add_assoc]; exact hA.out _ ((hS0 _).1 q.h) 2 _ rfl
    have y2 : ∀ q : Ev S0, q.w.cell? ⟨b, o + (i + 1) * 9 + 2, none⟩ = some (.bool b1.drill) := fun q => by rw [Nat.add_assoc]; exact hB.out _ ((hS0 _).1 q.h) 2 _ rfl
    have x3 : ∀ q : Ev S0, q.w.cell? ⟨b, o + i * 9 + 3, none⟩ = some (.int .i64 a.a) := fun q => by rw [Nat.add_assoc]; exact hA.out _ ((hS0 _).1 q.h) 3 _ rfl
    have y3 : ∀ q : Ev S0, q.w.cell? ⟨b, o + (i + 1) * 9 + 3, none⟩ = some (.int .i64 b1.a) := fun q => by rw [Nat.add_assoc]; exact hB.out _ ((hS0 _).1 q.h) 3 _ rfl
    have x4 : ∀ q : Ev S0, q.w.cell? ⟨b, o + i * 9 + 4, none⟩ = some (.int .i64 a.b) := fun q => by rw [Nat.add_assoc]; exact hA.out _ ((hS0 _).1 q.h) 4 _ rfl
    have y4 : ∀ q : Ev S0, q.w.cell? ⟨b, o + (i + 1) * 9 + 4, none⟩ = some (.int .i64 b1.b) := fun q => by rw [Nat.add_assoc]; exact hB.out _ ((hS0 _).1 q.h) 4 _ rfl
    have x5 : ∀ q : Ev S0, q.w.cell? ⟨b, o + i * 9 + 5, none⟩ = some (.bool a.yes) := fun q => by rw [Nat.add_assoc]; exact hA.out _ ((hS0 _).1 q.h) 5 _ rfl
    have y5 : ∀ q : Ev S0, q.w.cell? ⟨b, o + (i + 1) * 9 + 5, none⟩ = some (.bool b1.yes) := fun q => by rw [Nat.add_assoc]; exact hB.out _ ((hS0 _).1 q.h) 5 _ rfl
    have x6 : ∀ q : Ev S0, q.w.cell? ⟨b, o + i * 9 + 6, none⟩ = some (.int .i64 a.chance.least) := fun q => by rw [Nat.add_assoc]; exact hA.out _ ((hS0 _).1 q.h) 6 _ rfl
    have y6 : ∀ q : Ev S0, q.w.cell? ⟨b, o + (i + 1) * 9 + 6, none⟩ = some (.int .i64 b1.chance.least) := fun q => by rw [Nat.add_assoc]; exact hB.out _ ((hS0 _).1 q.h) 6 _ rfl
    have x7 : ∀ q : Ev S0, q.w.cell? ⟨b, o + i * 9 + 7, none⟩ = some (.int .i64 a.chance.most) := fun q => by rw [Nat.add_assoc]; exact hA.out _ ((hS0 _).1 q.h) 7 _ rfl
    have y7 : ∀ q : Ev S0, q.w.cell? ⟨b, o + (i + 1) * 9 + 7, none⟩ = some (.int .i64 b1.chance.most) := fun q => by rw [Nat.add_assoc]; exact hB.out _ ((hS0 _).1 q.h) 7 _ rfl
    have x8 : ∀ q : Ev S0, q.w.cell? ⟨b, o + i * 9 + 8, none⟩ = some (.int .i64 a.chance.all) := fun q => by rw [Nat.add_assoc]; exact hA.out _ ((hS0 _).1 q.h) 8 _ rfl
    have y8 : ∀ q : Ev S0, q.w.cell? ⟨b, o + (i + 1) * 9 + 8, none⟩ = some (.int .i64 b1.chance.all) := fun q => by rw [Nat.add_assoc]; exact hB.out _ ((hS0 _).1 q.h) 8 _ rfl
    simp only [Nat.add_zero] at x0 y0
    replace T := Lib.hid T
    replace HX := Lib.hid HX
    have hevT := ev_true
    refine wp_region_tr S0 (.st 0 0 (.st 1 0 (.st 2 0 (.st 3 1 (.st 4 0 (.st 5 0 (.st 6 0 (.st 7 0 (.st 8 1 (.b2 9 (.st 10 2 (.st 11 2 (.st 12 2 .nil))) 10 (.st 9 2 (.st 11 2 (.st 12 2 .nil))))))))))))) (by kernel_rfl) (by kernel_rfl) ((hS0 _).2 (T.out.kpN Q5)) ?_
    intro _hev
    iterate 9 (first | (refine wpTr_v rfl rfl ?_; intro K hK; go_big_quiet_op; go_big_quiet_on) | (refine wpTr_q rfl rfl ?_; intro K hK; go_big_quiet_op; go_big_quiet_on) | refine wpTr_s rfl rfl ?_)
    refine wpTr_b2 ?_ ?_
    · refine wpOne_l rfl rfl ?_; intro K hK
      generalize wd.drew = wq at Q5 ⊢
      have hsz := Q5.size
      have kq := Kp.new wq (.cells zeroI 31)
      have AB := Blk.new wq 31 zeroI
      try (have hnl := BB.lt)
      try (replace BB := BB.kpN kq)
      replace Q5 := Q5.thenN kq (Nat.le_refl _)
      clear kq
      go_step
      change K _ (World.alloc wq (.cells zeroI 31))
      obtain ⟨ab, hnn⟩ : ∃ q, q = wq.heap.size := ⟨_, rfl⟩
      rw [← hnn] at AB
      rw [← hnn]
      have hab : wd.heap.size ≤ ab := by omega
      try (have hne : ab ≠ bb := by omega)
      clear hnn hsz
      try clear hnl
      generalize World.alloc wq (.cells zeroI 31) = wq9 at *
      rename World => wq
      refine hK _ _ ((hS0 _).2 (T.out.kpN Q5)) ?_
      clear hK K
      refine wpTr_l rfl rfl ?_; intro K hK
      have hsz := Q5.size
      have kq := Kp.new wq (.cells zeroI 31)
      have BB := Blk.new wq 31 zeroI
      try (have hnl := AB.lt)
      try (replace AB := AB.kpN kq)
      replace Q5 := Q5.thenN kq (Nat.le_refl _)
      clear kq
      go_step
      change K _ (World.alloc wq (.cells zeroI 31))
      obtain ⟨bb, hnn⟩ : ∃ q, q = wq.heap.size := ⟨_, rfl⟩
      rw [← hnn] at BB
      rw [← hnn]
      have hbb : wd.heap.size ≤ bb := by omega
      try (have hne : ab ≠ bb := by omega)
      clear hnn hsz
      try clear hnl
      generalize World.alloc wq (.cells zeroI 31) = wq9 at *
      rename World => wq
      refine hK _ _ ((hS0 _).2 (T.out.kpN Q5)) ?_
      clear hK K
      refine wpTr_l rfl rfl ?_; intro K hK
      have AB9 : Blk wq ab 31 #[.int .i64 0, .int .i64 0, .bool false, .int .i64 0, .int .i64 0, .bool false, .int .i64 0, .int .i64 0, .int .i64 0] := AB
      have cB := fun i => AB9.cell i
      have fB := fun i => AB9.frozen i
      go_step
      have gB := putI_grown wq ab 0 a
      replace AB := Blk.setItem AB9 a
      replace BB := BB.grownO gB (fun q e => by injection e with e; omega)
      replace Q5 := Q5.grown gB Q5.size (fun q e => by injection e with e; omega)
      change K _ (putI wq ab 0 a)
      generalize putI wq ab 0 a = wq9 at AB BB Q5 ⊢
      clear cB fB gB AB9
      rename World => wq
      refine hK _ _ ((hS0 _).2 (T.out.kpN Q5)) ?_
      clear hK K
      refine wpTr_l rfl rfl ?_; intro K hK
      have BB9 : Blk wq bb 31 #[.int .i64 0, .int .i64 0, .bool false, .int .i64 0, .int .i64 0, .bool false, .int .i64 0, .int .i64 0, .int .i64 0] := BB
      have cB := fun i => BB9.cell i
      have fB := fun i => BB9.frozen i
      go_step
      have gB := putI_grown wq bb 0 b1
      replace BB := Blk.setItem BB9 b1
      replace AB := AB.grownO gB (fun q e => by injection e with e; omega)
      replace Q5 := Q5.grown gB Q5.size (fun q e => by injection e with e; omega)
      change K _ (putI wq bb 0 b1)
      generalize putI wq bb 0 b1 = wq9 at BB AB Q5 ⊢
      clear cB fB gB BB9
      rename World => wq
      refine hK _ _ ((hS0 _).2 (T.out.kpN Q5)) ?_
      clear hK K
      refine wpTr_nil ?_
      clear hevT _hev
      go_wp2_with fail
      go_meet
      case rel => exact ⟨ab, bb, rfl, rfl, AB, BB, T.out.kpN Q5, HX.out.kpN Q5⟩
    · refine wpOne_l rfl rfl ?_; intro K hK
      generalize wd.drew = wq at Q5 ⊢
      have hsz := Q5.size
      have kq := Kp.new wq (.cells zeroI 31)
      have BB := Blk.new wq 31 zeroI
      try (have hnl := AB.lt)
      try (replace AB := AB.kpN kq)
      replace Q5 := Q5.thenN kq (Nat.le_refl _)
      clear kq
      go_step
      change K _ (World.alloc wq (.cells zeroI 31))
      obtain ⟨bb, hnn⟩ : ∃ q, q = wq.heap.size := ⟨_, rfl⟩
      rw [← hnn] at BB
      rw [← hnn]
      have hbb : wd.heap.size ≤ bb := by omega
      try (have hne : ab ≠ bb := by omega)
      clear hnn hsz
      try clear hnl
      generalize World.alloc wq (.cells zeroI 31) = wq9 at *
      rename World => wq
      refine hK _ _ ((hS0 _).2 (T.out.kpN Q5)) ?_
      clear hK K
      refine wpTr_l rfl rfl ?_; intro K hK
      have hsz := Q5.size
      have kq := Kp.new wq (.cells zeroI 31)
      have AB := Blk.new wq 31 zeroI
      try (have hnl := BB.lt)
      try (replace BB := BB.kpN kq)
      replace Q5 := Q5.thenN kq (Nat.le_refl _)
      clear kq
      go_step
      change K _ (World.alloc wq (.cells zeroI 31))
      obtain ⟨ab, hnn⟩ : ∃ q, q = wq.heap.size := ⟨_, rfl⟩
      rw [← hnn] at AB
      rw [← hnn]
      have hab : wd.heap.size ≤ ab := by omega
      try (have hne : ab ≠ bb := by omega)
      clear hnn hsz
      try clear hnl
      generalize World.alloc wq (.cells zeroI 31) = wq9 at *
      rename World => wq
      refine hK _ _ ((hS0 _).2 (T.out.kpN Q5)) ?_
      clear hK K
      refine wpTr_l rfl rfl ?_; intro K hK
      have AB9 : Blk wq ab 31 #[.int .i64 0, .int .i64 0, .bool false, .int .i64 0, .int .i64 0, .bool false, .int .i64 0, .int .i64 0, .int .i64 0] := AB
      have cB := fun i => AB9.cell i
      have fB := fun i => AB9.frozen i
      go_step
      have gB := putI_grown wq ab 0 a
      replace AB := Blk.setItem AB9 a
      replace BB := BB.grownO gB (fun q e => by injection e with e; omega)
      replace Q5 := Q5.grown gB Q5.size (fun q e => by injection e with e; omega)
      change K _ (putI wq ab 0 a)
      generalize putI wq ab 0 a = wq9 at AB BB Q5 ⊢
      clear cB fB gB AB9
      rename World => wq
      refine hK _ _ ((hS0 _).2 (T.out.kpN Q5)) ?_
      clear hK K
      refine wpTr_l rfl rfl ?_; intro K hK
      have BB9 : Blk wq bb 31 #[.int .i64 0, .int .i64 0, .bool false, .int .i64 0, .int .i64 0, .bool false, .int .i64 0, .int .i64 0, .int .i64 0] := BB
      have cB := fun i => BB9.cell i
      have fB := fun i => BB9.frozen i
      go_step
      have gB := putI_grown wq bb 0 b1
      replace BB := Blk.setItem BB9 b1
      replace AB := AB.grownO gB (fun q e => by injection e with e; omega)
      replace Q5 := Q5.grown gB Q5.size (fun q e => by injection e with e; omega)
      change K _ (putI wq bb 0 b1)
      generalize putI wq bb 0 b1 = wq9 at BB AB Q5 ⊢
      clear cB fB gB BB9
      rename World => wq
      refine hK _ _ ((hS0 _).2 (T.out.kpN Q5)) ?_
      clear hK K
      refine wpTr_nil ?_
      clear hevT _hev
      go_wp2_with fail
      go_meet
      case rel => exact ⟨ab, bb, rfl, rfl, AB, BB, T.out.kpN Q5, HX.out.kpN Q5⟩
  case rest =>
  clear T HX hA hB
  rename World => we
  obtain ⟨ab, bb, rfl, rfl, AB, BB, T, HX⟩ := hcut
  have ca := fun i => AB.cell i
  have cb1 := fun i => BB.cell i
  replace HX := Lib.hid HX
  by_cases h1 : a.kind = 3
  case neg =>
    have q1 : (a.kind != 3) = true := by simpa using h1
    clear h1
    go_wp2_with fail
    refine (awake_any _).mono ?_
    rintro e w99 ⟨rfl, k99⟩
    have K9 := T.kp.thenN k99 (Nat.le_refl _)
    go_wp2
    go_ret
    exact ⟨rfl, K9⟩
  have q1 : (a.kind != 3) = false := by simp [h1]
  replace h1 := Lib.hid h1
  by_cases h2 : b1.kind = 3
  case neg =>
    have q2 : (b1.kind != 3) = true := by simpa using h2
    clear h2
    go_wp2_with fail
    refine (awake_any _).mono ?_
    rintro e w99 ⟨rfl, k99⟩
    have K9 := T.kp.thenN k99 (Nat.le_refl _)
    go_wp2
    go_ret
    exact ⟨rfl, K9⟩
  have q2 : (b1.kind != 3) = false := by simp [h2]
  replace h2 := Lib.hid h2
  by_cases h3 : a.tick = b1.tick
  case neg =>
    have q3 : (a.tick != b1.tick) = true := by simpa using h3
    clear h3
    go_wp2_with fail
    refine (awake_any _).mono ?_
    rintro e w99 ⟨rfl, k99⟩
    have K9 := T.kp.thenN k99 (Nat.le_refl _)
    go_wp2
    go_ret
    exact ⟨rfl, K9⟩
  have q3 : (a.tick != b1.tick) = false := by simp [h3]
  replace h3 := Lib.hid h3
  by_cases h4 : a.drill = b1.drill
  case neg =>
    have q4 : (a.drill != b1.drill) = true := by simpa using h4
    have q5 : (a.drill == b1.drill) = false := by simpa using h4
    clear h4
    go_wp2_with fail
    refine (awake_any _).mono ?_
    rintro e w99 ⟨rfl, k99⟩
    have K9 := T.kp.thenN k99 (Nat.le_refl _)
    go_wp2
    go_ret
    exact ⟨rfl, K9⟩
  have q4 : (a.drill != b1.drill) = false := by simp [h4]
  have q5 : (a.drill == b1.drill) = true := by simp [h4]
  replace h4 := Lib.hid h4
  go_upto_region 14 with (fail)
  clear q1 q2 q3 q4 q5 ca cb1
  have hj2 : i < l.length := by omega
  obtain ⟨sw, hswl⟩ : ∃ q, q = (l.set i b1).set (i + 1) a := ⟨_, rfl⟩
  obtain ⟨z, dz, hez⟩ := hsw.out h1.out h2.out h3.out h4.out
  rw [← hswl] at dz
  have hsl : sw.length = l.length := by rw [hswl]; simp
  replace hswl := Lib.hid hswl
  replace dz := Lib.hid dz
  replace hez := Lib.hid hez
  replace hsl := Lib.hid hsl
  clear h1 h2 h3 h4 hsw
  obtain ⟨i0, hi0, hz0, hz1, hz2⟩ := info_parts info_item

  have hsz := Nat.le_refl we.heap.size
  have rdl := T.rd.kpN (Kp.new we (.cells #[] 31))
  have kq := Kp.new we (.cells #[] 31)
  have O1 := emptyItems we we.heap.size (Nat.le_refl _)
  go_wp2_with (at_builtin; refine wpList_append_own_at _ (by rfl) (.tmp 127) (.tmp 128) 27 (by rfl) we.heap.size 31 i0 _ 9 72 Try.underlying27 hi0 hz0 hz1 hz2 (by rfl) (by omega) (.slice (some ⟨we.heap.size, 0, none⟩) 0 0) 0 [] (by rfl) O1 ⟨b, o, none⟩ l.length cap2 (l.flatMap encItem) (by rfl) (flat_len (enc := encItem) (sz := 9) (fun _ => rfl) _) (rdl.flat (fun _ => rfl)) (one_items l) (maxLen_of (by omega)) (by omega) kq.size ?_; intro u4 w4 hown gu _ au; clear au)
  have own4 : Own w4 we.heap.size 31 9 encItem u4 l := by unfold Own; simpa using hown
  have K4 : Kp we.heap.size none we w4 := kq.trans (Kp.of_own O1 gu kq.size)
  clear hown gu kq O1 rdl hsz hi0 hz0 hz1 hz2 i0
  obtain ⟨A9, cap9, rfl, -, q9⟩ := own4.rd0 (fun _ => rfl)
  have hg9 : ∃ gs, A9 = some ⟨gs, 0, none⟩ ∧ we.heap.size ≤ gs := by
    rcases q9 with ⟨-, e, -⟩ | ⟨gs, e, h5, -, -⟩
    · have : l.length = 0 := by rw [e]; rfl
      omega
    · exact ⟨gs, e, h5⟩
  obtain ⟨gs, rfl, hgs⟩ := hg9
  clear q9
  have habl := AB.lt
  have hbbl := BB.lt
  have hag : ab ≠ gs := by omega
  have hbg : bb ≠ gs := by omega
  clear habl hbbl
  have AB4 := AB.kpN K4
  have BB4 := BB.kpN K4
  replace T := Lib.hid T
  clear AB BB
  have hgs4 : we.heap.size ≤ w4.heap.size := K4.size
  obtain ⟨S, hS⟩ : ∃ S : Nat → World → Prop, S = fun n w' => if n = 0 then Blk w' ab 31 #[.int .i64 a.kind, .int .i64 a.tick, .bool a.drill, .int .i64 a.a, .int .i64 a.b, .bool a.yes, .int .i64 a.chance.least, .int .i64 a.chance.most, .int .i64 a.chance.all] ∧ Blk w' bb 31 #[.int .i64 b1.kind, .int .i64 b1.tick, .bool b1.drill, .int .i64 b1.a, .int .i64 b1.b, .bool b1.yes, .int .i64 b1.chance.least, .int .i64 b1.chance.most, .int .i64 b1.chance.all] else True := ⟨_, rfl⟩
  have hS0 : ∀ w', S 0 w' ↔ (Blk w' ab 31 #[.int .i64 a.kind, .int .i64 a.tick, .bool a.drill, .int .i64 a.a, .int .i64 a.b, .bool a.yes, .int .i64 a.chance.least, .int .i64 a.chance.most, .int .i64 a.chance.all] ∧ Blk w' bb 31 #[.int .i64 b1.kind, .int .i64 b1.tick, .bool b1.drill, .int .i64 b1.a, .int .i64 b1.b, .bool b1.yes, .int .i64 b1.chance.least, .int .i64 b1.chance.most, .int .i64 b1.chance.all]) := fun w' => by rw [hS]; exact Iff.rfl
  have hS1 : ∀ w', S 1 w' ↔ (True) := fun w' => by rw [hS]; exact Iff.rfl
  clear hS
  have xa := fun (q : Ev (S 0)) i => ((hS0 _).1 q.h).1.cell i
  have xb := fun (q : Ev (S 0)) i => ((hS0 _).1 q.h).2.cell i
  have Q5 := (Kp.refl w4.heap.size none w4).drew
  have hgsl := (own4.ge gs rfl).2
  have hevT := ev_true
  refine wp_region_ord S [(0, 0), (1, 0), (2, 0), (3, 0), (4, 0), (5, 1), (6, 1), (7, 0), (8, 2), (9, 0), (10, 2)] [] (by kernel_rfl) (by kernel_rfl) ((hS0 _).2 ⟨AB4.kpN Q5, BB4.kpN Q5⟩) ?_
  intro _hev
  iterate 8 (first | (refine wpOrd_v rfl rfl ?_; intro K hK; go_big_quiet_op; go_big_quiet_on) | (refine wpOrd_q rfl rfl ?_; intro K hK; go_big_quiet_op; go_big_quiet_on) | refine wpOrd_s (by decide) rfl rfl ?_)
  refine wpOrd_l rfl rfl ?_; intro K hK
  have own5 := own4.kpN Q5
  have AB5 := AB4.kpN Q5
  have BB5 := BB4.kpN Q5
  replace K4 := K4.drew
  generalize w4.drew = wq at own5 AB5 BB5 K4 ⊢
  clear own4 AB4 BB4
  have own6 := own5.setItem i (by omega) b1
  have gB := putI_grown wq gs (i * 9) b1
  have fr := fun j => own5.frz (fun _ => rfl) j
  have AB6 := AB5.grownO gB (fun q e => by injection e with e; omega)
  have BB6 := BB5.grownO gB (fun q e => by injection e with e; omega)
  obtain ⟨py, ph⟩ := own5.itemCells i (by omega)
  have p0 : wq.cell? ⟨gs, i * 9 + 0, none⟩ = some (.int .i64 py.kind) := ph 0 _ rfl
  have p1 : wq.cell? ⟨gs, i * 9 + 1, none⟩ = some (.int .i64 py.tick) := ph 1 _ rfl
  have p2 : wq.cell? ⟨gs, i * 9 + 2, none⟩ = some (.bool py.drill) := ph 2 _ rfl
  have p3 : wq.cell? ⟨gs, i * 9 + 3, none⟩ = some (.int .i64 py.a) := ph 3 _ rfl
  have p4 : wq.cell? ⟨gs, i * 9 + 4, none⟩ = some (.int .i64 py.b) := ph 4 _ rfl
  have p5 : wq.cell? ⟨gs, i * 9 + 5, none⟩ = some (.bool py.yes) := ph 5 _ rfl
  have p6 : wq.cell? ⟨gs, i * 9 + 6, none⟩ = some (.int .i64 py.chance.least) := ph 6 _ rfl
  have p7 : wq.cell? ⟨gs, i * 9 + 7, none⟩ = some (.int .i64 py.chance.most) := ph 7 _ rfl
  have p8 : wq.cell? ⟨gs, i * 9 + 8, none⟩ = some (.int .i64 py.chance.all) := ph 8 _ rfl
  simp only [Nat.add_zero] at p0
  clear ph
  obtain ⟨of, hof⟩ : ∃ q, q = i * 9 := ⟨_, rfl⟩
  rw [← hof] at p0 p1 p2 p3 p4 p5 p6 p7 p8 ⊢
  replace hof := Lib.hid hof
  replace own5 := Lib.hid own5
  replace own6 := Lib.hid own6
  replace gB := Lib.hid gB
  replace AB6 := Lib.hid AB6
  replace BB6 := Lib.hid BB6
  try (replace hgs := Lib.hid hgs)
  try (replace hgs4 := Lib.hid hgs4)
  try (replace hgsl := Lib.hid hgsl)
  go_step
  change K _ (putI wq gs of b1)
  have hof2 := hof.out
  subst hof2
  replace own6 := own6.out
  replace gB := gB.out
  replace AB6 := AB6.out
  replace BB6 := BB6.out
  obtain ⟨wr, hwr⟩ : ∃ q, q = putI wq gs (i * 9) b1 := ⟨_, rfl⟩
  replace K4 := K4.grown gB K4.size (fun q e => by injection e with e; have := hgs.out; omega)
  rw [← hwr] at own6 gB AB6 BB6 K4 ⊢
  clear hwr hof
  refine hK _ _ ((hS0 _).2 ⟨AB6, BB6⟩) ?_
  clear hK K fr AB5 BB5 p0 p1 p2 p3 p4 p5 p6 p7 p8
  iterate 1 (first | (refine wpOrd_v rfl rfl ?_; intro K hK; go_big_quiet_op; go_big_quiet_on) | (refine wpOrd_q rfl rfl ?_; intro K hK; go_big_quiet_op; go_big_quiet_on) | refine wpOrd_s (by decide) rfl rfl ?_)
  refine wpOrd_l rfl rfl ?_; intro K hK
  have own7 := own6.setItem (i + 1) (by simpa using hi2) a
  have gB2 := putI_grown wr gs ((i + 1) * 9) a
  have fr := fun j => own6.frz (fun _ => rfl) j
  have AB7 := AB6.grownO gB2 (fun q e => by injection e with e; omega)
  have BB7 := BB6.grownO gB2 (fun q e => by injection e with e; omega)
  obtain ⟨qy, qh⟩ := own6.itemCells (i + 1) (by simpa using hi2)
  have q0 : wr.cell? ⟨gs, (i + 1) * 9 + 0, none⟩ = some (.int .i64 qy.kind) := qh 0 _ rfl
  have q1 : wr.cell? ⟨gs, (i + 1) * 9 + 1, none⟩ = some (.int .i64 qy.tick) := qh 1 _ rfl
  have q2 : wr.cell? ⟨gs, (i + 1) * 9 + 2, none⟩ = some (.bool qy.drill) := qh 2 _ rfl
  have q3 : wr.cell? ⟨gs, (i + 1) * 9 + 3, none⟩ = some (.int .i64 qy.a) := qh 3 _ rfl
  have q4 : wr.cell? ⟨gs, (i + 1) * 9 + 4, none⟩ = some (.int .i64 qy.b) := qh 4 _ rfl
  have q5 : wr.cell? ⟨gs, (i + 1) * 9 + 5, none⟩ = some (.bool qy.yes) := qh 5 _ rfl
  have q6 : wr.cell? ⟨gs, (i + 1) * 9 + 6, none⟩ = some (.int .i64 qy.chance.least) := qh 6 _ rfl
  have q7 : wr.cell? ⟨gs, (i + 1) * 9 + 7, none⟩ = some (.int .i64 qy.chance.most) := qh 7 _ rfl
  have q8 : wr.cell? ⟨gs, (i + 1) * 9 + 8, none⟩ = some (.int .i64 qy.chance.all) := qh 8 _ rfl
  simp only [Nat.add_zero] at q0
  clear qh
  obtain ⟨of, hof⟩ : ∃ q, q = (i + 1) * 9 := ⟨_, rfl⟩
  rw [← hof] at q0 q1 q2 q3 q4 q5 q6 q7 q8 ⊢
  replace hof := Lib.hid hof
  replace own6 := Lib.hid own6
  replace own7 := Lib.hid own7
  replace gB2 := Lib.hid gB2
  replace AB7 := Lib.hid AB7
  replace BB7 := Lib.hid BB7
  go_step
  change K _ (putI wr gs of a)
  have hof2 := hof.out
  subst hof2
  replace own7 := own7.out
  replace gB2 := gB2.out
  replace AB7 := AB7.out
  replace BB7 := BB7.out
  obtain ⟨ws, hws⟩ : ∃ q, q = putI wr gs ((i + 1) * 9) a := ⟨_, rfl⟩
  replace K4 := K4.grown gB2 K4.size (fun q e => by injection e with e; have := hgs.out; omega)
  rw [← hws] at own7 gB2 AB7 BB7 K4 ⊢
  clear hws hof
  refine hK _ _ ((hS0 _).2 ⟨AB7, BB7⟩) ?_
  clear hK K fr AB6 BB6 q0 q1 q2 q3 q4 q5 q6 q7 q8
  refine wpOrd_nil ?_
  clear hevT _hev
  clear hS0 hS1 S xa xb AB7 BB7 own6 gB gB2 hag hbg hgsl hgs4 hgs hj0 hj1 hj2
  rw [← hswl.out] at own7
  obtain ⟨A7, c7, e7, R7, -⟩ := own7.rd0 (fun _ => rfl)
  have e72 : A7 = some ⟨gs, 0, none⟩ := by injection e7 with e71 e73 e74; exact e71.symm
  rw [e72] at R7
  clear own7 e7 e72 A7 c7 hswl
  replace T := T.out.kpN K4
  replace HX := HX.out.kpN K4
  clear K4
  have hbz := build_done hok.chk (by have := hsl.out; omega) dz.out
  have hcall := build_see V c (some ⟨gs, 0, none⟩) cap9 sw ws T.ca R7 (by have := hsl.out; omega)
  rw [hbz, hsl.out] at hcall
  clear hbz R7 dz hsl sw
  replace hcall := Lib.hid hcall
  have cc := fun i => T.cl.cell i
  replace HX := Lib.hid HX
  go_wp2_with fail
  refine hcall.out.mono ?_
  rintro e w7 ⟨v, Z, hZ, rfl, HA, -, k7⟩
  simp only
  replace HA : HAt ws.heap.size w7 v z := HA
  have ZT := ZS.start T.kp HX.out.hl HX.out.sa HA k7 hez.out hZ
  have hzc := hez.out.cells (Z := Z)
  have hBw : ws.heap.size ≤ w7.heap.size := k7.size
  have hxs := HX.out.hl.lt
  rw [← hzc] at ZT
  clear hcall T HX HA k7 hZ cc
  replace hzc := Lib.hid hzc
  replace ZT := Lib.hid ZT
  go_upto_region 17 with (fail)
  change Code.wp _ _ _ _ (w7.alloc (.cells #[.int .i64 z.tick, .int .i64 z.real.items, .slice Z.r.fa z.real.facts.length Z.r.fc, .slice Z.r.ma z.real.motions.length Z.r.mc, .slice Z.r.sa z.real.sent.length Z.r.sc, .int .i64 z.drill.items, .slice Z.d.fa z.drill.facts.length Z.d.fc, .slice Z.d.ma z.drill.motions.length Z.d.mc, .slice Z.d.sa z.drill.sent.length Z.d.sc] 46))
  have hsz8 : ws.heap.size ≤ (w7.alloc (.cells #[.int .i64 z.tick, .int .i64 z.real.items, .slice Z.r.fa z.real.facts.length Z.r.fc, .slice Z.r.ma z.real.motions.length Z.r.mc, .slice Z.r.sa z.real.sent.length Z.r.sc, .int .i64 z.drill.items, .slice Z.d.fa z.drill.facts.length Z.d.fc, .slice Z.d.ma z.drill.motions.length Z.d.mc, .slice Z.d.sa z.drill.sent.length Z.d.sc] 46)).heap.size := by simp; omega
  have ZT2 := ZT.out
  clear ZT hzc
  obtain ⟨zb, hzb⟩ : ∃ q, q = w7.heap.size := ⟨_, rfl⟩
  rw [← hzb] at ZT2 ⊢
  generalize w7.alloc (.cells #[.int .i64 z.tick, .int .i64 z.real.items, .slice Z.r.fa z.real.facts.length Z.r.fc, .slice Z.r.ma z.real.motions.length Z.r.mc, .slice Z.r.sa z.real.sent.length Z.r.sc, .int .i64 z.drill.items, .slice Z.d.fa z.drill.facts.length Z.d.fc, .slice Z.d.ma z.drill.motions.length Z.d.mc, .slice Z.d.sa z.drill.sent.length Z.d.sc] 46) = w8 at ZT2 hsz8 ⊢
  clear hzb hBw
  have cx := fun i => ZT2.xl.cell i
  have cz := fun i => ZT2.zl.cell i
  go_wp2_with fail
  clear cx cz
  go_loopw [22] (fun n wr => ∃ (m1 : Nat) (f : Bool → Nat → Value), n = .int .i64 (m1 : Int) ∧ m1 ≤ x.real.motions.length ∧ (∀ j, j < m1 → f false j = vV X.r x.real j) ∧ ws.heap.size ≤ wr.heap.size ∧ ZS w ws.heap.size hb zb X Z x v z f wr) (fun n _ => (x.real.motions.length - intOf n).toNat)
  case atStart => exact ⟨0, _, rfl, Nat.zero_le _, fun j hj => absurd hj (by omega), hsz8, ZT2⟩
  case round =>
    clear ZT2
    obtain ⟨m1, f, rfl, hk1, hf, hsz, Z1⟩ := hrel
    have cx := fun i => Z1.xl.cell i
    have cz := fun i => Z1.zl.cell i
    by_cases hk' : m1 < x.real.motions.length
    · have hkk : (m1 : Int) < (x.real.motions.length : Int) := by omega
      go_upto_region 22 with (fail)
      obtain ⟨g2, n2, c2, hv, hma, -, hgl, hgz⟩ := Z1.mot false m1 hk'
      obtain ⟨b2, o2, eX⟩ := Z1.xs.r.motV m1 hk'
      have hZe : Z.r.ma = some ⟨g2, 0, none⟩ := by rw [Z1.hZ]; exact hma
      have hxb : hb < wr.heap.size := by omega
      have hm9 := Z1.xs.r.ms
      obtain ⟨ua, ul, uc, hu⟩ : ∃ ua ul uc, (.slice ua ul uc : Value) = .slice (X.r.vo m1).1 (votedOf (x.led false) m1).length (X.r.vo m1).2 := ⟨_, _, _, rfl⟩
      have st := Z1.drew.set hxb false hv m1 hk' (.slice ua ul uc)
      have fr := fun j => Z1.drew.frozen false hv j
      have old := Z1.drew.cell false hv m1 hk'
      obtain ⟨P, hP⟩ : ∃ P : World → Prop, P = fun W => ZS w ws.heap.size hb zb X Z x v z f W := ⟨_, rfl⟩
      have hP2 : ∀ W, P W ↔ ZS w ws.heap.size hb zb X Z x v z f W := fun W => by rw [hP]
      have start := (hP2 _).2 Z1.drew
      have px : ∀ q : Ev P, ∀ i, q.w.cell? ⟨hb, i, none⟩ = _ := fun (q : Ev P) i => ((hP2 _).1 q.h).xl.cell i
      have pz : ∀ q : Ev P, ∀ i, q.w.cell? ⟨zb, i, none⟩ = _ := fun (q : Ev P) i => ((hP2 _).1 q.h).zl.cell i
      have ps : ∀ q : Ev P, q.w.cell? ⟨b2, o2 + m1 * 8 + 6, none⟩ = some (.slice ua ul uc) := fun (q : Ev P) => by rw [hu]; exact ((hP2 _).1 q.h).xs.r.motC eX m1 hk'
      have hq : ws.heap.size ≤ wr.drew.heap.size := hsz
      have hf2 : ∀ j, j < m1 + 1 → putF f false m1 (.slice ua ul uc) false j = vV X.r (x.led false) j := fun j hj => by
        unfold putF
        rw [if_pos rfl]
        by_cases hjm : j = m1
        · rw [if_pos hjm, hu, hjm]; rfl
        · rw [if_neg hjm]; exact hf j (by omega)
      skip
      replace st := Lib.hid st
      replace hf2 := Lib.hid hf2
      replace hf := Lib.hid hf
      replace Z1 := Lib.hid Z1
      clear hP hP2 hu hma hgz hv cx cz
      obtain ⟨⟨fa, fc, ma, mc, sa, sc, vo⟩, xd⟩ := X
      obtain ⟨⟨fa2, fc2, ma2, mc2, sa2, sc2, vo2⟩, xd2⟩ := Z
      have eX2 : ma = some ⟨b2, o2, none⟩ := eX
      have eZ2 : ma2 = some ⟨g2, 0, none⟩ := hZe
      subst eX2 eZ2
      clear eX hZe
      obtain ⟨S, hS⟩ : ∃ S : Nat → World → Prop, S = fun n w' => if n = 0 then P w' else True := ⟨_, rfl⟩
      have hS0 : ∀ w', S 0 w' ↔ (P w') := fun w' => by rw [hS]; exact Iff.rfl
      have hS1 : ∀ w', S 1 w' ↔ (True) := fun w' => by rw [hS]; exact Iff.rfl
      clear hS
      have qx := fun (q : Ev (S 0)) => px ⟨q.w, (hS0 _).1 q.h⟩
      have qz := fun (q : Ev (S 0)) => pz ⟨q.w, (hS0 _).1 q.h⟩
      have qs := fun (q : Ev (S 0)) => ps ⟨q.w, (hS0 _).1 q.h⟩
      clear px pz ps
      have hevT := ev_true
      refine wp_region_ord S [(0, 0), (1, 0), (2, 1), (3, 0), (4, 0), (5, 0), (6, 1), (7, 0), (8, 0), (9, 0), (10, 1), (11, 0), (12, 0), (13, 3)] [13] (by kernel_rfl) (by kernel_rfl) ((hS0 _).2 start) ?_
      intro _hev
      iterate 13 (first | (refine wpOrd_v rfl rfl ?_; intro K hK; go_big_quiet_op; go_big_quiet_on) | (refine wpOrd_q rfl rfl ?_; intro K hK; go_big_quiet_op; go_big_quiet_on) | refine wpOrd_s (by decide) rfl rfl ?_)
      refine wpOrd_a rfl rfl ?_; intro K hK
      generalize wr.drew = wq at st fr old hq ⊢
      go_step
      refine hK _ _ ((hS1 _).2 trivial) ?_
      clear hK K
      change wpOrd _ _ _ _ _ 1 _ _
      refine wpOrd_nil ?_
      clear hevT _hev
      clear hS0 hS1 S qx qz qs fr old
      have hsz2 : ws.heap.size ≤ (wq.setCell ⟨g2, m1 * 8 + 6, none⟩ (.slice ua ul uc)).heap.size := Nat.le_trans hq (grown_set _ _ _ _).size
      go_wp2_with fail
      go_roundw
      case rel => exact ⟨m1 + 1, _, by congr 1, by omega, hf2.out, hsz2, st.out⟩
      case measure => simp [intOf]; omega
    · have hkk : ¬ (m1 : Int) < (x.real.motions.length : Int) := by omega
      have h0 : ∀ j, j < x.real.motions.length → f false j = vV X.r x.real j := fun j hj => hf j (by omega)
      clear hf
      replace h0 := Lib.hid h0
      have Z2 := Z1
      clear Z1
      go_wp2_with fail
      clear cx cz
      go_loopw [23] (fun n wr => ∃ (m1 : Nat) (f : Bool → Nat → Value), n = .int .i64 (m1 : Int) ∧ m1 ≤ x.drill.motions.length ∧ (∀ j, j < x.real.motions.length → f false j = vV X.r x.real j) ∧ (∀ j, j < m1 → f true j = vV X.d x.drill j) ∧ ws.heap.size ≤ wr.heap.size ∧ ZS w ws.heap.size hb zb X Z x v z f wr) (fun n _ => (x.drill.motions.length - intOf n).toNat)
      case atStart => exact ⟨0, f, rfl, Nat.zero_le _, h0.out, fun j hj => absurd hj (by omega), hsz, Z2⟩
      case round =>
        clear Z2 h0 hkk hsz
        rename World => wr
        obtain ⟨m1, f, rfl, hk1, h0, hf, hsz, Z1⟩ := hrel
        have cx := fun i => Z1.xl.cell i
        have cz := fun i => Z1.zl.cell i
        by_cases hk' : m1 < x.drill.motions.length
        · have hkk : (m1 : Int) < (x.drill.motions.length : Int) := by omega
          replace h0 := Lib.hid h0
          go_upto_region 26 with (fail)
          obtain ⟨g2, n2, c2, hv, hma, -, hgl, hgz⟩ := Z1.mot true m1 hk'
          obtain ⟨b2, o2, eX⟩ := Z1.xs.d.motV m1 hk'
          have hZe : Z.d.ma = some ⟨g2, 0, none⟩ := by rw [Z1.hZ]; exact hma
          have hxb : hb < wr.heap.size := by omega
          have hm9 := Z1.xs.d.ms
          obtain ⟨ua, ul, uc, hu⟩ : ∃ ua ul uc, (.slice ua ul uc : Value) = .slice (X.d.vo m1).1 (votedOf (x.led true) m1).length (X.d.vo m1).2 := ⟨_, _, _, rfl⟩
          have st := Z1.drew.set hxb true hv m1 hk' (.slice ua ul uc)
          have fr := fun j => Z1.drew.frozen true hv j
          have old := Z1.drew.cell true hv m1 hk'
          obtain ⟨P, hP⟩ : ∃ P : World → Prop, P = fun W => ZS w ws.heap.size hb zb X Z x v z f W := ⟨_, rfl⟩
          have hP2 : ∀ W, P W ↔ ZS w ws.heap.size hb zb X Z x v z f W := fun W => by rw [hP]
          have start := (hP2 _).2 Z1.drew
          have px : ∀ q : Ev P, ∀ i, q.w.cell? ⟨hb, i, none⟩ = _ := fun (q : Ev P) i => ((hP2 _).1 q.h).xl.cell i
          have pz : ∀ q : Ev P, ∀ i, q.w.cell? ⟨zb, i, none⟩ = _ := fun (q : Ev P) i => ((hP2 _).1 q.h).zl.cell i
          have ps : ∀ q : Ev P, q.w.cell? ⟨b2, o2 + m1 * 8 + 6, none⟩ = some (.slice ua ul uc) := fun (q : Ev P) => by rw [hu]; exact ((hP2 _).1 q.h).xs.d.motC eX m1 hk'
          have hq : ws.heap.size ≤ wr.drew.heap.size := hsz
          have hf2 : ∀ j, j < m1 + 1 → putF f true m1 (.slice ua ul uc) true j = vV X.d (x.led true) j := fun j hj => by
            unfold putF
            rw [if_pos rfl]
            by_cases hjm : j = m1
            · rw [if_pos hjm, hu, hjm]; rfl
            · rw [if_neg hjm]; exact hf j (by omega)
          skip
          replace st := Lib.hid st
          replace hf2 := Lib.hid hf2
          replace hf := Lib.hid hf
          replace Z1 := Lib.hid Z1
          clear hP hP2 hu hma hgz hv cx cz
          obtain ⟨xr, ⟨fa, fc, ma, mc, sa, sc, vo⟩⟩ := X
          obtain ⟨xr2, ⟨fa2, fc2, ma2, mc2, sa2, sc2, vo2⟩⟩ := Z
          have eX2 : ma = some ⟨b2, o2, none⟩ := eX
          have eZ2 : ma2 = some ⟨g2, 0, none⟩ := hZe
          subst eX2 eZ2
          clear eX hZe
          obtain ⟨S, hS⟩ : ∃ S : Nat → World → Prop, S = fun n w' => if n = 0 then P w' else True := ⟨_, rfl⟩
          have hS0 : ∀ w', S 0 w' ↔ (P w') := fun w' => by rw [hS]; exact Iff.rfl
          have hS1 : ∀ w', S 1 w' ↔ (True) := fun w' => by rw [hS]; exact Iff.rfl
          clear hS
          have qx := fun (q : Ev (S 0)) => px ⟨q.w, (hS0 _).1 q.h⟩
          have qz := fun (q : Ev (S 0)) => pz ⟨q.w, (hS0 _).1 q.h⟩
          have qs := fun (q : Ev (S 0)) => ps ⟨q.w, (hS0 _).1 q.h⟩
          clear px pz ps
          have hevT := ev_true
          refine wp_region_ord S [(0, 0), (1, 0), (2, 1), (3, 0), (4, 0), (5, 0), (6, 1), (7, 0), (8, 0), (9, 0), (10, 1), (11, 0), (12, 0), (13, 3)] [13] (by kernel_rfl) (by kernel_rfl) ((hS0 _).2 start) ?_
          intro _hev
          iterate 13 (first | (refine wpOrd_v rfl rfl ?_; intro K hK; go_big_quiet_op; go_big_quiet_on) | (refine wpOrd_q rfl rfl ?_; intro K hK; go_big_quiet_op; go_big_quiet_on) | refine wpOrd_s (by decide) rfl rfl ?_)
          refine wpOrd_a rfl rfl ?_; intro K hK
          generalize wr.drew = wq at st fr old hq ⊢
          go_step
          refine hK _ _ ((hS1 _).2 trivial) ?_
          clear hK K
          change wpOrd _ _ _ _ _ 1 _ _
          refine wpOrd_nil ?_
          clear hevT _hev
          clear hS0 hS1 S qx qz qs fr old
          have hsz2 : ws.heap.size ≤ (wq.setCell ⟨g2, m1 * 8 + 6, none⟩ (.slice ua ul uc)).heap.size := Nat.le_trans hq (grown_set _ _ _ _).size
          go_wp2_with fail
          go_roundw
          case rel => exact ⟨m1 + 1, putF f true m1 (.slice ua ul uc), by congr 1, by omega, fun j hj => h0.out j hj, hf2.out, hsz2, st.out⟩
          case measure => simp [intOf]; omega
        · have hkk : ¬ (m1 : Int) < (x.drill.motions.length : Int) := by omega
          have sz := Z1.fin hez.out h0 (fun j hj => hf j (by omega))
          have sx := Z1.xs.wide hsz
          have T := Z1
          clear hf h0 Z1
          replace sz := Lib.hid sz
          replace sx := Lib.hid sx
          go_wp2_with fail
          refine (council_Same_any X ⟨{ Z.r with vo := X.r.vo }, { Z.d with vo := X.d.vo }⟩ x x _ sx.out sz.out).mono ?_
          rintro e w9 ⟨rfl, k9⟩
          rw [show decide (x = x) = true from decide_eq_true rfl]
          have K8 := T.kp.thenN k9 (Nat.le_refl _)
          clear cx cz T sx sz k9
          go_wp2_with fail
          refine (awake_any _).mono ?_
          rintro e w99 ⟨rfl, k99⟩
          have K9 := K8.thenN k99 (Nat.le_refl _)
          go_wp2
          go_ret
          exact ⟨rfl, K9⟩
end Go.Proofs.Ytogpgnljomchcaa
