/- An item that can perhaps be done, made of a ring. -/
import Derived.Test.YtogpgnljomchcaaGreatLLev
import Derived.Test.YtogpgnljomchcaaGreatTree
import Derived.Deep.DeepCutAuto
import Derived.Deep.CutBlock
import Derived.Test.YtogpgnljomchcaaGreatRefBuildAll
namespace Go.Proofs.YtogpgnljomchcaaGreat
open Go.RowKit

theorem Lo.turnB {α : Type} {B g sz n : Nat} {w w' : World} {enc : α → List Value} {A : Option Addr} {xs : List α} (h : Lo B w sz enc A n xs) (k : Kp w.heap.size (some g) w w') (hA : ∀ ad, A = some ad → ad.block ≠ g) : Lo B w' sz enc A n xs := by
  refine ⟨h.1, fun hn => ?_⟩
  obtain ⟨b, o, e, hB, hs, hc⟩ := h.2 hn
  have hne : some b ≠ some g := sne (hA _ e)
  exact ⟨b, o, e, hB, Nat.lt_of_lt_of_le hs k.size, fun i hi j v hv => (k.cell b _ hs hne).trans (hc i hi j v hv)⟩
theorem CAt.turnB {B g n : Nat} {w w' : World} {V : CV} {c : Council} (h : CAt B w V c) (k : Kp w.heap.size (some g) w w') (f : CFar V n) (hg : g < n) : CAt B w' V c :=
  ⟨h.m.turnB k (fun ad e => by have := f.1 ad e; omega), h.l.turnB k (fun ad e => by have := f.2.1 ad e; omega), h.v.turnB k (fun ad e => by have := f.2.2 ad e; omega), h.ms, h.ls, h.vs⟩
/-- in the course of ItemOf -/
structure IS (W : World) (g cb hb rb : Nat) (nums : List Int) (k : Nat) (V : CV) (c : Council) (X : HV) (x : House) (w : World) : Prop where
  ring : RingAt w g nums k
  ca : CAt W.heap.size w V c
  cl : Blk w cb 28 #[.slice V.am c.members.length V.cm, .slice V.al c.laws.length V.cl, .slice V.av c.levels.length V.cv]
  hl : Blk w hb 43 #[.int .i64 x.tick, .int .i64 x.real.items, .slice X.r.fa x.real.facts.length X.r.fc, .slice X.r.ma x.real.motions.length X.r.mc, .slice X.r.sa x.real.sent.length X.r.sc, .int .i64 x.drill.items, .slice X.d.fa x.drill.facts.length X.d.fc, .slice X.d.ma x.drill.motions.length X.d.mc, .slice X.d.sa x.drill.sent.length X.d.sc]
  res : Blk w rb 36 #[.int .i64 zItem.kind, .int .i64 zItem.tick, .bool zItem.drill, .int .i64 zItem.a, .int .i64 zItem.b, .bool zItem.yes, .int .i64 zItem.chance.least, .int .i64 zItem.chance.most, .int .i64 zItem.chance.all]
  far : CFar V (g + 1)
  kp : Kp W.heap.size (some g) W w
  gW : g < W.heap.size
  cW : W.heap.size ≤ cb
  hW : W.heap.size ≤ hb
  rW : W.heap.size ≤ rb
section
variable {W w w' : World} {g cb hb rb k k' : Nat} {nums : List Int} {V : CV} {c : Council} {X : HV} {x : House}
theorem IS.turn (s : IS W g cb hb rb nums k V c X x w) (r : RingAt w' g nums k') (q : Kp w.heap.size (some g) w w') : IS W g cb hb rb nums k' V c X x w' :=
  have hb' : ∀ b, W.heap.size ≤ b → some b ≠ some g := fun b h e => by injection e with e; have := s.gW; omega
  ⟨r, s.ca.turnB q s.far (by omega), s.cl.kp q s.cl.lt (hb' _ s.cW), s.hl.kp q s.hl.lt (hb' _ s.hW), s.res.kp q s.res.lt (hb' _ s.rW), s.far, s.kp.then_ q (Nat.le_refl _), s.gW, s.cW, s.hW, s.rW⟩
theorem IS.kpN (s : IS W g cb hb rb nums k V c X x w) (q : Kp w.heap.size none w w') : IS W g cb hb rb nums k V c X x w' := s.turn (s.ring.kpN q) (q.wide _)
theorem IS.acts (s : IS W g cb hb rb nums k V c X x w) {b o : Nat} (e : V.al = some ⟨b, o, none⟩) : ∀ j (hj : j < c.laws.length), w.cell? ⟨b, o + j * 5, none⟩ = some (.int .i64 c.laws[j].act) := fun j hj => by
  obtain ⟨b', o', e', -, -, hc⟩ := s.ca.l.2 (by omega)
  rw [e] at e'
  simp only [Option.some.injEq, Addr.mk.injEq] at e'
  obtain ⟨rfl, rfl, -⟩ := e'
  exact hc j hj 0 _ rfl
theorem IS.ids (s : IS W g cb hb rb nums k V c X x w) {b o : Nat} (e : V.am = some ⟨b, o, none⟩) : ∀ j (hj : j < c.members.length), w.cell? ⟨b, o + j * 2, none⟩ = some (.int .i64 c.members[j].id) := fun j hj => by
  obtain ⟨b', o', e', -, -, hc⟩ := s.ca.m.2 (by omega)
  rw [e] at e'
  simp only [Option.some.injEq, Addr.mk.injEq] at e'
  obtain ⟨rfl, rfl, -⟩ := e'
  exact hc j hj 0 _ rfl
theorem IS.fresh (s : IS W g cb hb rb nums k V c X x w) (t : TypeId) (cs : Array Value) :
    ∃ nb wq, wq = w.alloc (.cells cs t) ∧ nb = w.heap.size ∧ IS W g cb hb rb nums k V c X x wq ∧ Blk wq nb t cs ∧ W.heap.size ≤ nb ∧ nb ≠ cb ∧ nb ≠ hb ∧ nb ≠ rb ∧ g < nb :=
  ⟨w.heap.size, _, rfl, rfl, s.kpN (Kp.new _ _), Blk.new _ _ _, s.kp.size, by have := s.cl.lt; omega, by have := s.hl.lt; omega, by have := s.res.lt; omega, s.ring.lt⟩
theorem IS.own {b : Nat} (s : IS W g cb hb rb nums k V c X x w) (hg : w.grownBy w' (some b)) (hB : W.heap.size ≤ b) (h1 : b ≠ cb) (h2 : b ≠ hb) (h3 : b ≠ rb) : IS W g cb hb rb nums k V c X x w' :=
  ⟨s.ring.grown hg (fun q e => by injection e with e; have := s.gW; omega), s.ca.kp ⟨hg.os, hg.tape, hg.output, hg.size, fun i hi _ => hg.block i (by have := s.kp.size; omega) (fun e => by injection e with e; omega)⟩, (hg.block cb s.cl.lt (fun e => h1 (by injection e with e; exact e.symm))).trans s.cl, (hg.block hb s.hl.lt (fun e => h2 (by injection e with e; exact e.symm))).trans s.hl, (hg.block rb s.res.lt (fun e => h3 (by injection e with e; exact e.symm))).trans s.res, s.far, s.kp.grown hg s.kp.size (fun q e => by injection e with e; omega), s.gW, s.cW, s.hW, s.rW⟩
end
/-- the nine cells of an item -/
def setI (w : World) (g : Nat) (n : CItem) : World := ((((((((w.setCell ⟨g, 0, none⟩ (.int .i64 n.kind)).setCell ⟨g, 1, none⟩ (.int .i64 n.tick)).setCell ⟨g, 2, none⟩ (.bool n.drill)).setCell ⟨g, 3, none⟩ (.int .i64 n.a)).setCell ⟨g, 4, none⟩ (.int .i64 n.b)).setCell ⟨g, 5, none⟩ (.bool n.yes)).setCell ⟨g, 6, none⟩ (.int .i64 n.chance.least)).setCell ⟨g, 7, none⟩ (.int .i64 n.chance.most)).setCell ⟨g, 8, none⟩ (.int .i64 n.chance.all)
theorem setI_grown (w : World) (g : Nat) (n : CItem) : w.grownBy (setI w g n) (some g) :=
  grown_trans (grown_trans (grown_trans (grown_trans (grown_trans (grown_trans (grown_trans (grown_trans (grown_set _ _ _ _) (grown_set _ _ _ _)) (grown_set _ _ _ _)) (grown_set _ _ _ _)) (grown_set _ _ _ _)) (grown_set _ _ _ _)) (grown_set _ _ _ _)) (grown_set _ _ _ _)) (grown_set _ _ _ _)
theorem Blk.setI {w : World} {g : Nat} {t : TypeId} {x0 x1 x2 x3 x4 x5 x6 x7 x8 : Value} (h : Blk w g t #[x0, x1, x2, x3, x4, x5, x6, x7, x8]) (n : CItem) : Blk (setI w g n) g t #[.int .i64 n.kind, .int .i64 n.tick, .bool n.drill, .int .i64 n.a, .int .i64 n.b, .bool n.yes, .int .i64 n.chance.least, .int .i64 n.chance.most, .int .i64 n.chance.all] := by
  have := ((((((((h.set_ 0 (.int .i64 n.kind)).set_ 1 (.int .i64 n.tick)).set_ 2 (.bool n.drill)).set_ 3 (.int .i64 n.a)).set_ 4 (.int .i64 n.b)).set_ 5 (.bool n.yes)).set_ 6 (.int .i64 n.chance.least)).set_ 7 (.int .i64 n.chance.most)).set_ 8 (.int .i64 n.chance.all)
  unfold Go.Proofs.YtogpgnljomchcaaGreat.setI
  simpa using this
def set4 (w : World) (g : Nat) (c0 c1 c2 c3 : Value) : World := (((w.setCell ⟨g, 0, none⟩ c0).setCell ⟨g, 1, none⟩ c1).setCell ⟨g, 2, none⟩ c2).setCell ⟨g, 3, none⟩ c3
theorem set4_grown (w : World) (g : Nat) (c0 c1 c2 c3 : Value) : w.grownBy (set4 w g c0 c1 c2 c3) (some g) := grown_trans (grown_trans (grown_trans (grown_set _ _ _ _) (grown_set _ _ _ _)) (grown_set _ _ _ _)) (grown_set _ _ _ _)
theorem Blk.set4 {w : World} {g : Nat} {t : TypeId} {x0 x1 x2 x3 : Value} (h : Blk w g t #[x0, x1, x2, x3]) (c0 c1 c2 c3 : Value) : Blk (set4 w g c0 c1 c2 c3) g t #[c0, c1, c2, c3] := by
  have := (((h.set_ 0 c0).set_ 1 c1).set_ 2 c2).set_ 3 c3
  unfold Go.Proofs.YtogpgnljomchcaaGreat.set4
  simpa using this
theorem Blk.keep {w w' : World} {g b : Nat} {t : TypeId} {cs : Array Value} (h : Blk w g t cs) (hg : w.grownBy w' (some b)) (hne : b ≠ g) : Blk w' g t cs := (hg.block g h.lt (fun e => hne (by injection e with e; exact e.symm))).trans h
def AtItem (W : World) (g cb hb rb : Nat) (nums : List Int) (k0 : Nat) (V : CV) (c : Council) (X : HV) (x : House) (v7 : Value) (wx : World) : Prop :=
  ∃ (nb k : Nat) (n : CItem), v7 = .pointer (some ⟨nb, 0, none⟩) ∧ k ≤ k0 + 7 ∧ IS W g cb hb rb nums k V c X x wx ∧ Blk wx nb 36 #[.int .i64 n.kind, .int .i64 n.tick, .bool n.drill, .int .i64 n.a, .int .i64 n.b, .bool n.yes, .int .i64 n.chance.least, .int .i64 n.chance.most, .int .i64 n.chance.all] ∧ W.heap.size ≤ nb ∧ nb ≠ cb ∧ nb ≠ hb ∧ nb ≠ rb ∧ n.chance = ⟨0, 0, 0⟩ ∧ 0 ≤ n.tick ∧ n.tick ≤ 1073741828
def AtOwn (W : World) (g cb hb rb nb ob : Nat) (nums : List Int) (k1 : Nat) (V : CV) (c : Council) (X : HV) (x : House) (n : CItem) (_v : Value) (wx : World) : Prop :=
  IS W g cb hb rb nums k1 V c X x wx ∧ Blk wx nb 36 #[.int .i64 n.kind, .int .i64 n.tick, .bool n.drill, .int .i64 n.a, .int .i64 n.b, .bool n.yes, .int .i64 n.chance.least, .int .i64 n.chance.most, .int .i64 n.chance.all] ∧ ob < wx.heap.size ∧ ∃ A ml cap, ml ≤ 64 ∧ wx.cell? ⟨ob, 2, none⟩ = some (.slice A ml cap)
def AtDone (W : World) (g cb hb rb nb : Nat) (nums : List Int) (k0 : Nat) (V : CV) (c : Council) (X : HV) (x : House) (_v : Value) (wx : World) : Prop :=
  ∃ (k : Nat) (n : CItem), k ≤ k0 + 20 ∧ IS W g cb hb rb nums k V c X x wx ∧ Blk wx nb 36 #[.int .i64 n.kind, .int .i64 n.tick, .bool n.drill, .int .i64 n.a, .int .i64 n.b, .bool n.yes, .int .i64 n.chance.least, .int .i64 n.chance.most, .int .i64 n.chance.all]
def ItemPost (g : Nat) (nums : List Int) (kmax : Nat) (w : World) (e : Ending) (w' : World) : Prop :=
  ∃ (n : CItem) (k' : Nat), e = .returned (.agg #[.int .i64 n.kind, .int .i64 n.tick, .bool n.drill, .int .i64 n.a, .int .i64 n.b, .bool n.yes, .int .i64 n.chance.least, .int .i64 n.chance.most, .int .i64 n.chance.all]) ∧ k' ≤ kmax ∧ RingAt w' g nums k' ∧ Kp w.heap.size (some g) w w'
set_option maxRecDepth 20000 in
set_option maxHeartbeats 20000000 in
theorem itemOf_any (g : Nat) (nums : List Int) (k : Nat) (V : CV) (c : Council) (X : HV) (x : House) (n : Nat) (w : World) (h : RingAt w g nums k) (hk : k ≤ 800000) (hC : CAt w.heap.size w V c) (hf : CFar V (g + 1)) (hok : COk c) (hx : HouseOk c n x) :
    Calls Tryz.prog 47 #[.pointer (some ⟨g, 0, none⟩), .agg #[.slice V.am c.members.length V.cm, .slice V.al c.laws.length V.cl, .slice V.av c.levels.length V.cv], .agg #[.int .i64 x.tick, .int .i64 x.real.items, .slice X.r.fa x.real.facts.length X.r.fc, .slice X.r.ma x.real.motions.length X.r.mc, .slice X.r.sa x.real.sent.length X.r.sc, .int .i64 x.drill.items, .slice X.d.fa x.drill.facts.length X.d.fc, .slice X.d.ma x.drill.motions.length X.d.mc, .slice X.d.sa x.drill.sent.length X.d.sc]] w (ItemPost g nums (k + 20) w) := by
  have hcc := councilOk_of hok.chk
  have hlaw := hok.laws
  have hlaw16 := hcc.llen
  have hm0 := hcc.mpos
  have hm64 := hcc.mlen
  have ht0 := hx.t0
  have ht1 := hx.t1
  have hml : ∀ d, (x.led d).motions.length ≤ 64 := fun d => (hx.led d).mlen
  have hr64 := hml false
  have hd64 := hml true
  change x.real.motions.length ≤ 64 at hr64
  change x.drill.motions.length ≤ 64 at hd64
  have B0 := ((Blk.new w 28 #[.slice V.am c.members.length V.cm, .slice V.al c.laws.length V.cl, .slice V.av c.levels.length V.cv]).alloc (.cells #[.int .i64 x.tick, .int .i64 x.real.items, .slice X.r.fa x.real.facts.length X.r.fc, .slice X.r.ma x.real.motions.length X.r.mc, .slice X.r.sa x.real.sent.length X.r.sc, .int .i64 x.drill.items, .slice X.d.fa x.drill.facts.length X.d.fc, .slice X.d.ma x.drill.motions.length X.d.mc, .slice X.d.sa x.drill.sent.length X.d.sc] 43)).alloc (.cells #[.int .i64 zItem.kind, .int .i64 zItem.tick, .bool zItem.drill, .int .i64 zItem.a, .int .i64 zItem.b, .bool zItem.yes, .int .i64 zItem.chance.least, .int .i64 zItem.chance.most, .int .i64 zItem.chance.all] 36)
  have B1 := (Blk.newAt (w.alloc (.cells #[.slice V.am c.members.length V.cm, .slice V.al c.laws.length V.cl, .slice V.av c.levels.length V.cv] 28)) 43 #[.int .i64 x.tick, .int .i64 x.real.items, .slice X.r.fa x.real.facts.length X.r.fc, .slice X.r.ma x.real.motions.length X.r.mc, .slice X.r.sa x.real.sent.length X.r.sc, .int .i64 x.drill.items, .slice X.d.fa x.drill.facts.length X.d.fc, .slice X.d.ma x.drill.motions.length X.d.mc, .slice X.d.sa x.drill.sent.length X.d.sc] (n := w.heap.size + 1) (by simp)).alloc (.cells #[.int .i64 zItem.kind, .int .i64 zItem.tick, .bool zItem.drill, .int .i64 zItem.a, .int .i64 zItem.b, .bool zItem.yes, .int .i64 zItem.chance.least, .int .i64 zItem.chance.most, .int .i64 zItem.chance.all] 36)
  have B2 := Blk.newAt ((w.alloc (.cells #[.slice V.am c.members.length V.cm, .slice V.al c.laws.length V.cl, .slice V.av c.levels.length V.cv] 28)).alloc (.cells #[.int .i64 x.tick, .int .i64 x.real.items, .slice X.r.fa x.real.facts.length X.r.fc, .slice X.r.ma x.real.motions.length X.r.mc, .slice X.r.sa x.real.sent.length X.r.sc, .int .i64 x.drill.items, .slice X.d.fa x.drill.facts.length X.d.fc, .slice X.d.ma x.drill.motions.length X.d.mc, .slice X.d.sa x.drill.sent.length X.d.sc] 43)) 36 #[.int .i64 zItem.kind, .int .i64 zItem.tick, .bool zItem.drill, .int .i64 zItem.a, .int .i64 zItem.b, .bool zItem.yes, .int .i64 zItem.chance.least, .int .i64 zItem.chance.most, .int .i64 zItem.chance.all] (n := w.heap.size + 1 + 1) (by simp)
  have K0 := (Kp.new2 w (.cells #[.slice V.am c.members.length V.cm, .slice V.al c.laws.length V.cl, .slice V.av c.levels.length V.cv] 28) (.cells #[.int .i64 x.tick, .int .i64 x.real.items, .slice X.r.fa x.real.facts.length X.r.fc, .slice X.r.ma x.real.motions.length X.r.mc, .slice X.r.sa x.real.sent.length X.r.sc, .int .i64 x.drill.items, .slice X.d.fa x.drill.facts.length X.d.fc, .slice X.d.ma x.drill.motions.length X.d.mc, .slice X.d.sa x.drill.sent.length X.d.sc] 43)).alloc (by simp; omega) (.cells #[.int .i64 zItem.kind, .int .i64 zItem.tick, .bool zItem.drill, .int .i64 zItem.a, .int .i64 zItem.b, .bool zItem.yes, .int .i64 zItem.chance.least, .int .i64 zItem.chance.most, .int .i64 zItem.chance.all] 36)
  have S : IS w g w.heap.size (w.heap.size + 1) (w.heap.size + 1 + 1) nums k V c X x (((w.alloc (.cells #[.slice V.am c.members.length V.cm, .slice V.al c.laws.length V.cl, .slice V.av c.levels.length V.cv] 28)).alloc (.cells #[.int .i64 x.tick, .int .i64 x.real.items, .slice X.r.fa x.real.facts.length X.r.fc, .slice X.r.ma x.real.motions.length X.r.mc, .slice X.r.sa x.real.sent.length X.r.sc, .int .i64 x.drill.items, .slice X.d.fa x.drill.facts.length X.d.fc, .slice X.d.ma x.drill.motions.length X.d.mc, .slice X.d.sa x.drill.sent.length X.d.sc] 43)).alloc (.cells #[.int .i64 zItem.kind, .int .i64 zItem.tick, .bool zItem.drill, .int .i64 zItem.a, .int .i64 zItem.b, .bool zItem.yes, .int .i64 zItem.chance.least, .int .i64 zItem.chance.most, .int .i64 zItem.chance.all] 36)) :=
    ⟨h.kpN K0, hC.kpN K0, B0, B1, B2, hf, K0.wide _, h.lt, Nat.le_refl _, by omega, by omega⟩
  clear B0 B1 B2 K0 h hC
  go_enter Tryz.func47, Tryz.ntmps47
  go_upto_region 1 with (fail)
  change Code.wp _ _ _ _ (((w.alloc (.cells #[.slice V.am c.members.length V.cm, .slice V.al c.laws.length V.cl, .slice V.av c.levels.length V.cv] 28)).alloc (.cells #[.int .i64 x.tick, .int .i64 x.real.items, .slice X.r.fa x.real.facts.length X.r.fc, .slice X.r.ma x.real.motions.length X.r.mc, .slice X.r.sa x.real.sent.length X.r.sc, .int .i64 x.drill.items, .slice X.d.fa x.drill.facts.length X.d.fc, .slice X.d.ma x.drill.motions.length X.d.mc, .slice X.d.sa x.drill.sent.length X.d.sc] 43)).alloc (.cells #[.int .i64 zItem.kind, .int .i64 zItem.tick, .bool zItem.drill, .int .i64 zItem.a, .int .i64 zItem.b, .bool zItem.yes, .int .i64 zItem.chance.least, .int .i64 zItem.chance.most, .int .i64 zItem.chance.all] 36))
  obtain ⟨cb, hcb⟩ : ∃ q, q = w.heap.size := ⟨_, rfl⟩
  obtain ⟨hb, hhb⟩ : ∃ q, q = w.heap.size + 1 := ⟨_, rfl⟩
  obtain ⟨rb, hrb⟩ : ∃ q, q = w.heap.size + 1 + 1 := ⟨_, rfl⟩
  rw [← hrb, ← hhb, ← hcb] at S
  rw [← hrb, ← hhb, ← hcb]
  have ne1 : cb ≠ hb := by omega
  have ne2 : cb ≠ rb := by omega
  have ne3 : hb ≠ rb := by omega
  generalize ((w.alloc (.cells #[.slice V.am c.members.length V.cm, .slice V.al c.laws.length V.cl, .slice V.av c.levels.length V.cv] 28)).alloc (.cells #[.int .i64 x.tick, .int .i64 x.real.items, .slice X.r.fa x.real.facts.length X.r.fc, .slice X.r.ma x.real.motions.length X.r.mc, .slice X.r.sa x.real.sent.length X.r.sc, .int .i64 x.drill.items, .slice X.d.fa x.drill.facts.length X.d.fc, .slice X.d.ma x.drill.motions.length X.d.mc, .slice X.d.sa x.drill.sent.length X.d.sc] 43)).alloc (.cells #[.int .i64 zItem.kind, .int .i64 zItem.tick, .bool zItem.drill, .int .i64 zItem.a, .int .i64 zItem.b, .bool zItem.yes, .int .i64 zItem.chance.least, .int .i64 zItem.chance.most, .int .i64 zItem.chance.all] 36) = w1 at S ⊢
  clear hcb hhb hrb
  obtain ⟨bl, ol, eal, -, -, -⟩ := S.ca.l.2 hlaw
  obtain ⟨bm, om, eam, -, -, -⟩ := S.ca.m.2 hm0
  obtain ⟨am, cm, al, cl, av, cv⟩ := V
  have eal' : al = some ⟨bl, ol, none⟩ := eal
  have eam' : am = some ⟨bm, om, none⟩ := eam
  subst eal' eam'
  clear eal eam
  have hW1 : w.heap.size ≤ w1.heap.size := S.kp.size
  have hgw := S.gW
  go_cut [7] (fun v7 wx => AtItem w g cb hb rb nums k ⟨some ⟨bm, om, none⟩, cm, some ⟨bl, ol, none⟩, cl, av, cv⟩ c X x v7 wx)
  case first =>
    replace S := S.kpN (Kp.refl _ _ _).drew
    obtain ⟨S0, hS⟩ : ∃ S0 : World → Prop, S0 = fun w' => Blk w' cb 28 #[.slice (some ⟨bm, om, none⟩) c.members.length cm, .slice (some ⟨bl, ol, none⟩) c.laws.length cl, .slice av c.levels.length cv] ∧ Blk w' hb 43 #[.int .i64 x.tick, .int .i64 x.real.items, .slice X.r.fa x.real.facts.length X.r.fc, .slice X.r.ma x.real.motions.length X.r.mc, .slice X.r.sa x.real.sent.length X.r.sc, .int .i64 x.drill.items, .slice X.d.fa x.drill.facts.length X.d.fc, .slice X.d.ma x.drill.motions.length X.d.mc, .slice X.d.sa x.drill.sent.length X.d.sc] ∧ (∀ j (hj : j < c.laws.length), w'.cell? ⟨bl, ol + j * 5, none⟩ = some (.int .i64 c.laws[j].act)) ∧ Blk w' rb 36 #[.int .i64 zItem.kind, .int .i64 zItem.tick, .bool zItem.drill, .int .i64 zItem.a, .int .i64 zItem.b, .bool zItem.yes, .int .i64 zItem.chance.least, .int .i64 zItem.chance.most, .int .i64 zItem.chance.all] := ⟨_, rfl⟩
    have hS0 : ∀ w', S0 w' ↔ (Blk w' cb 28 #[.slice (some ⟨bm, om, none⟩) c.members.length cm, .slice (some ⟨bl, ol, none⟩) c.laws.length cl, .slice av c.levels.length cv] ∧ Blk w' hb 43 #[.int .i64 x.tick, .int .i64 x.real.items, .slice X.r.fa x.real.facts.length X.r.fc, .slice X.r.ma x.real.motions.length X.r.mc, .slice X.r.sa x.real.sent.length X.r.sc, .int .i64 x.drill.items, .slice X.d.fa x.drill.facts.length X.d.fc, .slice X.d.ma x.drill.motions.length X.d.mc, .slice X.d.sa x.drill.sent.length X.d.sc] ∧ (∀ j (hj : j < c.laws.length), w'.cell? ⟨bl, ol + j * 5, none⟩ = some (.int .i64 c.laws[j].act)) ∧ Blk w' rb 36 #[.int .i64 zItem.kind, .int .i64 zItem.tick, .bool zItem.drill, .int .i64 zItem.a, .int .i64 zItem.b, .bool zItem.yes, .int .i64 zItem.chance.least, .int .i64 zItem.chance.most, .int .i64 zItem.chance.all]) := fun w' => by rw [hS]
    clear hS
    have cc := fun (q : Ev S0) i => ((hS0 _).1 q.h).1.cell i
    have ch := fun (q : Ev S0) => ((hS0 _).1 q.h).2.1.cell 0
    have ca := fun (q : Ev S0) => ((hS0 _).1 q.h).2.2.1
    simp only [List.getElem?_toArray, List.getElem?_cons_zero] at ch
    replace ca := Lib.hid ca
    have hevT := ev_true
    refine wp_region_tr S0 (.st 0 0 (.st 3 0 (.st 4 1 (.st 5 0 (.st 7 0 (.st 11 0 (.st 14 0 (.st 17 0 (.st 18 1 (.st 19 0 (.st 20 0 (.st 21 1 (.st 22 0 (.st 27 0 (.b2 1 (.st 2 0 (.b2 6 (.b2 8 (.st 9 0 (.st 10 0 (.b2 12 (.st 13 0 (.b2 15 (.st 16 0 (.b2 23 (.st 24 0 (.st 25 0 (.st 26 1 (.b2 28 (.st 29 0 (.st 30 0 (.st 31 2 (.st 32 2 .nil)))) 31 (.st 28 2 (.st 29 0 (.st 30 0 (.st 32 2 .nil)))))))) 31 (.st 23 2 (.st 24 0 (.st 25 0 (.st 26 1 (.st 28 2 (.st 29 0 (.st 30 0 (.st 32 2 .nil)))))))))) 31 (.st 15 2 (.st 16 0 (.st 23 2 (.st 24 0 (.st 25 0 (.st 26 1 (.st 28 2 (.st 29 0 (.st 30 0 (.st 32 2 .nil)))))))))))) 31 (.st 12 2 (.st 13 0 (.st 15 2 (.st 16 0 (.st 23 2 (.st 24 0 (.st 25 0 (.st 26 1 (.st 28 2 (.st 29 0 (.st 30 0 (.st 32 2 .nil))))))))))))))) 31 (.st 8 2 (.st 9 0 (.st 10 0 (.st 12 2 (.st 13 0 (.st 15 2 (.st 16 0 (.st 23 2 (.st 24 0 (.st 25 0 (.st 26 1 (.st 28 2 (.st 29 0 (.st 30 0 (.st 32 2 .nil)))))))))))))))) 31 (.st 6 2 (.st 8 2 (.st 9 0 (.st 10 0 (.st 12 2 (.st 13 0 (.st 15 2 (.st 16 0 (.st 23 2 (.st 24 0 (.st 25 0 (.st 26 1 (.st 28 2 (.st 29 0 (.st 30 0 (.st 32 2 .nil)))))))))))))))))) 31 (.st 1 2 (.st 2 0 (.st 6 2 (.st 8 2 (.st 9 0 (.st 10 0 (.st 12 2 (.st 13 0 (.st 15 2 (.st 16 0 (.st 23 2 (.st 24 0 (.st 25 0 (.st 26 1 (.st 28 2 (.st 29 0 (.st 30 0 (.st 32 2 .nil))))))))))))))))))))))))))))))))) (by kernel_rfl) (by kernel_rfl) ((hS0 _).2 ⟨S.cl, S.hl, S.acts rfl, S.res⟩) ?_
    intro _hev
    iterate 14 (first | (refine wpTr_v rfl rfl ?_; intro K hK; go_big_quiet_op; go_big_quiet_on) | (refine wpTr_q rfl rfl ?_; intro K hK; go_big_quiet_op; go_big_quiet_on) | refine wpTr_s rfl rfl ?_)
    refine wpTr_b2 ?_ ?_
    · refine wpOne_l rfl rfl ?_; intro K hK
      go_step
      refine (next_any g nums _ 4 _ S.ring (by omega) (by omega) (by omega)).mono ?_
      rintro e w5 ⟨vv, rfl, ⟨y1, rfl, py1, qy1⟩, hR, k5⟩
      replace S := S.turn hR k5
      try (replace NB := NB.kp k5 NB.lt (sne (by omega)))
      clear hR
      refine hK _ _ ((hS0 _).2 ⟨S.cl, S.hl, S.acts rfl, S.res⟩) ?_
      clear hK K k5
      iterate 1 (first | (refine wpTr_v rfl rfl ?_; intro K hK; go_big_quiet_op; go_big_quiet_on) | (refine wpTr_q rfl rfl ?_; intro K hK; go_big_quiet_op; go_big_quiet_on) | refine wpTr_s rfl rfl ?_)
      refine wpTr_b2 ?_ ?_
      · refine wpOne_l rfl rfl ?_; intro K hK
        go_step
        refine (next_any g nums _ 3 _ S.ring (by omega) (by omega) (by omega)).mono ?_
        rintro e w5 ⟨vv, rfl, ⟨y2, rfl, py2, qy2⟩, hR, k5⟩
        replace S := S.turn hR k5
        try (replace NB := NB.kp k5 NB.lt (sne (by omega)))
        clear hR
        refine hK _ _ ((hS0 _).2 ⟨S.cl, S.hl, S.acts rfl, S.res⟩) ?_
        clear hK K k5
        refine wpTr_b2 ?_ ?_
        · refine wpOne_l rfl rfl ?_; intro K hK
          go_step
          refine (next_any g nums _ 3 _ S.ring (by omega) (by omega) (by omega)).mono ?_
          rintro e w5 ⟨vv, rfl, ⟨y3, rfl, py3, qy3⟩, hR, k5⟩
          have hyy : 0 ≤ y2 * y3 ∧ y2 * y3 ≤ 4 := by
            refine ⟨Int.mul_nonneg py2 py3, ?_⟩
            have h1 := Int.mul_le_mul_of_nonneg_right (show y2 ≤ 2 by omega) py3
            omega
          replace S := S.turn hR k5
          try (replace NB := NB.kp k5 NB.lt (sne (by omega)))
          clear hR
          refine hK _ _ ((hS0 _).2 ⟨S.cl, S.hl, S.acts rfl, S.res⟩) ?_
          clear hK K k5
          iterate 2 (first | (refine wpTr_v rfl rfl ?_; intro K hK; go_big_quiet_op; go_big_quiet_on) | (refine wpTr_q rfl rfl ?_; intro K hK; go_big_quiet_op; go_big_quiet_on) | refine wpTr_s rfl rfl ?_)
          refine wpTr_b2 ?_ ?_
          · refine wpOne_l rfl rfl ?_; intro K hK
            go_step
            refine (next_any g nums _ 3 _ S.ring (by omega) (by omega) (by omega)).mono ?_
            rintro e w5 ⟨vv, rfl, ⟨y4, rfl, py4, qy4⟩, hR, k5⟩
            replace S := S.turn hR k5
            try (replace NB := NB.kp k5 NB.lt (sne (by omega)))
            clear hR
            refine hK _ _ ((hS0 _).2 ⟨S.cl, S.hl, S.acts rfl, S.res⟩) ?_
            clear hK K k5
            iterate 1 (first | (refine wpTr_v rfl rfl ?_; intro K hK; go_big_quiet_op; go_big_quiet_on) | (refine wpTr_q rfl rfl ?_; intro K hK; go_big_quiet_op; go_big_quiet_on) | refine wpTr_s rfl rfl ?_)
            refine wpTr_b2 ?_ ?_
            · refine wpOne_l rfl rfl ?_; intro K hK
              go_step
              refine (next_any g nums _ 4 _ S.ring (by omega) (by omega) (by omega)).mono ?_
              rintro e w5 ⟨vv, rfl, ⟨y5, rfl, py5, qy5⟩, hR, k5⟩
              replace S := S.turn hR k5
              try (replace NB := NB.kp k5 NB.lt (sne (by omega)))
              clear hR
              refine hK _ _ ((hS0 _).2 ⟨S.cl, S.hl, S.acts rfl, S.res⟩) ?_
              clear hK K k5
              iterate 1 (first | (refine wpTr_v rfl rfl ?_; intro K hK; go_big_quiet_op; go_big_quiet_on) | (refine wpTr_q rfl rfl ?_; intro K hK; go_big_quiet_op; go_big_quiet_on) | refine wpTr_s rfl rfl ?_)
              refine wpTr_b2 ?_ ?_
              · refine wpOne_l rfl rfl ?_; intro K hK
                go_step
                refine (next_any g nums _ (c.laws.length : Int) _ S.ring (by omega) (by omega) (by omega)).mono ?_
                rintro e w5 ⟨vv, rfl, ⟨y6, rfl, py6, qy6⟩, hR, k5⟩
                replace S := S.turn hR k5
                try (replace NB := NB.kp k5 NB.lt (sne (by omega)))
                clear hR
                obtain ⟨j, rfl⟩ := Int.eq_ofNat_of_zero_le py6
                have hj : j < c.laws.length := by omega
                have cj := fun (q : Ev S0) => ca.out q j hj
                refine hK _ _ ((hS0 _).2 ⟨S.cl, S.hl, S.acts rfl, S.res⟩) ?_
                clear hK K k5
                iterate 3 (first | (refine wpTr_v rfl rfl ?_; intro K hK; go_big_quiet_op; go_big_quiet_on) | (refine wpTr_q rfl rfl ?_; intro K hK; go_big_quiet_op; go_big_quiet_on) | refine wpTr_s rfl rfl ?_)
                refine wpTr_b2 ?_ ?_
                · refine wpOne_l rfl rfl ?_; intro K hK
                  go_step
                  refine (next_any g nums _ 3 _ S.ring (by omega) (by omega) (by omega)).mono ?_
                  rintro e w5 ⟨vv, rfl, ⟨y7, rfl, py7, qy7⟩, hR, k5⟩
                  replace S := S.turn hR k5
                  try (replace NB := NB.kp k5 NB.lt (sne (by omega)))
                  clear hR
                  refine hK _ _ ((hS0 _).2 ⟨S.cl, S.hl, S.acts rfl, S.res⟩) ?_
                  clear hK K k5
                  iterate 2 (first | (refine wpTr_v rfl rfl ?_; intro K hK; go_big_quiet_op; go_big_quiet_on) | (refine wpTr_q rfl rfl ?_; intro K hK; go_big_quiet_op; go_big_quiet_on) | refine wpTr_s rfl rfl ?_)
                  refine wpTr_l rfl rfl ?_; intro K hK
                  obtain ⟨nb, wq, hwq, hnb, S2, NB, hn0, hnc, hnh, hnr, hng⟩ := S.fresh 36 #[.int .i64 zItem.kind, .int .i64 zItem.tick, .bool zItem.drill, .int .i64 zItem.a, .int .i64 zItem.b, .bool zItem.yes, .int .i64 zItem.chance.least, .int .i64 zItem.chance.most, .int .i64 zItem.chance.all]
                  clear S
                  have S := S2
                  clear S2
                  go_step
                  first | rw [← hwq] | rw [show (World.alloc w5 (.cells #[.int .i64 zItem.kind, .int .i64 zItem.tick, .bool zItem.drill, .int .i64 zItem.a, .int .i64 zItem.b, .bool zItem.yes, .int .i64 zItem.chance.least, .int .i64 zItem.chance.most, .int .i64 zItem.chance.all] 36)).drew = wq from hwq.symm] | rw [show (World.alloc w1 (.cells #[.int .i64 zItem.kind, .int .i64 zItem.tick, .bool zItem.drill, .int .i64 zItem.a, .int .i64 zItem.b, .bool zItem.yes, .int .i64 zItem.chance.least, .int .i64 zItem.chance.most, .int .i64 zItem.chance.all] 36)).drew = wq from hwq.symm] | rw [show World.alloc w5 (.cells #[.int .i64 0, .int .i64 0, .bool false, .int .i64 0, .int .i64 0, .bool false, .int .i64 0, .int .i64 0, .int .i64 0] 36) = wq from hwq.symm] | rw [show (World.alloc w1 (.cells #[.int .i64 0, .int .i64 0, .bool false, .int .i64 0, .int .i64 0, .bool false, .int .i64 0, .int .i64 0, .int .i64 0] 36)).drew = wq from hwq.symm]
                  first | rw [← hnb] | rw [← show nb = w1.heap.size from hnb]
                  replace hnb := Lib.hid hnb
                  refine hK _ _ ((hS0 _).2 ⟨S.cl, S.hl, S.acts rfl, S.res⟩) ?_
                  clear hK K hwq
                  refine wpTr_l rfl rfl ?_; intro K hK
                  have cN := fun i => NB.cell i
                  have fN := fun i => NB.frozen i
                  go_step
                  have S2 := S.own (setI_grown _ nb ⟨1 + y1, x.tick + y2 * y3, y4 == 0, 1 + y5, c.laws[j].act, decide (0 < y7), ⟨0, 0, 0⟩⟩) hn0 hnc hnh hnr
                  have NB2 := NB.setI ⟨1 + y1, x.tick + y2 * y3, y4 == 0, 1 + y5, c.laws[j].act, decide (0 < y7), ⟨0, 0, 0⟩⟩
                  clear cN fN
                  change K _ (setI _ nb ⟨1 + y1, x.tick + y2 * y3, y4 == 0, 1 + y5, c.laws[j].act, decide (0 < y7), ⟨0, 0, 0⟩⟩)
                  generalize setI _ nb ⟨1 + y1, x.tick + y2 * y3, y4 == 0, 1 + y5, c.laws[j].act, decide (0 < y7), ⟨0, 0, 0⟩⟩ = w7 at S2 NB2 ⊢
                  refine hK _ _ ((hS0 _).2 ⟨S2.cl, S2.hl, S2.acts rfl, S2.res⟩) ?_
                  clear hK K
                  refine wpTr_nil ?_
                  clear hevT _hev
                  go_wp2_with fail
                  go_meet
                  case rel => exact ⟨nb, _, ⟨1 + y1, x.tick + y2 * y3, y4 == 0, 1 + y5, c.laws[j].act, decide (0 < y7), ⟨0, 0, 0⟩⟩, rfl, Nat.le_refl _, S2, NB2, hn0, hnc, hnh, hnr, rfl, by simp only; omega, by simp only; omega⟩
                · refine wpOne_l rfl rfl ?_; intro K hK
                  obtain ⟨nb, wq, hwq, hnb, S2, NB, hn0, hnc, hnh, hnr, hng⟩ := S.fresh 36 #[.int .i64 zItem.kind, .int .i64 zItem.tick, .bool zItem.drill, .int .i64 zItem.a, .int .i64 zItem.b, .bool zItem.yes, .int .i64 zItem.chance.least, .int .i64 zItem.chance.most, .int .i64 zItem.chance.all]
                  clear S
                  have S := S2
                  clear S2
                  go_step
                  first | rw [← hwq] | rw [show (World.alloc w5 (.cells #[.int .i64 zItem.kind, .int .i64 zItem.tick, .bool zItem.drill, .int .i64 zItem.a, .int .i64 zItem.b, .bool zItem.yes, .int .i64 zItem.chance.least, .int .i64 zItem.chance.most, .int .i64 zItem.chance.all] 36)).drew = wq from hwq.symm] | rw [show (World.alloc w1 (.cells #[.int .i64 zItem.kind, .int .i64 zItem.tick, .bool zItem.drill, .int .i64 zItem.a, .int .i64 zItem.b, .bool zItem.yes, .int .i64 zItem.chance.least, .int .i64 zItem.chance.most, .int .i64 zItem.chance.all] 36)).drew = wq from hwq.symm] | rw [show World.alloc w5 (.cells #[.int .i64 0, .int .i64 0, .bool false, .int .i64 0, .int .i64 0, .bool false, .int .i64 0, .int .i64 0, .int .i64 0] 36) = wq from hwq.symm] | rw [show (World.alloc w1 (.cells #[.int .i64 0, .int .i64 0, .bool false, .int .i64 0, .int .i64 0, .bool false, .int .i64 0, .int .i64 0, .int .i64 0] 36)).drew = wq from hwq.symm]
                  first | rw [← hnb] | rw [← show nb = w1.heap.size from hnb]
                  replace hnb := Lib.hid hnb
                  refine hK _ _ ((hS0 _).2 ⟨S.cl, S.hl, S.acts rfl, S.res⟩) ?_
                  clear hK K hwq
                  refine wpTr_l rfl rfl ?_; intro K hK
                  go_step
                  refine (next_any g nums _ 3 _ S.ring (by omega) (by omega) (by omega)).mono ?_
                  rintro e w5 ⟨vv, rfl, ⟨y7, rfl, py7, qy7⟩, hR, k5⟩
                  replace S := S.turn hR k5
                  try (replace NB := NB.kp k5 NB.lt (sne (by omega)))
                  clear hR
                  refine hK _ _ ((hS0 _).2 ⟨S.cl, S.hl, S.acts rfl, S.res⟩) ?_
                  clear hK K k5
                  iterate 2 (first | (refine wpTr_v rfl rfl ?_; intro K hK; go_big_quiet_op; go_big_quiet_on) | (refine wpTr_q rfl rfl ?_; intro K hK; go_big_quiet_op; go_big_quiet_on) | refine wpTr_s rfl rfl ?_)
                  refine wpTr_l rfl rfl ?_; intro K hK
                  have cN := fun i => NB.cell i
                  have fN := fun i => NB.frozen i
                  go_step
                  have S2 := S.own (setI_grown _ nb ⟨1 + y1, x.tick + y2 * y3, y4 == 0, 1 + y5, c.laws[j].act, decide (0 < y7), ⟨0, 0, 0⟩⟩) hn0 hnc hnh hnr
                  have NB2 := NB.setI ⟨1 + y1, x.tick + y2 * y3, y4 == 0, 1 + y5, c.laws[j].act, decide (0 < y7), ⟨0, 0, 0⟩⟩
                  clear cN fN
                  change K _ (setI _ nb ⟨1 + y1, x.tick + y2 * y3, y4 == 0, 1 + y5, c.laws[j].act, decide (0 < y7), ⟨0, 0, 0⟩⟩)
                  generalize setI _ nb ⟨1 + y1, x.tick + y2 * y3, y4 == 0, 1 + y5, c.laws[j].act, decide (0 < y7), ⟨0, 0, 0⟩⟩ = w7 at S2 NB2 ⊢
                  refine hK _ _ ((hS0 _).2 ⟨S2.cl, S2.hl, S2.acts rfl, S2.res⟩) ?_
                  clear hK K
                  refine wpTr_nil ?_
                  clear hevT _hev
                  go_wp2_with fail
                  go_meet
                  case rel => exact ⟨nb, _, ⟨1 + y1, x.tick + y2 * y3, y4 == 0, 1 + y5, c.laws[j].act, decide (0 < y7), ⟨0, 0, 0⟩⟩, rfl, Nat.le_refl _, S2, NB2, hn0, hnc, hnh, hnr, rfl, by simp only; omega, by simp only; omega⟩
              · refine wpOne_l rfl rfl ?_; intro K hK
                obtain ⟨nb, wq, hwq, hnb, S2, NB, hn0, hnc, hnh, hnr, hng⟩ := S.fresh 36 #[.int .i64 zItem.kind, .int .i64 zItem.tick, .bool zItem.drill, .int .i64 zItem.a, .int .i64 zItem.b, .bool zItem.yes, .int .i64 zItem.chance.least, .int .i64 zItem.chance.most, .int .i64 zItem.chance.all]
                clear S
                have S := S2
                clear S2
                go_step
                first | rw [← hwq] | rw [show (World.alloc w5 (.cells #[.int .i64 zItem.kind, .int .i64 zItem.tick, .bool zItem.drill, .int .i64 zItem.a, .int .i64 zItem.b, .bool zItem.yes, .int .i64 zItem.chance.least, .int .i64 zItem.chance.most, .int .i64 zItem.chance.all] 36)).drew = wq from hwq.symm] | rw [show (World.alloc w1 (.cells #[.int .i64 zItem.kind, .int .i64 zItem.tick, .bool zItem.drill, .int .i64 zItem.a, .int .i64 zItem.b, .bool zItem.yes, .int .i64 zItem.chance.least, .int .i64 zItem.chance.most, .int .i64 zItem.chance.all] 36)).drew = wq from hwq.symm] | rw [show World.alloc w5 (.cells #[.int .i64 0, .int .i64 0, .bool false, .int .i64 0, .int .i64 0, .bool false, .int .i64 0, .int .i64 0, .int .i64 0] 36) = wq from hwq.symm] | rw [show (World.alloc w1 (.cells #[.int .i64 0, .int .i64 0, .bool false, .int .i64 0, .int .i64 0, .bool false, .int .i64 0, .int .i64 0, .int .i64 0] 36)).drew = wq from hwq.symm]
                first | rw [← hnb] | rw [← show nb = w1.heap.size from hnb]
                replace hnb := Lib.hid hnb
                refine hK _ _ ((hS0 _).2 ⟨S.cl, S.hl, S.acts rfl, S.res⟩) ?_
                clear hK K hwq
                refine wpTr_l rfl rfl ?_; intro K hK
                go_step
                refine (next_any g nums _ (c.laws.length : Int) _ S.ring (by omega) (by omega) (by omega)).mono ?_
                rintro e w5 ⟨vv, rfl, ⟨y6, rfl, py6, qy6⟩, hR, k5⟩
                replace S := S.turn hR k5
                try (replace NB := NB.kp k5 NB.lt (sne (by omega)))
                clear hR
                obtain ⟨j, rfl⟩ := Int.eq_ofNat_of_zero_le py6
                have hj : j < c.laws.length := by omega
                have cj := fun (q : Ev S0) => ca.out q j hj
                refine hK _ _ ((hS0 _).2 ⟨S.cl, S.hl, S.acts rfl, S.res⟩) ?_
                clear hK K k5
                iterate 3 (first | (refine wpTr_v rfl rfl ?_; intro K hK; go_big_quiet_op; go_big_quiet_on) | (refine wpTr_q rfl rfl ?_; intro K hK; go_big_quiet_op; go_big_quiet_on) | refine wpTr_s rfl rfl ?_)
                refine wpTr_l rfl rfl ?_; intro K hK
                go_step
                refine (next_any g nums _ 3 _ S.ring (by omega) (by omega) (by omega)).mono ?_
                rintro e w5 ⟨vv, rfl, ⟨y7, rfl, py7, qy7⟩, hR, k5⟩
                replace S := S.turn hR k5
                try (replace NB := NB.kp k5 NB.lt (sne (by omega)))
                clear hR
                refine hK _ _ ((hS0 _).2 ⟨S.cl, S.hl, S.acts rfl, S.res⟩) ?_
                clear hK K k5
                iterate 2 (first | (refine wpTr_v rfl rfl ?_; intro K hK; go_big_quiet_op; go_big_quiet_on) | (refine wpTr_q rfl rfl ?_; intro K hK; go_big_quiet_op; go_big_quiet_on) | refine wpTr_s rfl rfl ?_)
                refine wpTr_l rfl rfl ?_; intro K hK
                have cN := fun i => NB.cell i
                have fN := fun i => NB.frozen i
                go_step
                have S2 := S.own (setI_grown _ nb ⟨1 + y1, x.tick + y2 * y3, y4 == 0, 1 + y5, c.laws[j].act, decide (0 < y7), ⟨0, 0, 0⟩⟩) hn0 hnc hnh hnr
                have NB2 := NB.setI ⟨1 + y1, x.tick + y2 * y3, y4 == 0, 1 + y5, c.laws[j].act, decide (0 < y7), ⟨0, 0, 0⟩⟩
                clear cN fN
                change K _ (setI _ nb ⟨1 + y1, x.tick + y2 * y3, y4 == 0, 1 + y5, c.laws[j].act, decide (0 < y7), ⟨0, 0, 0⟩⟩)
                generalize setI _ nb ⟨1 + y1, x.tick + y2 * y3, y4 == 0, 1 + y5, c.laws[j].act, decide (0 < y7), ⟨0, 0, 0⟩⟩ = w7 at S2 NB2 ⊢
                refine hK _ _ ((hS0 _).2 ⟨S2.cl, S2.hl, S2.acts rfl, S2.res⟩) ?_
                clear hK K
                refine wpTr_nil ?_
                clear hevT _hev
                go_wp2_with fail
                go_meet
                case rel => exact ⟨nb, _, ⟨1 + y1, x.tick + y2 * y3, y4 == 0, 1 + y5, c.laws[j].act, decide (0 < y7), ⟨0, 0, 0⟩⟩, rfl, Nat.le_refl _, S2, NB2, hn0, hnc, hnh, hnr, rfl, by simp only; omega, by simp only; omega⟩
            · refine wpOne_l rfl rfl ?_; intro K hK
              obtain ⟨nb, wq, hwq, hnb, S2, NB, hn0, hnc, hnh, hnr, hng⟩ := S.fresh 36 #[.int .i64 zItem.kind, .int .i64 zItem.tick, .bool zItem.drill, .int .i64 zItem.a, .int .i64 zItem.b, .bool zItem.yes, .int .i64 zItem.chance.least, .int .i64 zItem.chance.most, .int .i64 zItem.chance.all]
              clear S
              have S := S2
              clear S2
              go_step
              first | rw [← hwq] | rw [show (World.alloc w5 (.cells #[.int .i64 zItem.kind, .int .i64 zItem.tick, .bool zItem.drill, .int .i64 zItem.a, .int .i64 zItem.b, .bool zItem.yes, .int .i64 zItem.chance.least, .int .i64 zItem.chance.most, .int .i64 zItem.chance.all] 36)).drew = wq from hwq.symm] | rw [show (World.alloc w1 (.cells #[.int .i64 zItem.kind, .int .i64 zItem.tick, .bool zItem.drill, .int .i64 zItem.a, .int .i64 zItem.b, .bool zItem.yes, .int .i64 zItem.chance.least, .int .i64 zItem.chance.most, .int .i64 zItem.chance.all] 36)).drew = wq from hwq.symm] | rw [show World.alloc w5 (.cells #[.int .i64 0, .int .i64 0, .bool false, .int .i64 0, .int .i64 0, .bool false, .int .i64 0, .int .i64 0, .int .i64 0] 36) = wq from hwq.symm] | rw [show (World.alloc w1 (.cells #[.int .i64 0, .int .i64 0, .bool false, .int .i64 0, .int .i64 0, .bool false, .int .i64 0, .int .i64 0, .int .i64 0] 36)).drew = wq from hwq.symm]
              first | rw [← hnb] | rw [← show nb = w1.heap.size from hnb]
              replace hnb := Lib.hid hnb
              refine hK _ _ ((hS0 _).2 ⟨S.cl, S.hl, S.acts rfl, S.res⟩) ?_
              clear hK K hwq
              refine wpTr_l rfl rfl ?_; intro K hK
              go_step
              refine (next_any g nums _ 4 _ S.ring (by omega) (by omega) (by omega)).mono ?_
              rintro e w5 ⟨vv, rfl, ⟨y5, rfl, py5, qy5⟩, hR, k5⟩
              replace S := S.turn hR k5
              try (replace NB := NB.kp k5 NB.lt (sne (by omega)))
              clear hR
              refine hK _ _ ((hS0 _).2 ⟨S.cl, S.hl, S.acts rfl, S.res⟩) ?_
              clear hK K k5
              iterate 1 (first | (refine wpTr_v rfl rfl ?_; intro K hK; go_big_quiet_op; go_big_quiet_on) | (refine wpTr_q rfl rfl ?_; intro K hK; go_big_quiet_op; go_big_quiet_on) | refine wpTr_s rfl rfl ?_)
              refine wpTr_l rfl rfl ?_; intro K hK
              go_step
              refine (next_any g nums _ (c.laws.length : Int) _ S.ring (by omega) (by omega) (by omega)).mono ?_
              rintro e w5 ⟨vv, rfl, ⟨y6, rfl, py6, qy6⟩, hR, k5⟩
              replace S := S.turn hR k5
              try (replace NB := NB.kp k5 NB.lt (sne (by omega)))
              clear hR
              obtain ⟨j, rfl⟩ := Int.eq_ofNat_of_zero_le py6
              have hj : j < c.laws.length := by omega
              have cj := fun (q : Ev S0) => ca.out q j hj
              refine hK _ _ ((hS0 _).2 ⟨S.cl, S.hl, S.acts rfl, S.res⟩) ?_
              clear hK K k5
              iterate 3 (first | (refine wpTr_v rfl rfl ?_; intro K hK; go_big_quiet_op; go_big_quiet_on) | (refine wpTr_q rfl rfl ?_; intro K hK; go_big_quiet_op; go_big_quiet_on) | refine wpTr_s rfl rfl ?_)
              refine wpTr_l rfl rfl ?_; intro K hK
              go_step
              refine (next_any g nums _ 3 _ S.ring (by omega) (by omega) (by omega)).mono ?_
              rintro e w5 ⟨vv, rfl, ⟨y7, rfl, py7, qy7⟩, hR, k5⟩
              replace S := S.turn hR k5
              try (replace NB := NB.kp k5 NB.lt (sne (by omega)))
              clear hR
              refine hK _ _ ((hS0 _).2 ⟨S.cl, S.hl, S.acts rfl, S.res⟩) ?_
              clear hK K k5
              iterate 2 (first | (refine wpTr_v rfl rfl ?_; intro K hK; go_big_quiet_op; go_big_quiet_on) | (refine wpTr_q rfl rfl ?_; intro K hK; go_big_quiet_op; go_big_quiet_on) | refine wpTr_s rfl rfl ?_)
              refine wpTr_l rfl rfl ?_; intro K hK
              have cN := fun i => NB.cell i
              have fN := fun i => NB.frozen i
              go_step
              have S2 := S.own (setI_grown _ nb ⟨1 + y1, x.tick + y2 * y3, y4 == 0, 1 + y5, c.laws[j].act, decide (0 < y7), ⟨0, 0, 0⟩⟩) hn0 hnc hnh hnr
              have NB2 := NB.setI ⟨1 + y1, x.tick + y2 * y3, y4 == 0, 1 + y5, c.laws[j].act, decide (0 < y7), ⟨0, 0, 0⟩⟩
              clear cN fN
              change K _ (setI _ nb ⟨1 + y1, x.tick + y2 * y3, y4 == 0, 1 + y5, c.laws[j].act, decide (0 < y7), ⟨0, 0, 0⟩⟩)
              generalize setI _ nb ⟨1 + y1, x.tick + y2 * y3, y4 == 0, 1 + y5, c.laws[j].act, decide (0 < y7), ⟨0, 0, 0⟩⟩ = w7 at S2 NB2 ⊢
              refine hK _ _ ((hS0 _).2 ⟨S2.cl, S2.hl, S2.acts rfl, S2.res⟩) ?_
              clear hK K
              refine wpTr_nil ?_
              clear hevT _hev
              go_wp2_with fail
              go_meet
              case rel => exact ⟨nb, _, ⟨1 + y1, x.tick + y2 * y3, y4 == 0, 1 + y5, c.laws[j].act, decide (0 < y7), ⟨0, 0, 0⟩⟩, rfl, Nat.le_refl _, S2, NB2, hn0, hnc, hnh, hnr, rfl, by simp only; omega, by simp only; omega⟩
          · refine wpOne_l rfl rfl ?_; intro K hK
            obtain ⟨nb, wq, hwq, hnb, S2, NB, hn0, hnc, hnh, hnr, hng⟩ := S.fresh 36 #[.int .i64 zItem.kind, .int .i64 zItem.tick, .bool zItem.drill, .int .i64 zItem.a, .int .i64 zItem.b, .bool zItem.yes, .int .i64 zItem.chance.least, .int .i64 zItem.chance.most, .int .i64 zItem.chance.all]
            clear S
            have S := S2
            clear S2
            go_step
            first | rw [← hwq] | rw [show (World.alloc w5 (.cells #[.int .i64 zItem.kind, .int .i64 zItem.tick, .bool zItem.drill, .int .i64 zItem.a, .int .i64 zItem.b, .bool zItem.yes, .int .i64 zItem.chance.least, .int .i64 zItem.chance.most, .int .i64 zItem.chance.all] 36)).drew = wq from hwq.symm] | rw [show (World.alloc w1 (.cells #[.int .i64 zItem.kind, .int .i64 zItem.tick, .bool zItem.drill, .int .i64 zItem.a, .int .i64 zItem.b, .bool zItem.yes, .int .i64 zItem.chance.least, .int .i64 zItem.chance.most, .int .i64 zItem.chance.all] 36)).drew = wq from hwq.symm] | rw [show World.alloc w5 (.cells #[.int .i64 0, .int .i64 0, .bool false, .int .i64 0, .int .i64 0, .bool false, .int .i64 0, .int .i64 0, .int .i64 0] 36) = wq from hwq.symm] | rw [show (World.alloc w1 (.cells #[.int .i64 0, .int .i64 0, .bool false, .int .i64 0, .int .i64 0, .bool false, .int .i64 0, .int .i64 0, .int .i64 0] 36)).drew = wq from hwq.symm]
            first | rw [← hnb] | rw [← show nb = w1.heap.size from hnb]
            replace hnb := Lib.hid hnb
            refine hK _ _ ((hS0 _).2 ⟨S.cl, S.hl, S.acts rfl, S.res⟩) ?_
            clear hK K hwq
            refine wpTr_l rfl rfl ?_; intro K hK
            go_step
            refine (next_any g nums _ 3 _ S.ring (by omega) (by omega) (by omega)).mono ?_
            rintro e w5 ⟨vv, rfl, ⟨y4, rfl, py4, qy4⟩, hR, k5⟩
            replace S := S.turn hR k5
            try (replace NB := NB.kp k5 NB.lt (sne (by omega)))
            clear hR
            refine hK _ _ ((hS0 _).2 ⟨S.cl, S.hl, S.acts rfl, S.res⟩) ?_
            clear hK K k5
            iterate 1 (first | (refine wpTr_v rfl rfl ?_; intro K hK; go_big_quiet_op; go_big_quiet_on) | (refine wpTr_q rfl rfl ?_; intro K hK; go_big_quiet_op; go_big_quiet_on) | refine wpTr_s rfl rfl ?_)
            refine wpTr_l rfl rfl ?_; intro K hK
            go_step
            refine (next_any g nums _ 4 _ S.ring (by omega) (by omega) (by omega)).mono ?_
            rintro e w5 ⟨vv, rfl, ⟨y5, rfl, py5, qy5⟩, hR, k5⟩
            replace S := S.turn hR k5
            try (replace NB := NB.kp k5 NB.lt (sne (by omega)))
            clear hR
            refine hK _ _ ((hS0 _).2 ⟨S.cl, S.hl, S.acts rfl, S.res⟩) ?_
            clear hK K k5
            iterate 1 (first | (refine wpTr_v rfl rfl ?_; intro K hK; go_big_quiet_op; go_big_quiet_on) | (refine wpTr_q rfl rfl ?_; intro K hK; go_big_quiet_op; go_big_quiet_on) | refine wpTr_s rfl rfl ?_)
            refine wpTr_l rfl rfl ?_; intro K hK
            go_step
            refine (next_any g nums _ (c.laws.length : Int) _ S.ring (by omega) (by omega) (by omega)).mono ?_
            rintro e w5 ⟨vv, rfl, ⟨y6, rfl, py6, qy6⟩, hR, k5⟩
            replace S := S.turn hR k5
            try (replace NB := NB.kp k5 NB.lt (sne (by omega)))
            clear hR
            obtain ⟨j, rfl⟩ := Int.eq_ofNat_of_zero_le py6
            have hj : j < c.laws.length := by omega
            have cj := fun (q : Ev S0) => ca.out q j hj
            refine hK _ _ ((hS0 _).2 ⟨S.cl, S.hl, S.acts rfl, S.res⟩) ?_
            clear hK K k5
            iterate 3 (first | (refine wpTr_v rfl rfl ?_; intro K hK; go_big_quiet_op; go_big_quiet_on) | (refine wpTr_q rfl rfl ?_; intro K hK; go_big_quiet_op; go_big_quiet_on) | refine wpTr_s rfl rfl ?_)
            refine wpTr_l rfl rfl ?_; intro K hK
            go_step
            refine (next_any g nums _ 3 _ S.ring (by omega) (by omega) (by omega)).mono ?_
            rintro e w5 ⟨vv, rfl, ⟨y7, rfl, py7, qy7⟩, hR, k5⟩
            replace S := S.turn hR k5
            try (replace NB := NB.kp k5 NB.lt (sne (by omega)))
            clear hR
            refine hK _ _ ((hS0 _).2 ⟨S.cl, S.hl, S.acts rfl, S.res⟩) ?_
            clear hK K k5
            iterate 2 (first | (refine wpTr_v rfl rfl ?_; intro K hK; go_big_quiet_op; go_big_quiet_on) | (refine wpTr_q rfl rfl ?_; intro K hK; go_big_quiet_op; go_big_quiet_on) | refine wpTr_s rfl rfl ?_)
            refine wpTr_l rfl rfl ?_; intro K hK
            have cN := fun i => NB.cell i
            have fN := fun i => NB.frozen i
            go_step
            have S2 := S.own (setI_grown _ nb ⟨1 + y1, x.tick + y2 * y3, y4 == 0, 1 + y5, c.laws[j].act, decide (0 < y7), ⟨0, 0, 0⟩⟩) hn0 hnc hnh hnr
            have NB2 := NB.setI ⟨1 + y1, x.tick + y2 * y3, y4 == 0, 1 + y5, c.laws[j].act, decide (0 < y7), ⟨0, 0, 0⟩⟩
            clear cN fN
            change K _ (setI _ nb ⟨1 + y1, x.tick + y2 * y3, y4 == 0, 1 + y5, c.laws[j].act, decide (0 < y7), ⟨0, 0, 0⟩⟩)
            generalize setI _ nb ⟨1 + y1, x.tick + y2 * y3, y4 == 0, 1 + y5, c.laws[j].act, decide (0 < y7), ⟨0, 0, 0⟩⟩ = w7 at S2 NB2 ⊢
            refine hK _ _ ((hS0 _).2 ⟨S2.cl, S2.hl, S2.acts rfl, S2.res⟩) ?_
            clear hK K
            refine wpTr_nil ?_
            clear hevT _hev
            go_wp2_with fail
            go_meet
            case rel => exact ⟨nb, _, ⟨1 + y1, x.tick + y2 * y3, y4 == 0, 1 + y5, c.laws[j].act, decide (0 < y7), ⟨0, 0, 0⟩⟩, rfl, Nat.le_refl _, S2, NB2, hn0, hnc, hnh, hnr, rfl, by simp only; omega, by simp only; omega⟩
        · refine wpOne_l rfl rfl ?_; intro K hK
          obtain ⟨nb, wq, hwq, hnb, S2, NB, hn0, hnc, hnh, hnr, hng⟩ := S.fresh 36 #[.int .i64 zItem.kind, .int .i64 zItem.tick, .bool zItem.drill, .int .i64 zItem.a, .int .i64 zItem.b, .bool zItem.yes, .int .i64 zItem.chance.least, .int .i64 zItem.chance.most, .int .i64 zItem.chance.all]
          clear S
          have S := S2
          clear S2
          go_step
          first | rw [← hwq] | rw [show (World.alloc w5 (.cells #[.int .i64 zItem.kind, .int .i64 zItem.tick, .bool zItem.drill, .int .i64 zItem.a, .int .i64 zItem.b, .bool zItem.yes, .int .i64 zItem.chance.least, .int .i64 zItem.chance.most, .int .i64 zItem.chance.all] 36)).drew = wq from hwq.symm] | rw [show (World.alloc w1 (.cells #[.int .i64 zItem.kind, .int .i64 zItem.tick, .bool zItem.drill, .int .i64 zItem.a, .int .i64 zItem.b, .bool zItem.yes, .int .i64 zItem.chance.least, .int .i64 zItem.chance.most, .int .i64 zItem.chance.all] 36)).drew = wq from hwq.symm] | rw [show World.alloc w5 (.cells #[.int .i64 0, .int .i64 0, .bool false, .int .i64 0, .int .i64 0, .bool false, .int .i64 0, .int .i64 0, .int .i64 0] 36) = wq from hwq.symm] | rw [show (World.alloc w1 (.cells #[.int .i64 0, .int .i64 0, .bool false, .int .i64 0, .int .i64 0, .bool false, .int .i64 0, .int .i64 0, .int .i64 0] 36)).drew = wq from hwq.symm]
          first | rw [← hnb] | rw [← show nb = w1.heap.size from hnb]
          replace hnb := Lib.hid hnb
          refine hK _ _ ((hS0 _).2 ⟨S.cl, S.hl, S.acts rfl, S.res⟩) ?_
          clear hK K hwq
          refine wpTr_l rfl rfl ?_; intro K hK
          go_step
          refine (next_any g nums _ 3 _ S.ring (by omega) (by omega) (by omega)).mono ?_
          rintro e w5 ⟨vv, rfl, ⟨y3, rfl, py3, qy3⟩, hR, k5⟩
          have hyy : 0 ≤ y2 * y3 ∧ y2 * y3 ≤ 4 := by
            refine ⟨Int.mul_nonneg py2 py3, ?_⟩
            have h1 := Int.mul_le_mul_of_nonneg_right (show y2 ≤ 2 by omega) py3
            omega
          replace S := S.turn hR k5
          try (replace NB := NB.kp k5 NB.lt (sne (by omega)))
          clear hR
          refine hK _ _ ((hS0 _).2 ⟨S.cl, S.hl, S.acts rfl, S.res⟩) ?_
          clear hK K k5
          iterate 2 (first | (refine wpTr_v rfl rfl ?_; intro K hK; go_big_quiet_op; go_big_quiet_on) | (refine wpTr_q rfl rfl ?_; intro K hK; go_big_quiet_op; go_big_quiet_on) | refine wpTr_s rfl rfl ?_)
          refine wpTr_l rfl rfl ?_; intro K hK
          go_step
          refine (next_any g nums _ 3 _ S.ring (by omega) (by omega) (by omega)).mono ?_
          rintro e w5 ⟨vv, rfl, ⟨y4, rfl, py4, qy4⟩, hR, k5⟩
          replace S := S.turn hR k5
          try (replace NB := NB.kp k5 NB.lt (sne (by omega)))
          clear hR
          refine hK _ _ ((hS0 _).2 ⟨S.cl, S.hl, S.acts rfl, S.res⟩) ?_
          clear hK K k5
          iterate 1 (first | (refine wpTr_v rfl rfl ?_; intro K hK; go_big_quiet_op; go_big_quiet_on) | (refine wpTr_q rfl rfl ?_; intro K hK; go_big_quiet_op; go_big_quiet_on) | refine wpTr_s rfl rfl ?_)
          refine wpTr_l rfl rfl ?_; intro K hK
          go_step
          refine (next_any g nums _ 4 _ S.ring (by omega) (by omega) (by omega)).mono ?_
          rintro e w5 ⟨vv, rfl, ⟨y5, rfl, py5, qy5⟩, hR, k5⟩
          replace S := S.turn hR k5
          try (replace NB := NB.kp k5 NB.lt (sne (by omega)))
          clear hR
          refine hK _ _ ((hS0 _).2 ⟨S.cl, S.hl, S.acts rfl, S.res⟩) ?_
          clear hK K k5
          iterate 1 (first | (refine wpTr_v rfl rfl ?_; intro K hK; go_big_quiet_op; go_big_quiet_on) | (refine wpTr_q rfl rfl ?_; intro K hK; go_big_quiet_op; go_big_quiet_on) | refine wpTr_s rfl rfl ?_)
          refine wpTr_l rfl rfl ?_; intro K hK
          go_step
          refine (next_any g nums _ (c.laws.length : Int) _ S.ring (by omega) (by omega) (by omega)).mono ?_
          rintro e w5 ⟨vv, rfl, ⟨y6, rfl, py6, qy6⟩, hR, k5⟩
          replace S := S.turn hR k5
          try (replace NB := NB.kp k5 NB.lt (sne (by omega)))
          clear hR
          obtain ⟨j, rfl⟩ := Int.eq_ofNat_of_zero_le py6
          have hj : j < c.laws.length := by omega
          have cj := fun (q : Ev S0) => ca.out q j hj
          refine hK _ _ ((hS0 _).2 ⟨S.cl, S.hl, S.acts rfl, S.res⟩) ?_
          clear hK K k5
          iterate 3 (first | (refine wpTr_v rfl rfl ?_; intro K hK; go_big_quiet_op; go_big_quiet_on) | (refine wpTr_q rfl rfl ?_; intro K hK; go_big_quiet_op; go_big_quiet_on) | refine wpTr_s rfl rfl ?_)
          refine wpTr_l rfl rfl ?_; intro K hK
          go_step
          refine (next_any g nums _ 3 _ S.ring (by omega) (by omega) (by omega)).mono ?_
          rintro e w5 ⟨vv, rfl, ⟨y7, rfl, py7, qy7⟩, hR, k5⟩
          replace S := S.turn hR k5
          try (replace NB := NB.kp k5 NB.lt (sne (by omega)))
          clear hR
          refine hK _ _ ((hS0 _).2 ⟨S.cl, S.hl, S.acts rfl, S.res⟩) ?_
          clear hK K k5
          iterate 2 (first | (refine wpTr_v rfl rfl ?_; intro K hK; go_big_quiet_op; go_big_quiet_on) | (refine wpTr_q rfl rfl ?_; intro K hK; go_big_quiet_op; go_big_quiet_on) | refine wpTr_s rfl rfl ?_)
          refine wpTr_l rfl rfl ?_; intro K hK
          have cN := fun i => NB.cell i
          have fN := fun i => NB.frozen i
          go_step
          have S2 := S.own (setI_grown _ nb ⟨1 + y1, x.tick + y2 * y3, y4 == 0, 1 + y5, c.laws[j].act, decide (0 < y7), ⟨0, 0, 0⟩⟩) hn0 hnc hnh hnr
          have NB2 := NB.setI ⟨1 + y1, x.tick + y2 * y3, y4 == 0, 1 + y5, c.laws[j].act, decide (0 < y7), ⟨0, 0, 0⟩⟩
          clear cN fN
          change K _ (setI _ nb ⟨1 + y1, x.tick + y2 * y3, y4 == 0, 1 + y5, c.laws[j].act, decide (0 < y7), ⟨0, 0, 0⟩⟩)
          generalize setI _ nb ⟨1 + y1, x.tick + y2 * y3, y4 == 0, 1 + y5, c.laws[j].act, decide (0 < y7), ⟨0, 0, 0⟩⟩ = w7 at S2 NB2 ⊢
          refine hK _ _ ((hS0 _).2 ⟨S2.cl, S2.hl, S2.acts rfl, S2.res⟩) ?_
          clear hK K
          refine wpTr_nil ?_
          clear hevT _hev
          go_wp2_with fail
          go_meet
          case rel => exact ⟨nb, _, ⟨1 + y1, x.tick + y2 * y3, y4 == 0, 1 + y5, c.laws[j].act, decide (0 < y7), ⟨0, 0, 0⟩⟩, rfl, Nat.le_refl _, S2, NB2, hn0, hnc, hnh, hnr, rfl, by simp only; omega, by simp only; omega⟩
      · refine wpOne_l rfl rfl ?_; intro K hK
        obtain ⟨nb, wq, hwq, hnb, S2, NB, hn0, hnc, hnh, hnr, hng⟩ := S.fresh 36 #[.int .i64 zItem.kind, .int .i64 zItem.tick, .bool zItem.drill, .int .i64 zItem.a, .int .i64 zItem.b, .bool zItem.yes, .int .i64 zItem.chance.least, .int .i64 zItem.chance.most, .int .i64 zItem.chance.all]
        clear S
        have S := S2
        clear S2
        go_step
        first | rw [← hwq] | rw [show (World.alloc w5 (.cells #[.int .i64 zItem.kind, .int .i64 zItem.tick, .bool zItem.drill, .int .i64 zItem.a, .int .i64 zItem.b, .bool zItem.yes, .int .i64 zItem.chance.least, .int .i64 zItem.chance.most, .int .i64 zItem.chance.all] 36)).drew = wq from hwq.symm] | rw [show (World.alloc w1 (.cells #[.int .i64 zItem.kind, .int .i64 zItem.tick, .bool zItem.drill, .int .i64 zItem.a, .int .i64 zItem.b, .bool zItem.yes, .int .i64 zItem.chance.least, .int .i64 zItem.chance.most, .int .i64 zItem.chance.all] 36)).drew = wq from hwq.symm] | rw [show World.alloc w5 (.cells #[.int .i64 0, .int .i64 0, .bool false, .int .i64 0, .int .i64 0, .bool false, .int .i64 0, .int .i64 0, .int .i64 0] 36) = wq from hwq.symm] | rw [show (World.alloc w1 (.cells #[.int .i64 0, .int .i64 0, .bool false, .int .i64 0, .int .i64 0, .bool false, .int .i64 0, .int .i64 0, .int .i64 0] 36)).drew = wq from hwq.symm]
        first | rw [← hnb] | rw [← show nb = w1.heap.size from hnb]
        replace hnb := Lib.hid hnb
        refine hK _ _ ((hS0 _).2 ⟨S.cl, S.hl, S.acts rfl, S.res⟩) ?_
        clear hK K hwq
        refine wpTr_l rfl rfl ?_; intro K hK
        go_step
        refine (next_any g nums _ 3 _ S.ring (by omega) (by omega) (by omega)).mono ?_
        rintro e w5 ⟨vv, rfl, ⟨y2, rfl, py2, qy2⟩, hR, k5⟩
        replace S := S.turn hR k5
        try (replace NB := NB.kp k5 NB.lt (sne (by omega)))
        clear hR
        refine hK _ _ ((hS0 _).2 ⟨S.cl, S.hl, S.acts rfl, S.res⟩) ?_
        clear hK K k5
        refine wpTr_l rfl rfl ?_; intro K hK
        go_step
        refine (next_any g nums _ 3 _ S.ring (by omega) (by omega) (by omega)).mono ?_
        rintro e w5 ⟨vv, rfl, ⟨y3, rfl, py3, qy3⟩, hR, k5⟩
        have hyy : 0 ≤ y2 * y3 ∧ y2 * y3 ≤ 4 := by
          refine ⟨Int.mul_nonneg py2 py3, ?_⟩
          have h1 := Int.mul_le_mul_of_nonneg_right (show y2 ≤ 2 by omega) py3
          omega
        replace S := S.turn hR k5
        try (replace NB := NB.kp k5 NB.lt (sne (by omega)))
        clear hR
        refine hK _ _ ((hS0 _).2 ⟨S.cl, S.hl, S.acts rfl, S.res⟩) ?_
        clear hK K k5
        iterate 2 (first | (refine wpTr_v rfl rfl ?_; intro K hK; go_big_quiet_op; go_big_quiet_on) | (refine wpTr_q rfl rfl ?_; intro K hK; go_big_quiet_op; go_big_quiet_on) | refine wpTr_s rfl rfl ?_)
        refine wpTr_l rfl rfl ?_; intro K hK
        go_step
        refine (next_any g nums _ 3 _ S.ring (by omega) (by omega) (by omega)).mono ?_
        rintro e w5 ⟨vv, rfl, ⟨y4, rfl, py4, qy4⟩, hR, k5⟩
        replace S := S.turn hR k5
        try (replace NB := NB.kp k5 NB.lt (sne (by omega)))
        clear hR
        refine hK _ _ ((hS0 _).2 ⟨S.cl, S.hl, S.acts rfl, S.res⟩) ?_
        clear hK K k5
        iterate 1 (first | (refine wpTr_v rfl rfl ?_; intro K hK; go_big_quiet_op; go_big_quiet_on) | (refine wpTr_q rfl rfl ?_; intro K hK; go_big_quiet_op; go_big_quiet_on) | refine wpTr_s rfl rfl ?_)
        refine wpTr_l rfl rfl ?_; intro K hK
        go_step
        refine (next_any g nums _ 4 _ S.ring (by omega) (by omega) (by omega)).mono ?_
        rintro e w5 ⟨vv, rfl, ⟨y5, rfl, py5, qy5⟩, hR, k5⟩
        replace S := S.turn hR k5
        try (replace NB := NB.kp k5 NB.lt (sne (by omega)))
        clear hR
        refine hK _ _ ((hS0 _).2 ⟨S.cl, S.hl, S.acts rfl, S.res⟩) ?_
        clear hK K k5
        iterate 1 (first | (refine wpTr_v rfl rfl ?_; intro K hK; go_big_quiet_op; go_big_quiet_on) | (refine wpTr_q rfl rfl ?_; intro K hK; go_big_quiet_op; go_big_quiet_on) | refine wpTr_s rfl rfl ?_)
        refine wpTr_l rfl rfl ?_; intro K hK
        go_step
        refine (next_any g nums _ (c.laws.length : Int) _ S.ring (by omega) (by omega) (by omega)).mono ?_
        rintro e w5 ⟨vv, rfl, ⟨y6, rfl, py6, qy6⟩, hR, k5⟩
        replace S := S.turn hR k5
        try (replace NB := NB.kp k5 NB.lt (sne (by omega)))
        clear hR
        obtain ⟨j, rfl⟩ := Int.eq_ofNat_of_zero_le py6
        have hj : j < c.laws.length := by omega
        have cj := fun (q : Ev S0) => ca.out q j hj
        refine hK _ _ ((hS0 _).2 ⟨S.cl, S.hl, S.acts rfl, S.res⟩) ?_
        clear hK K k5
        iterate 3 (first | (refine wpTr_v rfl rfl ?_; intro K hK; go_big_quiet_op; go_big_quiet_on) | (refine wpTr_q rfl rfl ?_; intro K hK; go_big_quiet_op; go_big_quiet_on) | refine wpTr_s rfl rfl ?_)
        refine wpTr_l rfl rfl ?_; intro K hK
        go_step
        refine (next_any g nums _ 3 _ S.ring (by omega) (by omega) (by omega)).mono ?_
        rintro e w5 ⟨vv, rfl, ⟨y7, rfl, py7, qy7⟩, hR, k5⟩
        replace S := S.turn hR k5
        try (replace NB := NB.kp k5 NB.lt (sne (by omega)))
        clear hR
        refine hK _ _ ((hS0 _).2 ⟨S.cl, S.hl, S.acts rfl, S.res⟩) ?_
        clear hK K k5
        iterate 2 (first | (refine wpTr_v rfl rfl ?_; intro K hK; go_big_quiet_op; go_big_quiet_on) | (refine wpTr_q rfl rfl ?_; intro K hK; go_big_quiet_op; go_big_quiet_on) | refine wpTr_s rfl rfl ?_)
        refine wpTr_l rfl rfl ?_; intro K hK
        have cN := fun i => NB.cell i
        have fN := fun i => NB.frozen i
        go_step
        have S2 := S.own (setI_grown _ nb ⟨1 + y1, x.tick + y2 * y3, y4 == 0, 1 + y5, c.laws[j].act, decide (0 < y7), ⟨0, 0, 0⟩⟩) hn0 hnc hnh hnr
        have NB2 := NB.setI ⟨1 + y1, x.tick + y2 * y3, y4 == 0, 1 + y5, c.laws[j].act, decide (0 < y7), ⟨0, 0, 0⟩⟩
        clear cN fN
        change K _ (setI _ nb ⟨1 + y1, x.tick + y2 * y3, y4 == 0, 1 + y5, c.laws[j].act, decide (0 < y7), ⟨0, 0, 0⟩⟩)
        generalize setI _ nb ⟨1 + y1, x.tick + y2 * y3, y4 == 0, 1 + y5, c.laws[j].act, decide (0 < y7), ⟨0, 0, 0⟩⟩ = w7 at S2 NB2 ⊢
        refine hK _ _ ((hS0 _).2 ⟨S2.cl, S2.hl, S2.acts rfl, S2.res⟩) ?_
        clear hK K
        refine wpTr_nil ?_
        clear hevT _hev
        go_wp2_with fail
        go_meet
        case rel => exact ⟨nb, _, ⟨1 + y1, x.tick + y2 * y3, y4 == 0, 1 + y5, c.laws[j].act, decide (0 < y7), ⟨0, 0, 0⟩⟩, rfl, Nat.le_refl _, S2, NB2, hn0, hnc, hnh, hnr, rfl, by simp only; omega, by simp only; omega⟩
    · refine wpOne_l rfl rfl ?_; intro K hK
      obtain ⟨nb, wq, hwq, hnb, S2, NB, hn0, hnc, hnh, hnr, hng⟩ := S.fresh 36 #[.int .i64 zItem.kind, .int .i64 zItem.tick, .bool zItem.drill, .int .i64 zItem.a, .int .i64 zItem.b, .bool zItem.yes, .int .i64 zItem.chance.least, .int .i64 zItem.chance.most, .int .i64 zItem.chance.all]
      clear S
      have S := S2
      clear S2
      go_step
      first | rw [← hwq] | rw [show (World.alloc w5 (.cells #[.int .i64 zItem.kind, .int .i64 zItem.tick, .bool zItem.drill, .int .i64 zItem.a, .int .i64 zItem.b, .bool zItem.yes, .int .i64 zItem.chance.least, .int .i64 zItem.chance.most, .int .i64 zItem.chance.all] 36)).drew = wq from hwq.symm] | rw [show (World.alloc w1 (.cells #[.int .i64 zItem.kind, .int .i64 zItem.tick, .bool zItem.drill, .int .i64 zItem.a, .int .i64 zItem.b, .bool zItem.yes, .int .i64 zItem.chance.least, .int .i64 zItem.chance.most, .int .i64 zItem.chance.all] 36)).drew = wq from hwq.symm] | rw [show World.alloc w5 (.cells #[.int .i64 0, .int .i64 0, .bool false, .int .i64 0, .int .i64 0, .bool false, .int .i64 0, .int .i64 0, .int .i64 0] 36) = wq from hwq.symm] | rw [show (World.alloc w1 (.cells #[.int .i64 0, .int .i64 0, .bool false, .int .i64 0, .int .i64 0, .bool false, .int .i64 0, .int .i64 0, .int .i64 0] 36)).drew = wq from hwq.symm]
      first | rw [← hnb] | rw [← show nb = w1.heap.size from hnb]
      replace hnb := Lib.hid hnb
      refine hK _ _ ((hS0 _).2 ⟨S.cl, S.hl, S.acts rfl, S.res⟩) ?_
      clear hK K hwq
      refine wpTr_l rfl rfl ?_; intro K hK
      go_step
      refine (next_any g nums _ 4 _ S.ring (by omega) (by omega) (by omega)).mono ?_
      rintro e w5 ⟨vv, rfl, ⟨y1, rfl, py1, qy1⟩, hR, k5⟩
      replace S := S.turn hR k5
      try (replace NB := NB.kp k5 NB.lt (sne (by omega)))
      clear hR
      refine hK _ _ ((hS0 _).2 ⟨S.cl, S.hl, S.acts rfl, S.res⟩) ?_
      clear hK K k5
      iterate 1 (first | (refine wpTr_v rfl rfl ?_; intro K hK; go_big_quiet_op; go_big_quiet_on) | (refine wpTr_q rfl rfl ?_; intro K hK; go_big_quiet_op; go_big_quiet_on) | refine wpTr_s rfl rfl ?_)
      refine wpTr_l rfl rfl ?_; intro K hK
      go_step
      refine (next_any g nums _ 3 _ S.ring (by omega) (by omega) (by omega)).mono ?_
      rintro e w5 ⟨vv, rfl, ⟨y2, rfl, py2, qy2⟩, hR, k5⟩
      replace S := S.turn hR k5
      try (replace NB := NB.kp k5 NB.lt (sne (by omega)))
      clear hR
      refine hK _ _ ((hS0 _).2 ⟨S.cl, S.hl, S.acts rfl, S.res⟩) ?_
      clear hK K k5
      refine wpTr_l rfl rfl ?_; intro K hK
      go_step
      refine (next_any g nums _ 3 _ S.ring (by omega) (by omega) (by omega)).mono ?_
      rintro e w5 ⟨vv, rfl, ⟨y3, rfl, py3, qy3⟩, hR, k5⟩
      have hyy : 0 ≤ y2 * y3 ∧ y2 * y3 ≤ 4 := by
        refine ⟨Int.mul_nonneg py2 py3, ?_⟩
        have h1 := Int.mul_le_mul_of_nonneg_right (show y2 ≤ 2 by omega) py3
        omega
      replace S := S.turn hR k5
      try (replace NB := NB.kp k5 NB.lt (sne (by omega)))
      clear hR
      refine hK _ _ ((hS0 _).2 ⟨S.cl, S.hl, S.acts rfl, S.res⟩) ?_
      clear hK K k5
      iterate 2 (first | (refine wpTr_v rfl rfl ?_; intro K hK; go_big_quiet_op; go_big_quiet_on) | (refine wpTr_q rfl rfl ?_; intro K hK; go_big_quiet_op; go_big_quiet_on) | refine wpTr_s rfl rfl ?_)
      refine wpTr_l rfl rfl ?_; intro K hK
      go_step
      refine (next_any g nums _ 3 _ S.ring (by omega) (by omega) (by omega)).mono ?_
      rintro e w5 ⟨vv, rfl, ⟨y4, rfl, py4, qy4⟩, hR, k5⟩
      replace S := S.turn hR k5
      try (replace NB := NB.kp k5 NB.lt (sne (by omega)))
      clear hR
      refine hK _ _ ((hS0 _).2 ⟨S.cl, S.hl, S.acts rfl, S.res⟩) ?_
      clear hK K k5
      iterate 1 (first | (refine wpTr_v rfl rfl ?_; intro K hK; go_big_quiet_op; go_big_quiet_on) | (refine wpTr_q rfl rfl ?_; intro K hK; go_big_quiet_op; go_big_quiet_on) | refine wpTr_s rfl rfl ?_)
      refine wpTr_l rfl rfl ?_; intro K hK
      go_step
      refine (next_any g nums _ 4 _ S.ring (by omega) (by omega) (by omega)).mono ?_
      rintro e w5 ⟨vv, rfl, ⟨y5, rfl, py5, qy5⟩, hR, k5⟩
      replace S := S.turn hR k5
      try (replace NB := NB.kp k5 NB.lt (sne (by omega)))
      clear hR
      refine hK _ _ ((hS0 _).2 ⟨S.cl, S.hl, S.acts rfl, S.res⟩) ?_
      clear hK K k5
      iterate 1 (first | (refine wpTr_v rfl rfl ?_; intro K hK; go_big_quiet_op; go_big_quiet_on) | (refine wpTr_q rfl rfl ?_; intro K hK; go_big_quiet_op; go_big_quiet_on) | refine wpTr_s rfl rfl ?_)
      refine wpTr_l rfl rfl ?_; intro K hK
      go_step
      refine (next_any g nums _ (c.laws.length : Int) _ S.ring (by omega) (by omega) (by omega)).mono ?_
      rintro e w5 ⟨vv, rfl, ⟨y6, rfl, py6, qy6⟩, hR, k5⟩
      replace S := S.turn hR k5
      try (replace NB := NB.kp k5 NB.lt (sne (by omega)))
      clear hR
      obtain ⟨j, rfl⟩ := Int.eq_ofNat_of_zero_le py6
      have hj : j < c.laws.length := by omega
      have cj := fun (q : Ev S0) => ca.out q j hj
      refine hK _ _ ((hS0 _).2 ⟨S.cl, S.hl, S.acts rfl, S.res⟩) ?_
      clear hK K k5
      iterate 3 (first | (refine wpTr_v rfl rfl ?_; intro K hK; go_big_quiet_op; go_big_quiet_on) | (refine wpTr_q rfl rfl ?_; intro K hK; go_big_quiet_op; go_big_quiet_on) | refine wpTr_s rfl rfl ?_)
      refine wpTr_l rfl rfl ?_; intro K hK
      go_step
      refine (next_any g nums _ 3 _ S.ring (by omega) (by omega) (by omega)).mono ?_
      rintro e w5 ⟨vv, rfl, ⟨y7, rfl, py7, qy7⟩, hR, k5⟩
      replace S := S.turn hR k5
      try (replace NB := NB.kp k5 NB.lt (sne (by omega)))
      clear hR
      refine hK _ _ ((hS0 _).2 ⟨S.cl, S.hl, S.acts rfl, S.res⟩) ?_
      clear hK K k5
      iterate 2 (first | (refine wpTr_v rfl rfl ?_; intro K hK; go_big_quiet_op; go_big_quiet_on) | (refine wpTr_q rfl rfl ?_; intro K hK; go_big_quiet_op; go_big_quiet_on) | refine wpTr_s rfl rfl ?_)
      refine wpTr_l rfl rfl ?_; intro K hK
      have cN := fun i => NB.cell i
      have fN := fun i => NB.frozen i
      go_step
      have S2 := S.own (setI_grown _ nb ⟨1 + y1, x.tick + y2 * y3, y4 == 0, 1 + y5, c.laws[j].act, decide (0 < y7), ⟨0, 0, 0⟩⟩) hn0 hnc hnh hnr
      have NB2 := NB.setI ⟨1 + y1, x.tick + y2 * y3, y4 == 0, 1 + y5, c.laws[j].act, decide (0 < y7), ⟨0, 0, 0⟩⟩
      clear cN fN
      change K _ (setI _ nb ⟨1 + y1, x.tick + y2 * y3, y4 == 0, 1 + y5, c.laws[j].act, decide (0 < y7), ⟨0, 0, 0⟩⟩)
      generalize setI _ nb ⟨1 + y1, x.tick + y2 * y3, y4 == 0, 1 + y5, c.laws[j].act, decide (0 < y7), ⟨0, 0, 0⟩⟩ = w7 at S2 NB2 ⊢
      refine hK _ _ ((hS0 _).2 ⟨S2.cl, S2.hl, S2.acts rfl, S2.res⟩) ?_
      clear hK K
      refine wpTr_nil ?_
      clear hevT _hev
      go_wp2_with fail
      go_meet
      case rel => exact ⟨nb, _, ⟨1 + y1, x.tick + y2 * y3, y4 == 0, 1 + y5, c.laws[j].act, decide (0 < y7), ⟨0, 0, 0⟩⟩, rfl, Nat.le_refl _, S2, NB2, hn0, hnc, hnh, hnr, rfl, by simp only; omega, by simp only; omega⟩
  case rest =>
  clear S
  rename World => w2
  obtain ⟨nb, k1, i1, rfl, hk1, S, NB, hn0, hnc, hnh, hnr, hch, htk0, htk1⟩ := hcut
  obtain ⟨kd, tk, dr, ia, ib, ys, ⟨cl1, cl2, cl3⟩⟩ := i1
  simp only [Chance.mk.injEq] at hch
  obtain ⟨rfl, rfl, rfl⟩ := hch
  have htk0' : 0 ≤ tk := htk0
  have htk1' : tk ≤ 1073741828 := htk1
  clear htk0 htk1
  have cn := fun i => NB.cell i
  have ch := fun i => S.hl.cell i
  go_upto_region 3 with (fail)
  have OB := Blk.new w2 41 #[.int .i64 x.real.items, .slice X.r.fa x.real.facts.length X.r.fc, .slice X.r.ma x.real.motions.length X.r.mc, .slice X.r.sa x.real.sent.length X.r.sc]
  have KO := Kp.new w2 (.cells #[.int .i64 x.real.items, .slice X.r.fa x.real.facts.length X.r.fc, .slice X.r.ma x.real.motions.length X.r.mc, .slice X.r.sa x.real.sent.length X.r.sc] 41)
  obtain ⟨ob, hob⟩ : ∃ q, q = w2.heap.size := ⟨_, rfl⟩
  have ho1 : w.heap.size ≤ ob := by have := S.kp.size; omega
  have ho2 : ob ≠ cb := by have := S.cl.lt; omega
  have ho3 : ob ≠ hb := by have := S.hl.lt; omega
  have ho4 : ob ≠ rb := by have := S.res.lt; omega
  have ho5 : ob ≠ nb := by have := NB.lt; omega
  have ho6 : ob ≠ g := by omega
  rw [← hob] at OB ⊢
  clear hob
  replace S := S.kpN KO
  replace NB := NB.kpN KO
  clear cn ch KO
  generalize World.alloc w2 (.cells #[.int .i64 x.real.items, .slice X.r.fa x.real.facts.length X.r.fc, .slice X.r.ma x.real.motions.length X.r.mc, .slice X.r.sa x.real.sent.length X.r.sc] 41) = w3 at S NB OB ⊢
  have cn := fun i => NB.cell i
  have ch := fun i => S.hl.cell i
  have co := fun i => OB.cell i
  have fo := fun i => OB.frozen i
  go_upto_if 43 with (fail)
  go_cut [44] (fun v44 wx => AtOwn w g cb hb rb nb ob nums k1 ⟨some ⟨bm, om, none⟩, cm, some ⟨bl, ol, none⟩, cl, av, cv⟩ c X x ⟨kd, tk, dr, ia, ib, ys, ⟨0, 0, 0⟩⟩ v44 wx)
  case first =>
    have stN : AtOwn w g cb hb rb nb ob nums k1 ⟨some ⟨bm, om, none⟩, cm, some ⟨bl, ol, none⟩, cl, av, cv⟩ c X x ⟨kd, tk, dr, ia, ib, ys, ⟨0, 0, 0⟩⟩ (.int .i64 0) w3 := ⟨S, NB, OB.lt, _, _, _, hr64, OB.cell 2⟩
    have hg4 := set4_grown w3 ob (.int .i64 x.drill.items) (.slice X.d.fa x.drill.facts.length X.d.fc) (.slice X.d.ma x.drill.motions.length X.d.mc) (.slice X.d.sa x.drill.sent.length X.d.sc)
    have O4 := OB.set4 (.int .i64 x.drill.items) (.slice X.d.fa x.drill.facts.length X.d.fc) (.slice X.d.ma x.drill.motions.length X.d.mc) (.slice X.d.sa x.drill.sent.length X.d.sc)
    have stY : AtOwn w g cb hb rb nb ob nums k1 ⟨some ⟨bm, om, none⟩, cm, some ⟨bl, ol, none⟩, cl, av, cv⟩ c X x ⟨kd, tk, dr, ia, ib, ys, ⟨0, 0, 0⟩⟩ (.int .i64 0) (set4 w3 ob (.int .i64 x.drill.items) (.slice X.d.fa x.drill.facts.length X.d.fc) (.slice X.d.ma x.drill.motions.length X.d.mc) (.slice X.d.sa x.drill.sent.length X.d.sc)) :=
      ⟨S.own hg4 ho1 ho2 ho3 ho4, NB.keep hg4 ho5, O4.lt, _, _, _, hd64, O4.cell 2⟩
    replace stN := Lib.hid stN
    replace stY := Lib.hid stY
    clear S NB OB hg4 O4 cn
    cases dr
    · go_wp2_with fail
      go_meet
      case rel => exact stN.out
    · go_wp2_with fail
      go_meet
      case rel => exact stY.out
  case rest =>
  clear S NB OB cn ch co fo
  rename World => w4
  obtain ⟨S, NB, hol, Ao, ml, qo, hml64, co⟩ := hcut
  have cn := fun i => NB.cell i
  go_upto_block 0 with (fail)
  go_cut [48] (fun v48 wx => AtDone w g cb hb rb nb nums k ⟨some ⟨bm, om, none⟩, cm, some ⟨bl, ol, none⟩, cl, av, cv⟩ c X x v48 wx)
  case first =>
    by_cases k1' : kd = 1
    · subst k1'
      go_wp2_with fail
      refine (chanceOf_any g nums _ _ S.ring (by omega)).mono ?_
      rintro e w5 ⟨vv, rfl, ⟨y, rfl, -⟩, hR, k5⟩
      replace S := S.turn hR k5
      replace NB := NB.kp k5 NB.lt (sne (by omega))
      clear hR k5 co cn
      have cn := fun i => NB.cell i
      have fn := fun i => NB.frozen i
      have hg3 := grown_trans (grown_trans (grown_set w5 nb 6 (.int .i64 y.least)) (grown_set _ nb 7 (.int .i64 y.most))) (grown_set _ nb 8 (.int .i64 y.all))
      have N3 := ((NB.set_ 6 (.int .i64 y.least)).set_ 7 (.int .i64 y.most)).set_ 8 (.int .i64 y.all)
      simp only [List.setIfInBounds_toArray, List.set_cons_zero, List.set_cons_succ] at N3
      have fin : AtDone w g cb hb rb nb nums k ⟨some ⟨bm, om, none⟩, cm, some ⟨bl, ol, none⟩, cl, av, cv⟩ c X x (.int .i64 0) (((w5.setCell ⟨nb, 6, none⟩ (.int .i64 y.least)).setCell ⟨nb, 7, none⟩ (.int .i64 y.most)).setCell ⟨nb, 8, none⟩ (.int .i64 y.all)) :=
        ⟨_, ⟨1, tk, dr, ia, ib, ys, y⟩, by omega, S.own hg3 hn0 hnc hnh hnr, N3⟩
      replace fin := Lib.hid fin
      clear S NB hg3 N3
      go_wp2_with fail
      go_meet
      case rel => exact fin.out
    by_cases k3' : kd = 3
    · subst k3'
      go_upto_region 10 with (fail)
      clear cn
      have T := S.kpN (Kp.refl _ _ _).drew
      clear S
      replace NB := NB.kpN (Kp.refl _ _ _).drew
      replace co := (Kp.refl w4.heap.size none w4).drew.cellN co
      replace hol : ob < w4.drew.heap.size := hol
      obtain ⟨S, hS⟩ : ∃ S : Nat → World → Prop, S = fun n w' => if n = 0 then w'.cell? ⟨ob, 2, none⟩ = some (.slice Ao ml qo) ∧ Blk w' cb 28 #[.slice (some ⟨bm, om, none⟩) c.members.length cm, .slice (some ⟨bl, ol, none⟩) c.laws.length cl, .slice av c.levels.length cv] ∧ (∀ j (hj : j < c.members.length), w'.cell? ⟨bm, om + j * 2, none⟩ = some (.int .i64 c.members[j].id)) ∧ Blk w' rb 36 #[.int .i64 zItem.kind, .int .i64 zItem.tick, .bool zItem.drill, .int .i64 zItem.a, .int .i64 zItem.b, .bool zItem.yes, .int .i64 zItem.chance.least, .int .i64 zItem.chance.most, .int .i64 zItem.chance.all] else True := ⟨_, rfl⟩
      have hS0 : ∀ w', S 0 w' ↔ (w'.cell? ⟨ob, 2, none⟩ = some (.slice Ao ml qo) ∧ Blk w' cb 28 #[.slice (some ⟨bm, om, none⟩) c.members.length cm, .slice (some ⟨bl, ol, none⟩) c.laws.length cl, .slice av c.levels.length cv] ∧ (∀ j (hj : j < c.members.length), w'.cell? ⟨bm, om + j * 2, none⟩ = some (.int .i64 c.members[j].id)) ∧ Blk w' rb 36 #[.int .i64 zItem.kind, .int .i64 zItem.tick, .bool zItem.drill, .int .i64 zItem.a, .int .i64 zItem.b, .bool zItem.yes, .int .i64 zItem.chance.least, .int .i64 zItem.chance.most, .int .i64 zItem.chance.all]) := fun w' => by rw [hS]; exact Iff.rfl
      have hS1 : ∀ w', S 1 w' ↔ (True) := fun w' => by rw [hS]; exact Iff.rfl
      clear hS
      have k2 := fun (q : Ev (S 0)) => ((hS0 _).1 q.h).1
      have cc := fun (q : Ev (S 0)) i => ((hS0 _).1 q.h).2.1.cell i
      have ci := fun (q : Ev (S 0)) => ((hS0 _).1 q.h).2.2.1
      replace ci := Lib.hid ci
      have hevT := ev_true
      refine wp_region_ord S [(0, 0), (1, 1), (2, 0), (3, 0), (4, 0), (7, 0), (8, 1), (9, 0), (10, 0), (11, 1), (12, 0), (5, 2), (6, 0), (17, 0), (13, 2), (14, 0), (15, 0), (16, 1), (18, 2), (19, 0), (20, 3)] [20] (by kernel_rfl) (by kernel_rfl) ((hS0 _).2 ⟨co, T.cl, T.ids rfl, T.res⟩) ?_
      intro _hev
      iterate 11 (first | (refine wpOrd_v rfl rfl ?_; intro K hK; go_big_quiet_op; go_big_quiet_on) | (refine wpOrd_q rfl rfl ?_; intro K hK; go_big_quiet_op; go_big_quiet_on) | refine wpOrd_s (by decide) rfl rfl ?_)
      refine wpOrd_l rfl rfl ?_; intro K hK
      go_step
      refine (next_any g nums _ 2 _ T.ring (by omega) (by omega) (by omega)).mono ?_
      rintro e w5 ⟨vv, rfl, ⟨y1, rfl, p1, q1⟩, hR, k5⟩
      replace T := T.turn hR k5
      replace NB := NB.kp k5 NB.lt (sne (by omega))
      replace co := (k5.cell ob 2 hol (sne ho6)).trans co
      replace hol := Nat.lt_of_lt_of_le hol k5.size
      refine hK _ _ ((hS0 _).2 ⟨co, T.cl, T.ids rfl, T.res⟩) ?_
      clear hK K k5 hR
      iterate 2 (first | (refine wpOrd_v rfl rfl ?_; intro K hK; go_big_quiet_op; go_big_quiet_on) | (refine wpOrd_q rfl rfl ?_; intro K hK; go_big_quiet_op; go_big_quiet_on) | refine wpOrd_s (by decide) rfl rfl ?_)
      refine wpOrd_l rfl rfl ?_; intro K hK
      go_step
      refine (next_any g nums _ (c.members.length : Int) _ T.ring (by omega) (by omega) (by omega)).mono ?_
      rintro e w5 ⟨vv, rfl, ⟨y2, rfl, p2, q2⟩, hR, k5⟩
      obtain ⟨j, rfl⟩ := Int.eq_ofNat_of_zero_le p2
      have hj : j < c.members.length := by omega
      have cj := fun (q : Ev (S 0)) => ci.out q j hj
      replace T := T.turn hR k5
      replace NB := NB.kp k5 NB.lt (sne (by omega))
      replace co := (k5.cell ob 2 hol (sne ho6)).trans co
      replace hol := Nat.lt_of_lt_of_le hol k5.size
      refine hK _ _ ((hS0 _).2 ⟨co, T.cl, T.ids rfl, T.res⟩) ?_
      clear hK K k5 hR
      iterate 3 (first | (refine wpOrd_v rfl rfl ?_; intro K hK; go_big_quiet_op; go_big_quiet_on) | (refine wpOrd_q rfl rfl ?_; intro K hK; go_big_quiet_op; go_big_quiet_on) | refine wpOrd_s (by decide) rfl rfl ?_)
      have cN := fun i => NB.cell i
      have fN := fun i => NB.frozen i
      refine wpOrd_l rfl rfl ?_; intro K hK
      go_step
      have T2 := T.own (grown_set w5 nb 3 (.int .i64 (ml - 1 - y1))) hn0 hnc hnh hnr
      have NB2 := NB.set_ 3 (.int .i64 (ml - 1 - y1))
      have co2 : (w5.setCell ⟨nb, 3, none⟩ (.int .i64 (ml - 1 - y1))).cell? ⟨ob, 2, none⟩ = some (.slice Ao ml qo) := (World.cell?_of_block (w := w5) ((grown_set w5 nb 3 (.int .i64 (ml - 1 - y1))).block ob hol (sne ho5))).trans co
      clear cN fN T NB co
      generalize w5.setCell ⟨nb, 3, none⟩ (.int .i64 (ml - 1 - y1)) = w6 at T2 NB2 co2 ⊢
      refine hK _ _ ((hS0 _).2 ⟨co2, T2.cl, T2.ids rfl, T2.res⟩) ?_
      clear hK K
      iterate 1 (first | (refine wpOrd_v rfl rfl ?_; intro K hK; go_big_quiet_op; go_big_quiet_on) | (refine wpOrd_q rfl rfl ?_; intro K hK; go_big_quiet_op; go_big_quiet_on) | refine wpOrd_s (by decide) rfl rfl ?_)
      have cN := fun i => NB2.cell i
      have fN := fun i => NB2.frozen i
      refine wpOrd_a rfl rfl ?_; intro K hK
      go_step
      have T := T2.own (grown_set w6 nb 4 (.int .i64 c.members[j].id)) hn0 hnc hnh hnr
      have NB := NB2.set_ 4 (.int .i64 c.members[j].id)
      clear cN fN T2 NB2 co2
      simp only [List.setIfInBounds_toArray, List.set_cons_zero, List.set_cons_succ] at NB
      generalize w6.setCell ⟨nb, 4, none⟩ (.int .i64 c.members[j].id) = w7 at T NB ⊢
      refine hK _ _ ((hS1 _).2 trivial) ?_
      clear hK K
      change wpOrd _ _ _ _ _ 1 _ _
      refine wpOrd_nil ?_
      clear hevT _hev
      clear hS0 hS1 S k2 cc ci cj
      have S := T
      clear T
      have cn := fun i => NB.cell i
      replace S := Lib.hid S
      replace NB := Lib.hid NB
      go_wp2_with fail
      go_meet
      case rel => exact ⟨_, ⟨3, tk, dr, _, _, ys, ⟨0, 0, 0⟩⟩, by omega, S.out, NB.out⟩
    by_cases k4' : kd = 4
    · subst k4'
      go_upto_region 10 with (fail)
      clear cn
      have T := S.kpN (Kp.refl _ _ _).drew
      clear S
      replace NB := NB.kpN (Kp.refl _ _ _).drew
      replace co := (Kp.refl w4.heap.size none w4).drew.cellN co
      replace hol : ob < w4.drew.heap.size := hol
      obtain ⟨S, hS⟩ : ∃ S : Nat → World → Prop, S = fun n w' => if n = 0 then w'.cell? ⟨ob, 2, none⟩ = some (.slice Ao ml qo) ∧ Blk w' cb 28 #[.slice (some ⟨bm, om, none⟩) c.members.length cm, .slice (some ⟨bl, ol, none⟩) c.laws.length cl, .slice av c.levels.length cv] ∧ (∀ j (hj : j < c.members.length), w'.cell? ⟨bm, om + j * 2, none⟩ = some (.int .i64 c.members[j].id)) ∧ Blk w' rb 36 #[.int .i64 zItem.kind, .int .i64 zItem.tick, .bool zItem.drill, .int .i64 zItem.a, .int .i64 zItem.b, .bool zItem.yes, .int .i64 zItem.chance.least, .int .i64 zItem.chance.most, .int .i64 zItem.chance.all] else True := ⟨_, rfl⟩
      have hS0 : ∀ w', S 0 w' ↔ (w'.cell? ⟨ob, 2, none⟩ = some (.slice Ao ml qo) ∧ Blk w' cb 28 #[.slice (some ⟨bm, om, none⟩) c.members.length cm, .slice (some ⟨bl, ol, none⟩) c.laws.length cl, .slice av c.levels.length cv] ∧ (∀ j (hj : j < c.members.length), w'.cell? ⟨bm, om + j * 2, none⟩ = some (.int .i64 c.members[j].id)) ∧ Blk w' rb 36 #[.int .i64 zItem.kind, .int .i64 zItem.tick, .bool zItem.drill, .int .i64 zItem.a, .int .i64 zItem.b, .bool zItem.yes, .int .i64 zItem.chance.least, .int .i64 zItem.chance.most, .int .i64 zItem.chance.all]) := fun w' => by rw [hS]; exact Iff.rfl
      have hS1 : ∀ w', S 1 w' ↔ (True) := fun w' => by rw [hS]; exact Iff.rfl
      clear hS
      have k2 := fun (q : Ev (S 0)) => ((hS0 _).1 q.h).1
      have cc := fun (q : Ev (S 0)) i => ((hS0 _).1 q.h).2.1.cell i
      have ci := fun (q : Ev (S 0)) => ((hS0 _).1 q.h).2.2.1
      replace ci := Lib.hid ci
      have hevT := ev_true
      refine wp_region_ord S [(0, 0), (1, 1), (2, 0), (3, 0), (4, 0), (7, 0), (8, 1), (9, 0), (10, 0), (11, 1), (12, 0), (5, 2), (6, 0), (17, 0), (13, 2), (14, 0), (15, 0), (16, 1), (18, 2), (19, 0), (20, 3)] [20] (by kernel_rfl) (by kernel_rfl) ((hS0 _).2 ⟨co, T.cl, T.ids rfl, T.res⟩) ?_
      intro _hev
      iterate 11 (first | (refine wpOrd_v rfl rfl ?_; intro K hK; go_big_quiet_op; go_big_quiet_on) | (refine wpOrd_q rfl rfl ?_; intro K hK; go_big_quiet_op; go_big_quiet_on) | refine wpOrd_s (by decide) rfl rfl ?_)
      refine wpOrd_l rfl rfl ?_; intro K hK
      go_step
      refine (next_any g nums _ 2 _ T.ring (by omega) (by omega) (by omega)).mono ?_
      rintro e w5 ⟨vv, rfl, ⟨y1, rfl, p1, q1⟩, hR, k5⟩
      replace T := T.turn hR k5
      replace NB := NB.kp k5 NB.lt (sne (by omega))
      replace co := (k5.cell ob 2 hol (sne ho6)).trans co
      replace hol := Nat.lt_of_lt_of_le hol k5.size
      refine hK _ _ ((hS0 _).2 ⟨co, T.cl, T.ids rfl, T.res⟩) ?_
      clear hK K k5 hR
      iterate 2 (first | (refine wpOrd_v rfl rfl ?_; intro K hK; go_big_quiet_op; go_big_quiet_on) | (refine wpOrd_q rfl rfl ?_; intro K hK; go_big_quiet_op; go_big_quiet_on) | refine wpOrd_s (by decide) rfl rfl ?_)
      refine wpOrd_l rfl rfl ?_; intro K hK
      go_step
      refine (next_any g nums _ (c.members.length : Int) _ T.ring (by omega) (by omega) (by omega)).mono ?_
      rintro e w5 ⟨vv, rfl, ⟨y2, rfl, p2, q2⟩, hR, k5⟩
      obtain ⟨j, rfl⟩ := Int.eq_ofNat_of_zero_le p2
      have hj : j < c.members.length := by omega
      have cj := fun (q : Ev (S 0)) => ci.out q j hj
      replace T := T.turn hR k5
      replace NB := NB.kp k5 NB.lt (sne (by omega))
      replace co := (k5.cell ob 2 hol (sne ho6)).trans co
      replace hol := Nat.lt_of_lt_of_le hol k5.size
      refine hK _ _ ((hS0 _).2 ⟨co, T.cl, T.ids rfl, T.res⟩) ?_
      clear hK K k5 hR
      iterate 3 (first | (refine wpOrd_v rfl rfl ?_; intro K hK; go_big_quiet_op; go_big_quiet_on) | (refine wpOrd_q rfl rfl ?_; intro K hK; go_big_quiet_op; go_big_quiet_on) | refine wpOrd_s (by decide) rfl rfl ?_)
      have cN := fun i => NB.cell i
      have fN := fun i => NB.frozen i
      refine wpOrd_l rfl rfl ?_; intro K hK
      go_step
      have T2 := T.own (grown_set w5 nb 3 (.int .i64 (ml - 1 - y1))) hn0 hnc hnh hnr
      have NB2 := NB.set_ 3 (.int .i64 (ml - 1 - y1))
      have co2 : (w5.setCell ⟨nb, 3, none⟩ (.int .i64 (ml - 1 - y1))).cell? ⟨ob, 2, none⟩ = some (.slice Ao ml qo) := (World.cell?_of_block (w := w5) ((grown_set w5 nb 3 (.int .i64 (ml - 1 - y1))).block ob hol (sne ho5))).trans co
      clear cN fN T NB co
      generalize w5.setCell ⟨nb, 3, none⟩ (.int .i64 (ml - 1 - y1)) = w6 at T2 NB2 co2 ⊢
      refine hK _ _ ((hS0 _).2 ⟨co2, T2.cl, T2.ids rfl, T2.res⟩) ?_
      clear hK K
      iterate 1 (first | (refine wpOrd_v rfl rfl ?_; intro K hK; go_big_quiet_op; go_big_quiet_on) | (refine wpOrd_q rfl rfl ?_; intro K hK; go_big_quiet_op; go_big_quiet_on) | refine wpOrd_s (by decide) rfl rfl ?_)
      have cN := fun i => NB2.cell i
      have fN := fun i => NB2.frozen i
      refine wpOrd_a rfl rfl ?_; intro K hK
      go_step
      have T := T2.own (grown_set w6 nb 4 (.int .i64 c.members[j].id)) hn0 hnc hnh hnr
      have NB := NB2.set_ 4 (.int .i64 c.members[j].id)
      clear cN fN T2 NB2 co2
      simp only [List.setIfInBounds_toArray, List.set_cons_zero, List.set_cons_succ] at NB
      generalize w6.setCell ⟨nb, 4, none⟩ (.int .i64 c.members[j].id) = w7 at T NB ⊢
      refine hK _ _ ((hS1 _).2 trivial) ?_
      clear hK K
      change wpOrd _ _ _ _ _ 1 _ _
      refine wpOrd_nil ?_
      clear hevT _hev
      clear hS0 hS1 S k2 cc ci cj
      have S := T
      clear T
      have cn := fun i => NB.cell i
      go_wp2_with fail
      refine (next_any g nums _ 2 _ S.ring (by omega) (by omega) (by omega)).mono ?_
      rintro e w5 ⟨vv, rfl, ⟨y3, rfl, p3, q3⟩, hR, k5⟩
      replace S := S.turn hR k5
      replace NB := NB.kp k5 NB.lt (sne (by omega))
      clear hR k5 cn
      have cn := fun i => NB.cell i
      have fn := fun i => NB.frozen i
      have N1 := NB.set_ 1 (.int .i64 (tk + 7))
      simp only [List.setIfInBounds_toArray, List.set_cons_zero, List.set_cons_succ] at N1
      have fin1 : AtDone w g cb hb rb nb nums k ⟨some ⟨bm, om, none⟩, cm, some ⟨bl, ol, none⟩, cl, av, cv⟩ c X x (.int .i64 0) (w5.setCell ⟨nb, 1, none⟩ (.int .i64 (tk + 7))) :=
        ⟨_, ⟨4, tk + 7, dr, _, _, ys, ⟨0, 0, 0⟩⟩, by omega, S.own (grown_set w5 nb 1 (.int .i64 (tk + 7))) hn0 hnc hnh hnr, N1⟩
      have fin0 : AtDone w g cb hb rb nb nums k ⟨some ⟨bm, om, none⟩, cm, some ⟨bl, ol, none⟩, cl, av, cv⟩ c X x (.int .i64 0) w5 :=
        ⟨_, ⟨4, tk, dr, _, _, ys, ⟨0, 0, 0⟩⟩, by omega, S, NB⟩
      replace fin0 := Lib.hid fin0
      replace fin1 := Lib.hid fin1
      clear S NB N1
      by_cases q0 : y3 = 0
      · subst q0
        go_wp2_with fail
        go_meet
        case rel => exact fin1.out
      · go_wp2_with fail
        go_meet
        case rel => exact fin0.out
    have fin0 : AtDone w g cb hb rb nb nums k ⟨some ⟨bm, om, none⟩, cm, some ⟨bl, ol, none⟩, cl, av, cv⟩ c X x (.int .i64 0) w4 := ⟨_, ⟨kd, tk, dr, ia, ib, ys, ⟨0, 0, 0⟩⟩, by omega, S, NB⟩
    replace fin0 := Lib.hid fin0
    clear S NB
    go_wp2_with fail
    go_meet
    case rel => exact fin0.out
  case rest =>
  clear S NB cn co
  rename World => w5
  obtain ⟨k2, n2, hk2, S, NB⟩ := hcut
  have cn := fun i => NB.cell i
  have cr := fun i => S.res.cell i
  have fr := fun i => S.res.frozen i
  have R9 := S.res.setI n2
  have hg9 := setI_grown w5 rb n2
  have fin : RingAt (setI w5 rb n2) g nums k2 ∧ Kp w.heap.size (some g) w (setI w5 rb n2) := ⟨S.ring.grown hg9 (fun q e => by injection e with e; have := S.gW; have := S.rW; omega), S.kp.grown hg9 S.kp.size (fun q e => by injection e with e; have := S.rW; omega)⟩
  clear hg9 S
  go_wp2_with fail
  change bodyPost _ _ _ _ _ (setI w5 rb n2)
  clear cn cr fr
  generalize setI w5 rb n2 = w9 at R9 fin ⊢
  have c9 := fun i => R9.cell i
  exact bodyPost_ret (v := .agg #[.int .i64 n2.kind, .int .i64 n2.tick, .bool n2.drill, .int .i64 n2.a, .int .i64 n2.b, .bool n2.yes, .int .i64 n2.chance.least, .int .i64 n2.chance.most, .int .i64 n2.chance.all]) (by simp [results, Tryz.results47, go_sem, c9]) rfl ⟨n2, k2, rfl, hk2, fin.1, fin.2⟩
end Go.Proofs.YtogpgnljomchcaaGreat
