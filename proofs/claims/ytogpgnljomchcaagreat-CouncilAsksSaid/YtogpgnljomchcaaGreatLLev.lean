/- Levels of chances: the walk. -/
import Derived.Test.YtogpgnljomchcaaGreatCofAll
import Derived.Test.YtogpgnljomchcaaGreatCrd
namespace Go.Proofs.YtogpgnljomchcaaGreat
open Go.RowKit

structure ChOk (x : Chance) : Prop where
  l0 : 0 ≤ x.least
  lm : x.least ≤ x.most
  ma : x.most ≤ x.all
  a1 : 1 ≤ x.all
  a2 : x.all ≤ 1000
theorem ChOk.err {x : Chance} (h : ChOk x) : chanceErr x = 0 := by
  have := h.l0; have := h.lm; have := h.ma; have := h.a1; have := h.a2
  unfold chanceErr
  rw [if_neg (by omega)]
set_option maxHeartbeats 1000000 in
theorem chanceOf_any (g : Nat) (nums : List Int) (k : Nat) (w : World) (h : RingAt w g nums k) (hk : k ≤ 900000) :
    Calls Tryz.prog 65 #[.pointer (some ⟨g, 0, none⟩)] w (RPost g nums (k + 3) w fun v => ∃ x : Chance, v = .agg #[.int .i64 x.least, .int .i64 x.most, .int .i64 x.all] ∧ ChOk x) := by
  have Z0 := Blk.new w 34 #[.int .i64 0, .int .i64 0, .int .i64 0]
  have K0 := (Kp.new w (.cells #[.int .i64 0, .int .i64 0, .int .i64 0] 34)).wide (some g)
  have R0 := h.alloc (.cells #[.int .i64 0, .int .i64 0, .int .i64 0] 34)
  have hg := h.lt
  clear h
  go_enter Tryz.func65, Tryz.ntmps65
  go_upto_region 1 with (fail)
  obtain ⟨b, hb⟩ : ∃ q, q = w.heap.size := ⟨_, rfl⟩
  rw [← hb] at Z0 ⊢
  have hbw : w.heap.size ≤ b := by omega
  have hgb : g < b := by omega
  have hne : some b ≠ some g := sne (by omega)
  generalize w.alloc (.cells #[.int .i64 0, .int .i64 0, .int .i64 0] 34) = w1 at Z0 K0 R0 ⊢
  clear hb
  go_wp2_with fail
  refine (range_any g nums _ 1 1000 _ R0 (by omega) (by omega) (by omega) (by omega) (by omega)).mono ?_
  rintro e w2 ⟨v, rfl, ⟨a, rfl, p1, q1⟩, R1, k1⟩
  replace Z0 := Z0.kp k1 Z0.lt hne
  replace K0 := K0.then_ k1 (Nat.le_refl _)
  clear k1 R0
  go_wp2_with fail
  refine (range_any g nums _ 0 a _ R1 (by omega) (by omega) (by omega) (by omega) (by omega)).mono ?_
  rintro e w3 ⟨v, rfl, ⟨m, rfl, p2, q2⟩, R2, k1⟩
  replace Z0 := Z0.kp k1 Z0.lt hne
  replace K0 := K0.then_ k1 (Nat.le_refl _)
  clear k1 R1
  go_wp2_with fail
  refine (range_any g nums _ 0 m _ R2 (by omega) (by omega) (by omega) (by omega) (by omega)).mono ?_
  rintro e w4 ⟨v, rfl, ⟨l, rfl, p3, q3⟩, R3, k1⟩
  replace Z0 := Z0.kp k1 Z0.lt hne
  replace K0 := K0.then_ k1 (Nat.le_refl _)
  clear k1 R2
  have cz := fun i => Z0.cell i
  have fz := fun i => Z0.frozen i
  go_wp2_with fail
  refine bodyPost_ret (v := .agg #[.int .i64 l, .int .i64 m, .int .i64 a]) (by simp [results, Tryz.results65, go_sem, cz]) rfl ⟨_, rfl, ⟨⟨l, m, a⟩, rfl, ⟨p3, q3, q2, p1, q1⟩⟩, ?_, ?_⟩
  · iterate 3 refine RingAt.big ?_ hgb _
    exact R3
  · iterate 3 refine Kp.setNew ?_ hbw _
    exact K0
theorem Lo.turn {α : Type} {B g sz n : Nat} {w w' : World} {enc : α → List Value} {A : Option Addr} {xs : List α} (h : Lo B w sz enc A n xs) (k : Kp w.heap.size (some g) w w') (hA : ∀ ad, A = some ad → ad.block ≠ g) : Lo w'.heap.size w' sz enc A n xs := by
  refine ⟨h.1, fun hn => ?_⟩
  obtain ⟨b, o, e, _, hs, hc⟩ := h.2 hn
  have hne : some b ≠ some g := sne (hA _ e)
  exact ⟨b, o, e, Nat.lt_of_lt_of_le hs k.size, Nat.lt_of_lt_of_le hs k.size, fun i hi j v hv => (k.cell b _ hs hne).trans (hc i hi j v hv)⟩
/-- a council's slices lie from a block on -/
def CFar (V : CV) (n : Nat) : Prop := (∀ ad, V.am = some ad → n ≤ ad.block) ∧ (∀ ad, V.al = some ad → n ≤ ad.block) ∧ ∀ ad, V.av = some ad → n ≤ ad.block
theorem CAt.turn {B g n : Nat} {w w' : World} {V : CV} {c : Council} (h : CAt B w V c) (k : Kp w.heap.size (some g) w w') (f : CFar V n) (hg : g < n) : CAt w'.heap.size w' V c :=
  ⟨h.m.turn k (fun ad e => by have := f.1 ad e; omega), h.l.turn k (fun ad e => by have := f.2.1 ad e; omega), h.v.turn k (fun ad e => by have := f.2.2 ad e; omega), h.ms, h.ls, h.vs⟩
end Go.Proofs.YtogpgnljomchcaaGreat
