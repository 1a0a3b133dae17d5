/- The statement on what is valid: its walk. -/
import Derived.Test.YtdiigflbohbndaaDoorLaw1
import Derived.Test.YtdiigflbohbndaaDoorTree
import Derived.Test.YtdiigflbohbndaaDoorReg2
import Derived.Test.YtdiigflbohbndaaDoorRock2
import Derived.Test.YtdiigflbohbndaaDoorRefRock3
import Derived.Deep.DeepCutAuto
namespace Go.Proofs.YtdiigflbohbndaaDoor
open Go.RowKit

def encStone (s : Stone) : List Value := [.int .i64 s.size, .int .i64 s.dens, .int .i64 s.strong, .int .i64 s.spin, .int .i64 s.shape, .bool s.pile, .int .i64 s.speed, .int .i64 s.slope]
def encRock (r : Rock) : List Value := [.int .i64 r.size.lo, .int .i64 r.size.hi, .int .i64 r.dens.lo, .int .i64 r.dens.hi, .int .i64 r.strong.lo, .int .i64 r.strong.hi, .int .i64 r.spin.lo, .int .i64 r.spin.hi, .int .i64 r.shape.lo, .int .i64 r.shape.hi, .bool r.pile]
def encFall (f : Fall) : List Value := [.int .i64 f.speed.lo, .int .i64 f.speed.hi, .int .i64 f.slope.lo, .int .i64 f.slope.hi]
theorem Rd.cellAt {α : Type} {row : Option Nat} {w : World} {sz n b o : Nat} {enc : α → List Value} {xs : List α} (h : Rd row w sz enc (some ⟨b, o, none⟩) n xs) (i : Nat) (hi : i < xs.length) (j : Nat) (v : Value) (hv : (enc xs[i])[j]? = some v) :
    w.cell? ⟨b, o + (i * sz + j), none⟩ = some v := by
  obtain ⟨b', o', e, _, _, hc⟩ := h.2 (by have := h.1; omega)
  injection e with e; injection e with e1 e2
  subst e1 e2
  exact hc i hi j v hv
theorem Blk.freshAt2 {w : World} {g : Nat} {t : TypeId} {cs : Array Value} (_ : Blk w g t cs) (t2 : TypeId) (cs2 : Array Value) : ∃ b, b = w.heap.size ∧ Blk (w.alloc (.cells cs2 t2)) b t2 cs2 := ⟨_, rfl, Blk.new w t2 cs2⟩
theorem Blk.freshAt3 {w : World} {g : Nat} {t : TypeId} {cs : Array Value} (_ : Blk w g t cs) (t2 : TypeId) (cs2 : Array Value) : ∃ b w', w' = w.alloc (.cells cs2 t2) ∧ b = w.heap.size ∧ Blk w' b t2 cs2 := ⟨_, _, rfl, rfl, Blk.new w t2 cs2⟩
theorem Blk.allocEq {w w' : World} {g : Nat} {t : TypeId} {cs : Array Value} {o : Obj} (h : Blk w g t cs) (e : w' = w.alloc o) : Blk w' g t cs := e ▸ h.alloc o
theorem RingAt.allocEq {w w' : World} {g : Nat} {nums : List Int} {k : Nat} {o : Obj} (h : RingAt w g nums k) (e : w' = w.alloc o) : RingAt w' g nums k := e ▸ h.alloc o
theorem Kp.allocEq {B : Nat} {row : Option Nat} {w w1 w' : World} {o : Obj} (h : Kp B row w w1) (e : w' = w1.alloc o) (hB : B ≤ w1.heap.size) : Kp B row w w' := e ▸ h.alloc hB o
theorem either_one {p : Prop} {n m v : Int} (h : (p ∧ n = v) ∨ (¬ p ∧ n = 0)) (k : (p ∧ m = v) ∨ (¬ p ∧ m = 0)) : n = m := by
  rcases h with ⟨h1, rfl⟩ | ⟨h1, rfl⟩ <;> rcases k with ⟨k1, rfl⟩ | ⟨k1, rfl⟩
  · rfl
  · exact absurd h1 k1
  · exact absurd k1 h1
  · rfl
/-- What the three slices hold. -/
def Three (w : World) (s : Stone) (r : Rock) (f : Fall) (r2 : Rock) (f2 : Fall) (v1 v2 v3 : Value) (wx : World) : Prop :=
  ∃ (b1 b2 b3 : Nat) (s0 : Stone), v1 = .slice (some ⟨b1, 0, none⟩) 3 3 ∧ v2 = .slice (some ⟨b2, 0, none⟩) 3 3 ∧ v3 = .slice (some ⟨b3, 0, none⟩) 3 3 ∧
    Blk wx b1 36 (.int .i64 s.size :: .int .i64 s.dens :: .int .i64 s.strong :: .int .i64 s.spin :: .int .i64 s.shape :: .bool s.pile :: .int .i64 s.speed :: .int .i64 s.slope :: .int .i64 s0.size :: .int .i64 s0.dens :: .int .i64 s0.strong :: .int .i64 s0.spin :: .int .i64 s0.shape :: .bool s0.pile :: .int .i64 s0.speed :: .int .i64 s0.slope :: .int .i64 s.size :: .int .i64 s.dens :: .int .i64 s.strong :: .int .i64 s.spin :: .int .i64 s.shape :: .bool s.pile :: .int .i64 s.speed :: .int .i64 s.slope :: [] : List Value).toArray ∧ Blk wx b2 28 (.int .i64 r.size.lo :: .int .i64 r.size.hi :: .int .i64 r.dens.lo :: .int .i64 r.dens.hi :: .int .i64 r.strong.lo :: .int .i64 r.strong.hi :: .int .i64 r.spin.lo :: .int .i64 r.spin.hi :: .int .i64 r.shape.lo :: .int .i64 r.shape.hi :: .bool r.pile :: .int .i64 r2.size.lo :: .int .i64 r2.size.hi :: .int .i64 r2.dens.lo :: .int .i64 r2.dens.hi :: .int .i64 r2.strong.lo :: .int .i64 r2.strong.hi :: .int .i64 r2.spin.lo :: .int .i64 r2.spin.hi :: .int .i64 r2.shape.lo :: .int .i64 r2.shape.hi :: .bool r2.pile :: .int .i64 r2.size.lo :: .int .i64 r2.size.hi :: .int .i64 r2.dens.lo :: .int .i64 r2.dens.hi :: .int .i64 r2.strong.lo :: .int .i64 r2.strong.hi :: .int .i64 r2.spin.lo :: .int .i64 r2.spin.hi :: .int .i64 r2.shape.lo :: .int .i64 r2.shape.hi :: .bool r2.pile :: [] : List Value).toArray ∧ Blk wx b3 30 #[.int .i64 f.speed.lo, .int .i64 f.speed.hi, .int .i64 f.slope.lo, .int .i64 f.slope.hi, .int .i64 f2.speed.lo, .int .i64 f2.speed.hi, .int .i64 f2.slope.lo, .int .i64 f2.slope.hi, .int .i64 f2.speed.lo, .int .i64 f2.speed.hi, .int .i64 f2.slope.lo, .int .i64 f2.slope.hi] ∧ Kp w.heap.size none w wx
def ThreeAt (w : World) (v : Value) (wr : World) : Prop := ∃ i : Nat, v = .int .i64 i ∧ i ≤ 3 ∧ Kp w.heap.size none w wr
set_option maxRecDepth 100000 in
set_option maxHeartbeats 8000000 in
theorem law_BlastChecks_any (A0 : Option Addr) (c0 : Nat) (ls : List Layer) (r : Rock) (f : Fall) (s : Stone) (A4 : Option Addr) (c4 : Nat) (nums : List Int) (w : World) (hls : Rd none w 2 encLayer A0 ls.length ls)
    (h : Rd none w 1 (fun x => [Value.int .i64 x]) A4 nums.length nums) (hn : nums.length ≤ 17592186044416) (hb : Bnd w) :
    Calls Tryd.prog 6 #[.slice A0 ls.length c0, .agg #[.int .i64 r.size.lo, .int .i64 r.size.hi, .int .i64 r.dens.lo, .int .i64 r.dens.hi, .int .i64 r.strong.lo, .int .i64 r.strong.hi, .int .i64 r.spin.lo, .int .i64 r.spin.hi, .int .i64 r.shape.lo, .int .i64 r.shape.hi, .bool r.pile], .agg #[.int .i64 f.speed.lo, .int .i64 f.speed.hi, .int .i64 f.slope.lo, .int .i64 f.slope.hi], .agg #[.int .i64 s.size, .int .i64 s.dens, .int .i64 s.strong, .int .i64 s.spin, .int .i64 s.shape, .bool s.pile, .int .i64 s.speed, .int .i64 s.slope], .slice A4 nums.length c4] w fun e w' => e = .returned (.bool true) ∧ Kp w.heap.size none w w' := by
  have K0 := (((Kp.refl w.heap.size none w).alloc (Nat.le_refl _) (.cells #[.int .i64 r.size.lo, .int .i64 r.size.hi, .int .i64 r.dens.lo, .int .i64 r.dens.hi, .int .i64 r.strong.lo, .int .i64 r.strong.hi, .int .i64 r.spin.lo, .int .i64 r.spin.hi, .int .i64 r.shape.lo, .int .i64 r.shape.hi, .bool r.pile] 28)).alloc (by simp) (.cells #[.int .i64 f.speed.lo, .int .i64 f.speed.hi, .int .i64 f.slope.lo, .int .i64 f.slope.hi] 30)).alloc (by simp; omega) (.cells #[.int .i64 s.size, .int .i64 s.dens, .int .i64 s.strong, .int .i64 s.spin, .int .i64 s.shape, .bool s.pile, .int .i64 s.speed, .int .i64 s.slope] 36)
  have KB := ((Blk.new w 28 #[.int .i64 r.size.lo, .int .i64 r.size.hi, .int .i64 r.dens.lo, .int .i64 r.dens.hi, .int .i64 r.strong.lo, .int .i64 r.strong.hi, .int .i64 r.spin.lo, .int .i64 r.spin.hi, .int .i64 r.shape.lo, .int .i64 r.shape.hi, .bool r.pile]).alloc (.cells #[.int .i64 f.speed.lo, .int .i64 f.speed.hi, .int .i64 f.slope.lo, .int .i64 f.slope.hi] 30)).alloc (.cells #[.int .i64 s.size, .int .i64 s.dens, .int .i64 s.strong, .int .i64 s.spin, .int .i64 s.shape, .bool s.pile, .int .i64 s.speed, .int .i64 s.slope] 36)
  have FB := (Blk.newAt (w.alloc (.cells #[.int .i64 r.size.lo, .int .i64 r.size.hi, .int .i64 r.dens.lo, .int .i64 r.dens.hi, .int .i64 r.strong.lo, .int .i64 r.strong.hi, .int .i64 r.spin.lo, .int .i64 r.spin.hi, .int .i64 r.shape.lo, .int .i64 r.shape.hi, .bool r.pile] 28)) 30 #[.int .i64 f.speed.lo, .int .i64 f.speed.hi, .int .i64 f.slope.lo, .int .i64 f.slope.hi] (n := w.heap.size + 1) (by simp)).alloc (.cells #[.int .i64 s.size, .int .i64 s.dens, .int .i64 s.strong, .int .i64 s.spin, .int .i64 s.shape, .bool s.pile, .int .i64 s.speed, .int .i64 s.slope] 36)
  have SB := Blk.newAt ((w.alloc (.cells #[.int .i64 r.size.lo, .int .i64 r.size.hi, .int .i64 r.dens.lo, .int .i64 r.dens.hi, .int .i64 r.strong.lo, .int .i64 r.strong.hi, .int .i64 r.spin.lo, .int .i64 r.spin.hi, .int .i64 r.shape.lo, .int .i64 r.shape.hi, .bool r.pile] 28)).alloc (.cells #[.int .i64 f.speed.lo, .int .i64 f.speed.hi, .int .i64 f.slope.lo, .int .i64 f.slope.hi] 30)) 36 #[.int .i64 s.size, .int .i64 s.dens, .int .i64 s.strong, .int .i64 s.spin, .int .i64 s.shape, .bool s.pile, .int .i64 s.speed, .int .i64 s.slope] (n := w.heap.size + 1 + 1) (by simp)
  generalize hw0 : ((w.alloc (.cells #[.int .i64 r.size.lo, .int .i64 r.size.hi, .int .i64 r.dens.lo, .int .i64 r.dens.hi, .int .i64 r.strong.lo, .int .i64 r.strong.hi, .int .i64 r.spin.lo, .int .i64 r.spin.hi, .int .i64 r.shape.lo, .int .i64 r.shape.hi, .bool r.pile] 28)).alloc (.cells #[.int .i64 f.speed.lo, .int .i64 f.speed.hi, .int .i64 f.slope.lo, .int .i64 f.slope.hi] 30)).alloc (.cells #[.int .i64 s.size, .int .i64 s.dens, .int .i64 s.strong, .int .i64 s.spin, .int .i64 s.shape, .bool s.pile, .int .i64 s.speed, .int .i64 s.slope] 36) = w0 at K0 KB FB SB
  go_enter Tryd.func6, Tryd.ntmps6
  rcases (show 40 < ls.length ∨ ¬ 40 < ls.length by omega) with hbig | hbig
  · have hbi : (40 : Int) < (ls.length : Int) := by omega
    go_wp2_with fail
    refine (awake_any _ (hb.kpN K0)).mono ?_
    rintro e w1 ⟨rfl, k1⟩
    have K1 := K0.thenN k1 (Nat.le_refl _)
    go_wp2
    exact bodyPost_ret (v := .bool true) (by simp [results, Tryd.results6, go_sem]) rfl ⟨rfl, K1⟩
  · have hbi : ¬ (40 : Int) < (ls.length : Int) := by omega
    go_wp2_with fail
    clear hw0
    have hzs0 := SB.lt
    refine (newRing_any A4 c4 nums _ (h.kpN K0) hn).mono ?_
    rintro e w1 ⟨g, rfl, hg, hr, k1⟩
    have K1 := K0.thenN k1 (Nat.le_refl _)
    have hgw : w.heap.size ≤ g := Nat.le_trans K0.size hg
    replace KB := KB.kpN k1
    replace FB := FB.kpN k1
    replace SB := SB.kpN k1
    clear k1 K0
    go_wp2_with fail
    refine (rockOf_any g nums 0 _ hr (by omega)).mono ?_
    rintro e w2 ⟨v, rfl, ⟨r2, f2, rfl, hrk, -⟩, hr2, k2⟩
    have K2 := K1.thenOwn k2 (Nat.le_refl _) hgw
    have h02 := K1.size
    replace KB := KB.kp k2 KB.lt (sne (by omega))
    replace FB := FB.kp k2 FB.lt (sne (by omega))
    replace SB := SB.kp k2 SB.lt (sne (by omega))
    have hz2 : g < w2.heap.size := hr2.lt
    have hzs : w.heap.size + 1 + 1 < w2.heap.size := SB.lt
    have KQ := (K2.alloc K2.size (.cells #[.int .i64 r2.size.lo, .int .i64 r2.size.hi, .int .i64 r2.dens.lo, .int .i64 r2.dens.hi, .int .i64 r2.strong.lo, .int .i64 r2.strong.hi, .int .i64 r2.spin.lo, .int .i64 r2.spin.hi, .int .i64 r2.shape.lo, .int .i64 r2.shape.hi, .bool r2.pile] 28)).alloc (alloc_ge K2.size _) (.cells #[.int .i64 f2.speed.lo, .int .i64 f2.speed.hi, .int .i64 f2.slope.lo, .int .i64 f2.slope.hi] 30)
    have HR := (hr2.alloc (.cells #[.int .i64 r2.size.lo, .int .i64 r2.size.hi, .int .i64 r2.dens.lo, .int .i64 r2.dens.hi, .int .i64 r2.strong.lo, .int .i64 r2.strong.hi, .int .i64 r2.spin.lo, .int .i64 r2.spin.hi, .int .i64 r2.shape.lo, .int .i64 r2.shape.hi, .bool r2.pile] 28)).alloc (.cells #[.int .i64 f2.speed.lo, .int .i64 f2.speed.hi, .int .i64 f2.slope.lo, .int .i64 f2.slope.hi] 30)
    have RB := (Blk.new w2 28 #[.int .i64 r2.size.lo, .int .i64 r2.size.hi, .int .i64 r2.dens.lo, .int .i64 r2.dens.hi, .int .i64 r2.strong.lo, .int .i64 r2.strong.hi, .int .i64 r2.spin.lo, .int .i64 r2.spin.hi, .int .i64 r2.shape.lo, .int .i64 r2.shape.hi, .bool r2.pile]).alloc (.cells #[.int .i64 f2.speed.lo, .int .i64 f2.speed.hi, .int .i64 f2.slope.lo, .int .i64 f2.slope.hi] 30)
    have GB := Blk.newAt (w2.alloc (.cells #[.int .i64 r2.size.lo, .int .i64 r2.size.hi, .int .i64 r2.dens.lo, .int .i64 r2.dens.hi, .int .i64 r2.strong.lo, .int .i64 r2.strong.hi, .int .i64 r2.spin.lo, .int .i64 r2.spin.hi, .int .i64 r2.shape.lo, .int .i64 r2.shape.hi, .bool r2.pile] 28)) 30 #[.int .i64 f2.speed.lo, .int .i64 f2.speed.hi, .int .i64 f2.slope.lo, .int .i64 f2.slope.hi] (n := w2.heap.size + 1) (by simp)
    replace KB := (KB.alloc (.cells #[.int .i64 r2.size.lo, .int .i64 r2.size.hi, .int .i64 r2.dens.lo, .int .i64 r2.dens.hi, .int .i64 r2.strong.lo, .int .i64 r2.strong.hi, .int .i64 r2.spin.lo, .int .i64 r2.spin.hi, .int .i64 r2.shape.lo, .int .i64 r2.shape.hi, .bool r2.pile] 28)).alloc (.cells #[.int .i64 f2.speed.lo, .int .i64 f2.speed.hi, .int .i64 f2.slope.lo, .int .i64 f2.slope.hi] 30)
    replace FB := (FB.alloc (.cells #[.int .i64 r2.size.lo, .int .i64 r2.size.hi, .int .i64 r2.dens.lo, .int .i64 r2.dens.hi, .int .i64 r2.strong.lo, .int .i64 r2.strong.hi, .int .i64 r2.spin.lo, .int .i64 r2.spin.hi, .int .i64 r2.shape.lo, .int .i64 r2.shape.hi, .bool r2.pile] 28)).alloc (.cells #[.int .i64 f2.speed.lo, .int .i64 f2.speed.hi, .int .i64 f2.slope.lo, .int .i64 f2.slope.hi] 30)
    replace SB := (SB.alloc (.cells #[.int .i64 r2.size.lo, .int .i64 r2.size.hi, .int .i64 r2.dens.lo, .int .i64 r2.dens.hi, .int .i64 r2.strong.lo, .int .i64 r2.strong.hi, .int .i64 r2.spin.lo, .int .i64 r2.spin.hi, .int .i64 r2.shape.lo, .int .i64 r2.shape.hi, .bool r2.pile] 28)).alloc (.cells #[.int .i64 f2.speed.lo, .int .i64 f2.speed.hi, .int .i64 f2.slope.lo, .int .i64 f2.slope.hi] 30)
    clear k2 K1 hr K2 hr2
    generalize hw3 : (w2.alloc (.cells #[.int .i64 r2.size.lo, .int .i64 r2.size.hi, .int .i64 r2.dens.lo, .int .i64 r2.dens.hi, .int .i64 r2.strong.lo, .int .i64 r2.strong.hi, .int .i64 r2.spin.lo, .int .i64 r2.spin.hi, .int .i64 r2.shape.lo, .int .i64 r2.shape.hi, .bool r2.pile] 28)).alloc (.cells #[.int .i64 f2.speed.lo, .int .i64 f2.speed.hi, .int .i64 f2.slope.lo, .int .i64 f2.slope.hi] 30) = w3 at KQ HR RB GB KB FB SB
    go_upto_region 5 with (fail)
    clear hw3
    go_cut [14, 15, 16] (fun s14 s15 s16 wx => Three w s r f r2 f2 s14 s15 s16 wx)
    case first =>
      have hne : ∀ b, b ≠ g → some b ≠ some g := fun b hb => sne hb
      have hzw : w2.heap.size + 1 < w3.heap.size := GB.lt
      replace RB := RB.drew
      replace GB := GB.drew
      replace KB := KB.drew
      replace FB := FB.drew
      replace SB := SB.drew
      replace KQ := KQ.drew
      replace HR := HR.drew
      obtain ⟨S0, hS⟩ : ∃ S : World → Prop, S = fun w' => (Blk w' w2.heap.size 28 #[.int .i64 r2.size.lo, .int .i64 r2.size.hi, .int .i64 r2.dens.lo, .int .i64 r2.dens.hi, .int .i64 r2.strong.lo, .int .i64 r2.strong.hi, .int .i64 r2.spin.lo, .int .i64 r2.spin.hi, .int .i64 r2.shape.lo, .int .i64 r2.shape.hi, .bool r2.pile] ∧ Blk w' (w2.heap.size + 1) 30 #[.int .i64 f2.speed.lo, .int .i64 f2.speed.hi, .int .i64 f2.slope.lo, .int .i64 f2.slope.hi]) ∧ Blk w' w.heap.size 28 #[.int .i64 r.size.lo, .int .i64 r.size.hi, .int .i64 r.dens.lo, .int .i64 r.dens.hi, .int .i64 r.strong.lo, .int .i64 r.strong.hi, .int .i64 r.spin.lo, .int .i64 r.spin.hi, .int .i64 r.shape.lo, .int .i64 r.shape.hi, .bool r.pile] ∧ Blk w' (w.heap.size + 1) 30 #[.int .i64 f.speed.lo, .int .i64 f.speed.hi, .int .i64 f.slope.lo, .int .i64 f.slope.hi] ∧ Blk w' (w.heap.size + 1 + 1) 36 #[.int .i64 s.size, .int .i64 s.dens, .int .i64 s.strong, .int .i64 s.spin, .int .i64 s.shape, .bool s.pile, .int .i64 s.speed, .int .i64 s.slope] := ⟨_, rfl⟩
      have hS0 : ∀ w', S0 w' ↔ ((Blk w' w2.heap.size 28 #[.int .i64 r2.size.lo, .int .i64 r2.size.hi, .int .i64 r2.dens.lo, .int .i64 r2.dens.hi, .int .i64 r2.strong.lo, .int .i64 r2.strong.hi, .int .i64 r2.spin.lo, .int .i64 r2.spin.hi, .int .i64 r2.shape.lo, .int .i64 r2.shape.hi, .bool r2.pile] ∧ Blk w' (w2.heap.size + 1) 30 #[.int .i64 f2.speed.lo, .int .i64 f2.speed.hi, .int .i64 f2.slope.lo, .int .i64 f2.slope.hi]) ∧ Blk w' w.heap.size 28 #[.int .i64 r.size.lo, .int .i64 r.size.hi, .int .i64 r.dens.lo, .int .i64 r.dens.hi, .int .i64 r.strong.lo, .int .i64 r.strong.hi, .int .i64 r.spin.lo, .int .i64 r.spin.hi, .int .i64 r.shape.lo, .int .i64 r.shape.hi, .bool r.pile] ∧ Blk w' (w.heap.size + 1) 30 #[.int .i64 f.speed.lo, .int .i64 f.speed.hi, .int .i64 f.slope.lo, .int .i64 f.slope.hi] ∧ Blk w' (w.heap.size + 1 + 1) 36 #[.int .i64 s.size, .int .i64 s.dens, .int .i64 s.strong, .int .i64 s.spin, .int .i64 s.shape, .bool s.pile, .int .i64 s.speed, .int .i64 s.slope]) := fun w' => by rw [hS]
      clear hS
      have cx := fun (x : Ev S0) i => ((hS0 _).1 x.h).1.1.cell i
      have cy := fun (x : Ev S0) i => ((hS0 _).1 x.h).1.2.cell i
      have ca := fun (x : Ev S0) i => ((hS0 _).1 x.h).2.1.cell i
      have cb := fun (x : Ev S0) i => ((hS0 _).1 x.h).2.2.1.cell i
      have cc := fun (x : Ev S0) i => ((hS0 _).1 x.h).2.2.2.cell i
      have hevT := ev_true
      refine wp_region_tr S0 (.st 0 1 (.st 1 0 (.st 2 1 (.st 3 1 (.st 5 1 (.st 7 1 (.st 8 1 (.st 9 1 (.st 11 1 (.st 12 1 (.st 13 1 (.b3 4 (.b3 6 (.st 15 0 (.b2 10 (.st 16 0 (.st 14 2 (.st 17 0 .nil))) 14 (.st 10 2 (.st 16 0 (.st 17 0 .nil))))) 10 (.b2 6 (.st 15 0 (.st 16 0 (.st 14 2 (.st 17 0 .nil)))) 14 (.st 6 2 (.st 15 0 (.st 16 0 (.st 17 0 .nil))))) 14 (.b2 6 (.st 15 0 (.st 10 2 (.st 16 0 (.st 17 0 .nil)))) 10 (.st 6 2 (.st 15 0 (.st 16 0 (.st 17 0 .nil)))))) 10 (.b2 4 (.b2 6 (.st 15 0 (.st 16 0 (.st 14 2 (.st 17 0 .nil)))) 14 (.st 6 2 (.st 15 0 (.st 16 0 (.st 17 0 .nil))))) 14 (.st 4 2 (.st 6 2 (.st 15 0 (.st 16 0 (.st 17 0 .nil)))))) 14 (.b2 4 (.b2 6 (.st 15 0 (.st 10 2 (.st 16 0 (.st 17 0 .nil)))) 10 (.st 6 2 (.st 15 0 (.st 16 0 (.st 17 0 .nil))))) 10 (.st 4 2 (.st 6 2 (.st 15 0 (.st 16 0 (.st 17 0 .nil)))))))))))))))))) (by kernel_rfl) (by kernel_rfl) ((hS0 _).2 ⟨⟨RB, GB⟩, KB, FB, SB⟩) ?_
      intro _hev
      iterate 11 (first | (refine wpTr_v rfl rfl ?_; intro K hK; go_big_quiet_op; go_big_quiet_on) | (refine wpTr_q rfl rfl ?_; intro K hK; go_big_quiet_op; go_big_quiet_on) | refine wpTr_s rfl rfl ?_)
      refine wpTr_b3 ?_ ?_ ?_
      · refine wpOne_l rfl rfl ?_; intro K hK
        go_step
        refine (stoneOf_any g nums _ r2 f2 _ HR (by omega) hrk).mono ?_
        rintro e w5 ⟨v, rfl, ⟨s0, rfl, hs0⟩, HR, k5⟩
        try (replace B2 := B2.kp k5 B2.lt (sne (by omega)))
        try (replace B3 := B3.kp k5 B3.lt (sne (by omega)))
        replace RB := RB.kp k5 RB.lt (sne (by omega))
        replace GB := GB.kp k5 GB.lt (sne (by omega))
        replace KB := KB.kp k5 KB.lt (sne (by omega))
        replace FB := FB.kp k5 FB.lt (sne (by omega))
        replace SB := SB.kp k5 SB.lt (sne (by omega))
        replace KQ := KQ.thenOwn k5 (Nat.le_refl _) hgw
        refine hK _ _ ((hS0 _).2 ⟨⟨RB, GB⟩, KB, FB, SB⟩) ?_
        clear hK K k5 hs0
        refine wpTr_b3 ?_ ?_ ?_
        · refine wpOne_l rfl rfl ?_; intro K hK
          obtain ⟨b1, wq, hwq, hb1, B1⟩ := GB.freshAt3 36 (.int .i64 s.size :: .int .i64 s.dens :: .int .i64 s.strong :: .int .i64 s.spin :: .int .i64 s.shape :: .bool s.pile :: .int .i64 s.speed :: .int .i64 s.slope :: .int .i64 s0.size :: .int .i64 s0.dens :: .int .i64 s0.strong :: .int .i64 s0.spin :: .int .i64 s0.shape :: .bool s0.pile :: .int .i64 s0.speed :: .int .i64 s0.slope :: .int .i64 s.size :: .int .i64 s.dens :: .int .i64 s.strong :: .int .i64 s.spin :: .int .i64 s.shape :: .bool s.pile :: .int .i64 s.speed :: .int .i64 s.slope :: [] : List Value).toArray
          have hb1g : g < b1 := by have := GB.lt; omega
          go_step
          first | rw [← hwq] | rw [show (World.alloc w3 (.cells (.int .i64 s.size :: .int .i64 s.dens :: .int .i64 s.strong :: .int .i64 s.spin :: .int .i64 s.shape :: .bool s.pile :: .int .i64 s.speed :: .int .i64 s.slope :: .int .i64 s0.size :: .int .i64 s0.dens :: .int .i64 s0.strong :: .int .i64 s0.spin :: .int .i64 s0.shape :: .bool s0.pile :: .int .i64 s0.speed :: .int .i64 s0.slope :: .int .i64 s.size :: .int .i64 s.dens :: .int .i64 s.strong :: .int .i64 s.spin :: .int .i64 s.shape :: .bool s.pile :: .int .i64 s.speed :: .int .i64 s.slope :: [] : List Value).toArray 36)).drew = wq from hwq.symm]
          have hs1 := hb1
          try simp at hs1
          first | rw [← hs1] | rw [← hb1] | rw [← show b1 = w3.heap.size from hb1]
          try clear hs1
          replace RB := RB.allocEq hwq
          replace GB := GB.allocEq hwq
          replace KB := KB.allocEq hwq
          replace FB := FB.allocEq hwq
          replace SB := SB.allocEq hwq
          replace HR := HR.allocEq hwq
          try (replace B2 := B2.allocEq hwq)
          try (replace B3 := B3.allocEq hwq)
          replace KQ := KQ.allocEq hwq KQ.size
          refine hK _ _ ((hS0 _).2 ⟨⟨RB, GB⟩, KB, FB, SB⟩) ?_
          clear hK K hb1 hwq
          iterate 1 (first | (refine wpTr_v rfl rfl ?_; intro K hK; go_big_quiet_op; go_big_quiet_on) | (refine wpTr_q rfl rfl ?_; intro K hK; go_big_quiet_op; go_big_quiet_on) | refine wpTr_s rfl rfl ?_)
          refine wpTr_b2 ?_ ?_
          · refine wpOne_l rfl rfl ?_; intro K hK
            obtain ⟨b2, wq, hwq, hb2, B2⟩ := GB.freshAt3 28 (.int .i64 r.size.lo :: .int .i64 r.size.hi :: .int .i64 r.dens.lo :: .int .i64 r.dens.hi :: .int .i64 r.strong.lo :: .int .i64 r.strong.hi :: .int .i64 r.spin.lo :: .int .i64 r.spin.hi :: .int .i64 r.shape.lo :: .int .i64 r.shape.hi :: .bool r.pile :: .int .i64 r2.size.lo :: .int .i64 r2.size.hi :: .int .i64 r2.dens.lo :: .int .i64 r2.dens.hi :: .int .i64 r2.strong.lo :: .int .i64 r2.strong.hi :: .int .i64 r2.spin.lo :: .int .i64 r2.spin.hi :: .int .i64 r2.shape.lo :: .int .i64 r2.shape.hi :: .bool r2.pile :: .int .i64 r2.size.lo :: .int .i64 r2.size.hi :: .int .i64 r2.dens.lo :: .int .i64 r2.dens.hi :: .int .i64 r2.strong.lo :: .int .i64 r2.strong.hi :: .int .i64 r2.spin.lo :: .int .i64 r2.spin.hi :: .int .i64 r2.shape.lo :: .int .i64 r2.shape.hi :: .bool r2.pile :: [] : List Value).toArray
            have hb2g : g < b2 := by have := GB.lt; omega
            go_step
            first | rw [← hwq] | rw [show (World.alloc w3 (.cells (.int .i64 r.size.lo :: .int .i64 r.size.hi :: .int .i64 r.dens.lo :: .int .i64 r.dens.hi :: .int .i64 r.strong.lo :: .int .i64 r.strong.hi :: .int .i64 r.spin.lo :: .int .i64 r.spin.hi :: .int .i64 r.shape.lo :: .int .i64 r.shape.hi :: .bool r.pile :: .int .i64 r2.size.lo :: .int .i64 r2.size.hi :: .int .i64 r2.dens.lo :: .int .i64 r2.dens.hi :: .int .i64 r2.strong.lo :: .int .i64 r2.strong.hi :: .int .i64 r2.spin.lo :: .int .i64 r2.spin.hi :: .int .i64 r2.shape.lo :: .int .i64 r2.shape.hi :: .bool r2.pile :: .int .i64 r2.size.lo :: .int .i64 r2.size.hi :: .int .i64 r2.dens.lo :: .int .i64 r2.dens.hi :: .int .i64 r2.strong.lo :: .int .i64 r2.strong.hi :: .int .i64 r2.spin.lo :: .int .i64 r2.spin.hi :: .int .i64 r2.shape.lo :: .int .i64 r2.shape.hi :: .bool r2.pile :: [] : List Value).toArray 28)).drew = wq from hwq.symm]
            have hs2 := hb2
            try simp at hs2
            first | rw [← hs2] | rw [← hb2] | rw [← show b2 = w3.heap.size from hb2]
            try clear hs2
            replace RB := RB.allocEq hwq
            replace GB := GB.allocEq hwq
            replace KB := KB.allocEq hwq
            replace FB := FB.allocEq hwq
            replace SB := SB.allocEq hwq
            replace HR := HR.allocEq hwq
            try (replace B1 := B1.allocEq hwq)
            try (replace B3 := B3.allocEq hwq)
            replace KQ := KQ.allocEq hwq KQ.size
            refine hK _ _ ((hS0 _).2 ⟨⟨RB, GB⟩, KB, FB, SB⟩) ?_
            clear hK K hb2 hwq
            iterate 1 (first | (refine wpTr_v rfl rfl ?_; intro K hK; go_big_quiet_op; go_big_quiet_on) | (refine wpTr_q rfl rfl ?_; intro K hK; go_big_quiet_op; go_big_quiet_on) | refine wpTr_s rfl rfl ?_)
            refine wpTr_l rfl rfl ?_; intro K hK
            obtain ⟨b3, wq, hwq, hb3, B3⟩ := GB.freshAt3 30 #[.int .i64 f.speed.lo, .int .i64 f.speed.hi, .int .i64 f.slope.lo, .int .i64 f.slope.hi, .int .i64 f2.speed.lo, .int .i64 f2.speed.hi, .int .i64 f2.slope.lo, .int .i64 f2.slope.hi, .int .i64 f2.speed.lo, .int .i64 f2.speed.hi, .int .i64 f2.slope.lo, .int .i64 f2.slope.hi]
            have hb3g : g < b3 := by have := GB.lt; omega
            go_step
            first | rw [← hwq] | rw [show (World.alloc w3 (.cells #[.int .i64 f.speed.lo, .int .i64 f.speed.hi, .int .i64 f.slope.lo, .int .i64 f.slope.hi, .int .i64 f2.speed.lo, .int .i64 f2.speed.hi, .int .i64 f2.slope.lo, .int .i64 f2.slope.hi, .int .i64 f2.speed.lo, .int .i64 f2.speed.hi, .int .i64 f2.slope.lo, .int .i64 f2.slope.hi] 30)).drew = wq from hwq.symm]
            have hs3 := hb3
            try simp at hs3
            first | rw [← hs3] | rw [← hb3] | rw [← show b3 = w3.heap.size from hb3]
            try clear hs3
            replace RB := RB.allocEq hwq
            replace GB := GB.allocEq hwq
            replace KB := KB.allocEq hwq
            replace FB := FB.allocEq hwq
            replace SB := SB.allocEq hwq
            replace HR := HR.allocEq hwq
            try (replace B1 := B1.allocEq hwq)
            try (replace B2 := B2.allocEq hwq)
            replace KQ := KQ.allocEq hwq KQ.size
            refine hK _ _ ((hS0 _).2 ⟨⟨RB, GB⟩, KB, FB, SB⟩) ?_
            clear hK K hb3 hwq
            iterate 1 (first | (refine wpTr_v rfl rfl ?_; intro K hK; go_big_quiet_op; go_big_quiet_on) | (refine wpTr_q rfl rfl ?_; intro K hK; go_big_quiet_op; go_big_quiet_on) | refine wpTr_s rfl rfl ?_)
            refine wpTr_nil ?_
            clear hevT _hev
            go_wp2_with fail
            go_meet
            case rel => exact ⟨b1, b2, b3, s0, rfl, rfl, rfl, B1, B2, B3, KQ⟩
          · refine wpOne_l rfl rfl ?_; intro K hK
            obtain ⟨b3, wq, hwq, hb3, B3⟩ := GB.freshAt3 30 #[.int .i64 f.speed.lo, .int .i64 f.speed.hi, .int .i64 f.slope.lo, .int .i64 f.slope.hi, .int .i64 f2.speed.lo, .int .i64 f2.speed.hi, .int .i64 f2.slope.lo, .int .i64 f2.slope.hi, .int .i64 f2.speed.lo, .int .i64 f2.speed.hi, .int .i64 f2.slope.lo, .int .i64 f2.slope.hi]
            have hb3g : g < b3 := by have := GB.lt; omega
            go_step
            first | rw [← hwq] | rw [show (World.alloc w3 (.cells #[.int .i64 f.speed.lo, .int .i64 f.speed.hi, .int .i64 f.slope.lo, .int .i64 f.slope.hi, .int .i64 f2.speed.lo, .int .i64 f2.speed.hi, .int .i64 f2.slope.lo, .int .i64 f2.slope.hi, .int .i64 f2.speed.lo, .int .i64 f2.speed.hi, .int .i64 f2.slope.lo, .int .i64 f2.slope.hi] 30)).drew = wq from hwq.symm]
            have hs3 := hb3
            try simp at hs3
            first | rw [← hs3] | rw [← hb3] | rw [← show b3 = w3.heap.size from hb3]
            try clear hs3
            replace RB := RB.allocEq hwq
            replace GB := GB.allocEq hwq
            replace KB := KB.allocEq hwq
            replace FB := FB.allocEq hwq
            replace SB := SB.allocEq hwq
            replace HR := HR.allocEq hwq
            try (replace B1 := B1.allocEq hwq)
            try (replace B2 := B2.allocEq hwq)
            replace KQ := KQ.allocEq hwq KQ.size
            refine hK _ _ ((hS0 _).2 ⟨⟨RB, GB⟩, KB, FB, SB⟩) ?_
            clear hK K hb3 hwq
            refine wpTr_l rfl rfl ?_; intro K hK
            obtain ⟨b2, wq, hwq, hb2, B2⟩ := GB.freshAt3 28 (.int .i64 r.size.lo :: .int .i64 r.size.hi :: .int .i64 r.dens.lo :: .int .i64 r.dens.hi :: .int .i64 r.strong.lo :: .int .i64 r.strong.hi :: .int .i64 r.spin.lo :: .int .i64 r.spin.hi :: .int .i64 r.shape.lo :: .int .i64 r.shape.hi :: .bool r.pile :: .int .i64 r2.size.lo :: .int .i64 r2.size.hi :: .int .i64 r2.dens.lo :: .int .i64 r2.dens.hi :: .int .i64 r2.strong.lo :: .int .i64 r2.strong.hi :: .int .i64 r2.spin.lo :: .int .i64 r2.spin.hi :: .int .i64 r2.shape.lo :: .int .i64 r2.shape.hi :: .bool r2.pile :: .int .i64 r2.size.lo :: .int .i64 r2.size.hi :: .int .i64 r2.dens.lo :: .int .i64 r2.dens.hi :: .int .i64 r2.strong.lo :: .int .i64 r2.strong.hi :: .int .i64 r2.spin.lo :: .int .i64 r2.spin.hi :: .int .i64 r2.shape.lo :: .int .i64 r2.shape.hi :: .bool r2.pile :: [] : List Value).toArray
            have hb2g : g < b2 := by have := GB.lt; omega
            go_step
            first | rw [← hwq] | rw [show (World.alloc w3 (.cells (.int .i64 r.size.lo :: .int .i64 r.size.hi :: .int .i64 r.dens.lo :: .int .i64 r.dens.hi :: .int .i64 r.strong.lo :: .int .i64 r.strong.hi :: .int .i64 r.spin.lo :: .int .i64 r.spin.hi :: .int .i64 r.shape.lo :: .int .i64 r.shape.hi :: .bool r.pile :: .int .i64 r2.size.lo :: .int .i64 r2.size.hi :: .int .i64 r2.dens.lo :: .int .i64 r2.dens.hi :: .int .i64 r2.strong.lo :: .int .i64 r2.strong.hi :: .int .i64 r2.spin.lo :: .int .i64 r2.spin.hi :: .int .i64 r2.shape.lo :: .int .i64 r2.shape.hi :: .bool r2.pile :: .int .i64 r2.size.lo :: .int .i64 r2.size.hi :: .int .i64 r2.dens.lo :: .int .i64 r2.dens.hi :: .int .i64 r2.strong.lo :: .int .i64 r2.strong.hi :: .int .i64 r2.spin.lo :: .int .i64 r2.spin.hi :: .int .i64 r2.shape.lo :: .int .i64 r2.shape.hi :: .bool r2.pile :: [] : List Value).toArray 28)).drew = wq from hwq.symm]
            have hs2 := hb2
            try simp at hs2
            first | rw [← hs2] | rw [← hb2] | rw [← show b2 = w3.heap.size from hb2]
            try clear hs2
            replace RB := RB.allocEq hwq
            replace GB := GB.allocEq hwq
            replace KB := KB.allocEq hwq
            replace FB := FB.allocEq hwq
            replace SB := SB.allocEq hwq
            replace HR := HR.allocEq hwq
            try (replace B1 := B1.allocEq hwq)
            try (replace B3 := B3.allocEq hwq)
            replace KQ := KQ.allocEq hwq KQ.size
            refine hK _ _ ((hS0 _).2 ⟨⟨RB, GB⟩, KB, FB, SB⟩) ?_
            clear hK K hb2 hwq
            iterate 2 (first | (refine wpTr_v rfl rfl ?_; intro K hK; go_big_quiet_op; go_big_quiet_on) | (refine wpTr_q rfl rfl ?_; intro K hK; go_big_quiet_op; go_big_quiet_on) | refine wpTr_s rfl rfl ?_)
            refine wpTr_nil ?_
            clear hevT _hev
            go_wp2_with fail
            go_meet
            case rel => exact ⟨b1, b2, b3, s0, rfl, rfl, rfl, B1, B2, B3, KQ⟩
        · refine wpOne_l rfl rfl ?_; intro K hK
          obtain ⟨b2, wq, hwq, hb2, B2⟩ := GB.freshAt3 28 (.int .i64 r.size.lo :: .int .i64 r.size.hi :: .int .i64 r.dens.lo :: .int .i64 r.dens.hi :: .int .i64 r.strong.lo :: .int .i64 r.strong.hi :: .int .i64 r.spin.lo :: .int .i64 r.spin.hi :: .int .i64 r.shape.lo :: .int .i64 r.shape.hi :: .bool r.pile :: .int .i64 r2.size.lo :: .int .i64 r2.size.hi :: .int .i64 r2.dens.lo :: .int .i64 r2.dens.hi :: .int .i64 r2.strong.lo :: .int .i64 r2.strong.hi :: .int .i64 r2.spin.lo :: .int .i64 r2.spin.hi :: .int .i64 r2.shape.lo :: .int .i64 r2.shape.hi :: .bool r2.pile :: .int .i64 r2.size.lo :: .int .i64 r2.size.hi :: .int .i64 r2.dens.lo :: .int .i64 r2.dens.hi :: .int .i64 r2.strong.lo :: .int .i64 r2.strong.hi :: .int .i64 r2.spin.lo :: .int .i64 r2.spin.hi :: .int .i64 r2.shape.lo :: .int .i64 r2.shape.hi :: .bool r2.pile :: [] : List Value).toArray
          have hb2g : g < b2 := by have := GB.lt; omega
          go_step
          first | rw [← hwq] | rw [show (World.alloc w3 (.cells (.int .i64 r.size.lo :: .int .i64 r.size.hi :: .int .i64 r.dens.lo :: .int .i64 r.dens.hi :: .int .i64 r.strong.lo :: .int .i64 r.strong.hi :: .int .i64 r.spin.lo :: .int .i64 r.spin.hi :: .int .i64 r.shape.lo :: .int .i64 r.shape.hi :: .bool r.pile :: .int .i64 r2.size.lo :: .int .i64 r2.size.hi :: .int .i64 r2.dens.lo :: .int .i64 r2.dens.hi :: .int .i64 r2.strong.lo :: .int .i64 r2.strong.hi :: .int .i64 r2.spin.lo :: .int .i64 r2.spin.hi :: .int .i64 r2.shape.lo :: .int .i64 r2.shape.hi :: .bool r2.pile :: .int .i64 r2.size.lo :: .int .i64 r2.size.hi :: .int .i64 r2.dens.lo :: .int .i64 r2.dens.hi :: .int .i64 r2.strong.lo :: .int .i64 r2.strong.hi :: .int .i64 r2.spin.lo :: .int .i64 r2.spin.hi :: .int .i64 r2.shape.lo :: .int .i64 r2.shape.hi :: .bool r2.pile :: [] : List Value).toArray 28)).drew = wq from hwq.symm]
          have hs2 := hb2
          try simp at hs2
          first | rw [← hs2] | rw [← hb2] | rw [← show b2 = w3.heap.size from hb2]
          try clear hs2
          replace RB := RB.allocEq hwq
          replace GB := GB.allocEq hwq
          replace KB := KB.allocEq hwq
          replace FB := FB.allocEq hwq
          replace SB := SB.allocEq hwq
          replace HR := HR.allocEq hwq
          try (replace B1 := B1.allocEq hwq)
          try (replace B3 := B3.allocEq hwq)
          replace KQ := KQ.allocEq hwq KQ.size
          refine hK _ _ ((hS0 _).2 ⟨⟨RB, GB⟩, KB, FB, SB⟩) ?_
          clear hK K hb2 hwq
          refine wpTr_b2 ?_ ?_
          · refine wpOne_l rfl rfl ?_; intro K hK
            obtain ⟨b1, wq, hwq, hb1, B1⟩ := GB.freshAt3 36 (.int .i64 s.size :: .int .i64 s.dens :: .int .i64 s.strong :: .int .i64 s.spin :: .int .i64 s.shape :: .bool s.pile :: .int .i64 s.speed :: .int .i64 s.slope :: .int .i64 s0.size :: .int .i64 s0.dens :: .int .i64 s0.strong :: .int .i64 s0.spin :: .int .i64 s0.shape :: .bool s0.pile :: .int .i64 s0.speed :: .int .i64 s0.slope :: .int .i64 s.size :: .int .i64 s.dens :: .int .i64 s.strong :: .int .i64 s.spin :: .int .i64 s.shape :: .bool s.pile :: .int .i64 s.speed :: .int .i64 s.slope :: [] : List Value).toArray
            have hb1g : g < b1 := by have := GB.lt; omega
            go_step
            first | rw [← hwq] | rw [show (World.alloc w3 (.cells (.int .i64 s.size :: .int .i64 s.dens :: .int .i64 s.strong :: .int .i64 s.spin :: .int .i64 s.shape :: .bool s.pile :: .int .i64 s.speed :: .int .i64 s.slope :: .int .i64 s0.size :: .int .i64 s0.dens :: .int .i64 s0.strong :: .int .i64 s0.spin :: .int .i64 s0.shape :: .bool s0.pile :: .int .i64 s0.speed :: .int .i64 s0.slope :: .int .i64 s.size :: .int .i64 s.dens :: .int .i64 s.strong :: .int .i64 s.spin :: .int .i64 s.shape :: .bool s.pile :: .int .i64 s.speed :: .int .i64 s.slope :: [] : List Value).toArray 36)).drew = wq from hwq.symm]
            have hs1 := hb1
            try simp at hs1
            first | rw [← hs1] | rw [← hb1] | rw [← show b1 = w3.heap.size from hb1]
            try clear hs1
            replace RB := RB.allocEq hwq
            replace GB := GB.allocEq hwq
            replace KB := KB.allocEq hwq
            replace FB := FB.allocEq hwq
            replace SB := SB.allocEq hwq
            replace HR := HR.allocEq hwq
            try (replace B2 := B2.allocEq hwq)
            try (replace B3 := B3.allocEq hwq)
            replace KQ := KQ.allocEq hwq KQ.size
            refine hK _ _ ((hS0 _).2 ⟨⟨RB, GB⟩, KB, FB, SB⟩) ?_
            clear hK K hb1 hwq
            iterate 2 (first | (refine wpTr_v rfl rfl ?_; intro K hK; go_big_quiet_op; go_big_quiet_on) | (refine wpTr_q rfl rfl ?_; intro K hK; go_big_quiet_op; go_big_quiet_on) | refine wpTr_s rfl rfl ?_)
            refine wpTr_l rfl rfl ?_; intro K hK
            obtain ⟨b3, wq, hwq, hb3, B3⟩ := GB.freshAt3 30 #[.int .i64 f.speed.lo, .int .i64 f.speed.hi, .int .i64 f.slope.lo, .int .i64 f.slope.hi, .int .i64 f2.speed.lo, .int .i64 f2.speed.hi, .int .i64 f2.slope.lo, .int .i64 f2.slope.hi, .int .i64 f2.speed.lo, .int .i64 f2.speed.hi, .int .i64 f2.slope.lo, .int .i64 f2.slope.hi]
            have hb3g : g < b3 := by have := GB.lt; omega
            go_step
            first | rw [← hwq] | rw [show (World.alloc w3 (.cells #[.int .i64 f.speed.lo, .int .i64 f.speed.hi, .int .i64 f.slope.lo, .int .i64 f.slope.hi, .int .i64 f2.speed.lo, .int .i64 f2.speed.hi, .int .i64 f2.slope.lo, .int .i64 f2.slope.hi, .int .i64 f2.speed.lo, .int .i64 f2.speed.hi, .int .i64 f2.slope.lo, .int .i64 f2.slope.hi] 30)).drew = wq from hwq.symm]
            have hs3 := hb3
            try simp at hs3
            first | rw [← hs3] | rw [← hb3] | rw [← show b3 = w3.heap.size from hb3]
            try clear hs3
            replace RB := RB.allocEq hwq
            replace GB := GB.allocEq hwq
            replace KB := KB.allocEq hwq
            replace FB := FB.allocEq hwq
            replace SB := SB.allocEq hwq
            replace HR := HR.allocEq hwq
            try (replace B1 := B1.allocEq hwq)
            try (replace B2 := B2.allocEq hwq)
            replace KQ := KQ.allocEq hwq KQ.size
            refine hK _ _ ((hS0 _).2 ⟨⟨RB, GB⟩, KB, FB, SB⟩) ?_
            clear hK K hb3 hwq
            iterate 1 (first | (refine wpTr_v rfl rfl ?_; intro K hK; go_big_quiet_op; go_big_quiet_on) | (refine wpTr_q rfl rfl ?_; intro K hK; go_big_quiet_op; go_big_quiet_on) | refine wpTr_s rfl rfl ?_)
            refine wpTr_nil ?_
            clear hevT _hev
            go_wp2_with fail
            go_meet
            case rel => exact ⟨b1, b2, b3, s0, rfl, rfl, rfl, B1, B2, B3, KQ⟩
          · refine wpOne_l rfl rfl ?_; intro K hK
            obtain ⟨b3, wq, hwq, hb3, B3⟩ := GB.freshAt3 30 #[.int .i64 f.speed.lo, .int .i64 f.speed.hi, .int .i64 f.slope.lo, .int .i64 f.slope.hi, .int .i64 f2.speed.lo, .int .i64 f2.speed.hi, .int .i64 f2.slope.lo, .int .i64 f2.slope.hi, .int .i64 f2.speed.lo, .int .i64 f2.speed.hi, .int .i64 f2.slope.lo, .int .i64 f2.slope.hi]
            have hb3g : g < b3 := by have := GB.lt; omega
            go_step
            first | rw [← hwq] | rw [show (World.alloc w3 (.cells #[.int .i64 f.speed.lo, .int .i64 f.speed.hi, .int .i64 f.slope.lo, .int .i64 f.slope.hi, .int .i64 f2.speed.lo, .int .i64 f2.speed.hi, .int .i64 f2.slope.lo, .int .i64 f2.slope.hi, .int .i64 f2.speed.lo, .int .i64 f2.speed.hi, .int .i64 f2.slope.lo, .int .i64 f2.slope.hi] 30)).drew = wq from hwq.symm]
            have hs3 := hb3
            try simp at hs3
            first | rw [← hs3] | rw [← hb3] | rw [← show b3 = w3.heap.size from hb3]
            try clear hs3
            replace RB := RB.allocEq hwq
            replace GB := GB.allocEq hwq
            replace KB := KB.allocEq hwq
            replace FB := FB.allocEq hwq
            replace SB := SB.allocEq hwq
            replace HR := HR.allocEq hwq
            try (replace B1 := B1.allocEq hwq)
            try (replace B2 := B2.allocEq hwq)
            replace KQ := KQ.allocEq hwq KQ.size
            refine hK _ _ ((hS0 _).2 ⟨⟨RB, GB⟩, KB, FB, SB⟩) ?_
            clear hK K hb3 hwq
            refine wpTr_l rfl rfl ?_; intro K hK
            obtain ⟨b1, wq, hwq, hb1, B1⟩ := GB.freshAt3 36 (.int .i64 s.size :: .int .i64 s.dens :: .int .i64 s.strong :: .int .i64 s.spin :: .int .i64 s.shape :: .bool s.pile :: .int .i64 s.speed :: .int .i64 s.slope :: .int .i64 s0.size :: .int .i64 s0.dens :: .int .i64 s0.strong :: .int .i64 s0.spin :: .int .i64 s0.shape :: .bool s0.pile :: .int .i64 s0.speed :: .int .i64 s0.slope :: .int .i64 s.size :: .int .i64 s.dens :: .int .i64 s.strong :: .int .i64 s.spin :: .int .i64 s.shape :: .bool s.pile :: .int .i64 s.speed :: .int .i64 s.slope :: [] : List Value).toArray
            have hb1g : g < b1 := by have := GB.lt; omega
            go_step
            first | rw [← hwq] | rw [show (World.alloc w3 (.cells (.int .i64 s.size :: .int .i64 s.dens :: .int .i64 s.strong :: .int .i64 s.spin :: .int .i64 s.shape :: .bool s.pile :: .int .i64 s.speed :: .int .i64 s.slope :: .int .i64 s0.size :: .int .i64 s0.dens :: .int .i64 s0.strong :: .int .i64 s0.spin :: .int .i64 s0.shape :: .bool s0.pile :: .int .i64 s0.speed :: .int .i64 s0.slope :: .int .i64 s.size :: .int .i64 s.dens :: .int .i64 s.strong :: .int .i64 s.spin :: .int .i64 s.shape :: .bool s.pile :: .int .i64 s.speed :: .int .i64 s.slope :: [] : List Value).toArray 36)).drew = wq from hwq.symm]
            have hs1 := hb1
            try simp at hs1
            first | rw [← hs1] | rw [← hb1] | rw [← show b1 = w3.heap.size from hb1]
            try clear hs1
            replace RB := RB.allocEq hwq
            replace GB := GB.allocEq hwq
            replace KB := KB.allocEq hwq
            replace FB := FB.allocEq hwq
            replace SB := SB.allocEq hwq
            replace HR := HR.allocEq hwq
            try (replace B2 := B2.allocEq hwq)
            try (replace B3 := B3.allocEq hwq)
            replace KQ := KQ.allocEq hwq KQ.size
            refine hK _ _ ((hS0 _).2 ⟨⟨RB, GB⟩, KB, FB, SB⟩) ?_
            clear hK K hb1 hwq
            iterate 3 (first | (refine wpTr_v rfl rfl ?_; intro K hK; go_big_quiet_op; go_big_quiet_on) | (refine wpTr_q rfl rfl ?_; intro K hK; go_big_quiet_op; go_big_quiet_on) | refine wpTr_s rfl rfl ?_)
            refine wpTr_nil ?_
            clear hevT _hev
            go_wp2_with fail
            go_meet
            case rel => exact ⟨b1, b2, b3, s0, rfl, rfl, rfl, B1, B2, B3, KQ⟩
        · refine wpOne_l rfl rfl ?_; intro K hK
          obtain ⟨b3, wq, hwq, hb3, B3⟩ := GB.freshAt3 30 #[.int .i64 f.speed.lo, .int .i64 f.speed.hi, .int .i64 f.slope.lo, .int .i64 f.slope.hi, .int .i64 f2.speed.lo, .int .i64 f2.speed.hi, .int .i64 f2.slope.lo, .int .i64 f2.slope.hi, .int .i64 f2.speed.lo, .int .i64 f2.speed.hi, .int .i64 f2.slope.lo, .int .i64 f2.slope.hi]
          have hb3g : g < b3 := by have := GB.lt; omega
          go_step
          first | rw [← hwq] | rw [show (World.alloc w3 (.cells #[.int .i64 f.speed.lo, .int .i64 f.speed.hi, .int .i64 f.slope.lo, .int .i64 f.slope.hi, .int .i64 f2.speed.lo, .int .i64 f2.speed.hi, .int .i64 f2.slope.lo, .int .i64 f2.slope.hi, .int .i64 f2.speed.lo, .int .i64 f2.speed.hi, .int .i64 f2.slope.lo, .int .i64 f2.slope.hi] 30)).drew = wq from hwq.symm]
          have hs3 := hb3
          try simp at hs3
          first | rw [← hs3] | rw [← hb3] | rw [← show b3 = w3.heap.size from hb3]
          try clear hs3
          replace RB := RB.allocEq hwq
          replace GB := GB.allocEq hwq
          replace KB := KB.allocEq hwq
          replace FB := FB.allocEq hwq
          replace SB := SB.allocEq hwq
          replace HR := HR.allocEq hwq
          try (replace B1 := B1.allocEq hwq)
          try (replace B2 := B2.allocEq hwq)
          replace KQ := KQ.allocEq hwq KQ.size
          refine hK _ _ ((hS0 _).2 ⟨⟨RB, GB⟩, KB, FB, SB⟩) ?_
          clear hK K hb3 hwq
          refine wpTr_b2 ?_ ?_
          · refine wpOne_l rfl rfl ?_; intro K hK
            obtain ⟨b1, wq, hwq, hb1, B1⟩ := GB.freshAt3 36 (.int .i64 s.size :: .int .i64 s.dens :: .int .i64 s.strong :: .int .i64 s.spin :: .int .i64 s.shape :: .bool s.pile :: .int .i64 s.speed :: .int .i64 s.slope :: .int .i64 s0.size :: .int .i64 s0.dens :: .int .i64 s0.strong :: .int .i64 s0.spin :: .int .i64 s0.shape :: .bool s0.pile :: .int .i64 s0.speed :: .int .i64 s0.slope :: .int .i64 s.size :: .int .i64 s.dens :: .int .i64 s.strong :: .int .i64 s.spin :: .int .i64 s.shape :: .bool s.pile :: .int .i64 s.speed :: .int .i64 s.slope :: [] : List Value).toArray
            have hb1g : g < b1 := by have := GB.lt; omega
            go_step
            first | rw [← hwq] | rw [show (World.alloc w3 (.cells (.int .i64 s.size :: .int .i64 s.dens :: .int .i64 s.strong :: .int .i64 s.spin :: .int .i64 s.shape :: .bool s.pile :: .int .i64 s.speed :: .int .i64 s.slope :: .int .i64 s0.size :: .int .i64 s0.dens :: .int .i64 s0.strong :: .int .i64 s0.spin :: .int .i64 s0.shape :: .bool s0.pile :: .int .i64 s0.speed :: .int .i64 s0.slope :: .int .i64 s.size :: .int .i64 s.dens :: .int .i64 s.strong :: .int .i64 s.spin :: .int .i64 s.shape :: .bool s.pile :: .int .i64 s.speed :: .int .i64 s.slope :: [] : List Value).toArray 36)).drew = wq from hwq.symm]
            have hs1 := hb1
            try simp at hs1
            first | rw [← hs1] | rw [← hb1] | rw [← show b1 = w3.heap.size from hb1]
            try clear hs1
            replace RB := RB.allocEq hwq
            replace GB := GB.allocEq hwq
            replace KB := KB.allocEq hwq
            replace FB := FB.allocEq hwq
            replace SB := SB.allocEq hwq
            replace HR := HR.allocEq hwq
            try (replace B2 := B2.allocEq hwq)
            try (replace B3 := B3.allocEq hwq)
            replace KQ := KQ.allocEq hwq KQ.size
            refine hK _ _ ((hS0 _).2 ⟨⟨RB, GB⟩, KB, FB, SB⟩) ?_
            clear hK K hb1 hwq
            iterate 1 (first | (refine wpTr_v rfl rfl ?_; intro K hK; go_big_quiet_op; go_big_quiet_on) | (refine wpTr_q rfl rfl ?_; intro K hK; go_big_quiet_op; go_big_quiet_on) | refine wpTr_s rfl rfl ?_)
            refine wpTr_l rfl rfl ?_; intro K hK
            obtain ⟨b2, wq, hwq, hb2, B2⟩ := GB.freshAt3 28 (.int .i64 r.size.lo :: .int .i64 r.size.hi :: .int .i64 r.dens.lo :: .int .i64 r.dens.hi :: .int .i64 r.strong.lo :: .int .i64 r.strong.hi :: .int .i64 r.spin.lo :: .int .i64 r.spin.hi :: .int .i64 r.shape.lo :: .int .i64 r.shape.hi :: .bool r.pile :: .int .i64 r2.size.lo :: .int .i64 r2.size.hi :: .int .i64 r2.dens.lo :: .int .i64 r2.dens.hi :: .int .i64 r2.strong.lo :: .int .i64 r2.strong.hi :: .int .i64 r2.spin.lo :: .int .i64 r2.spin.hi :: .int .i64 r2.shape.lo :: .int .i64 r2.shape.hi :: .bool r2.pile :: .int .i64 r2.size.lo :: .int .i64 r2.size.hi :: .int .i64 r2.dens.lo :: .int .i64 r2.dens.hi :: .int .i64 r2.strong.lo :: .int .i64 r2.strong.hi :: .int .i64 r2.spin.lo :: .int .i64 r2.spin.hi :: .int .i64 r2.shape.lo :: .int .i64 r2.shape.hi :: .bool r2.pile :: [] : List Value).toArray
            have hb2g : g < b2 := by have := GB.lt; omega
            go_step
            first | rw [← hwq] | rw [show (World.alloc w3 (.cells (.int .i64 r.size.lo :: .int .i64 r.size.hi :: .int .i64 r.dens.lo :: .int .i64 r.dens.hi :: .int .i64 r.strong.lo :: .int .i64 r.strong.hi :: .int .i64 r.spin.lo :: .int .i64 r.spin.hi :: .int .i64 r.shape.lo :: .int .i64 r.shape.hi :: .bool r.pile :: .int .i64 r2.size.lo :: .int .i64 r2.size.hi :: .int .i64 r2.dens.lo :: .int .i64 r2.dens.hi :: .int .i64 r2.strong.lo :: .int .i64 r2.strong.hi :: .int .i64 r2.spin.lo :: .int .i64 r2.spin.hi :: .int .i64 r2.shape.lo :: .int .i64 r2.shape.hi :: .bool r2.pile :: .int .i64 r2.size.lo :: .int .i64 r2.size.hi :: .int .i64 r2.dens.lo :: .int .i64 r2.dens.hi :: .int .i64 r2.strong.lo :: .int .i64 r2.strong.hi :: .int .i64 r2.spin.lo :: .int .i64 r2.spin.hi :: .int .i64 r2.shape.lo :: .int .i64 r2.shape.hi :: .bool r2.pile :: [] : List Value).toArray 28)).drew = wq from hwq.symm]
            have hs2 := hb2
            try simp at hs2
            first | rw [← hs2] | rw [← hb2] | rw [← show b2 = w3.heap.size from hb2]
            try clear hs2
            replace RB := RB.allocEq hwq
            replace GB := GB.allocEq hwq
            replace KB := KB.allocEq hwq
            replace FB := FB.allocEq hwq
            replace SB := SB.allocEq hwq
            replace HR := HR.allocEq hwq
            try (replace B1 := B1.allocEq hwq)
            try (replace B3 := B3.allocEq hwq)
            replace KQ := KQ.allocEq hwq KQ.size
            refine hK _ _ ((hS0 _).2 ⟨⟨RB, GB⟩, KB, FB, SB⟩) ?_
            clear hK K hb2 hwq
            iterate 2 (first | (refine wpTr_v rfl rfl ?_; intro K hK; go_big_quiet_op; go_big_quiet_on) | (refine wpTr_q rfl rfl ?_; intro K hK; go_big_quiet_op; go_big_quiet_on) | refine wpTr_s rfl rfl ?_)
            refine wpTr_nil ?_
            clear hevT _hev
            go_wp2_with fail
            go_meet
            case rel => exact ⟨b1, b2, b3, s0, rfl, rfl, rfl, B1, B2, B3, KQ⟩
          · refine wpOne_l rfl rfl ?_; intro K hK
            obtain ⟨b2, wq, hwq, hb2, B2⟩ := GB.freshAt3 28 (.int .i64 r.size.lo :: .int .i64 r.size.hi :: .int .i64 r.dens.lo :: .int .i64 r.dens.hi :: .int .i64 r.strong.lo :: .int .i64 r.strong.hi :: .int .i64 r.spin.lo :: .int .i64 r.spin.hi :: .int .i64 r.shape.lo :: .int .i64 r.shape.hi :: .bool r.pile :: .int .i64 r2.size.lo :: .int .i64 r2.size.hi :: .int .i64 r2.dens.lo :: .int .i64 r2.dens.hi :: .int .i64 r2.strong.lo :: .int .i64 r2.strong.hi :: .int .i64 r2.spin.lo :: .int .i64 r2.spin.hi :: .int .i64 r2.shape.lo :: .int .i64 r2.shape.hi :: .bool r2.pile :: .int .i64 r2.size.lo :: .int .i64 r2.size.hi :: .int .i64 r2.dens.lo :: .int .i64 r2.dens.hi :: .int .i64 r2.strong.lo :: .int .i64 r2.strong.hi :: .int .i64 r2.spin.lo :: .int .i64 r2.spin.hi :: .int .i64 r2.shape.lo :: .int .i64 r2.shape.hi :: .bool r2.pile :: [] : List Value).toArray
            have hb2g : g < b2 := by have := GB.lt; omega
            go_step
            first | rw [← hwq] | rw [show (World.alloc w3 (.cells (.int .i64 r.size.lo :: .int .i64 r.size.hi :: .int .i64 r.dens.lo :: .int .i64 r.dens.hi :: .int .i64 r.strong.lo :: .int .i64 r.strong.hi :: .int .i64 r.spin.lo :: .int .i64 r.spin.hi :: .int .i64 r.shape.lo :: .int .i64 r.shape.hi :: .bool r.pile :: .int .i64 r2.size.lo :: .int .i64 r2.size.hi :: .int .i64 r2.dens.lo :: .int .i64 r2.dens.hi :: .int .i64 r2.strong.lo :: .int .i64 r2.strong.hi :: .int .i64 r2.spin.lo :: .int .i64 r2.spin.hi :: .int .i64 r2.shape.lo :: .int .i64 r2.shape.hi :: .bool r2.pile :: .int .i64 r2.size.lo :: .int .i64 r2.size.hi :: .int .i64 r2.dens.lo :: .int .i64 r2.dens.hi :: .int .i64 r2.strong.lo :: .int .i64 r2.strong.hi :: .int .i64 r2.spin.lo :: .int .i64 r2.spin.hi :: .int .i64 r2.shape.lo :: .int .i64 r2.shape.hi :: .bool r2.pile :: [] : List Value).toArray 28)).drew = wq from hwq.symm]
            have hs2 := hb2
            try simp at hs2
            first | rw [← hs2] | rw [← hb2] | rw [← show b2 = w3.heap.size from hb2]
            try clear hs2
            replace RB := RB.allocEq hwq
            replace GB := GB.allocEq hwq
            replace KB := KB.allocEq hwq
            replace FB := FB.allocEq hwq
            replace SB := SB.allocEq hwq
            replace HR := HR.allocEq hwq
            try (replace B1 := B1.allocEq hwq)
            try (replace B3 := B3.allocEq hwq)
            replace KQ := KQ.allocEq hwq KQ.size
            refine hK _ _ ((hS0 _).2 ⟨⟨RB, GB⟩, KB, FB, SB⟩) ?_
            clear hK K hb2 hwq
            refine wpTr_l rfl rfl ?_; intro K hK
            obtain ⟨b1, wq, hwq, hb1, B1⟩ := GB.freshAt3 36 (.int .i64 s.size :: .int .i64 s.dens :: .int .i64 s.strong :: .int .i64 s.spin :: .int .i64 s.shape :: .bool s.pile :: .int .i64 s.speed :: .int .i64 s.slope :: .int .i64 s0.size :: .int .i64 s0.dens :: .int .i64 s0.strong :: .int .i64 s0.spin :: .int .i64 s0.shape :: .bool s0.pile :: .int .i64 s0.speed :: .int .i64 s0.slope :: .int .i64 s.size :: .int .i64 s.dens :: .int .i64 s.strong :: .int .i64 s.spin :: .int .i64 s.shape :: .bool s.pile :: .int .i64 s.speed :: .int .i64 s.slope :: [] : List Value).toArray
            have hb1g : g < b1 := by have := GB.lt; omega
            go_step
            first | rw [← hwq] | rw [show (World.alloc w3 (.cells (.int .i64 s.size :: .int .i64 s.dens :: .int .i64 s.strong :: .int .i64 s.spin :: .int .i64 s.shape :: .bool s.pile :: .int .i64 s.speed :: .int .i64 s.slope :: .int .i64 s0.size :: .int .i64 s0.dens :: .int .i64 s0.strong :: .int .i64 s0.spin :: .int .i64 s0.shape :: .bool s0.pile :: .int .i64 s0.speed :: .int .i64 s0.slope :: .int .i64 s.size :: .int .i64 s.dens :: .int .i64 s.strong :: .int .i64 s.spin :: .int .i64 s.shape :: .bool s.pile :: .int .i64 s.speed :: .int .i64 s.slope :: [] : List Value).toArray 36)).drew = wq from hwq.symm]
            have hs1 := hb1
            try simp at hs1
            first | rw [← hs1] | rw [← hb1] | rw [← show b1 = w3.heap.size from hb1]
            try clear hs1
            replace RB := RB.allocEq hwq
            replace GB := GB.allocEq hwq
            replace KB := KB.allocEq hwq
            replace FB := FB.allocEq hwq
            replace SB := SB.allocEq hwq
            replace HR := HR.allocEq hwq
            try (replace B2 := B2.allocEq hwq)
            try (replace B3 := B3.allocEq hwq)
            replace KQ := KQ.allocEq hwq KQ.size
            refine hK _ _ ((hS0 _).2 ⟨⟨RB, GB⟩, KB, FB, SB⟩) ?_
            clear hK K hb1 hwq
            iterate 3 (first | (refine wpTr_v rfl rfl ?_; intro K hK; go_big_quiet_op; go_big_quiet_on) | (refine wpTr_q rfl rfl ?_; intro K hK; go_big_quiet_op; go_big_quiet_on) | refine wpTr_s rfl rfl ?_)
            refine wpTr_nil ?_
            clear hevT _hev
            go_wp2_with fail
            go_meet
            case rel => exact ⟨b1, b2, b3, s0, rfl, rfl, rfl, B1, B2, B3, KQ⟩
      · refine wpOne_l rfl rfl ?_; intro K hK
        obtain ⟨b2, wq, hwq, hb2, B2⟩ := GB.freshAt3 28 (.int .i64 r.size.lo :: .int .i64 r.size.hi :: .int .i64 r.dens.lo :: .int .i64 r.dens.hi :: .int .i64 r.strong.lo :: .int .i64 r.strong.hi :: .int .i64 r.spin.lo :: .int .i64 r.spin.hi :: .int .i64 r.shape.lo :: .int .i64 r.shape.hi :: .bool r.pile :: .int .i64 r2.size.lo :: .int .i64 r2.size.hi :: .int .i64 r2.dens.lo :: .int .i64 r2.dens.hi :: .int .i64 r2.strong.lo :: .int .i64 r2.strong.hi :: .int .i64 r2.spin.lo :: .int .i64 r2.spin.hi :: .int .i64 r2.shape.lo :: .int .i64 r2.shape.hi :: .bool r2.pile :: .int .i64 r2.size.lo :: .int .i64 r2.size.hi :: .int .i64 r2.dens.lo :: .int .i64 r2.dens.hi :: .int .i64 r2.strong.lo :: .int .i64 r2.strong.hi :: .int .i64 r2.spin.lo :: .int .i64 r2.spin.hi :: .int .i64 r2.shape.lo :: .int .i64 r2.shape.hi :: .bool r2.pile :: [] : List Value).toArray
        have hb2g : g < b2 := by have := GB.lt; omega
        go_step
        first | rw [← hwq] | rw [show (World.alloc w3 (.cells (.int .i64 r.size.lo :: .int .i64 r.size.hi :: .int .i64 r.dens.lo :: .int .i64 r.dens.hi :: .int .i64 r.strong.lo :: .int .i64 r.strong.hi :: .int .i64 r.spin.lo :: .int .i64 r.spin.hi :: .int .i64 r.shape.lo :: .int .i64 r.shape.hi :: .bool r.pile :: .int .i64 r2.size.lo :: .int .i64 r2.size.hi :: .int .i64 r2.dens.lo :: .int .i64 r2.dens.hi :: .int .i64 r2.strong.lo :: .int .i64 r2.strong.hi :: .int .i64 r2.spin.lo :: .int .i64 r2.spin.hi :: .int .i64 r2.shape.lo :: .int .i64 r2.shape.hi :: .bool r2.pile :: .int .i64 r2.size.lo :: .int .i64 r2.size.hi :: .int .i64 r2.dens.lo :: .int .i64 r2.dens.hi :: .int .i64 r2.strong.lo :: .int .i64 r2.strong.hi :: .int .i64 r2.spin.lo :: .int .i64 r2.spin.hi :: .int .i64 r2.shape.lo :: .int .i64 r2.shape.hi :: .bool r2.pile :: [] : List Value).toArray 28)).drew = wq from hwq.symm]
        have hs2 := hb2
        try simp at hs2
        first | rw [← hs2] | rw [← hb2] | rw [← show b2 = w3.heap.size from hb2]
        try clear hs2
        replace RB := RB.allocEq hwq
        replace GB := GB.allocEq hwq
        replace KB := KB.allocEq hwq
        replace FB := FB.allocEq hwq
        replace SB := SB.allocEq hwq
        replace HR := HR.allocEq hwq
        try (replace B1 := B1.allocEq hwq)
        try (replace B3 := B3.allocEq hwq)
        replace KQ := KQ.allocEq hwq KQ.size
        refine hK _ _ ((hS0 _).2 ⟨⟨RB, GB⟩, KB, FB, SB⟩) ?_
        clear hK K hb2 hwq
        refine wpTr_b2 ?_ ?_
        · refine wpOne_l rfl rfl ?_; intro K hK
          go_step
          refine (stoneOf_any g nums _ r2 f2 _ HR (by omega) hrk).mono ?_
          rintro e w5 ⟨v, rfl, ⟨s0, rfl, hs0⟩, HR, k5⟩
          try (replace B2 := B2.kp k5 B2.lt (sne (by omega)))
          try (replace B3 := B3.kp k5 B3.lt (sne (by omega)))
          replace RB := RB.kp k5 RB.lt (sne (by omega))
          replace GB := GB.kp k5 GB.lt (sne (by omega))
          replace KB := KB.kp k5 KB.lt (sne (by omega))
          replace FB := FB.kp k5 FB.lt (sne (by omega))
          replace SB := SB.kp k5 SB.lt (sne (by omega))
          replace KQ := KQ.thenOwn k5 (Nat.le_refl _) hgw
          refine hK _ _ ((hS0 _).2 ⟨⟨RB, GB⟩, KB, FB, SB⟩) ?_
          clear hK K k5 hs0
          refine wpTr_b2 ?_ ?_
          · refine wpOne_l rfl rfl ?_; intro K hK
            obtain ⟨b1, wq, hwq, hb1, B1⟩ := GB.freshAt3 36 (.int .i64 s.size :: .int .i64 s.dens :: .int .i64 s.strong :: .int .i64 s.spin :: .int .i64 s.shape :: .bool s.pile :: .int .i64 s.speed :: .int .i64 s.slope :: .int .i64 s0.size :: .int .i64 s0.dens :: .int .i64 s0.strong :: .int .i64 s0.spin :: .int .i64 s0.shape :: .bool s0.pile :: .int .i64 s0.speed :: .int .i64 s0.slope :: .int .i64 s.size :: .int .i64 s.dens :: .int .i64 s.strong :: .int .i64 s.spin :: .int .i64 s.shape :: .bool s.pile :: .int .i64 s.speed :: .int .i64 s.slope :: [] : List Value).toArray
            have hb1g : g < b1 := by have := GB.lt; omega
            go_step
            first | rw [← hwq] | rw [show (World.alloc w3 (.cells (.int .i64 s.size :: .int .i64 s.dens :: .int .i64 s.strong :: .int .i64 s.spin :: .int .i64 s.shape :: .bool s.pile :: .int .i64 s.speed :: .int .i64 s.slope :: .int .i64 s0.size :: .int .i64 s0.dens :: .int .i64 s0.strong :: .int .i64 s0.spin :: .int .i64 s0.shape :: .bool s0.pile :: .int .i64 s0.speed :: .int .i64 s0.slope :: .int .i64 s.size :: .int .i64 s.dens :: .int .i64 s.strong :: .int .i64 s.spin :: .int .i64 s.shape :: .bool s.pile :: .int .i64 s.speed :: .int .i64 s.slope :: [] : List Value).toArray 36)).drew = wq from hwq.symm]
            have hs1 := hb1
            try simp at hs1
            first | rw [← hs1] | rw [← hb1] | rw [← show b1 = w3.heap.size from hb1]
            try clear hs1
            replace RB := RB.allocEq hwq
            replace GB := GB.allocEq hwq
            replace KB := KB.allocEq hwq
            replace FB := FB.allocEq hwq
            replace SB := SB.allocEq hwq
            replace HR := HR.allocEq hwq
            try (replace B2 := B2.allocEq hwq)
            try (replace B3 := B3.allocEq hwq)
            replace KQ := KQ.allocEq hwq KQ.size
            refine hK _ _ ((hS0 _).2 ⟨⟨RB, GB⟩, KB, FB, SB⟩) ?_
            clear hK K hb1 hwq
            iterate 2 (first | (refine wpTr_v rfl rfl ?_; intro K hK; go_big_quiet_op; go_big_quiet_on) | (refine wpTr_q rfl rfl ?_; intro K hK; go_big_quiet_op; go_big_quiet_on) | refine wpTr_s rfl rfl ?_)
            refine wpTr_l rfl rfl ?_; intro K hK
            obtain ⟨b3, wq, hwq, hb3, B3⟩ := GB.freshAt3 30 #[.int .i64 f.speed.lo, .int .i64 f.speed.hi, .int .i64 f.slope.lo, .int .i64 f.slope.hi, .int .i64 f2.speed.lo, .int .i64 f2.speed.hi, .int .i64 f2.slope.lo, .int .i64 f2.slope.hi, .int .i64 f2.speed.lo, .int .i64 f2.speed.hi, .int .i64 f2.slope.lo, .int .i64 f2.slope.hi]
            have hb3g : g < b3 := by have := GB.lt; omega
            go_step
            first | rw [← hwq] | rw [show (World.alloc w3 (.cells #[.int .i64 f.speed.lo, .int .i64 f.speed.hi, .int .i64 f.slope.lo, .int .i64 f.slope.hi, .int .i64 f2.speed.lo, .int .i64 f2.speed.hi, .int .i64 f2.slope.lo, .int .i64 f2.slope.hi, .int .i64 f2.speed.lo, .int .i64 f2.speed.hi, .int .i64 f2.slope.lo, .int .i64 f2.slope.hi] 30)).drew = wq from hwq.symm]
            have hs3 := hb3
            try simp at hs3
            first | rw [← hs3] | rw [← hb3] | rw [← show b3 = w3.heap.size from hb3]
            try clear hs3
            replace RB := RB.allocEq hwq
            replace GB := GB.allocEq hwq
            replace KB := KB.allocEq hwq
            replace FB := FB.allocEq hwq
            replace SB := SB.allocEq hwq
            replace HR := HR.allocEq hwq
            try (replace B1 := B1.allocEq hwq)
            try (replace B2 := B2.allocEq hwq)
            replace KQ := KQ.allocEq hwq KQ.size
            refine hK _ _ ((hS0 _).2 ⟨⟨RB, GB⟩, KB, FB, SB⟩) ?_
            clear hK K hb3 hwq
            iterate 1 (first | (refine wpTr_v rfl rfl ?_; intro K hK; go_big_quiet_op; go_big_quiet_on) | (refine wpTr_q rfl rfl ?_; intro K hK; go_big_quiet_op; go_big_quiet_on) | refine wpTr_s rfl rfl ?_)
            refine wpTr_nil ?_
            clear hevT _hev
            go_wp2_with fail
            go_meet
            case rel => exact ⟨b1, b2, b3, s0, rfl, rfl, rfl, B1, B2, B3, KQ⟩
          · refine wpOne_l rfl rfl ?_; intro K hK
            obtain ⟨b3, wq, hwq, hb3, B3⟩ := GB.freshAt3 30 #[.int .i64 f.speed.lo, .int .i64 f.speed.hi, .int .i64 f.slope.lo, .int .i64 f.slope.hi, .int .i64 f2.speed.lo, .int .i64 f2.speed.hi, .int .i64 f2.slope.lo, .int .i64 f2.slope.hi, .int .i64 f2.speed.lo, .int .i64 f2.speed.hi, .int .i64 f2.slope.lo, .int .i64 f2.slope.hi]
            have hb3g : g < b3 := by have := GB.lt; omega
            go_step
            first | rw [← hwq] | rw [show (World.alloc w3 (.cells #[.int .i64 f.speed.lo, .int .i64 f.speed.hi, .int .i64 f.slope.lo, .int .i64 f.slope.hi, .int .i64 f2.speed.lo, .int .i64 f2.speed.hi, .int .i64 f2.slope.lo, .int .i64 f2.slope.hi, .int .i64 f2.speed.lo, .int .i64 f2.speed.hi, .int .i64 f2.slope.lo, .int .i64 f2.slope.hi] 30)).drew = wq from hwq.symm]
            have hs3 := hb3
            try simp at hs3
            first | rw [← hs3] | rw [← hb3] | rw [← show b3 = w3.heap.size from hb3]
            try clear hs3
            replace RB := RB.allocEq hwq
            replace GB := GB.allocEq hwq
            replace KB := KB.allocEq hwq
            replace FB := FB.allocEq hwq
            replace SB := SB.allocEq hwq
            replace HR := HR.allocEq hwq
            try (replace B1 := B1.allocEq hwq)
            try (replace B2 := B2.allocEq hwq)
            replace KQ := KQ.allocEq hwq KQ.size
            refine hK _ _ ((hS0 _).2 ⟨⟨RB, GB⟩, KB, FB, SB⟩) ?_
            clear hK K hb3 hwq
            refine wpTr_l rfl rfl ?_; intro K hK
            obtain ⟨b1, wq, hwq, hb1, B1⟩ := GB.freshAt3 36 (.int .i64 s.size :: .int .i64 s.dens :: .int .i64 s.strong :: .int .i64 s.spin :: .int .i64 s.shape :: .bool s.pile :: .int .i64 s.speed :: .int .i64 s.slope :: .int .i64 s0.size :: .int .i64 s0.dens :: .int .i64 s0.strong :: .int .i64 s0.spin :: .int .i64 s0.shape :: .bool s0.pile :: .int .i64 s0.speed :: .int .i64 s0.slope :: .int .i64 s.size :: .int .i64 s.dens :: .int .i64 s.strong :: .int .i64 s.spin :: .int .i64 s.shape :: .bool s.pile :: .int .i64 s.speed :: .int .i64 s.slope :: [] : List Value).toArray
            have hb1g : g < b1 := by have := GB.lt; omega
            go_step
            first | rw [← hwq] | rw [show (World.alloc w3 (.cells (.int .i64 s.size :: .int .i64 s.dens :: .int .i64 s.strong :: .int .i64 s.spin :: .int .i64 s.shape :: .bool s.pile :: .int .i64 s.speed :: .int .i64 s.slope :: .int .i64 s0.size :: .int .i64 s0.dens :: .int .i64 s0.strong :: .int .i64 s0.spin :: .int .i64 s0.shape :: .bool s0.pile :: .int .i64 s0.speed :: .int .i64 s0.slope :: .int .i64 s.size :: .int .i64 s.dens :: .int .i64 s.strong :: .int .i64 s.spin :: .int .i64 s.shape :: .bool s.pile :: .int .i64 s.speed :: .int .i64 s.slope :: [] : List Value).toArray 36)).drew = wq from hwq.symm]
            have hs1 := hb1
            try simp at hs1
            first | rw [← hs1] | rw [← hb1] | rw [← show b1 = w3.heap.size from hb1]
            try clear hs1
            replace RB := RB.allocEq hwq
            replace GB := GB.allocEq hwq
            replace KB := KB.allocEq hwq
            replace FB := FB.allocEq hwq
            replace SB := SB.allocEq hwq
            replace HR := HR.allocEq hwq
            try (replace B2 := B2.allocEq hwq)
            try (replace B3 := B3.allocEq hwq)
            replace KQ := KQ.allocEq hwq KQ.size
            refine hK _ _ ((hS0 _).2 ⟨⟨RB, GB⟩, KB, FB, SB⟩) ?_
            clear hK K hb1 hwq
            iterate 3 (first | (refine wpTr_v rfl rfl ?_; intro K hK; go_big_quiet_op; go_big_quiet_on) | (refine wpTr_q rfl rfl ?_; intro K hK; go_big_quiet_op; go_big_quiet_on) | refine wpTr_s rfl rfl ?_)
            refine wpTr_nil ?_
            clear hevT _hev
            go_wp2_with fail
            go_meet
            case rel => exact ⟨b1, b2, b3, s0, rfl, rfl, rfl, B1, B2, B3, KQ⟩
        · refine wpOne_l rfl rfl ?_; intro K hK
          obtain ⟨b3, wq, hwq, hb3, B3⟩ := GB.freshAt3 30 #[.int .i64 f.speed.lo, .int .i64 f.speed.hi, .int .i64 f.slope.lo, .int .i64 f.slope.hi, .int .i64 f2.speed.lo, .int .i64 f2.speed.hi, .int .i64 f2.slope.lo, .int .i64 f2.slope.hi, .int .i64 f2.speed.lo, .int .i64 f2.speed.hi, .int .i64 f2.slope.lo, .int .i64 f2.slope.hi]
          have hb3g : g < b3 := by have := GB.lt; omega
          go_step
          first | rw [← hwq] | rw [show (World.alloc w3 (.cells #[.int .i64 f.speed.lo, .int .i64 f.speed.hi, .int .i64 f.slope.lo, .int .i64 f.slope.hi, .int .i64 f2.speed.lo, .int .i64 f2.speed.hi, .int .i64 f2.slope.lo, .int .i64 f2.slope.hi, .int .i64 f2.speed.lo, .int .i64 f2.speed.hi, .int .i64 f2.slope.lo, .int .i64 f2.slope.hi] 30)).drew = wq from hwq.symm]
          have hs3 := hb3
          try simp at hs3
          first | rw [← hs3] | rw [← hb3] | rw [← show b3 = w3.heap.size from hb3]
          try clear hs3
          replace RB := RB.allocEq hwq
          replace GB := GB.allocEq hwq
          replace KB := KB.allocEq hwq
          replace FB := FB.allocEq hwq
          replace SB := SB.allocEq hwq
          replace HR := HR.allocEq hwq
          try (replace B1 := B1.allocEq hwq)
          try (replace B2 := B2.allocEq hwq)
          replace KQ := KQ.allocEq hwq KQ.size
          refine hK _ _ ((hS0 _).2 ⟨⟨RB, GB⟩, KB, FB, SB⟩) ?_
          clear hK K hb3 hwq
          refine wpTr_l rfl rfl ?_; intro K hK
          go_step
          refine (stoneOf_any g nums _ r2 f2 _ HR (by omega) hrk).mono ?_
          rintro e w5 ⟨v, rfl, ⟨s0, rfl, hs0⟩, HR, k5⟩
          try (replace B2 := B2.kp k5 B2.lt (sne (by omega)))
          try (replace B3 := B3.kp k5 B3.lt (sne (by omega)))
          replace RB := RB.kp k5 RB.lt (sne (by omega))
          replace GB := GB.kp k5 GB.lt (sne (by omega))
          replace KB := KB.kp k5 KB.lt (sne (by omega))
          replace FB := FB.kp k5 FB.lt (sne (by omega))
          replace SB := SB.kp k5 SB.lt (sne (by omega))
          replace KQ := KQ.thenOwn k5 (Nat.le_refl _) hgw
          refine hK _ _ ((hS0 _).2 ⟨⟨RB, GB⟩, KB, FB, SB⟩) ?_
          clear hK K k5 hs0
          refine wpTr_l rfl rfl ?_; intro K hK
          obtain ⟨b1, wq, hwq, hb1, B1⟩ := GB.freshAt3 36 (.int .i64 s.size :: .int .i64 s.dens :: .int .i64 s.strong :: .int .i64 s.spin :: .int .i64 s.shape :: .bool s.pile :: .int .i64 s.speed :: .int .i64 s.slope :: .int .i64 s0.size :: .int .i64 s0.dens :: .int .i64 s0.strong :: .int .i64 s0.spin :: .int .i64 s0.shape :: .bool s0.pile :: .int .i64 s0.speed :: .int .i64 s0.slope :: .int .i64 s.size :: .int .i64 s.dens :: .int .i64 s.strong :: .int .i64 s.spin :: .int .i64 s.shape :: .bool s.pile :: .int .i64 s.speed :: .int .i64 s.slope :: [] : List Value).toArray
          have hb1g : g < b1 := by have := GB.lt; omega
          go_step
          first | rw [← hwq] | rw [show (World.alloc w3 (.cells (.int .i64 s.size :: .int .i64 s.dens :: .int .i64 s.strong :: .int .i64 s.spin :: .int .i64 s.shape :: .bool s.pile :: .int .i64 s.speed :: .int .i64 s.slope :: .int .i64 s0.size :: .int .i64 s0.dens :: .int .i64 s0.strong :: .int .i64 s0.spin :: .int .i64 s0.shape :: .bool s0.pile :: .int .i64 s0.speed :: .int .i64 s0.slope :: .int .i64 s.size :: .int .i64 s.dens :: .int .i64 s.strong :: .int .i64 s.spin :: .int .i64 s.shape :: .bool s.pile :: .int .i64 s.speed :: .int .i64 s.slope :: [] : List Value).toArray 36)).drew = wq from hwq.symm]
          have hs1 := hb1
          try simp at hs1
          first | rw [← hs1] | rw [← hb1] | rw [← show b1 = w3.heap.size from hb1]
          try clear hs1
          replace RB := RB.allocEq hwq
          replace GB := GB.allocEq hwq
          replace KB := KB.allocEq hwq
          replace FB := FB.allocEq hwq
          replace SB := SB.allocEq hwq
          replace HR := HR.allocEq hwq
          try (replace B2 := B2.allocEq hwq)
          try (replace B3 := B3.allocEq hwq)
          replace KQ := KQ.allocEq hwq KQ.size
          refine hK _ _ ((hS0 _).2 ⟨⟨RB, GB⟩, KB, FB, SB⟩) ?_
          clear hK K hb1 hwq
          iterate 3 (first | (refine wpTr_v rfl rfl ?_; intro K hK; go_big_quiet_op; go_big_quiet_on) | (refine wpTr_q rfl rfl ?_; intro K hK; go_big_quiet_op; go_big_quiet_on) | refine wpTr_s rfl rfl ?_)
          refine wpTr_nil ?_
          clear hevT _hev
          go_wp2_with fail
          go_meet
          case rel => exact ⟨b1, b2, b3, s0, rfl, rfl, rfl, B1, B2, B3, KQ⟩
      · refine wpOne_l rfl rfl ?_; intro K hK
        obtain ⟨b3, wq, hwq, hb3, B3⟩ := GB.freshAt3 30 #[.int .i64 f.speed.lo, .int .i64 f.speed.hi, .int .i64 f.slope.lo, .int .i64 f.slope.hi, .int .i64 f2.speed.lo, .int .i64 f2.speed.hi, .int .i64 f2.slope.lo, .int .i64 f2.slope.hi, .int .i64 f2.speed.lo, .int .i64 f2.speed.hi, .int .i64 f2.slope.lo, .int .i64 f2.slope.hi]
        have hb3g : g < b3 := by have := GB.lt; omega
        go_step
        first | rw [← hwq] | rw [show (World.alloc w3 (.cells #[.int .i64 f.speed.lo, .int .i64 f.speed.hi, .int .i64 f.slope.lo, .int .i64 f.slope.hi, .int .i64 f2.speed.lo, .int .i64 f2.speed.hi, .int .i64 f2.slope.lo, .int .i64 f2.slope.hi, .int .i64 f2.speed.lo, .int .i64 f2.speed.hi, .int .i64 f2.slope.lo, .int .i64 f2.slope.hi] 30)).drew = wq from hwq.symm]
        have hs3 := hb3
        try simp at hs3
        first | rw [← hs3] | rw [← hb3] | rw [← show b3 = w3.heap.size from hb3]
        try clear hs3
        replace RB := RB.allocEq hwq
        replace GB := GB.allocEq hwq
        replace KB := KB.allocEq hwq
        replace FB := FB.allocEq hwq
        replace SB := SB.allocEq hwq
        replace HR := HR.allocEq hwq
        try (replace B1 := B1.allocEq hwq)
        try (replace B2 := B2.allocEq hwq)
        replace KQ := KQ.allocEq hwq KQ.size
        refine hK _ _ ((hS0 _).2 ⟨⟨RB, GB⟩, KB, FB, SB⟩) ?_
        clear hK K hb3 hwq
        refine wpTr_b2 ?_ ?_
        · refine wpOne_l rfl rfl ?_; intro K hK
          go_step
          refine (stoneOf_any g nums _ r2 f2 _ HR (by omega) hrk).mono ?_
          rintro e w5 ⟨v, rfl, ⟨s0, rfl, hs0⟩, HR, k5⟩
          try (replace B2 := B2.kp k5 B2.lt (sne (by omega)))
          try (replace B3 := B3.kp k5 B3.lt (sne (by omega)))
          replace RB := RB.kp k5 RB.lt (sne (by omega))
          replace GB := GB.kp k5 GB.lt (sne (by omega))
          replace KB := KB.kp k5 KB.lt (sne (by omega))
          replace FB := FB.kp k5 FB.lt (sne (by omega))
          replace SB := SB.kp k5 SB.lt (sne (by omega))
          replace KQ := KQ.thenOwn k5 (Nat.le_refl _) hgw
          refine hK _ _ ((hS0 _).2 ⟨⟨RB, GB⟩, KB, FB, SB⟩) ?_
          clear hK K k5 hs0
          refine wpTr_b2 ?_ ?_
          · refine wpOne_l rfl rfl ?_; intro K hK
            obtain ⟨b1, wq, hwq, hb1, B1⟩ := GB.freshAt3 36 (.int .i64 s.size :: .int .i64 s.dens :: .int .i64 s.strong :: .int .i64 s.spin :: .int .i64 s.shape :: .bool s.pile :: .int .i64 s.speed :: .int .i64 s.slope :: .int .i64 s0.size :: .int .i64 s0.dens :: .int .i64 s0.strong :: .int .i64 s0.spin :: .int .i64 s0.shape :: .bool s0.pile :: .int .i64 s0.speed :: .int .i64 s0.slope :: .int .i64 s.size :: .int .i64 s.dens :: .int .i64 s.strong :: .int .i64 s.spin :: .int .i64 s.shape :: .bool s.pile :: .int .i64 s.speed :: .int .i64 s.slope :: [] : List Value).toArray
            have hb1g : g < b1 := by have := GB.lt; omega
            go_step
            first | rw [← hwq] | rw [show (World.alloc w3 (.cells (.int .i64 s.size :: .int .i64 s.dens :: .int .i64 s.strong :: .int .i64 s.spin :: .int .i64 s.shape :: .bool s.pile :: .int .i64 s.speed :: .int .i64 s.slope :: .int .i64 s0.size :: .int .i64 s0.dens :: .int .i64 s0.strong :: .int .i64 s0.spin :: .int .i64 s0.shape :: .bool s0.pile :: .int .i64 s0.speed :: .int .i64 s0.slope :: .int .i64 s.size :: .int .i64 s.dens :: .int .i64 s.strong :: .int .i64 s.spin :: .int .i64 s.shape :: .bool s.pile :: .int .i64 s.speed :: .int .i64 s.slope :: [] : List Value).toArray 36)).drew = wq from hwq.symm]
            have hs1 := hb1
            try simp at hs1
            first | rw [← hs1] | rw [← hb1] | rw [← show b1 = w3.heap.size from hb1]
            try clear hs1
            replace RB := RB.allocEq hwq
            replace GB := GB.allocEq hwq
            replace KB := KB.allocEq hwq
            replace FB := FB.allocEq hwq
            replace SB := SB.allocEq hwq
            replace HR := HR.allocEq hwq
            try (replace B2 := B2.allocEq hwq)
            try (replace B3 := B3.allocEq hwq)
            replace KQ := KQ.allocEq hwq KQ.size
            refine hK _ _ ((hS0 _).2 ⟨⟨RB, GB⟩, KB, FB, SB⟩) ?_
            clear hK K hb1 hwq
            iterate 1 (first | (refine wpTr_v rfl rfl ?_; intro K hK; go_big_quiet_op; go_big_quiet_on) | (refine wpTr_q rfl rfl ?_; intro K hK; go_big_quiet_op; go_big_quiet_on) | refine wpTr_s rfl rfl ?_)
            refine wpTr_l rfl rfl ?_; intro K hK
            obtain ⟨b2, wq, hwq, hb2, B2⟩ := GB.freshAt3 28 (.int .i64 r.size.lo :: .int .i64 r.size.hi :: .int .i64 r.dens.lo :: .int .i64 r.dens.hi :: .int .i64 r.strong.lo :: .int .i64 r.strong.hi :: .int .i64 r.spin.lo :: .int .i64 r.spin.hi :: .int .i64 r.shape.lo :: .int .i64 r.shape.hi :: .bool r.pile :: .int .i64 r2.size.lo :: .int .i64 r2.size.hi :: .int .i64 r2.dens.lo :: .int .i64 r2.dens.hi :: .int .i64 r2.strong.lo :: .int .i64 r2.strong.hi :: .int .i64 r2.spin.lo :: .int .i64 r2.spin.hi :: .int .i64 r2.shape.lo :: .int .i64 r2.shape.hi :: .bool r2.pile :: .int .i64 r2.size.lo :: .int .i64 r2.size.hi :: .int .i64 r2.dens.lo :: .int .i64 r2.dens.hi :: .int .i64 r2.strong.lo :: .int .i64 r2.strong.hi :: .int .i64 r2.spin.lo :: .int .i64 r2.spin.hi :: .int .i64 r2.shape.lo :: .int .i64 r2.shape.hi :: .bool r2.pile :: [] : List Value).toArray
            have hb2g : g < b2 := by have := GB.lt; omega
            go_step
            first | rw [← hwq] | rw [show (World.alloc w3 (.cells (.int .i64 r.size.lo :: .int .i64 r.size.hi :: .int .i64 r.dens.lo :: .int .i64 r.dens.hi :: .int .i64 r.strong.lo :: .int .i64 r.strong.hi :: .int .i64 r.spin.lo :: .int .i64 r.spin.hi :: .int .i64 r.shape.lo :: .int .i64 r.shape.hi :: .bool r.pile :: .int .i64 r2.size.lo :: .int .i64 r2.size.hi :: .int .i64 r2.dens.lo :: .int .i64 r2.dens.hi :: .int .i64 r2.strong.lo :: .int .i64 r2.strong.hi :: .int .i64 r2.spin.lo :: .int .i64 r2.spin.hi :: .int .i64 r2.shape.lo :: .int .i64 r2.shape.hi :: .bool r2.pile :: .int .i64 r2.size.lo :: .int .i64 r2.size.hi :: .int .i64 r2.dens.lo :: .int .i64 r2.dens.hi :: .int .i64 r2.strong.lo :: .int .i64 r2.strong.hi :: .int .i64 r2.spin.lo :: .int .i64 r2.spin.hi :: .int .i64 r2.shape.lo :: .int .i64 r2.shape.hi :: .bool r2.pile :: [] : List Value).toArray 28)).drew = wq from hwq.symm]
            have hs2 := hb2
            try simp at hs2
            first | rw [← hs2] | rw [← hb2] | rw [← show b2 = w3.heap.size from hb2]
            try clear hs2
            replace RB := RB.allocEq hwq
            replace GB := GB.allocEq hwq
            replace KB := KB.allocEq hwq
            replace FB := FB.allocEq hwq
            replace SB := SB.allocEq hwq
            replace HR := HR.allocEq hwq
            try (replace B1 := B1.allocEq hwq)
            try (replace B3 := B3.allocEq hwq)
            replace KQ := KQ.allocEq hwq KQ.size
            refine hK _ _ ((hS0 _).2 ⟨⟨RB, GB⟩, KB, FB, SB⟩) ?_
            clear hK K hb2 hwq
            iterate 2 (first | (refine wpTr_v rfl rfl ?_; intro K hK; go_big_quiet_op; go_big_quiet_on) | (refine wpTr_q rfl rfl ?_; intro K hK; go_big_quiet_op; go_big_quiet_on) | refine wpTr_s rfl rfl ?_)
            refine wpTr_nil ?_
            clear hevT _hev
            go_wp2_with fail
            go_meet
            case rel => exact ⟨b1, b2, b3, s0, rfl, rfl, rfl, B1, B2, B3, KQ⟩
          · refine wpOne_l rfl rfl ?_; intro K hK
            obtain ⟨b2, wq, hwq, hb2, B2⟩ := GB.freshAt3 28 (.int .i64 r.size.lo :: .int .i64 r.size.hi :: .int .i64 r.dens.lo :: .int .i64 r.dens.hi :: .int .i64 r.strong.lo :: .int .i64 r.strong.hi :: .int .i64 r.spin.lo :: .int .i64 r.spin.hi :: .int .i64 r.shape.lo :: .int .i64 r.shape.hi :: .bool r.pile :: .int .i64 r2.size.lo :: .int .i64 r2.size.hi :: .int .i64 r2.dens.lo :: .int .i64 r2.dens.hi :: .int .i64 r2.strong.lo :: .int .i64 r2.strong.hi :: .int .i64 r2.spin.lo :: .int .i64 r2.spin.hi :: .int .i64 r2.shape.lo :: .int .i64 r2.shape.hi :: .bool r2.pile :: .int .i64 r2.size.lo :: .int .i64 r2.size.hi :: .int .i64 r2.dens.lo :: .int .i64 r2.dens.hi :: .int .i64 r2.strong.lo :: .int .i64 r2.strong.hi :: .int .i64 r2.spin.lo :: .int .i64 r2.spin.hi :: .int .i64 r2.shape.lo :: .int .i64 r2.shape.hi :: .bool r2.pile :: [] : List Value).toArray
            have hb2g : g < b2 := by have := GB.lt; omega
            go_step
            first | rw [← hwq] | rw [show (World.alloc w3 (.cells (.int .i64 r.size.lo :: .int .i64 r.size.hi :: .int .i64 r.dens.lo :: .int .i64 r.dens.hi :: .int .i64 r.strong.lo :: .int .i64 r.strong.hi :: .int .i64 r.spin.lo :: .int .i64 r.spin.hi :: .int .i64 r.shape.lo :: .int .i64 r.shape.hi :: .bool r.pile :: .int .i64 r2.size.lo :: .int .i64 r2.size.hi :: .int .i64 r2.dens.lo :: .int .i64 r2.dens.hi :: .int .i64 r2.strong.lo :: .int .i64 r2.strong.hi :: .int .i64 r2.spin.lo :: .int .i64 r2.spin.hi :: .int .i64 r2.shape.lo :: .int .i64 r2.shape.hi :: .bool r2.pile :: .int .i64 r2.size.lo :: .int .i64 r2.size.hi :: .int .i64 r2.dens.lo :: .int .i64 r2.dens.hi :: .int .i64 r2.strong.lo :: .int .i64 r2.strong.hi :: .int .i64 r2.spin.lo :: .int .i64 r2.spin.hi :: .int .i64 r2.shape.lo :: .int .i64 r2.shape.hi :: .bool r2.pile :: [] : List Value).toArray 28)).drew = wq from hwq.symm]
            have hs2 := hb2
            try simp at hs2
            first | rw [← hs2] | rw [← hb2] | rw [← show b2 = w3.heap.size from hb2]
            try clear hs2
            replace RB := RB.allocEq hwq
            replace GB := GB.allocEq hwq
            replace KB := KB.allocEq hwq
            replace FB := FB.allocEq hwq
            replace SB := SB.allocEq hwq
            replace HR := HR.allocEq hwq
            try (replace B1 := B1.allocEq hwq)
            try (replace B3 := B3.allocEq hwq)
            replace KQ := KQ.allocEq hwq KQ.size
            refine hK _ _ ((hS0 _).2 ⟨⟨RB, GB⟩, KB, FB, SB⟩) ?_
            clear hK K hb2 hwq
            refine wpTr_l rfl rfl ?_; intro K hK
            obtain ⟨b1, wq, hwq, hb1, B1⟩ := GB.freshAt3 36 (.int .i64 s.size :: .int .i64 s.dens :: .int .i64 s.strong :: .int .i64 s.spin :: .int .i64 s.shape :: .bool s.pile :: .int .i64 s.speed :: .int .i64 s.slope :: .int .i64 s0.size :: .int .i64 s0.dens :: .int .i64 s0.strong :: .int .i64 s0.spin :: .int .i64 s0.shape :: .bool s0.pile :: .int .i64 s0.speed :: .int .i64 s0.slope :: .int .i64 s.size :: .int .i64 s.dens :: .int .i64 s.strong :: .int .i64 s.spin :: .int .i64 s.shape :: .bool s.pile :: .int .i64 s.speed :: .int .i64 s.slope :: [] : List Value).toArray
            have hb1g : g < b1 := by have := GB.lt; omega
            go_step
            first | rw [← hwq] | rw [show (World.alloc w3 (.cells (.int .i64 s.size :: .int .i64 s.dens :: .int .i64 s.strong :: .int .i64 s.spin :: .int .i64 s.shape :: .bool s.pile :: .int .i64 s.speed :: .int .i64 s.slope :: .int .i64 s0.size :: .int .i64 s0.dens :: .int .i64 s0.strong :: .int .i64 s0.spin :: .int .i64 s0.shape :: .bool s0.pile :: .int .i64 s0.speed :: .int .i64 s0.slope :: .int .i64 s.size :: .int .i64 s.dens :: .int .i64 s.strong :: .int .i64 s.spin :: .int .i64 s.shape :: .bool s.pile :: .int .i64 s.speed :: .int .i64 s.slope :: [] : List Value).toArray 36)).drew = wq from hwq.symm]
            have hs1 := hb1
            try simp at hs1
            first | rw [← hs1] | rw [← hb1] | rw [← show b1 = w3.heap.size from hb1]
            try clear hs1
            replace RB := RB.allocEq hwq
            replace GB := GB.allocEq hwq
            replace KB := KB.allocEq hwq
            replace FB := FB.allocEq hwq
            replace SB := SB.allocEq hwq
            replace HR := HR.allocEq hwq
            try (replace B2 := B2.allocEq hwq)
            try (replace B3 := B3.allocEq hwq)
            replace KQ := KQ.allocEq hwq KQ.size
            refine hK _ _ ((hS0 _).2 ⟨⟨RB, GB⟩, KB, FB, SB⟩) ?_
            clear hK K hb1 hwq
            iterate 3 (first | (refine wpTr_v rfl rfl ?_; intro K hK; go_big_quiet_op; go_big_quiet_on) | (refine wpTr_q rfl rfl ?_; intro K hK; go_big_quiet_op; go_big_quiet_on) | refine wpTr_s rfl rfl ?_)
            refine wpTr_nil ?_
            clear hevT _hev
            go_wp2_with fail
            go_meet
            case rel => exact ⟨b1, b2, b3, s0, rfl, rfl, rfl, B1, B2, B3, KQ⟩
        · refine wpOne_l rfl rfl ?_; intro K hK
          obtain ⟨b2, wq, hwq, hb2, B2⟩ := GB.freshAt3 28 (.int .i64 r.size.lo :: .int .i64 r.size.hi :: .int .i64 r.dens.lo :: .int .i64 r.dens.hi :: .int .i64 r.strong.lo :: .int .i64 r.strong.hi :: .int .i64 r.spin.lo :: .int .i64 r.spin.hi :: .int .i64 r.shape.lo :: .int .i64 r.shape.hi :: .bool r.pile :: .int .i64 r2.size.lo :: .int .i64 r2.size.hi :: .int .i64 r2.dens.lo :: .int .i64 r2.dens.hi :: .int .i64 r2.strong.lo :: .int .i64 r2.strong.hi :: .int .i64 r2.spin.lo :: .int .i64 r2.spin.hi :: .int .i64 r2.shape.lo :: .int .i64 r2.shape.hi :: .bool r2.pile :: .int .i64 r2.size.lo :: .int .i64 r2.size.hi :: .int .i64 r2.dens.lo :: .int .i64 r2.dens.hi :: .int .i64 r2.strong.lo :: .int .i64 r2.strong.hi :: .int .i64 r2.spin.lo :: .int .i64 r2.spin.hi :: .int .i64 r2.shape.lo :: .int .i64 r2.shape.hi :: .bool r2.pile :: [] : List Value).toArray
          have hb2g : g < b2 := by have := GB.lt; omega
          go_step
          first | rw [← hwq] | rw [show (World.alloc w3 (.cells (.int .i64 r.size.lo :: .int .i64 r.size.hi :: .int .i64 r.dens.lo :: .int .i64 r.dens.hi :: .int .i64 r.strong.lo :: .int .i64 r.strong.hi :: .int .i64 r.spin.lo :: .int .i64 r.spin.hi :: .int .i64 r.shape.lo :: .int .i64 r.shape.hi :: .bool r.pile :: .int .i64 r2.size.lo :: .int .i64 r2.size.hi :: .int .i64 r2.dens.lo :: .int .i64 r2.dens.hi :: .int .i64 r2.strong.lo :: .int .i64 r2.strong.hi :: .int .i64 r2.spin.lo :: .int .i64 r2.spin.hi :: .int .i64 r2.shape.lo :: .int .i64 r2.shape.hi :: .bool r2.pile :: .int .i64 r2.size.lo :: .int .i64 r2.size.hi :: .int .i64 r2.dens.lo :: .int .i64 r2.dens.hi :: .int .i64 r2.strong.lo :: .int .i64 r2.strong.hi :: .int .i64 r2.spin.lo :: .int .i64 r2.spin.hi :: .int .i64 r2.shape.lo :: .int .i64 r2.shape.hi :: .bool r2.pile :: [] : List Value).toArray 28)).drew = wq from hwq.symm]
          have hs2 := hb2
          try simp at hs2
          first | rw [← hs2] | rw [← hb2] | rw [← show b2 = w3.heap.size from hb2]
          try clear hs2
          replace RB := RB.allocEq hwq
          replace GB := GB.allocEq hwq
          replace KB := KB.allocEq hwq
          replace FB := FB.allocEq hwq
          replace SB := SB.allocEq hwq
          replace HR := HR.allocEq hwq
          try (replace B1 := B1.allocEq hwq)
          try (replace B3 := B3.allocEq hwq)
          replace KQ := KQ.allocEq hwq KQ.size
          refine hK _ _ ((hS0 _).2 ⟨⟨RB, GB⟩, KB, FB, SB⟩) ?_
          clear hK K hb2 hwq
          refine wpTr_l rfl rfl ?_; intro K hK
          go_step
          refine (stoneOf_any g nums _ r2 f2 _ HR (by omega) hrk).mono ?_
          rintro e w5 ⟨v, rfl, ⟨s0, rfl, hs0⟩, HR, k5⟩
          try (replace B2 := B2.kp k5 B2.lt (sne (by omega)))
          try (replace B3 := B3.kp k5 B3.lt (sne (by omega)))
          replace RB := RB.kp k5 RB.lt (sne (by omega))
          replace GB := GB.kp k5 GB.lt (sne (by omega))
          replace KB := KB.kp k5 KB.lt (sne (by omega))
          replace FB := FB.kp k5 FB.lt (sne (by omega))
          replace SB := SB.kp k5 SB.lt (sne (by omega))
          replace KQ := KQ.thenOwn k5 (Nat.le_refl _) hgw
          refine hK _ _ ((hS0 _).2 ⟨⟨RB, GB⟩, KB, FB, SB⟩) ?_
          clear hK K k5 hs0
          refine wpTr_l rfl rfl ?_; intro K hK
          obtain ⟨b1, wq, hwq, hb1, B1⟩ := GB.freshAt3 36 (.int .i64 s.size :: .int .i64 s.dens :: .int .i64 s.strong :: .int .i64 s.spin :: .int .i64 s.shape :: .bool s.pile :: .int .i64 s.speed :: .int .i64 s.slope :: .int .i64 s0.size :: .int .i64 s0.dens :: .int .i64 s0.strong :: .int .i64 s0.spin :: .int .i64 s0.shape :: .bool s0.pile :: .int .i64 s0.speed :: .int .i64 s0.slope :: .int .i64 s.size :: .int .i64 s.dens :: .int .i64 s.strong :: .int .i64 s.spin :: .int .i64 s.shape :: .bool s.pile :: .int .i64 s.speed :: .int .i64 s.slope :: [] : List Value).toArray
          have hb1g : g < b1 := by have := GB.lt; omega
          go_step
          first | rw [← hwq] | rw [show (World.alloc w3 (.cells (.int .i64 s.size :: .int .i64 s.dens :: .int .i64 s.strong :: .int .i64 s.spin :: .int .i64 s.shape :: .bool s.pile :: .int .i64 s.speed :: .int .i64 s.slope :: .int .i64 s0.size :: .int .i64 s0.dens :: .int .i64 s0.strong :: .int .i64 s0.spin :: .int .i64 s0.shape :: .bool s0.pile :: .int .i64 s0.speed :: .int .i64 s0.slope :: .int .i64 s.size :: .int .i64 s.dens :: .int .i64 s.strong :: .int .i64 s.spin :: .int .i64 s.shape :: .bool s.pile :: .int .i64 s.speed :: .int .i64 s.slope :: [] : List Value).toArray 36)).drew = wq from hwq.symm]
          have hs1 := hb1
          try simp at hs1
          first | rw [← hs1] | rw [← hb1] | rw [← show b1 = w3.heap.size from hb1]
          try clear hs1
          replace RB := RB.allocEq hwq
          replace GB := GB.allocEq hwq
          replace KB := KB.allocEq hwq
          replace FB := FB.allocEq hwq
          replace SB := SB.allocEq hwq
          replace HR := HR.allocEq hwq
          try (replace B2 := B2.allocEq hwq)
          try (replace B3 := B3.allocEq hwq)
          replace KQ := KQ.allocEq hwq KQ.size
          refine hK _ _ ((hS0 _).2 ⟨⟨RB, GB⟩, KB, FB, SB⟩) ?_
          clear hK K hb1 hwq
          iterate 3 (first | (refine wpTr_v rfl rfl ?_; intro K hK; go_big_quiet_op; go_big_quiet_on) | (refine wpTr_q rfl rfl ?_; intro K hK; go_big_quiet_op; go_big_quiet_on) | refine wpTr_s rfl rfl ?_)
          refine wpTr_nil ?_
          clear hevT _hev
          go_wp2_with fail
          go_meet
          case rel => exact ⟨b1, b2, b3, s0, rfl, rfl, rfl, B1, B2, B3, KQ⟩
    case rest =>
      obtain ⟨b1, b2, b3, s0, rfl, rfl, rfl, B1, B2, B3, KC⟩ := hcut
      have R1 := Rd.of_blk (enc := encStone) (sz := 8) [s, s0, s] (fun _ => rfl) rfl B1 none (by simp)
      have R2 := Rd.of_blk (enc := encRock) (sz := 11) [r, r2, r2] (fun _ => rfl) rfl B2 none (by simp)
      have R3 := Rd.of_blk (enc := encFall) (sz := 4) [f, f2, f2] (fun _ => rfl) rfl B3 none (by simp)
      have hl1 : [s, s0, s].length = 3 := rfl
      have hl2 : [r, r2, r2].length = 3 := rfl
      have hl3 : [f, f2, f2].length = 3 := rfl
      generalize [s, s0, s] = ss at R1 hl1
      generalize [r, r2, r2] = rs at R2 hl2
      generalize [f, f2, f2] = fs at R3 hl3
      clear B1 B2 B3 KQ HR RB GB KB FB SB
      replace hls := Lib.hid hls
      go_wp2_with fail
      go_loopw [17] (fun v wr => ThreeAt wc v wr) (fun v _ => 3 - (intOf v).toNat)
      case atStart => exact ⟨0, rfl, by omega, Kp.refl _ _ _⟩
      case round =>
        obtain ⟨i, rfl, hi, KK⟩ := hrel
        by_cases h7 : i < 3
        · have hi1 : i < ss.length := by omega
          have hi2 : i < rs.length := by omega
          have hi3 : i < fs.length := by omega
          obtain ⟨x, hx⟩ : ∃ x, x = ss[i] := ⟨_, rfl⟩
          obtain ⟨y, hy⟩ : ∃ y, y = rs[i] := ⟨_, rfl⟩
          obtain ⟨z, hz⟩ : ∃ z, z = fs[i] := ⟨_, rfl⟩
          have Q1 := R1.kpN KK
          have Q2 := R2.kpN KK
          have Q3 := R3.kpN KK
          have h7' : (i : Int) < 3 := by omega
          go_wp2_with fail
          replace Q1 := Q1.drew
          replace Q2 := Q2.drew
          replace Q3 := Q3.drew
          replace KK := KK.drew
          obtain ⟨S, hS⟩ : ∃ S : Nat → World → Prop, S = fun _ w' => Rd none w' 8 encStone (some ⟨b1, 0, none⟩) ss.length ss ∧ Rd none w' 11 encRock (some ⟨b2, 0, none⟩) rs.length rs ∧ Rd none w' 4 encFall (some ⟨b3, 0, none⟩) fs.length fs := ⟨_, rfl⟩
          have hS0 : ∀ w', S 0 w' ↔ (Rd none w' 8 encStone (some ⟨b1, 0, none⟩) ss.length ss ∧ Rd none w' 11 encRock (some ⟨b2, 0, none⟩) rs.length rs ∧ Rd none w' 4 encFall (some ⟨b3, 0, none⟩) fs.length fs) := fun w' => by rw [hS]
          clear hS
          have cA0 : ∀ q : Ev (S 0), q.w.cell? ⟨b1, i * 8, none⟩ = some (.int .i64 x.size) := fun q => by simpa using ((hS0 _).1 q.h).1.cellAt i hi1 0 (.int .i64 x.size) (by rw [← hx]; rfl)
          have cA1 : ∀ q : Ev (S 0), q.w.cell? ⟨b1, i * 8 + 1, none⟩ = some (.int .i64 x.dens) := fun q => by simpa using ((hS0 _).1 q.h).1.cellAt i hi1 1 (.int .i64 x.dens) (by rw [← hx]; rfl)
          have cA2 : ∀ q : Ev (S 0), q.w.cell? ⟨b1, i * 8 + 2, none⟩ = some (.int .i64 x.strong) := fun q => by simpa using ((hS0 _).1 q.h).1.cellAt i hi1 2 (.int .i64 x.strong) (by rw [← hx]; rfl)
          have cA3 : ∀ q : Ev (S 0), q.w.cell? ⟨b1, i * 8 + 3, none⟩ = some (.int .i64 x.spin) := fun q => by simpa using ((hS0 _).1 q.h).1.cellAt i hi1 3 (.int .i64 x.spin) (by rw [← hx]; rfl)
          have cA4 : ∀ q : Ev (S 0), q.w.cell? ⟨b1, i * 8 + 4, none⟩ = some (.int .i64 x.shape) := fun q => by simpa using ((hS0 _).1 q.h).1.cellAt i hi1 4 (.int .i64 x.shape) (by rw [← hx]; rfl)
          have cA5 : ∀ q : Ev (S 0), q.w.cell? ⟨b1, i * 8 + 5, none⟩ = some (.bool x.pile) := fun q => by simpa using ((hS0 _).1 q.h).1.cellAt i hi1 5 (.bool x.pile) (by rw [← hx]; rfl)
          have cA6 : ∀ q : Ev (S 0), q.w.cell? ⟨b1, i * 8 + 6, none⟩ = some (.int .i64 x.speed) := fun q => by simpa using ((hS0 _).1 q.h).1.cellAt i hi1 6 (.int .i64 x.speed) (by rw [← hx]; rfl)
          have cA7 : ∀ q : Ev (S 0), q.w.cell? ⟨b1, i * 8 + 7, none⟩ = some (.int .i64 x.slope) := fun q => by simpa using ((hS0 _).1 q.h).1.cellAt i hi1 7 (.int .i64 x.slope) (by rw [← hx]; rfl)
          have cB0 : ∀ q : Ev (S 0), q.w.cell? ⟨b2, i * 11, none⟩ = some (.int .i64 y.size.lo) := fun q => by simpa using ((hS0 _).1 q.h).2.1.cellAt i hi2 0 (.int .i64 y.size.lo) (by rw [← hy]; rfl)
          have cB1 : ∀ q : Ev (S 0), q.w.cell? ⟨b2, i * 11 + 1, none⟩ = some (.int .i64 y.size.hi) := fun q => by simpa using ((hS0 _).1 q.h).2.1.cellAt i hi2 1 (.int .i64 y.size.hi) (by rw [← hy]; rfl)
          have cB2 : ∀ q : Ev (S 0), q.w.cell? ⟨b2, i * 11 + 2, none⟩ = some (.int .i64 y.dens.lo) := fun q => by simpa using ((hS0 _).1 q.h).2.1.cellAt i hi2 2 (.int .i64 y.dens.lo) (by rw [← hy]; rfl)
          have cB3 : ∀ q : Ev (S 0), q.w.cell? ⟨b2, i * 11 + 3, none⟩ = some (.int .i64 y.dens.hi) := fun q => by simpa using ((hS0 _).1 q.h).2.1.cellAt i hi2 3 (.int .i64 y.dens.hi) (by rw [← hy]; rfl)
          have cB4 : ∀ q : Ev (S 0), q.w.cell? ⟨b2, i * 11 + 4, none⟩ = some (.int .i64 y.strong.lo) := fun q => by simpa using ((hS0 _).1 q.h).2.1.cellAt i hi2 4 (.int .i64 y.strong.lo) (by rw [← hy]; rfl)
          have cB5 : ∀ q : Ev (S 0), q.w.cell? ⟨b2, i * 11 + 5, none⟩ = some (.int .i64 y.strong.hi) := fun q => by simpa using ((hS0 _).1 q.h).2.1.cellAt i hi2 5 (.int .i64 y.strong.hi) (by rw [← hy]; rfl)
          have cB6 : ∀ q : Ev (S 0), q.w.cell? ⟨b2, i * 11 + 6, none⟩ = some (.int .i64 y.spin.lo) := fun q => by simpa using ((hS0 _).1 q.h).2.1.cellAt i hi2 6 (.int .i64 y.spin.lo) (by rw [← hy]; rfl)
          have cB7 : ∀ q : Ev (S 0), q.w.cell? ⟨b2, i * 11 + 7, none⟩ = some (.int .i64 y.spin.hi) := fun q => by simpa using ((hS0 _).1 q.h).2.1.cellAt i hi2 7 (.int .i64 y.spin.hi) (by rw [← hy]; rfl)
          have cB8 : ∀ q : Ev (S 0), q.w.cell? ⟨b2, i * 11 + 8, none⟩ = some (.int .i64 y.shape.lo) := fun q => by simpa using ((hS0 _).1 q.h).2.1.cellAt i hi2 8 (.int .i64 y.shape.lo) (by rw [← hy]; rfl)
          have cB9 : ∀ q : Ev (S 0), q.w.cell? ⟨b2, i * 11 + 9, none⟩ = some (.int .i64 y.shape.hi) := fun q => by simpa using ((hS0 _).1 q.h).2.1.cellAt i hi2 9 (.int .i64 y.shape.hi) (by rw [← hy]; rfl)
          have cB10 : ∀ q : Ev (S 0), q.w.cell? ⟨b2, i * 11 + 10, none⟩ = some (.bool y.pile) := fun q => by simpa using ((hS0 _).1 q.h).2.1.cellAt i hi2 10 (.bool y.pile) (by rw [← hy]; rfl)
          have cC0 : ∀ q : Ev (S 0), q.w.cell? ⟨b3, i * 4, none⟩ = some (.int .i64 z.speed.lo) := fun q => by simpa using ((hS0 _).1 q.h).2.2.cellAt i hi3 0 (.int .i64 z.speed.lo) (by rw [← hz]; rfl)
          have cC1 : ∀ q : Ev (S 0), q.w.cell? ⟨b3, i * 4 + 1, none⟩ = some (.int .i64 z.speed.hi) := fun q => by simpa using ((hS0 _).1 q.h).2.2.cellAt i hi3 1 (.int .i64 z.speed.hi) (by rw [← hz]; rfl)
          have cC2 : ∀ q : Ev (S 0), q.w.cell? ⟨b3, i * 4 + 2, none⟩ = some (.int .i64 z.slope.lo) := fun q => by simpa using ((hS0 _).1 q.h).2.2.cellAt i hi3 2 (.int .i64 z.slope.lo) (by rw [← hz]; rfl)
          have cC3 : ∀ q : Ev (S 0), q.w.cell? ⟨b3, i * 4 + 3, none⟩ = some (.int .i64 z.slope.hi) := fun q => by simpa using ((hS0 _).1 q.h).2.2.cellAt i hi3 3 (.int .i64 z.slope.hi) (by rw [← hz]; rfl)
          clear hx hy hz
          have hevT := ev_true
          refine wp_region_ord4 S [(0, 0), (1, 0), (2, 0), (3, 1), (4, 0), (5, 0), (6, 0), (7, 1), (9, 0), (10, 0), (11, 0), (12, 1), (13, 0), (14, 0), (15, 0), (16, 1), (8, 2), (17, 2), (18, 0), (19, 0), (20, 0), (21, 0), (22, 0), (23, 1), (25, 0), (26, 0), (27, 0), (28, 1), (24, 2), (29, 2), (30, 0), (31, 0), (32, 0), (33, 0), (34, 0), (35, 0), (36, 1), (37, 0), (38, 0), (39, 0), (40, 1), (41, 0), (42, 0), (43, 0), (44, 1), (46, 0), (47, 0), (48, 0), (49, 1), (50, 0), (51, 0), (52, 0), (53, 1), (54, 0), (55, 0), (56, 0), (57, 1), (45, 2), (58, 2), (59, 0), (60, 0), (61, 0), (62, 0), (63, 0), (64, 0), (65, 1), (67, 0), (68, 0), (69, 0), (70, 1), (66, 2), (71, 2), (72, 0), (73, 0), (74, 0), (75, 0), (76, 0), (77, 0), (78, 1), (80, 0), (81, 0), (82, 0), (83, 1), (79, 2), (84, 2), (85, 0), (86, 0)] [(0, 0), (1, 0), (2, 0), (3, 1), (4, 0), (5, 0), (6, 0), (7, 1), (9, 0), (10, 0), (11, 0), (12, 1), (13, 0), (14, 0), (15, 0), (16, 1)] [(8, 2), (17, 2), (18, 0), (19, 0), (20, 0), (21, 0), (22, 0), (23, 1), (25, 0), (26, 0), (27, 0), (28, 1), (24, 2), (29, 2), (30, 0), (31, 0), (32, 0)] [(33, 0), (34, 0), (35, 0), (36, 1), (37, 0), (38, 0), (39, 0), (40, 1), (41, 0), (42, 0), (43, 0), (44, 1), (46, 0), (47, 0), (48, 0), (49, 1), (50, 0), (51, 0), (52, 0), (53, 1), (54, 0), (55, 0)] [(56, 0), (57, 1), (45, 2), (58, 2), (59, 0), (60, 0), (61, 0), (62, 0), (63, 0), (64, 0), (65, 1), (67, 0), (68, 0), (69, 0), (70, 1), (66, 2), (71, 2), (72, 0), (73, 0), (74, 0), (75, 0), (76, 0), (77, 0), (78, 1), (80, 0), (81, 0), (82, 0), (83, 1), (79, 2), (84, 2), (85, 0), (86, 0)] [] (by kernel_rfl) rfl (by kernel_rfl) (by as_aux_lemma => kernel_rfl) (by as_aux_lemma => kernel_rfl) (by as_aux_lemma => kernel_rfl) (by as_aux_lemma => kernel_rfl) ((hS0 _).2 ⟨Q1, Q2, Q3⟩) ?_
          intro _hev
          iterate 16 (first | (refine wpOrd_v rfl rfl ?_; intro K hK; go_big_quiet_op; go_big_quiet_on) | (refine wpOrd_q rfl rfl ?_; intro K hK; go_big_quiet_op; go_big_quiet_on) | refine wpOrd_s (by decide) rfl rfl ?_)
          refine wpOrd_l rfl rfl ?_; intro K hK
          go_step
          refine (blast_CheckRock_any y z _ (hb.kpN (KC.thenN KK (Nat.le_refl _)))).mono ?_
          rintro e w9 ⟨⟨n1, rfl, hn1⟩, k9⟩
          replace Q1 := Q1.kpN k9
          replace Q2 := Q2.kpN k9
          replace Q3 := Q3.kpN k9
          replace KK := KK.thenN k9 (Nat.le_refl _)
          refine hK _ _ ((hS0 _).2 ⟨Q1, Q2, Q3⟩) ?_
          clear hK K k9
          refine wpOrd_l rfl rfl ?_; intro K hK
          go_step
          refine (ref_CheckRock_any y z _).mono ?_
          rintro e w9 ⟨⟨n2, rfl, hn2⟩, k9⟩
          have e2 := rockChk_one hn2 hn1
          subst e2
          clear hn1 hn2
          replace Q1 := Q1.kpN k9
          replace Q2 := Q2.kpN k9
          replace Q3 := Q3.kpN k9
          replace KK := KK.thenN k9 (Nat.le_refl _)
          refine hK _ _ ((hS0 _).2 ⟨Q1, Q2, Q3⟩) ?_
          clear hK K k9
          iterate 10 (first | (refine wpOrd_v rfl rfl ?_; intro K hK; go_big_quiet_op; go_big_quiet_on) | (refine wpOrd_q rfl rfl ?_; intro K hK; go_big_quiet_op; go_big_quiet_on) | refine wpOrd_s (by decide) rfl rfl ?_)
          refine wpOrd_l rfl rfl ?_; intro K hK
          go_step
          refine (blast_CheckStone_any x _ (hb.kpN (KC.thenN KK (Nat.le_refl _)))).mono ?_
          rintro e w9 ⟨⟨n3, rfl, hn3⟩, k9⟩
          replace Q1 := Q1.kpN k9
          replace Q2 := Q2.kpN k9
          replace Q3 := Q3.kpN k9
          replace KK := KK.thenN k9 (Nat.le_refl _)
          refine hK _ _ ((hS0 _).2 ⟨Q1, Q2, Q3⟩) ?_
          clear hK K k9
          refine wpOrd_l rfl rfl ?_; intro K hK
          go_step
          refine (ref_CheckStone_any x _).mono ?_
          rintro e w9 ⟨⟨n4, rfl, hn4⟩, k9⟩
          have e4 := stoneChk_one hn4 hn3
          subst e4
          clear hn3 hn4
          replace Q1 := Q1.kpN k9
          replace Q2 := Q2.kpN k9
          replace Q3 := Q3.kpN k9
          replace KK := KK.thenN k9 (Nat.le_refl _)
          refine hK _ _ ((hS0 _).2 ⟨Q1, Q2, Q3⟩) ?_
          clear hK K k9
          iterate 27 (first | (refine wpOrd_v rfl rfl ?_; intro K hK; go_big_quiet_op; go_big_quiet_on) | (refine wpOrd_q rfl rfl ?_; intro K hK; go_big_quiet_op; go_big_quiet_on) | refine wpOrd_s (by decide) rfl rfl ?_)
          refine wpOrd_l rfl rfl ?_; intro K hK
          go_step
          refine (blast_Of_any x y z _ (hb.kpN (KC.thenN KK (Nat.le_refl _)))).mono ?_
          rintro e w9 ⟨⟨o5, rfl, hn5⟩, k9⟩
          replace Q1 := Q1.kpN k9
          replace Q2 := Q2.kpN k9
          replace Q3 := Q3.kpN k9
          replace KK := KK.thenN k9 (Nat.le_refl _)
          refine hK _ _ ((hS0 _).2 ⟨Q1, Q2, Q3⟩) ?_
          clear hK K k9
          refine wpOrd_l rfl rfl ?_; intro K hK
          go_step
          refine (ref_Of_any x y z _).mono ?_
          rintro e w9 ⟨⟨o6, rfl, hn6⟩, k9⟩
          have e6 : o6 = o5 := Bool.eq_iff_iff.2 (hn6.trans hn5.symm)
          subst e6
          clear hn5 hn6
          replace Q1 := Q1.kpN k9
          replace Q2 := Q2.kpN k9
          replace Q3 := Q3.kpN k9
          replace KK := KK.thenN k9 (Nat.le_refl _)
          refine hK _ _ ((hS0 _).2 ⟨Q1, Q2, Q3⟩) ?_
          clear hK K k9
          iterate 11 (first | (refine wpOrd_v rfl rfl ?_; intro K hK; go_big_quiet_op; go_big_quiet_on) | (refine wpOrd_q rfl rfl ?_; intro K hK; go_big_quiet_op; go_big_quiet_on) | refine wpOrd_s (by decide) rfl rfl ?_)
          refine wpOrd_l rfl rfl ?_; intro K hK
          go_step
          refine (blast_Mass_any x _ (hb.kpN (KC.thenN KK (Nat.le_refl _)))).mono ?_
          rintro e w9 ⟨⟨n7, rfl, hn7⟩, k9⟩
          replace Q1 := Q1.kpN k9
          replace Q2 := Q2.kpN k9
          replace Q3 := Q3.kpN k9
          replace KK := KK.thenN k9 (Nat.le_refl _)
          refine hK _ _ ((hS0 _).2 ⟨Q1, Q2, Q3⟩) ?_
          clear hK K k9
          refine wpOrd_l rfl rfl ?_; intro K hK
          go_step
          refine (ref_Mass_any x _).mono ?_
          rintro e w9 ⟨⟨n8, rfl, hn8⟩, k9⟩
          have e8 := either_one hn8 hn7
          subst e8
          clear hn7 hn8
          replace Q1 := Q1.kpN k9
          replace Q2 := Q2.kpN k9
          replace Q3 := Q3.kpN k9
          replace KK := KK.thenN k9 (Nat.le_refl _)
          refine hK _ _ ((hS0 _).2 ⟨Q1, Q2, Q3⟩) ?_
          clear hK K k9
          iterate 11 (first | (refine wpOrd_v rfl rfl ?_; intro K hK; go_big_quiet_op; go_big_quiet_on) | (refine wpOrd_q rfl rfl ?_; intro K hK; go_big_quiet_op; go_big_quiet_on) | refine wpOrd_s (by decide) rfl rfl ?_)
          refine wpOrd_l rfl rfl ?_; intro K hK
          go_step
          refine (blast_Holds_any x _ (hb.kpN (KC.thenN KK (Nat.le_refl _)))).mono ?_
          rintro e w9 ⟨⟨n9, rfl, hn9⟩, k9⟩
          replace Q1 := Q1.kpN k9
          replace Q2 := Q2.kpN k9
          replace Q3 := Q3.kpN k9
          replace KK := KK.thenN k9 (Nat.le_refl _)
          refine hK _ _ ((hS0 _).2 ⟨Q1, Q2, Q3⟩) ?_
          clear hK K k9
          refine wpOrd_l rfl rfl ?_; intro K hK
          go_step
          refine (ref_Holds_any x _).mono ?_
          rintro e w9 ⟨⟨nA, rfl, hnA⟩, k9⟩
          have eA := either_one hnA hn9
          subst eA
          clear hn9 hnA
          replace Q1 := Q1.kpN k9
          replace Q2 := Q2.kpN k9
          replace Q3 := Q3.kpN k9
          replace KK := KK.thenN k9 (Nat.le_refl _)
          refine hK _ _ ((hS0 _).2 ⟨Q1, Q2, Q3⟩) ?_
          clear hK K k9
          iterate 2 (first | (refine wpOrd_v rfl rfl ?_; intro K hK; go_big_quiet_op; go_big_quiet_on) | (refine wpOrd_q rfl rfl ?_; intro K hK; go_big_quiet_op; go_big_quiet_on) | refine wpOrd_s (by decide) rfl rfl ?_)
          refine wpOrd_nil ?_
          clear hevT _hev
          go_wp2
          go_roundw
          case rel => exact ⟨i + 1, rfl, by omega, KK⟩
          case measure => simp [intOf]; omega
        · have he : i = 3 := by omega
          subst he
          have K3 := KC.thenN KK (Nat.le_refl _)
          go_wp2_with fail
          refine (blast_CheckAir_any A0 c0 ls _ (hls.out.kpN K3)).mono ?_
          rintro e w10 ⟨⟨n1, rfl, hn1⟩, k10⟩
          have K10 := K3.thenN k10 (Nat.le_refl _)
          clear k10
          go_wp2_with fail
          refine (ref_CheckAir_any A0 c0 ls _ (hls.out.kpN K10)).mono ?_
          rintro e w11 ⟨⟨n2, rfl, hn2⟩, k11⟩
          have K11 := K10.thenN k11 (Nat.le_refl _)
          have e2 := airChk_one hn2 hn1
          subst e2
          clear k11 hn1 hn2
          go_wp2_with fail
          refine (awake_any _ (hb.kpN K11)).mono ?_
          rintro e w12 ⟨rfl, k12⟩
          have K12 := K11.thenN k12 (Nat.le_refl _)
          go_wp2
          exact bodyPost_ret (v := .bool true) (by simp [results, Tryd.results6, go_sem]) rfl ⟨rfl, K12⟩
end Go.Proofs.YtdiigflbohbndaaDoor
