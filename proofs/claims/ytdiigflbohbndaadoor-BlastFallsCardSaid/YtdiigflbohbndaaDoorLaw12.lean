/- The statement on falls and blows: its walk. -/
import Derived.Test.YtdiigflbohbndaaDoorLaw1
import Derived.Test.YtdiigflbohbndaaDoorInv
import Derived.Test.YtdiigflbohbndaaDoorRefBlow2
import Derived.Test.YtdiigflbohbndaaDoorSame
namespace Go.Proofs.YtdiigflbohbndaaDoor
open Go.RowKit

def encStone (s : Stone) : List Value := [.int .i64 s.size, .int .i64 s.dens, .int .i64 s.strong, .int .i64 s.spin, .int .i64 s.shape, .bool s.pile, .int .i64 s.speed, .int .i64 s.slope]
def encRock (r : Rock) : List Value := [.int .i64 r.size.lo, .int .i64 r.size.hi, .int .i64 r.dens.lo, .int .i64 r.dens.hi, .int .i64 r.strong.lo, .int .i64 r.strong.hi, .int .i64 r.spin.lo, .int .i64 r.spin.hi, .int .i64 r.shape.lo, .int .i64 r.shape.hi, .bool r.pile]
def encFall (f : Fall) : List Value := [.int .i64 f.speed.lo, .int .i64 f.speed.hi, .int .i64 f.slope.lo, .int .i64 f.slope.hi]
theorem Rd.cellAt {α : Type} {row : Option Nat} {w : World} {sz n b o : Nat} {enc : α → List Value} {xs : List α} (h : Rd row w sz enc (some ⟨b, o, none⟩) n xs) (i : Nat) (hi : i < xs.length) (j : Nat) (v : Value) (hv : (enc xs[i])[j]? = some v) :
    w.cell? ⟨b, o + (i * sz + j), none⟩ = some v := by
  obtain ⟨b', o', e, _, _, hc⟩ := h.2 (by have := h.1; omega)
  injection e with e; injection e with e1 e2
  subst e1 e2
  exact hc i hi j v hv
theorem blowsChk_one {ls : List Layer} {r : Rock} {f : Fall} {bl bl' : List Blow} {n n' : Int} (h : BlowsChk ls r f bl n) (k : BlowsChk ls r f bl' n') : bl = bl' ∧ n = n' := by
  rcases h with ⟨ha, hr, rfl, rfl⟩ | ⟨h0, rfl, h⟩ <;> rcases k with ⟨ka, kr, rfl, rfl⟩ | ⟨k0, rfl, k⟩
  · exact ⟨rfl, rfl⟩
  · rcases k with k | ⟨ka, k⟩
    · exact absurd (airChk_one k (.inl ⟨rfl, ha⟩)) k0
    · exact absurd (rockChk_one k (.inl ⟨rfl, hr⟩)) k0
  · rcases h with h | ⟨_, h⟩
    · exact absurd (airChk_one h (.inl ⟨rfl, ka⟩)) h0
    · exact absurd (rockChk_one h (.inl ⟨rfl, kr⟩)) h0
  · refine ⟨rfl, ?_⟩
    rcases h with h | ⟨ha, h⟩ <;> rcases k with k | ⟨ka, k⟩
    · exact airChk_one h k
    · exact absurd (airChk_one h (.inl ⟨rfl, ka⟩)) h0
    · exact absurd (airChk_one k (.inl ⟨rfl, ha⟩)) k0
    · exact rockChk_one h k
theorem blowsChk_len {ls : List Layer} {r : Rock} {f : Fall} {bl : List Blow} {n : Int} (h : BlowsChk ls r f bl n) : bl.length ≤ 33 := by
  rcases h with ⟨ha, _, _, rfl⟩ | ⟨_, rfl, _⟩
  · have h1 := blowsFrom_len (weakS r f) (strongS r f) ls 0 (f.speed.lo * f.speed.lo) (f.speed.hi * f.speed.hi)
    have h2 := ha.1
    unfold blowsOf
    omega
  · simp
structure G12 where
  A1 : Option Addr
  c1 : Nat
  l2 : List Layer
  s0 : Stone
  b1 : Nat
  b2 : Nat
  b3 : Nat
  b4 : Nat
def K2 (γ : G12) (g : Nat) (w : World) : Prop := Rd (some g) w 2 encLayer γ.A1 γ.l2.length γ.l2
def K3 (A0 : Option Addr) (c0 : Nat) (ls : List Layer) (γ : G12) (g : Nat) (w : World) : Prop := Blk w γ.b1 33 #[.slice A0 ls.length c0, .slice γ.A1 γ.l2.length γ.c1] ∧ g < γ.b1
def K9 (s : Stone) (γ : G12) (g : Nat) (w : World) : Prop := Blk w γ.b2 36 #[.int .i64 s.size, .int .i64 s.dens, .int .i64 s.strong, .int .i64 s.spin, .int .i64 s.shape, .bool s.pile, .int .i64 s.speed, .int .i64 s.slope, .int .i64 γ.s0.size, .int .i64 γ.s0.dens, .int .i64 γ.s0.strong, .int .i64 γ.s0.spin, .int .i64 γ.s0.shape, .bool γ.s0.pile, .int .i64 γ.s0.speed, .int .i64 γ.s0.slope] ∧ g < γ.b2
def K12 (r r2 : Rock) (γ : G12) (g : Nat) (w : World) : Prop := Blk w γ.b3 28 (.int .i64 r.size.lo :: .int .i64 r.size.hi :: .int .i64 r.dens.lo :: .int .i64 r.dens.hi :: .int .i64 r.strong.lo :: .int .i64 r.strong.hi :: .int .i64 r.spin.lo :: .int .i64 r.spin.hi :: .int .i64 r.shape.lo :: .int .i64 r.shape.hi :: .bool r.pile :: .int .i64 r2.size.lo :: .int .i64 r2.size.hi :: .int .i64 r2.dens.lo :: .int .i64 r2.dens.hi :: .int .i64 r2.strong.lo :: .int .i64 r2.strong.hi :: .int .i64 r2.spin.lo :: .int .i64 r2.spin.hi :: .int .i64 r2.shape.lo :: .int .i64 r2.shape.hi :: .bool r2.pile :: [] : List Value).toArray ∧ g < γ.b3
def K15 (f f2 : Fall) (γ : G12) (g : Nat) (w : World) : Prop := Blk w γ.b4 30 #[.int .i64 f.speed.lo, .int .i64 f.speed.hi, .int .i64 f.slope.lo, .int .i64 f.slope.hi, .int .i64 f2.speed.lo, .int .i64 f2.speed.hi, .int .i64 f2.slope.lo, .int .i64 f2.slope.hi] ∧ g < γ.b4
section
variable {γ : G12} {g : Nat} {w w' : World} {A0 : Option Addr} {c0 : Nat} {ls : List Layer} {s : Stone} {r r2 : Rock} {f f2 : Fall}
theorem K2.kp (h : K2 γ g w) (k : Kp w.heap.size (some g) w w') : K2 γ g w' := Rd.kp h k
theorem K3.kp (h : K3 A0 c0 ls γ g w) (k : Kp w.heap.size (some g) w w') : K3 A0 c0 ls γ g w' := ⟨h.1.kp k h.1.lt (sne (Nat.ne_of_gt h.2)), h.2⟩
theorem K9.kp (h : K9 s γ g w) (k : Kp w.heap.size (some g) w w') : K9 s γ g w' := ⟨h.1.kp k h.1.lt (sne (Nat.ne_of_gt h.2)), h.2⟩
theorem K12.kp (h : K12 r r2 γ g w) (k : Kp w.heap.size (some g) w w') : K12 r r2 γ g w' := ⟨h.1.kp k h.1.lt (sne (Nat.ne_of_gt h.2)), h.2⟩
theorem K15.kp (h : K15 f f2 γ g w) (k : Kp w.heap.size (some g) w w') : K15 f f2 γ g w' := ⟨h.1.kp k h.1.lt (sne (Nat.ne_of_gt h.2)), h.2⟩
end
/-- The boxes of the arguments and of the rock of numbers, and the ring. -/
structure BB12 (r : Rock) (f : Fall) (s : Stone) (r2 : Rock) (f2 : Fall) (nums : List Int) (g bq : Nat) (W : World) (n : Nat) (w : World) : Prop where
  ring : ∃ k, k ≤ 100 + 100 * n ∧ RingAt w g nums k
  r : Blk w W.heap.size 28 #[.int .i64 r.size.lo, .int .i64 r.size.hi, .int .i64 r.dens.lo, .int .i64 r.dens.hi, .int .i64 r.strong.lo, .int .i64 r.strong.hi, .int .i64 r.spin.lo, .int .i64 r.spin.hi, .int .i64 r.shape.lo, .int .i64 r.shape.hi, .bool r.pile]
  f : Blk w (W.heap.size + 1) 30 #[.int .i64 f.speed.lo, .int .i64 f.speed.hi, .int .i64 f.slope.lo, .int .i64 f.slope.hi]
  s : Blk w (W.heap.size + 1 + 1) 36 #[.int .i64 s.size, .int .i64 s.dens, .int .i64 s.strong, .int .i64 s.spin, .int .i64 s.shape, .bool s.pile, .int .i64 s.speed, .int .i64 s.slope]
  r2 : Blk w bq 28 #[.int .i64 r2.size.lo, .int .i64 r2.size.hi, .int .i64 r2.dens.lo, .int .i64 r2.dens.hi, .int .i64 r2.strong.lo, .int .i64 r2.strong.hi, .int .i64 r2.spin.lo, .int .i64 r2.spin.hi, .int .i64 r2.shape.lo, .int .i64 r2.shape.hi, .bool r2.pile]
  f2 : Blk w (bq + 1) 30 #[.int .i64 f2.speed.lo, .int .i64 f2.speed.hi, .int .i64 f2.slope.lo, .int .i64 f2.slope.hi]
  k : Kp W.heap.size none W w
  g : W.heap.size + 1 + 1 < g ∧ g < bq
section
variable {r : Rock} {f : Fall} {s : Stone} {r2 : Rock} {f2 : Fall} {nums : List Int} {g bq n : Nat} {W w w' : World}
theorem BB12.mono (h : BB12 r f s r2 f2 nums g bq W n w) : BB12 r f s r2 f2 nums g bq W (n + 1) w := by
  obtain ⟨⟨k, hk, hr⟩, h1, h2, h3, h4, h5, h6, h7⟩ := h
  exact ⟨⟨k, by omega, hr⟩, h1, h2, h3, h4, h5, h6, h7⟩
theorem BB12.kpN (h : BB12 r f s r2 f2 nums g bq W n w) (k : Kp w.heap.size none w w') : BB12 r f s r2 f2 nums g bq W (n + 1) w' := by
  obtain ⟨⟨q, hq, hr⟩, h1, h2, h3, h4, h5, h6, h7⟩ := h
  exact ⟨⟨q, by omega, hr.kpN k⟩, h1.kpN k, h2.kpN k, h3.kpN k, h4.kpN k, h5.kpN k, h6.thenN k (Nat.le_refl _), h7⟩
theorem BB12.kpR (h : BB12 r f s r2 f2 nums g bq W n w) (k : Kp w.heap.size (some g) w w') {q : Nat} (hq : q ≤ 100 + 100 * (n + 1)) (hr : RingAt w' g nums q) : BB12 r f s r2 f2 nums g bq W (n + 1) w' := by
  obtain ⟨_, h1, h2, h3, h4, h5, h6, h7⟩ := h
  exact ⟨⟨q, hq, hr⟩, h1.kp k h1.lt (sne (by omega)), h2.kp k h2.lt (sne (by omega)), h3.kp k h3.lt (sne (by omega)), h4.kp k h4.lt (sne (by omega)), h5.kp k h5.lt (sne (by omega)), h6.thenOwn k (Nat.le_refl _) (by omega), h7⟩
end
def TwoAt12 (w : World) (v : Value) (wr : World) : Prop := ∃ i : Nat, v = .int .i64 i ∧ i ≤ 2 ∧ Kp w.heap.size none w wr
set_option maxRecDepth 100000 in
set_option maxHeartbeats 8000000 in
theorem law_BlastFalls_any (A0 : Option Addr) (c0 : Nat) (ls : List Layer) (r : Rock) (f : Fall) (s : Stone) (A4 : Option Addr) (c4 : Nat) (nums : List Int) (W : World) (hls : Rd none W 2 encLayer A0 ls.length ls)
    (h : Rd none W 1 (fun x => [Value.int .i64 x]) A4 nums.length nums) (hn : nums.length ≤ 17592186044416) (hb : Bnd W) :
    Calls Tryd.prog 8 #[.slice A0 ls.length c0, .agg #[.int .i64 r.size.lo, .int .i64 r.size.hi, .int .i64 r.dens.lo, .int .i64 r.dens.hi, .int .i64 r.strong.lo, .int .i64 r.strong.hi, .int .i64 r.spin.lo, .int .i64 r.spin.hi, .int .i64 r.shape.lo, .int .i64 r.shape.hi, .bool r.pile], .agg #[.int .i64 f.speed.lo, .int .i64 f.speed.hi, .int .i64 f.slope.lo, .int .i64 f.slope.hi], .agg #[.int .i64 s.size, .int .i64 s.dens, .int .i64 s.strong, .int .i64 s.spin, .int .i64 s.shape, .bool s.pile, .int .i64 s.speed, .int .i64 s.slope], .slice A4 nums.length c4] W fun e w' => e = .returned (.bool true) ∧ Kp W.heap.size none W w' := by
  have K0 := (((Kp.refl W.heap.size none W).alloc (Nat.le_refl _) (.cells #[.int .i64 r.size.lo, .int .i64 r.size.hi, .int .i64 r.dens.lo, .int .i64 r.dens.hi, .int .i64 r.strong.lo, .int .i64 r.strong.hi, .int .i64 r.spin.lo, .int .i64 r.spin.hi, .int .i64 r.shape.lo, .int .i64 r.shape.hi, .bool r.pile] 28)).alloc (by simp) (.cells #[.int .i64 f.speed.lo, .int .i64 f.speed.hi, .int .i64 f.slope.lo, .int .i64 f.slope.hi] 30)).alloc (by simp; omega) (.cells #[.int .i64 s.size, .int .i64 s.dens, .int .i64 s.strong, .int .i64 s.spin, .int .i64 s.shape, .bool s.pile, .int .i64 s.speed, .int .i64 s.slope] 36)
  have KB := ((Blk.new W 28 #[.int .i64 r.size.lo, .int .i64 r.size.hi, .int .i64 r.dens.lo, .int .i64 r.dens.hi, .int .i64 r.strong.lo, .int .i64 r.strong.hi, .int .i64 r.spin.lo, .int .i64 r.spin.hi, .int .i64 r.shape.lo, .int .i64 r.shape.hi, .bool r.pile]).alloc (.cells #[.int .i64 f.speed.lo, .int .i64 f.speed.hi, .int .i64 f.slope.lo, .int .i64 f.slope.hi] 30)).alloc (.cells #[.int .i64 s.size, .int .i64 s.dens, .int .i64 s.strong, .int .i64 s.spin, .int .i64 s.shape, .bool s.pile, .int .i64 s.speed, .int .i64 s.slope] 36)
  have FB := (Blk.newAt (W.alloc (.cells #[.int .i64 r.size.lo, .int .i64 r.size.hi, .int .i64 r.dens.lo, .int .i64 r.dens.hi, .int .i64 r.strong.lo, .int .i64 r.strong.hi, .int .i64 r.spin.lo, .int .i64 r.spin.hi, .int .i64 r.shape.lo, .int .i64 r.shape.hi, .bool r.pile] 28)) 30 #[.int .i64 f.speed.lo, .int .i64 f.speed.hi, .int .i64 f.slope.lo, .int .i64 f.slope.hi] (n := W.heap.size + 1) (by simp)).alloc (.cells #[.int .i64 s.size, .int .i64 s.dens, .int .i64 s.strong, .int .i64 s.spin, .int .i64 s.shape, .bool s.pile, .int .i64 s.speed, .int .i64 s.slope] 36)
  have SB := Blk.newAt ((W.alloc (.cells #[.int .i64 r.size.lo, .int .i64 r.size.hi, .int .i64 r.dens.lo, .int .i64 r.dens.hi, .int .i64 r.strong.lo, .int .i64 r.strong.hi, .int .i64 r.spin.lo, .int .i64 r.spin.hi, .int .i64 r.shape.lo, .int .i64 r.shape.hi, .bool r.pile] 28)).alloc (.cells #[.int .i64 f.speed.lo, .int .i64 f.speed.hi, .int .i64 f.slope.lo, .int .i64 f.slope.hi] 30)) 36 #[.int .i64 s.size, .int .i64 s.dens, .int .i64 s.strong, .int .i64 s.spin, .int .i64 s.shape, .bool s.pile, .int .i64 s.speed, .int .i64 s.slope] (n := W.heap.size + 1 + 1) (by simp)
  generalize hw0 : ((W.alloc (.cells #[.int .i64 r.size.lo, .int .i64 r.size.hi, .int .i64 r.dens.lo, .int .i64 r.dens.hi, .int .i64 r.strong.lo, .int .i64 r.strong.hi, .int .i64 r.spin.lo, .int .i64 r.spin.hi, .int .i64 r.shape.lo, .int .i64 r.shape.hi, .bool r.pile] 28)).alloc (.cells #[.int .i64 f.speed.lo, .int .i64 f.speed.hi, .int .i64 f.slope.lo, .int .i64 f.slope.hi] 30)).alloc (.cells #[.int .i64 s.size, .int .i64 s.dens, .int .i64 s.strong, .int .i64 s.spin, .int .i64 s.shape, .bool s.pile, .int .i64 s.speed, .int .i64 s.slope] 36) = w0 at K0 KB FB SB
  go_enter Tryd.func8, Tryd.ntmps8
  rcases (show 40 < ls.length ∨ ¬ 40 < ls.length by omega) with hbig | hbig
  · have hbi : (40 : Int) < (ls.length : Int) := by omega
    go_wp2_with fail
    refine (awake_any _ (hb.kpN K0)).mono ?_
    rintro e w1 ⟨rfl, k1⟩
    have K1 := K0.thenN k1 (Nat.le_refl _)
    go_wp2
    exact bodyPost_ret (v := .bool true) (by simp [results, Tryd.results8, go_sem]) rfl ⟨rfl, K1⟩
  · have hbi : ¬ (40 : Int) < (ls.length : Int) := by omega
    go_wp2_with fail
    clear hw0
    refine (newRing_any A4 c4 nums _ (h.kpN K0) hn).mono ?_
    rintro e w1 ⟨g, rfl, hg, hr, k1⟩
    have K1 := K0.thenN k1 (Nat.le_refl _)
    have hzs0 := SB.lt
    have hgw : W.heap.size + 1 + 1 < g := by omega
    replace KB := KB.kpN k1
    replace FB := FB.kpN k1
    replace SB := SB.kpN k1
    clear k1 K0
    go_wp2_with fail
    refine (rockOf_any g nums 0 _ hr (by omega)).mono ?_
    rintro e w2 ⟨v, rfl, ⟨r2, f2, rfl, hrk, -⟩, hr2, k2⟩
    have K2' := K1.thenOwn k2 (Nat.le_refl _) (by omega)
    replace KB := KB.kp k2 KB.lt (sne (by omega))
    replace FB := FB.kp k2 FB.lt (sne (by omega))
    replace SB := SB.kp k2 SB.lt (sne (by omega))
    have hz2 : g < w2.heap.size := hr2.lt
    have KQ := (K2'.alloc K2'.size (.cells #[.int .i64 r2.size.lo, .int .i64 r2.size.hi, .int .i64 r2.dens.lo, .int .i64 r2.dens.hi, .int .i64 r2.strong.lo, .int .i64 r2.strong.hi, .int .i64 r2.spin.lo, .int .i64 r2.spin.hi, .int .i64 r2.shape.lo, .int .i64 r2.shape.hi, .bool r2.pile] 28)).alloc (alloc_ge K2'.size _) (.cells #[.int .i64 f2.speed.lo, .int .i64 f2.speed.hi, .int .i64 f2.slope.lo, .int .i64 f2.slope.hi] 30)
    have HR := (hr2.alloc (.cells #[.int .i64 r2.size.lo, .int .i64 r2.size.hi, .int .i64 r2.dens.lo, .int .i64 r2.dens.hi, .int .i64 r2.strong.lo, .int .i64 r2.strong.hi, .int .i64 r2.spin.lo, .int .i64 r2.spin.hi, .int .i64 r2.shape.lo, .int .i64 r2.shape.hi, .bool r2.pile] 28)).alloc (.cells #[.int .i64 f2.speed.lo, .int .i64 f2.speed.hi, .int .i64 f2.slope.lo, .int .i64 f2.slope.hi] 30)
    have RB := (Blk.new w2 28 #[.int .i64 r2.size.lo, .int .i64 r2.size.hi, .int .i64 r2.dens.lo, .int .i64 r2.dens.hi, .int .i64 r2.strong.lo, .int .i64 r2.strong.hi, .int .i64 r2.spin.lo, .int .i64 r2.spin.hi, .int .i64 r2.shape.lo, .int .i64 r2.shape.hi, .bool r2.pile]).alloc (.cells #[.int .i64 f2.speed.lo, .int .i64 f2.speed.hi, .int .i64 f2.slope.lo, .int .i64 f2.slope.hi] 30)
    have GB := Blk.newAt (w2.alloc (.cells #[.int .i64 r2.size.lo, .int .i64 r2.size.hi, .int .i64 r2.dens.lo, .int .i64 r2.dens.hi, .int .i64 r2.strong.lo, .int .i64 r2.strong.hi, .int .i64 r2.spin.lo, .int .i64 r2.spin.hi, .int .i64 r2.shape.lo, .int .i64 r2.shape.hi, .bool r2.pile] 28)) 30 #[.int .i64 f2.speed.lo, .int .i64 f2.speed.hi, .int .i64 f2.slope.lo, .int .i64 f2.slope.hi] (n := w2.heap.size + 1) (by simp)
    replace KB := (KB.alloc (.cells #[.int .i64 r2.size.lo, .int .i64 r2.size.hi, .int .i64 r2.dens.lo, .int .i64 r2.dens.hi, .int .i64 r2.strong.lo, .int .i64 r2.strong.hi, .int .i64 r2.spin.lo, .int .i64 r2.spin.hi, .int .i64 r2.shape.lo, .int .i64 r2.shape.hi, .bool r2.pile] 28)).alloc (.cells #[.int .i64 f2.speed.lo, .int .i64 f2.speed.hi, .int .i64 f2.slope.lo, .int .i64 f2.slope.hi] 30)
    replace FB := (FB.alloc (.cells #[.int .i64 r2.size.lo, .int .i64 r2.size.hi, .int .i64 r2.dens.lo, .int .i64 r2.dens.hi, .int .i64 r2.strong.lo, .int .i64 r2.strong.hi, .int .i64 r2.spin.lo, .int .i64 r2.spin.hi, .int .i64 r2.shape.lo, .int .i64 r2.shape.hi, .bool r2.pile] 28)).alloc (.cells #[.int .i64 f2.speed.lo, .int .i64 f2.speed.hi, .int .i64 f2.slope.lo, .int .i64 f2.slope.hi] 30)
    replace SB := (SB.alloc (.cells #[.int .i64 r2.size.lo, .int .i64 r2.size.hi, .int .i64 r2.dens.lo, .int .i64 r2.dens.hi, .int .i64 r2.strong.lo, .int .i64 r2.strong.hi, .int .i64 r2.spin.lo, .int .i64 r2.spin.hi, .int .i64 r2.shape.lo, .int .i64 r2.shape.hi, .bool r2.pile] 28)).alloc (.cells #[.int .i64 f2.speed.lo, .int .i64 f2.speed.hi, .int .i64 f2.slope.lo, .int .i64 f2.slope.hi] 30)
    clear k2 K1 hr K2' hr2
    go_wp2_with fail
    obtain ⟨bq, hbq⟩ : ∃ q, q = w2.heap.size := ⟨_, rfl⟩
    rw [← hbq] at RB GB hz2 ⊢
    generalize (w2.alloc (.cells #[.int .i64 r2.size.lo, .int .i64 r2.size.hi, .int .i64 r2.dens.lo, .int .i64 r2.dens.hi, .int .i64 r2.strong.lo, .int .i64 r2.strong.hi, .int .i64 r2.spin.lo, .int .i64 r2.spin.hi, .int .i64 r2.shape.lo, .int .i64 r2.shape.hi, .bool r2.pile] 28)).alloc (.cells #[.int .i64 f2.speed.lo, .int .i64 f2.speed.hi, .int .i64 f2.slope.lo, .int .i64 f2.slope.hi] 30) = w3 at *
    have HB0 : BB12 r f s r2 f2 nums g bq W 0 w3 := ⟨⟨_, by omega, HR⟩, KB, FB, SB, RB, GB, KQ, ⟨hgw, hz2⟩⟩
    clear HR KB FB SB RB GB KQ hbq hzs0
    refine wp_region_inv (Γ := G12) [none, none, none, none, none, none, none, none, none, none, none, none, none, none, some 16, some 17, some 18, some 19, none, none, none, none, none, none, none, none, none, none, none, none, none, none, none, none, none, none, none, none, none, none, some 0, some 1, some 2, some 3, some 4, some 5, some 6, some 7, some 8, some 9, some 10, some 11, some 12, some 13, some 14, some 15] [[], [], [1], [0, 1, 2], [], [], [], [], [1, 2, 5, 6, 7], [1, 2, 4, 5, 6, 7, 8], [], [], [10, 11], [], [], [13, 14], [0, 1, 2, 3, 5, 6, 7, 8], [0, 1, 2, 3, 4, 5, 6, 7, 8, 9, 16], [0, 1, 2, 3, 4, 5, 6, 7, 8, 9, 10, 11, 12, 16, 17], [0, 1, 2, 3, 4, 5, 6, 7, 8, 9, 10, 11, 12, 13, 14, 15, 16, 17, 18]] [[1, 2, 4, 5, 6, 7, 8, 9, 10, 11, 12, 13, 14, 15], [0, 4, 5, 6, 7, 10, 11, 12, 13, 14, 15], [0, 1, 4, 5, 6, 7, 10, 11, 12, 13, 14, 15], [0, 1, 2, 4, 5, 6, 7, 8, 9, 10, 11, 12, 13, 14, 15], [0, 1, 2, 3, 5, 6, 7, 8, 10, 11, 12, 13, 14, 15, 16], [0, 1, 2, 3, 4, 6, 7, 10, 11, 12, 13, 14, 15], [0, 1, 2, 3, 4, 5, 7, 10, 11, 12, 13, 14, 15], [0, 1, 2, 3, 4, 5, 6, 10, 11, 12, 13, 14, 15], [0, 1, 2, 3, 4, 5, 6, 7, 10, 11, 12, 13, 14, 15], [0, 1, 2, 3, 4, 5, 6, 7, 8, 10, 11, 12, 13, 14, 15, 16], [0, 1, 2, 3, 4, 5, 6, 7, 8, 9, 11, 13, 14, 15, 16, 17], [0, 1, 2, 3, 4, 5, 6, 7, 8, 9, 10, 13, 14, 15, 16, 17], [0, 1, 2, 3, 4, 5, 6, 7, 8, 9, 10, 11, 13, 14, 15, 16, 17], [0, 1, 2, 3, 4, 5, 6, 7, 8, 9, 10, 11, 12, 14, 16, 17, 18], [0, 1, 2, 3, 4, 5, 6, 7, 8, 9, 10, 11, 12, 13, 16, 17, 18], [0, 1, 2, 3, 4, 5, 6, 7, 8, 9, 10, 11, 12, 13, 14, 16, 17, 18], [0, 1, 2, 3, 4, 5, 6, 7, 8, 9, 10, 11, 12, 13, 14, 15], [0, 1, 2, 3, 4, 5, 6, 7, 8, 9, 10, 11, 12, 13, 14, 15, 16], [0, 1, 2, 3, 4, 5, 6, 7, 8, 9, 10, 11, 12, 13, 14, 15, 16, 17], [0, 1, 2, 3, 4, 5, 6, 7, 8, 9, 10, 11, 12, 13, 14, 15, 16, 17, 18]] (fun γ => [.slice A0 ls.length c0, .pointer (some ⟨g, 0, none⟩), .slice γ.A1 γ.l2.length γ.c1, .slice (some ⟨γ.b1, 0, none⟩) 2 2, .agg #[.int .i64 s.size, .int .i64 s.dens, .int .i64 s.strong, .int .i64 s.spin, .int .i64 s.shape, .bool s.pile, .int .i64 s.speed, .int .i64 s.slope], .pointer (some ⟨g, 0, none⟩), .agg #[.int .i64 r2.size.lo, .int .i64 r2.size.hi, .int .i64 r2.dens.lo, .int .i64 r2.dens.hi, .int .i64 r2.strong.lo, .int .i64 r2.strong.hi, .int .i64 r2.spin.lo, .int .i64 r2.spin.hi, .int .i64 r2.shape.lo, .int .i64 r2.shape.hi, .bool r2.pile], .agg #[.int .i64 f2.speed.lo, .int .i64 f2.speed.hi, .int .i64 f2.slope.lo, .int .i64 f2.slope.hi], .agg #[.int .i64 γ.s0.size, .int .i64 γ.s0.dens, .int .i64 γ.s0.strong, .int .i64 γ.s0.spin, .int .i64 γ.s0.shape, .bool γ.s0.pile, .int .i64 γ.s0.speed, .int .i64 γ.s0.slope], .slice (some ⟨γ.b2, 0, none⟩) 2 2, .agg #[.int .i64 r.size.lo, .int .i64 r.size.hi, .int .i64 r.dens.lo, .int .i64 r.dens.hi, .int .i64 r.strong.lo, .int .i64 r.strong.hi, .int .i64 r.spin.lo, .int .i64 r.spin.hi, .int .i64 r.shape.lo, .int .i64 r.shape.hi, .bool r.pile], .agg #[.int .i64 r2.size.lo, .int .i64 r2.size.hi, .int .i64 r2.dens.lo, .int .i64 r2.dens.hi, .int .i64 r2.strong.lo, .int .i64 r2.strong.hi, .int .i64 r2.spin.lo, .int .i64 r2.spin.hi, .int .i64 r2.shape.lo, .int .i64 r2.shape.hi, .bool r2.pile], .slice (some ⟨γ.b3, 0, none⟩) 2 2, .agg #[.int .i64 f.speed.lo, .int .i64 f.speed.hi, .int .i64 f.slope.lo, .int .i64 f.slope.hi], .agg #[.int .i64 f2.speed.lo, .int .i64 f2.speed.hi, .int .i64 f2.slope.lo, .int .i64 f2.slope.hi], .slice (some ⟨γ.b4, 0, none⟩) 2 2, .slice (some ⟨γ.b1, 0, none⟩) 2 2, .slice (some ⟨γ.b2, 0, none⟩) 2 2, .slice (some ⟨γ.b3, 0, none⟩) 2 2, .slice (some ⟨γ.b4, 0, none⟩) 2 2]) (fun γ => [none, none, none, none, none, none, none, none, none, none, none, none, none, none, some (.slice (some ⟨γ.b1, 0, none⟩) 2 2), some (.slice (some ⟨γ.b2, 0, none⟩) 2 2), some (.slice (some ⟨γ.b3, 0, none⟩) 2 2), some (.slice (some ⟨γ.b4, 0, none⟩) 2 2), none, none, none, none, none, none, none, none, none, none, none, none, none, none, none, none, none, none, none, none, none, none, some (.slice A0 ls.length c0), some (.pointer (some ⟨g, 0, none⟩)), some (.slice γ.A1 γ.l2.length γ.c1), some (.slice (some ⟨γ.b1, 0, none⟩) 2 2), some (.agg #[.int .i64 s.size, .int .i64 s.dens, .int .i64 s.strong, .int .i64 s.spin, .int .i64 s.shape, .bool s.pile, .int .i64 s.speed, .int .i64 s.slope]), some (.pointer (some ⟨g, 0, none⟩)), some (.agg #[.int .i64 r2.size.lo, .int .i64 r2.size.hi, .int .i64 r2.dens.lo, .int .i64 r2.dens.hi, .int .i64 r2.strong.lo, .int .i64 r2.strong.hi, .int .i64 r2.spin.lo, .int .i64 r2.spin.hi, .int .i64 r2.shape.lo, .int .i64 r2.shape.hi, .bool r2.pile]), some (.agg #[.int .i64 f2.speed.lo, .int .i64 f2.speed.hi, .int .i64 f2.slope.lo, .int .i64 f2.slope.hi]), some (.agg #[.int .i64 γ.s0.size, .int .i64 γ.s0.dens, .int .i64 γ.s0.strong, .int .i64 γ.s0.spin, .int .i64 γ.s0.shape, .bool γ.s0.pile, .int .i64 γ.s0.speed, .int .i64 γ.s0.slope]), some (.slice (some ⟨γ.b2, 0, none⟩) 2 2), some (.agg #[.int .i64 r.size.lo, .int .i64 r.size.hi, .int .i64 r.dens.lo, .int .i64 r.dens.hi, .int .i64 r.strong.lo, .int .i64 r.strong.hi, .int .i64 r.spin.lo, .int .i64 r.spin.hi, .int .i64 r.shape.lo, .int .i64 r.shape.hi, .bool r.pile]), some (.agg #[.int .i64 r2.size.lo, .int .i64 r2.size.hi, .int .i64 r2.dens.lo, .int .i64 r2.dens.hi, .int .i64 r2.strong.lo, .int .i64 r2.strong.hi, .int .i64 r2.spin.lo, .int .i64 r2.spin.hi, .int .i64 r2.shape.lo, .int .i64 r2.shape.hi, .bool r2.pile]), some (.slice (some ⟨γ.b3, 0, none⟩) 2 2), some (.agg #[.int .i64 f.speed.lo, .int .i64 f.speed.hi, .int .i64 f.slope.lo, .int .i64 f.slope.hi]), some (.agg #[.int .i64 f2.speed.lo, .int .i64 f2.speed.hi, .int .i64 f2.slope.lo, .int .i64 f2.slope.hi]), some (.slice (some ⟨γ.b4, 0, none⟩) 2 2)]) ?A5_1 (fun n D γ w => BB12 r f s r2 f2 nums g bq W n w) (fun k γ w => match k with | 2 => K2 γ g w | 3 => K3 A0 c0 ls γ g w | 9 => K9 s γ g w | 12 => K12 r r2 γ g w | 15 => K15 f f2 γ g w | _ => True) ⟨none, 0, [], s, 0, 0, 0, 0⟩ (by kernel_rfl) (fun _ => rfl) ?hA5_1 (by kernel_rfl) ?hB05_1 ?hop5_1 ?hend5_1
    case hA5_1 => intro γ; dsimp only [fullV]; rfl
    case hB05_1 =>
      obtain ⟨⟨q, hq, hr⟩, h1, h2, h3, h4, h5, h6, h7⟩ := HB0
      exact ⟨⟨q, hq, hr.drew⟩, h1.drew, h2.drew, h3.drew, h4.drew, h5.drew, h6.drew, h7⟩
    case hop5_1 =>
      intro hA
      refine ⟨?_, ?_, ?_, ?_, ?_, ?_, ?_, ?_, ?_, ?_, ?_, ?_, ?_, ?_, ?_, ?_, ?_, ?_, ?_, ?_, trivial⟩
      · refine opOk_v hA (fun _ => rfl) (fun _ _ => trivial) ?_ ?_
        · intro n D γ w hn h
          replace hn : n < 20 := hn
          try dsimp only at h
          exact h.mono
        intro n D γ w hB hU K hK
        try dsimp only at hB
        try dsimp only
        clear hB hU
        go_step
        exact hK _ rfl
      · refine opOk_v hA (fun _ => rfl) (fun _ _ => trivial) ?_ ?_
        · intro n D γ w hn h
          replace hn : n < 20 := hn
          try dsimp only at h
          exact h.mono
        intro n D γ w hB hU K hK
        try dsimp only at hB
        try dsimp only
        clear hB hU
        go_step
        exact hK _ rfl
      · refine opOk_l hA (fun _ => rfl) ?_
        intro n D γ w hn hD hB hU K hK
        try dsimp only at hB
        try simp only [allP, List.getD_cons_zero, List.getD_cons_succ, and_true, true_and] at hU
        replace hn : n < 20 := hn
        try dsimp only
        obtain ⟨k, hk, hR⟩ := hB.ring
        go_step
        refine (layersOf_any g nums k _ hR (by omega)).mono ?_
        rintro e w5 ⟨v, k', rfl, ⟨A1, c1, l2, rfl, hG, -, -, -⟩, hk', hR5, k5⟩
        have s2 : K2 γ g w → K2 γ g w5 := fun h => h.kp k5
        have s3 : K3 A0 c0 ls γ g w → K3 A0 c0 ls γ g w5 := fun h => h.kp k5
        have s9 : K9 s γ g w → K9 s γ g w5 := fun h => h.kp k5
        have s12 : K12 r r2 γ g w → K12 r r2 γ g w5 := fun h => h.kp k5
        have s15 : K15 f f2 γ g w → K15 f f2 γ g w5 := fun h => h.kp k5
        refine hK _ _ { γ with A1 := A1, c1 := c1, l2 := l2 } rfl (hB.kpR k5 (by omega) hR5) hG ?_
        try dsimp only [allP, List.getD_cons_zero, List.getD_cons_succ]
        (repeat' apply And.intro) <;> first | exact rfl | exact trivial | exact id | assumption
      · refine opOk_l hA (fun _ => rfl) ?_
        intro n D γ w hn hD hB hU K hK
        try dsimp only at hB
        try simp only [allP, List.getD_cons_zero, List.getD_cons_succ, and_true, true_and] at hU
        replace hn : n < 20 := hn
        try dsimp only
        go_step
        obtain ⟨w5, hw5⟩ : ∃ w5, w5 = w.alloc (.cells #[.slice A0 ls.length c0, .slice γ.A1 γ.l2.length γ.c1] 33) := ⟨_, rfl⟩
        have k5 : Kp w.heap.size none w w5 := hw5 ▸ (Kp.refl w.heap.size none w).alloc (Nat.le_refl _) _
        have hBn : Blk w5 w.heap.size 33 #[.slice A0 ls.length c0, .slice γ.A1 γ.l2.length γ.c1] := hw5 ▸ Blk.new _ _ _
        have hgb : g < w.heap.size := by have := hB.r2.lt; have := hB.g; omega
        change K _ (w.alloc (.cells #[.slice A0 ls.length c0, .slice γ.A1 γ.l2.length γ.c1] 33))
        rw [← hw5]
        have s2 : K2 γ g w → K2 γ g w5 := fun h => h.kp (k5.wide (some g))
        have s3 : K3 A0 c0 ls γ g w → K3 A0 c0 ls γ g w5 := fun h => h.kp (k5.wide (some g))
        have s9 : K9 s γ g w → K9 s γ g w5 := fun h => h.kp (k5.wide (some g))
        have s12 : K12 r r2 γ g w → K12 r r2 γ g w5 := fun h => h.kp (k5.wide (some g))
        have s15 : K15 f f2 γ g w → K15 f f2 γ g w5 := fun h => h.kp (k5.wide (some g))
        refine hK _ _ { γ with b1 := w.heap.size } rfl (hB.kpN k5) ⟨hBn, hgb⟩ ?_
        try dsimp only [allP, List.getD_cons_zero, List.getD_cons_succ]
        (repeat' apply And.intro) <;> first | exact rfl | exact trivial | exact id | assumption
      · refine opOk_v hA (fun _ => rfl) (fun _ _ => trivial) ?_ ?_
        · intro n D γ w hn h
          replace hn : n < 20 := hn
          try dsimp only at h
          exact h.mono
        intro n D γ w hB hU K hK
        try dsimp only at hB
        try dsimp only
        have d1 := fun i => hB.r.cell i
        have d2 := fun i => hB.f.cell i
        have d3 := fun i => hB.s.cell i
        have d4 := fun i => hB.r2.cell i
        have d5 := fun i => hB.f2.cell i
        clear hB hU
        go_step
        exact hK _ rfl
      · refine opOk_v hA (fun _ => rfl) (fun _ _ => trivial) ?_ ?_
        · intro n D γ w hn h
          replace hn : n < 20 := hn
          try dsimp only at h
          exact h.mono
        intro n D γ w hB hU K hK
        try dsimp only at hB
        try dsimp only
        clear hB hU
        go_step
        exact hK _ rfl
      · refine opOk_v hA (fun _ => rfl) (fun _ _ => trivial) ?_ ?_
        · intro n D γ w hn h
          replace hn : n < 20 := hn
          try dsimp only at h
          exact h.mono
        intro n D γ w hB hU K hK
        try dsimp only at hB
        try dsimp only
        have d1 := fun i => hB.r.cell i
        have d2 := fun i => hB.f.cell i
        have d3 := fun i => hB.s.cell i
        have d4 := fun i => hB.r2.cell i
        have d5 := fun i => hB.f2.cell i
        clear hB hU
        go_step
        exact hK _ rfl
      · refine opOk_v hA (fun _ => rfl) (fun _ _ => trivial) ?_ ?_
        · intro n D γ w hn h
          replace hn : n < 20 := hn
          try dsimp only at h
          exact h.mono
        intro n D γ w hB hU K hK
        try dsimp only at hB
        try dsimp only
        have d1 := fun i => hB.r.cell i
        have d2 := fun i => hB.f.cell i
        have d3 := fun i => hB.s.cell i
        have d4 := fun i => hB.r2.cell i
        have d5 := fun i => hB.f2.cell i
        clear hB hU
        go_step
        exact hK _ rfl
      · refine opOk_l hA (fun _ => rfl) ?_
        intro n D γ w hn hD hB hU K hK
        try dsimp only at hB
        try simp only [allP, List.getD_cons_zero, List.getD_cons_succ, and_true, true_and] at hU
        replace hn : n < 20 := hn
        try dsimp only
        obtain ⟨k, hk, hR⟩ := hB.ring
        go_step
        refine (stoneOf_any g nums k r2 f2 _ hR (by omega) hrk).mono ?_
        rintro e w5 ⟨v, rfl, ⟨s0, rfl, -⟩, hR5, k5⟩
        have s2 : K2 γ g w → K2 γ g w5 := fun h => h.kp k5
        have s3 : K3 A0 c0 ls γ g w → K3 A0 c0 ls γ g w5 := fun h => h.kp k5
        have s9 : K9 s γ g w → K9 s γ g w5 := fun h => h.kp k5
        have s12 : K12 r r2 γ g w → K12 r r2 γ g w5 := fun h => h.kp k5
        have s15 : K15 f f2 γ g w → K15 f f2 γ g w5 := fun h => h.kp k5
        refine hK _ _ { γ with s0 := s0 } rfl (hB.kpR k5 (by omega) hR5) trivial ?_
        try dsimp only [allP, List.getD_cons_zero, List.getD_cons_succ]
        (repeat' apply And.intro) <;> first | exact rfl | exact trivial | exact id | assumption
      · refine opOk_l hA (fun _ => rfl) ?_
        intro n D γ w hn hD hB hU K hK
        try dsimp only at hB
        try simp only [allP, List.getD_cons_zero, List.getD_cons_succ, and_true, true_and] at hU
        replace hn : n < 20 := hn
        try dsimp only
        go_step
        obtain ⟨w5, hw5⟩ : ∃ w5, w5 = w.alloc (.cells #[.int .i64 s.size, .int .i64 s.dens, .int .i64 s.strong, .int .i64 s.spin, .int .i64 s.shape, .bool s.pile, .int .i64 s.speed, .int .i64 s.slope, .int .i64 γ.s0.size, .int .i64 γ.s0.dens, .int .i64 γ.s0.strong, .int .i64 γ.s0.spin, .int .i64 γ.s0.shape, .bool γ.s0.pile, .int .i64 γ.s0.speed, .int .i64 γ.s0.slope] 36) := ⟨_, rfl⟩
        have k5 : Kp w.heap.size none w w5 := hw5 ▸ (Kp.refl w.heap.size none w).alloc (Nat.le_refl _) _
        have hBn : Blk w5 w.heap.size 36 #[.int .i64 s.size, .int .i64 s.dens, .int .i64 s.strong, .int .i64 s.spin, .int .i64 s.shape, .bool s.pile, .int .i64 s.speed, .int .i64 s.slope, .int .i64 γ.s0.size, .int .i64 γ.s0.dens, .int .i64 γ.s0.strong, .int .i64 γ.s0.spin, .int .i64 γ.s0.shape, .bool γ.s0.pile, .int .i64 γ.s0.speed, .int .i64 γ.s0.slope] := hw5 ▸ Blk.new _ _ _
        have hgb : g < w.heap.size := by have := hB.r2.lt; have := hB.g; omega
        change K _ (w.alloc (.cells #[.int .i64 s.size, .int .i64 s.dens, .int .i64 s.strong, .int .i64 s.spin, .int .i64 s.shape, .bool s.pile, .int .i64 s.speed, .int .i64 s.slope, .int .i64 γ.s0.size, .int .i64 γ.s0.dens, .int .i64 γ.s0.strong, .int .i64 γ.s0.spin, .int .i64 γ.s0.shape, .bool γ.s0.pile, .int .i64 γ.s0.speed, .int .i64 γ.s0.slope] 36))
        rw [← hw5]
        have s2 : K2 γ g w → K2 γ g w5 := fun h => h.kp (k5.wide (some g))
        have s3 : K3 A0 c0 ls γ g w → K3 A0 c0 ls γ g w5 := fun h => h.kp (k5.wide (some g))
        have s9 : K9 s γ g w → K9 s γ g w5 := fun h => h.kp (k5.wide (some g))
        have s12 : K12 r r2 γ g w → K12 r r2 γ g w5 := fun h => h.kp (k5.wide (some g))
        have s15 : K15 f f2 γ g w → K15 f f2 γ g w5 := fun h => h.kp (k5.wide (some g))
        refine hK _ _ { γ with b2 := w.heap.size } rfl (hB.kpN k5) ⟨hBn, hgb⟩ ?_
        try dsimp only [allP, List.getD_cons_zero, List.getD_cons_succ]
        (repeat' apply And.intro) <;> first | exact rfl | exact trivial | exact id | assumption
      · refine opOk_v hA (fun _ => rfl) (fun _ _ => trivial) ?_ ?_
        · intro n D γ w hn h
          replace hn : n < 20 := hn
          try dsimp only at h
          exact h.mono
        intro n D γ w hB hU K hK
        try dsimp only at hB
        try dsimp only
        have d1 := fun i => hB.r.cell i
        have d2 := fun i => hB.f.cell i
        have d3 := fun i => hB.s.cell i
        have d4 := fun i => hB.r2.cell i
        have d5 := fun i => hB.f2.cell i
        clear hB hU
        go_step
        exact hK _ rfl
      · refine opOk_v hA (fun _ => rfl) (fun _ _ => trivial) ?_ ?_
        · intro n D γ w hn h
          replace hn : n < 20 := hn
          try dsimp only at h
          exact h.mono
        intro n D γ w hB hU K hK
        try dsimp only at hB
        try dsimp only
        have d1 := fun i => hB.r.cell i
        have d2 := fun i => hB.f.cell i
        have d3 := fun i => hB.s.cell i
        have d4 := fun i => hB.r2.cell i
        have d5 := fun i => hB.f2.cell i
        clear hB hU
        go_step
        exact hK _ rfl
      · refine opOk_l hA (fun _ => rfl) ?_
        intro n D γ w hn hD hB hU K hK
        try dsimp only at hB
        try simp only [allP, List.getD_cons_zero, List.getD_cons_succ, and_true, true_and] at hU
        replace hn : n < 20 := hn
        try dsimp only
        go_step
        obtain ⟨w5, hw5⟩ : ∃ w5, w5 = w.alloc (.cells (.int .i64 r.size.lo :: .int .i64 r.size.hi :: .int .i64 r.dens.lo :: .int .i64 r.dens.hi :: .int .i64 r.strong.lo :: .int .i64 r.strong.hi :: .int .i64 r.spin.lo :: .int .i64 r.spin.hi :: .int .i64 r.shape.lo :: .int .i64 r.shape.hi :: .bool r.pile :: .int .i64 r2.size.lo :: .int .i64 r2.size.hi :: .int .i64 r2.dens.lo :: .int .i64 r2.dens.hi :: .int .i64 r2.strong.lo :: .int .i64 r2.strong.hi :: .int .i64 r2.spin.lo :: .int .i64 r2.spin.hi :: .int .i64 r2.shape.lo :: .int .i64 r2.shape.hi :: .bool r2.pile :: [] : List Value).toArray 28) := ⟨_, rfl⟩
        have k5 : Kp w.heap.size none w w5 := hw5 ▸ (Kp.refl w.heap.size none w).alloc (Nat.le_refl _) _
        have hBn : Blk w5 w.heap.size 28 (.int .i64 r.size.lo :: .int .i64 r.size.hi :: .int .i64 r.dens.lo :: .int .i64 r.dens.hi :: .int .i64 r.strong.lo :: .int .i64 r.strong.hi :: .int .i64 r.spin.lo :: .int .i64 r.spin.hi :: .int .i64 r.shape.lo :: .int .i64 r.shape.hi :: .bool r.pile :: .int .i64 r2.size.lo :: .int .i64 r2.size.hi :: .int .i64 r2.dens.lo :: .int .i64 r2.dens.hi :: .int .i64 r2.strong.lo :: .int .i64 r2.strong.hi :: .int .i64 r2.spin.lo :: .int .i64 r2.spin.hi :: .int .i64 r2.shape.lo :: .int .i64 r2.shape.hi :: .bool r2.pile :: [] : List Value).toArray := hw5 ▸ Blk.new _ _ _
        have hgb : g < w.heap.size := by have := hB.r2.lt; have := hB.g; omega
        change K _ (w.alloc (.cells (.int .i64 r.size.lo :: .int .i64 r.size.hi :: .int .i64 r.dens.lo :: .int .i64 r.dens.hi :: .int .i64 r.strong.lo :: .int .i64 r.strong.hi :: .int .i64 r.spin.lo :: .int .i64 r.spin.hi :: .int .i64 r.shape.lo :: .int .i64 r.shape.hi :: .bool r.pile :: .int .i64 r2.size.lo :: .int .i64 r2.size.hi :: .int .i64 r2.dens.lo :: .int .i64 r2.dens.hi :: .int .i64 r2.strong.lo :: .int .i64 r2.strong.hi :: .int .i64 r2.spin.lo :: .int .i64 r2.spin.hi :: .int .i64 r2.shape.lo :: .int .i64 r2.shape.hi :: .bool r2.pile :: [] : List Value).toArray 28))
        rw [← hw5]
        have s2 : K2 γ g w → K2 γ g w5 := fun h => h.kp (k5.wide (some g))
        have s3 : K3 A0 c0 ls γ g w → K3 A0 c0 ls γ g w5 := fun h => h.kp (k5.wide (some g))
        have s9 : K9 s γ g w → K9 s γ g w5 := fun h => h.kp (k5.wide (some g))
        have s12 : K12 r r2 γ g w → K12 r r2 γ g w5 := fun h => h.kp (k5.wide (some g))
        have s15 : K15 f f2 γ g w → K15 f f2 γ g w5 := fun h => h.kp (k5.wide (some g))
        refine hK _ _ { γ with b3 := w.heap.size } rfl (hB.kpN k5) ⟨hBn, hgb⟩ ?_
        try dsimp only [allP, List.getD_cons_zero, List.getD_cons_succ]
        (repeat' apply And.intro) <;> first | exact rfl | exact trivial | exact id | assumption
      · refine opOk_v hA (fun _ => rfl) (fun _ _ => trivial) ?_ ?_
        · intro n D γ w hn h
          replace hn : n < 20 := hn
          try dsimp only at h
          exact h.mono
        intro n D γ w hB hU K hK
        try dsimp only at hB
        try dsimp only
        have d1 := fun i => hB.r.cell i
        have d2 := fun i => hB.f.cell i
        have d3 := fun i => hB.s.cell i
        have d4 := fun i => hB.r2.cell i
        have d5 := fun i => hB.f2.cell i
        clear hB hU
        go_step
        exact hK _ rfl
      · refine opOk_v hA (fun _ => rfl) (fun _ _ => trivial) ?_ ?_
        · intro n D γ w hn h
          replace hn : n < 20 := hn
          try dsimp only at h
          exact h.mono
        intro n D γ w hB hU K hK
        try dsimp only at hB
        try dsimp only
        have d1 := fun i => hB.r.cell i
        have d2 := fun i => hB.f.cell i
        have d3 := fun i => hB.s.cell i
        have d4 := fun i => hB.r2.cell i
        have d5 := fun i => hB.f2.cell i
        clear hB hU
        go_step
        exact hK _ rfl
      · refine opOk_l hA (fun _ => rfl) ?_
        intro n D γ w hn hD hB hU K hK
        try dsimp only at hB
        try simp only [allP, List.getD_cons_zero, List.getD_cons_succ, and_true, true_and] at hU
        replace hn : n < 20 := hn
        try dsimp only
        go_step
        obtain ⟨w5, hw5⟩ : ∃ w5, w5 = w.alloc (.cells #[.int .i64 f.speed.lo, .int .i64 f.speed.hi, .int .i64 f.slope.lo, .int .i64 f.slope.hi, .int .i64 f2.speed.lo, .int .i64 f2.speed.hi, .int .i64 f2.slope.lo, .int .i64 f2.slope.hi] 30) := ⟨_, rfl⟩
        have k5 : Kp w.heap.size none w w5 := hw5 ▸ (Kp.refl w.heap.size none w).alloc (Nat.le_refl _) _
        have hBn : Blk w5 w.heap.size 30 #[.int .i64 f.speed.lo, .int .i64 f.speed.hi, .int .i64 f.slope.lo, .int .i64 f.slope.hi, .int .i64 f2.speed.lo, .int .i64 f2.speed.hi, .int .i64 f2.slope.lo, .int .i64 f2.slope.hi] := hw5 ▸ Blk.new _ _ _
        have hgb : g < w.heap.size := by have := hB.r2.lt; have := hB.g; omega
        change K _ (w.alloc (.cells #[.int .i64 f.speed.lo, .int .i64 f.speed.hi, .int .i64 f.slope.lo, .int .i64 f.slope.hi, .int .i64 f2.speed.lo, .int .i64 f2.speed.hi, .int .i64 f2.slope.lo, .int .i64 f2.slope.hi] 30))
        rw [← hw5]
        have s2 : K2 γ g w → K2 γ g w5 := fun h => h.kp (k5.wide (some g))
        have s3 : K3 A0 c0 ls γ g w → K3 A0 c0 ls γ g w5 := fun h => h.kp (k5.wide (some g))
        have s9 : K9 s γ g w → K9 s γ g w5 := fun h => h.kp (k5.wide (some g))
        have s12 : K12 r r2 γ g w → K12 r r2 γ g w5 := fun h => h.kp (k5.wide (some g))
        have s15 : K15 f f2 γ g w → K15 f f2 γ g w5 := fun h => h.kp (k5.wide (some g))
        refine hK _ _ { γ with b4 := w.heap.size } rfl (hB.kpN k5) ⟨hBn, hgb⟩ ?_
        try dsimp only [allP, List.getD_cons_zero, List.getD_cons_succ]
        (repeat' apply And.intro) <;> first | exact rfl | exact trivial | exact id | assumption
      · refine opOk_v hA (fun _ => rfl) (fun _ _ => trivial) ?_ ?_
        · intro n D γ w hn h
          replace hn : n < 20 := hn
          try dsimp only at h
          exact h.mono
        intro n D γ w hB hU K hK
        try dsimp only at hB
        try dsimp only
        clear hB hU
        go_step
        exact hK _ rfl
      · refine opOk_v hA (fun _ => rfl) (fun _ _ => trivial) ?_ ?_
        · intro n D γ w hn h
          replace hn : n < 20 := hn
          try dsimp only at h
          exact h.mono
        intro n D γ w hB hU K hK
        try dsimp only at hB
        try dsimp only
        clear hB hU
        go_step
        exact hK _ rfl
      · refine opOk_v hA (fun _ => rfl) (fun _ _ => trivial) ?_ ?_
        · intro n D γ w hn h
          replace hn : n < 20 := hn
          try dsimp only at h
          exact h.mono
        intro n D γ w hB hU K hK
        try dsimp only at hB
        try dsimp only
        clear hB hU
        go_step
        exact hK _ rfl
      · refine opOk_v hA (fun _ => rfl) (fun _ _ => trivial) ?_ ?_
        · intro n D γ w hn h
          replace hn : n < 20 := hn
          try dsimp only at h
          exact h.mono
        intro n D γ w hB hU K hK
        try dsimp only at hB
        try dsimp only
        clear hB hU
        go_step
        exact hK _ rfl
    case hend5_1 =>
      intro n D γ w hn hD hB hF
      replace hF := fun k (hk : k < 20) => hF k hk
      replace hF := (⟨hF 2 (by decide), hF 3 (by decide), hF 9 (by decide), hF 12 (by decide), hF 15 (by decide)⟩ : _ ∧ _ ∧ _ ∧ _ ∧ _)
      try dsimp only at hB
      try dsimp only at hF
      replace hn : n ≤ 20 := hn
      try dsimp only
      obtain ⟨-, -, -, -, -, -, hKK, hg9⟩ := hB
      obtain ⟨hG2, hG3, hG9, hG12, hG15⟩ := hF
      obtain ⟨A1, c1, l2, s0, b1, b2, b3, b4⟩ := γ
      obtain ⟨B1, hg1⟩ := hG3
      obtain ⟨B2, hg2⟩ := hG9
      obtain ⟨B3, hg3⟩ := hG12
      obtain ⟨B4, hg4⟩ := hG15
      dsimp only at *
      replace hG2 := Rd.free hG2
      dsimp only [K2] at hG2
      have hG : ∀ i, i < 2 → ∃ (A : Option Addr) (c : Nat) (gg : List Layer), w.cell? ⟨b1, i, none⟩ = some (.slice A gg.length c) ∧ Rd none w 2 encLayer A gg.length gg := fun i hi => by
        rcases (show i = 0 ∨ i = 1 by omega) with rfl | rfl
        · exact ⟨A0, c0, ls, B1.cell 0, hls.kpN hKK⟩
        · exact ⟨A1, c1, l2, B1.cell 1, hG2⟩
      have l1 := B1.lt
      have R2 : Rd none w 8 encStone (some ⟨b2, 0, none⟩) 2 [s, s0] := Rd.of_blk (sz := 8) (enc := encStone) [s, s0] (fun _ => rfl) rfl B2 none (by simp)
      have R3 : Rd none w 11 encRock (some ⟨b3, 0, none⟩) 2 [r, r2] := Rd.of_blk (sz := 11) (enc := encRock) [r, r2] (fun _ => rfl) rfl B3 none (by simp)
      have R4 : Rd none w 4 encFall (some ⟨b4, 0, none⟩) 2 [f, f2] := Rd.of_blk (sz := 4) (enc := encFall) [f, f2] (fun _ => rfl) rfl B4 none (by simp)
      clear B1 B2 B3 B4 hG2 hls h hg9 hg1 hg2 hg3 hg4
      go_wp2_with fail
      go_loopw [18] (fun v wr => TwoAt12 w v wr) (fun v _ => 2 - (intOf v).toNat)
      case atStart => exact ⟨0, rfl, by omega, Kp.refl _ _ _⟩
      case round =>
        obtain ⟨i, rfl, hi, KK⟩ := hrel
        by_cases h7 : i < 2
        · obtain ⟨Ag, cg, gg, hcg, hRg⟩ := hG i h7
          have hbr : Bnd wr := (hb.kpN hKK).kpN KK
          obtain ⟨si, hsi⟩ : ∃ x, x = [s, s0][i]'(by simpa using h7) := ⟨_, rfl⟩
          replace hsi := Lib.hid hsi
          obtain ⟨ri, hri⟩ : ∃ x, x = [r, r2][i]'(by simpa using h7) := ⟨_, rfl⟩
          replace hri := Lib.hid hri
          obtain ⟨fi, hfi⟩ : ∃ x, x = [f, f2][i]'(by simpa using h7) := ⟨_, rfl⟩
          replace hfi := Lib.hid hfi
          have Q1 := R2.kpN KK
          have Q2 := R3.kpN KK
          have Q3 := R4.kpN KK
          replace hcg := (KK.cell b1 i l1 (by simp)).trans hcg
          replace hRg := hRg.kpN KK
          have h7' : (i : Int) < 2 := by omega
          have m1 : b1 < wr.heap.size := Nat.lt_of_lt_of_le l1 KK.size
          clear hG R2 R3 R4
          go_wp2_with fail
          replace hbr : Bnd wr.drew := hbr
          replace Q1 := Q1.drew
          replace Q2 := Q2.drew
          replace Q3 := Q3.drew
          replace hRg := hRg.drew
          replace hcg : wr.drew.cell? _ = _ := hcg
          replace m1 : _ < wr.drew.heap.size := m1
          replace KK := KK.drew
          obtain ⟨S, hS⟩ : ∃ S : Nat → World → Prop, S = fun _ w' => w'.cell? ⟨b1, i, none⟩ = some (.slice Ag gg.length cg) ∧ Rd none w' 8 encStone (some ⟨b2, 0, none⟩) 2 [s, s0] := ⟨_, rfl⟩
          have hS0 : ∀ w', S 0 w' ↔ (w'.cell? ⟨b1, i, none⟩ = some (.slice Ag gg.length cg) ∧ Rd none w' 8 encStone (some ⟨b2, 0, none⟩) 2 [s, s0]) := fun w' => by rw [hS]
          clear hS
          have cA : ∀ q : Ev (S 0), q.w.cell? ⟨b1, i, none⟩ = some (.slice Ag gg.length cg) := fun q => ((hS0 _).1 q.h).1
          have t0 : ∀ q : Ev (S 0), q.w.cell? ⟨b2, i * 8, none⟩ = some (.int .i64 si.size) := fun q => by simpa using (((hS0 _).1 q.h).2).cellAt i h7 0 (.int .i64 si.size) (by rw [← hsi.out]; rfl)
          have t1 : ∀ q : Ev (S 0), q.w.cell? ⟨b2, i * 8 + 1, none⟩ = some (.int .i64 si.dens) := fun q => by simpa using (((hS0 _).1 q.h).2).cellAt i h7 1 (.int .i64 si.dens) (by rw [← hsi.out]; rfl)
          have t2 : ∀ q : Ev (S 0), q.w.cell? ⟨b2, i * 8 + 2, none⟩ = some (.int .i64 si.strong) := fun q => by simpa using (((hS0 _).1 q.h).2).cellAt i h7 2 (.int .i64 si.strong) (by rw [← hsi.out]; rfl)
          have t3 : ∀ q : Ev (S 0), q.w.cell? ⟨b2, i * 8 + 3, none⟩ = some (.int .i64 si.spin) := fun q => by simpa using (((hS0 _).1 q.h).2).cellAt i h7 3 (.int .i64 si.spin) (by rw [← hsi.out]; rfl)
          have t4 : ∀ q : Ev (S 0), q.w.cell? ⟨b2, i * 8 + 4, none⟩ = some (.int .i64 si.shape) := fun q => by simpa using (((hS0 _).1 q.h).2).cellAt i h7 4 (.int .i64 si.shape) (by rw [← hsi.out]; rfl)
          have t5 : ∀ q : Ev (S 0), q.w.cell? ⟨b2, i * 8 + 5, none⟩ = some (.bool si.pile) := fun q => by simpa using (((hS0 _).1 q.h).2).cellAt i h7 5 (.bool si.pile) (by rw [← hsi.out]; rfl)
          have t6 : ∀ q : Ev (S 0), q.w.cell? ⟨b2, i * 8 + 6, none⟩ = some (.int .i64 si.speed) := fun q => by simpa using (((hS0 _).1 q.h).2).cellAt i h7 6 (.int .i64 si.speed) (by rw [← hsi.out]; rfl)
          have t7 : ∀ q : Ev (S 0), q.w.cell? ⟨b2, i * 8 + 7, none⟩ = some (.int .i64 si.slope) := fun q => by simpa using (((hS0 _).1 q.h).2).cellAt i h7 7 (.int .i64 si.slope) (by rw [← hsi.out]; rfl)
          have hevT := ev_true
          refine wp_region_ord S [(0, 0), (1, 0), (2, 0), (3, 1), (4, 0), (5, 0), (6, 0), (7, 1), (8, 2), (9, 0), (10, 0), (11, 0), (12, 0), (13, 0), (14, 0), (15, 0)] [] (by kernel_rfl) (by kernel_rfl) ((hS0 _).2 ⟨hcg, Q1⟩) ?_
          intro _hev
          iterate 8 (first | (refine wpOrd_v rfl rfl ?_; intro K hK; go_big_quiet_op; go_big_quiet_on) | (refine wpOrd_q rfl rfl ?_; intro K hK; go_big_quiet_op; go_big_quiet_on) | refine wpOrd_s (by decide) rfl rfl ?_)
          refine wpOrd_l rfl rfl ?_; intro K hK
          go_step
          refine (blast_Ends_any Ag cg gg si _ hRg hbr).mono ?_
          rintro e w9 ⟨⟨n1, x1, y1, rfl, hn1⟩, k9⟩
          replace Q1 := Q1.kpN k9
          replace Q2 := Q2.kpN k9
          replace Q3 := Q3.kpN k9
          replace hRg := hRg.kpN k9
          replace hcg := (k9.cell b1 i m1 (by simp)).trans hcg
          replace m1 := Nat.lt_of_lt_of_le m1 k9.size
          replace KK := KK.thenN k9 (Nat.le_refl _)
          replace hbr := hbr.kpN k9
          refine hK _ _ ((hS0 _).2 ⟨hcg, Q1⟩) ?_
          clear hK K k9
          iterate 7 (first | (refine wpOrd_v rfl rfl ?_; intro K hK; go_big_quiet_op; go_big_quiet_on) | (refine wpOrd_q rfl rfl ?_; intro K hK; go_big_quiet_op; go_big_quiet_on) | refine wpOrd_s (by decide) rfl rfl ?_)
          refine wpOrd_nil ?_
          clear hevT _hev
          clear cA t0 t1 t2 t3 t4 t5 t6 t7 hS0 S
          go_wp2_with fail
          replace hbr : Bnd w9.drew := hbr
          replace Q1 := Q1.drew
          replace Q2 := Q2.drew
          replace Q3 := Q3.drew
          replace hRg := hRg.drew
          replace hcg : w9.drew.cell? _ = _ := hcg
          replace m1 : _ < w9.drew.heap.size := m1
          replace KK := KK.drew
          obtain ⟨S, hS⟩ : ∃ S : Nat → World → Prop, S = fun _ w' => w'.cell? ⟨b1, i, none⟩ = some (.slice Ag gg.length cg) ∧ Rd none w' 8 encStone (some ⟨b2, 0, none⟩) 2 [s, s0] := ⟨_, rfl⟩
          have hS0 : ∀ w', S 0 w' ↔ (w'.cell? ⟨b1, i, none⟩ = some (.slice Ag gg.length cg) ∧ Rd none w' 8 encStone (some ⟨b2, 0, none⟩) 2 [s, s0]) := fun w' => by rw [hS]
          clear hS
          have cA : ∀ q : Ev (S 0), q.w.cell? ⟨b1, i, none⟩ = some (.slice Ag gg.length cg) := fun q => ((hS0 _).1 q.h).1
          have t0 : ∀ q : Ev (S 0), q.w.cell? ⟨b2, i * 8, none⟩ = some (.int .i64 si.size) := fun q => by simpa using (((hS0 _).1 q.h).2).cellAt i h7 0 (.int .i64 si.size) (by rw [← hsi.out]; rfl)
          have t1 : ∀ q : Ev (S 0), q.w.cell? ⟨b2, i * 8 + 1, none⟩ = some (.int .i64 si.dens) := fun q => by simpa using (((hS0 _).1 q.h).2).cellAt i h7 1 (.int .i64 si.dens) (by rw [← hsi.out]; rfl)
          have t2 : ∀ q : Ev (S 0), q.w.cell? ⟨b2, i * 8 + 2, none⟩ = some (.int .i64 si.strong) := fun q => by simpa using (((hS0 _).1 q.h).2).cellAt i h7 2 (.int .i64 si.strong) (by rw [← hsi.out]; rfl)
          have t3 : ∀ q : Ev (S 0), q.w.cell? ⟨b2, i * 8 + 3, none⟩ = some (.int .i64 si.spin) := fun q => by simpa using (((hS0 _).1 q.h).2).cellAt i h7 3 (.int .i64 si.spin) (by rw [← hsi.out]; rfl)
          have t4 : ∀ q : Ev (S 0), q.w.cell? ⟨b2, i * 8 + 4, none⟩ = some (.int .i64 si.shape) := fun q => by simpa using (((hS0 _).1 q.h).2).cellAt i h7 4 (.int .i64 si.shape) (by rw [← hsi.out]; rfl)
          have t5 : ∀ q : Ev (S 0), q.w.cell? ⟨b2, i * 8 + 5, none⟩ = some (.bool si.pile) := fun q => by simpa using (((hS0 _).1 q.h).2).cellAt i h7 5 (.bool si.pile) (by rw [← hsi.out]; rfl)
          have t6 : ∀ q : Ev (S 0), q.w.cell? ⟨b2, i * 8 + 6, none⟩ = some (.int .i64 si.speed) := fun q => by simpa using (((hS0 _).1 q.h).2).cellAt i h7 6 (.int .i64 si.speed) (by rw [← hsi.out]; rfl)
          have t7 : ∀ q : Ev (S 0), q.w.cell? ⟨b2, i * 8 + 7, none⟩ = some (.int .i64 si.slope) := fun q => by simpa using (((hS0 _).1 q.h).2).cellAt i h7 7 (.int .i64 si.slope) (by rw [← hsi.out]; rfl)
          have hevT := ev_true
          refine wp_region_ord S [(0, 0), (1, 0), (2, 0), (3, 1), (4, 0), (5, 0), (6, 0), (7, 1), (8, 2), (9, 0), (10, 0), (11, 0), (12, 0), (13, 0), (14, 0), (15, 0)] [] (by kernel_rfl) (by kernel_rfl) ((hS0 _).2 ⟨hcg, Q1⟩) ?_
          intro _hev
          iterate 8 (first | (refine wpOrd_v rfl rfl ?_; intro K hK; go_big_quiet_op; go_big_quiet_on) | (refine wpOrd_q rfl rfl ?_; intro K hK; go_big_quiet_op; go_big_quiet_on) | refine wpOrd_s (by decide) rfl rfl ?_)
          refine wpOrd_l rfl rfl ?_; intro K hK
          go_step
          refine (ref_Ends_any Ag cg gg si _ hRg).mono ?_
          rintro e w9 ⟨⟨n2, x2, y2, rfl, hn2⟩, k9⟩
          obtain ⟨e1, e2, e3⟩ := endsChk_one hn2 hn1
          subst e1 e2 e3
          clear hn1 hn2
          replace Q1 := Q1.kpN k9
          replace Q2 := Q2.kpN k9
          replace Q3 := Q3.kpN k9
          replace hRg := hRg.kpN k9
          replace hcg := (k9.cell b1 i m1 (by simp)).trans hcg
          replace m1 := Nat.lt_of_lt_of_le m1 k9.size
          replace KK := KK.thenN k9 (Nat.le_refl _)
          replace hbr := hbr.kpN k9
          refine hK _ _ ((hS0 _).2 ⟨hcg, Q1⟩) ?_
          clear hK K k9
          iterate 7 (first | (refine wpOrd_v rfl rfl ?_; intro K hK; go_big_quiet_op; go_big_quiet_on) | (refine wpOrd_q rfl rfl ?_; intro K hK; go_big_quiet_op; go_big_quiet_on) | refine wpOrd_s (by decide) rfl rfl ?_)
          refine wpOrd_nil ?_
          clear hevT _hev
          clear cA t0 t1 t2 t3 t4 t5 t6 t7 hS0 S
          go_wp2_with fail
          replace hbr : Bnd w9.drew := hbr
          replace Q1 := Q1.drew
          replace Q2 := Q2.drew
          replace Q3 := Q3.drew
          replace hRg := hRg.drew
          replace hcg : w9.drew.cell? _ = _ := hcg
          replace m1 : _ < w9.drew.heap.size := m1
          replace KK := KK.drew
          obtain ⟨S, hS⟩ : ∃ S : Nat → World → Prop, S = fun _ w' => w'.cell? ⟨b1, i, none⟩ = some (.slice Ag gg.length cg) ∧ Rd none w' 11 encRock (some ⟨b3, 0, none⟩) 2 [r, r2] ∧ Rd none w' 4 encFall (some ⟨b4, 0, none⟩) 2 [f, f2] := ⟨_, rfl⟩
          have hS0 : ∀ w', S 0 w' ↔ (w'.cell? ⟨b1, i, none⟩ = some (.slice Ag gg.length cg) ∧ Rd none w' 11 encRock (some ⟨b3, 0, none⟩) 2 [r, r2] ∧ Rd none w' 4 encFall (some ⟨b4, 0, none⟩) 2 [f, f2]) := fun w' => by rw [hS]
          clear hS
          have cA : ∀ q : Ev (S 0), q.w.cell? ⟨b1, i, none⟩ = some (.slice Ag gg.length cg) := fun q => ((hS0 _).1 q.h).1
          have t0 : ∀ q : Ev (S 0), q.w.cell? ⟨b3, i * 11, none⟩ = some (.int .i64 ri.size.lo) := fun q => by simpa using (((hS0 _).1 q.h).2.1).cellAt i h7 0 (.int .i64 ri.size.lo) (by rw [← hri.out]; rfl)
          have t1 : ∀ q : Ev (S 0), q.w.cell? ⟨b3, i * 11 + 1, none⟩ = some (.int .i64 ri.size.hi) := fun q => by simpa using (((hS0 _).1 q.h).2.1).cellAt i h7 1 (.int .i64 ri.size.hi) (by rw [← hri.out]; rfl)
          have t2 : ∀ q : Ev (S 0), q.w.cell? ⟨b3, i * 11 + 2, none⟩ = some (.int .i64 ri.dens.lo) := fun q => by simpa using (((hS0 _).1 q.h).2.1).cellAt i h7 2 (.int .i64 ri.dens.lo) (by rw [← hri.out]; rfl)
          have t3 : ∀ q : Ev (S 0), q.w.cell? ⟨b3, i * 11 + 3, none⟩ = some (.int .i64 ri.dens.hi) := fun q => by simpa using (((hS0 _).1 q.h).2.1).cellAt i h7 3 (.int .i64 ri.dens.hi) (by rw [← hri.out]; rfl)
          have t4 : ∀ q : Ev (S 0), q.w.cell? ⟨b3, i * 11 + 4, none⟩ = some (.int .i64 ri.strong.lo) := fun q => by simpa using (((hS0 _).1 q.h).2.1).cellAt i h7 4 (.int .i64 ri.strong.lo) (by rw [← hri.out]; rfl)
          have t5 : ∀ q : Ev (S 0), q.w.cell? ⟨b3, i * 11 + 5, none⟩ = some (.int .i64 ri.strong.hi) := fun q => by simpa using (((hS0 _).1 q.h).2.1).cellAt i h7 5 (.int .i64 ri.strong.hi) (by rw [← hri.out]; rfl)
          have t6 : ∀ q : Ev (S 0), q.w.cell? ⟨b3, i * 11 + 6, none⟩ = some (.int .i64 ri.spin.lo) := fun q => by simpa using (((hS0 _).1 q.h).2.1).cellAt i h7 6 (.int .i64 ri.spin.lo) (by rw [← hri.out]; rfl)
          have t7 : ∀ q : Ev (S 0), q.w.cell? ⟨b3, i * 11 + 7, none⟩ = some (.int .i64 ri.spin.hi) := fun q => by simpa using (((hS0 _).1 q.h).2.1).cellAt i h7 7 (.int .i64 ri.spin.hi) (by rw [← hri.out]; rfl)
          have t8 : ∀ q : Ev (S 0), q.w.cell? ⟨b3, i * 11 + 8, none⟩ = some (.int .i64 ri.shape.lo) := fun q => by simpa using (((hS0 _).1 q.h).2.1).cellAt i h7 8 (.int .i64 ri.shape.lo) (by rw [← hri.out]; rfl)
          have t9 : ∀ q : Ev (S 0), q.w.cell? ⟨b3, i * 11 + 9, none⟩ = some (.int .i64 ri.shape.hi) := fun q => by simpa using (((hS0 _).1 q.h).2.1).cellAt i h7 9 (.int .i64 ri.shape.hi) (by rw [← hri.out]; rfl)
          have t10 : ∀ q : Ev (S 0), q.w.cell? ⟨b3, i * 11 + 10, none⟩ = some (.bool ri.pile) := fun q => by simpa using (((hS0 _).1 q.h).2.1).cellAt i h7 10 (.bool ri.pile) (by rw [← hri.out]; rfl)
          have u0 : ∀ q : Ev (S 0), q.w.cell? ⟨b4, i * 4, none⟩ = some (.int .i64 fi.speed.lo) := fun q => by simpa using (((hS0 _).1 q.h).2.2).cellAt i h7 0 (.int .i64 fi.speed.lo) (by rw [← hfi.out]; rfl)
          have u1 : ∀ q : Ev (S 0), q.w.cell? ⟨b4, i * 4 + 1, none⟩ = some (.int .i64 fi.speed.hi) := fun q => by simpa using (((hS0 _).1 q.h).2.2).cellAt i h7 1 (.int .i64 fi.speed.hi) (by rw [← hfi.out]; rfl)
          have u2 : ∀ q : Ev (S 0), q.w.cell? ⟨b4, i * 4 + 2, none⟩ = some (.int .i64 fi.slope.lo) := fun q => by simpa using (((hS0 _).1 q.h).2.2).cellAt i h7 2 (.int .i64 fi.slope.lo) (by rw [← hfi.out]; rfl)
          have u3 : ∀ q : Ev (S 0), q.w.cell? ⟨b4, i * 4 + 3, none⟩ = some (.int .i64 fi.slope.hi) := fun q => by simpa using (((hS0 _).1 q.h).2.2).cellAt i h7 3 (.int .i64 fi.slope.hi) (by rw [← hfi.out]; rfl)
          have hevT := ev_true
          refine wp_region_ord S [(0, 0), (1, 0), (2, 0), (3, 1), (4, 0), (5, 0), (6, 0), (7, 1), (8, 0), (9, 0), (10, 0), (11, 1), (12, 2), (13, 0), (14, 0), (15, 0), (16, 0), (17, 0)] [] (by kernel_rfl) (by kernel_rfl) ((hS0 _).2 ⟨hcg, Q2, Q3⟩) ?_
          intro _hev
          iterate 12 (first | (refine wpOrd_v rfl rfl ?_; intro K hK; go_big_quiet_op; go_big_quiet_on) | (refine wpOrd_q rfl rfl ?_; intro K hK; go_big_quiet_op; go_big_quiet_on) | refine wpOrd_s (by decide) rfl rfl ?_)
          refine wpOrd_l rfl rfl ?_; intro K hK
          go_step
          refine (blast_Blows_any Ag cg gg ri fi _ hRg hbr).mono ?_
          rintro e w9 ⟨⟨A9, c9, bl, n3, rfl, hRb, hn3⟩, k9⟩
          replace Q1 := Q1.kpN k9
          replace Q2 := Q2.kpN k9
          replace Q3 := Q3.kpN k9
          replace hRg := hRg.kpN k9
          replace hcg := (k9.cell b1 i m1 (by simp)).trans hcg
          replace m1 := Nat.lt_of_lt_of_le m1 k9.size
          replace KK := KK.thenN k9 (Nat.le_refl _)
          replace hbr := hbr.kpN k9
          refine hK _ _ ((hS0 _).2 ⟨hcg, Q2, Q3⟩) ?_
          clear hK K k9
          iterate 5 (first | (refine wpOrd_v rfl rfl ?_; intro K hK; go_big_quiet_op; go_big_quiet_on) | (refine wpOrd_q rfl rfl ?_; intro K hK; go_big_quiet_op; go_big_quiet_on) | refine wpOrd_s (by decide) rfl rfl ?_)
          refine wpOrd_nil ?_
          clear hevT _hev
          clear cA t0 t1 t2 t3 t4 t5 t6 t7 t8 t9 t10 u0 u1 u2 u3 hS0 S
          go_wp2_with fail
          replace hRb := hRb.drew
          replace hbr : Bnd w9.drew := hbr
          replace Q1 := Q1.drew
          replace Q2 := Q2.drew
          replace Q3 := Q3.drew
          replace hRg := hRg.drew
          replace hcg : w9.drew.cell? _ = _ := hcg
          replace m1 : _ < w9.drew.heap.size := m1
          replace KK := KK.drew
          obtain ⟨S, hS⟩ : ∃ S : Nat → World → Prop, S = fun _ w' => w'.cell? ⟨b1, i, none⟩ = some (.slice Ag gg.length cg) ∧ Rd none w' 11 encRock (some ⟨b3, 0, none⟩) 2 [r, r2] ∧ Rd none w' 4 encFall (some ⟨b4, 0, none⟩) 2 [f, f2] := ⟨_, rfl⟩
          have hS0 : ∀ w', S 0 w' ↔ (w'.cell? ⟨b1, i, none⟩ = some (.slice Ag gg.length cg) ∧ Rd none w' 11 encRock (some ⟨b3, 0, none⟩) 2 [r, r2] ∧ Rd none w' 4 encFall (some ⟨b4, 0, none⟩) 2 [f, f2]) := fun w' => by rw [hS]
          clear hS
          have cA : ∀ q : Ev (S 0), q.w.cell? ⟨b1, i, none⟩ = some (.slice Ag gg.length cg) := fun q => ((hS0 _).1 q.h).1
          have t0 : ∀ q : Ev (S 0), q.w.cell? ⟨b3, i * 11, none⟩ = some (.int .i64 ri.size.lo) := fun q => by simpa using (((hS0 _).1 q.h).2.1).cellAt i h7 0 (.int .i64 ri.size.lo) (by rw [← hri.out]; rfl)
          have t1 : ∀ q : Ev (S 0), q.w.cell? ⟨b3, i * 11 + 1, none⟩ = some (.int .i64 ri.size.hi) := fun q => by simpa using (((hS0 _).1 q.h).2.1).cellAt i h7 1 (.int .i64 ri.size.hi) (by rw [← hri.out]; rfl)
          have t2 : ∀ q : Ev (S 0), q.w.cell? ⟨b3, i * 11 + 2, none⟩ = some (.int .i64 ri.dens.lo) := fun q => by simpa using (((hS0 _).1 q.h).2.1).cellAt i h7 2 (.int .i64 ri.dens.lo) (by rw [← hri.out]; rfl)
          have t3 : ∀ q : Ev (S 0), q.w.cell? ⟨b3, i * 11 + 3, none⟩ = some (.int .i64 ri.dens.hi) := fun q => by simpa using (((hS0 _).1 q.h).2.1).cellAt i h7 3 (.int .i64 ri.dens.hi) (by rw [← hri.out]; rfl)
          have t4 : ∀ q : Ev (S 0), q.w.cell? ⟨b3, i * 11 + 4, none⟩ = some (.int .i64 ri.strong.lo) := fun q => by simpa using (((hS0 _).1 q.h).2.1).cellAt i h7 4 (.int .i64 ri.strong.lo) (by rw [← hri.out]; rfl)
          have t5 : ∀ q : Ev (S 0), q.w.cell? ⟨b3, i * 11 + 5, none⟩ = some (.int .i64 ri.strong.hi) := fun q => by simpa using (((hS0 _).1 q.h).2.1).cellAt i h7 5 (.int .i64 ri.strong.hi) (by rw [← hri.out]; rfl)
          have t6 : ∀ q : Ev (S 0), q.w.cell? ⟨b3, i * 11 + 6, none⟩ = some (.int .i64 ri.spin.lo) := fun q => by simpa using (((hS0 _).1 q.h).2.1).cellAt i h7 6 (.int .i64 ri.spin.lo) (by rw [← hri.out]; rfl)
          have t7 : ∀ q : Ev (S 0), q.w.cell? ⟨b3, i * 11 + 7, none⟩ = some (.int .i64 ri.spin.hi) := fun q => by simpa using (((hS0 _).1 q.h).2.1).cellAt i h7 7 (.int .i64 ri.spin.hi) (by rw [← hri.out]; rfl)
          have t8 : ∀ q : Ev (S 0), q.w.cell? ⟨b3, i * 11 + 8, none⟩ = some (.int .i64 ri.shape.lo) := fun q => by simpa using (((hS0 _).1 q.h).2.1).cellAt i h7 8 (.int .i64 ri.shape.lo) (by rw [← hri.out]; rfl)
          have t9 : ∀ q : Ev (S 0), q.w.cell? ⟨b3, i * 11 + 9, none⟩ = some (.int .i64 ri.shape.hi) := fun q => by simpa using (((hS0 _).1 q.h).2.1).cellAt i h7 9 (.int .i64 ri.shape.hi) (by rw [← hri.out]; rfl)
          have t10 : ∀ q : Ev (S 0), q.w.cell? ⟨b3, i * 11 + 10, none⟩ = some (.bool ri.pile) := fun q => by simpa using (((hS0 _).1 q.h).2.1).cellAt i h7 10 (.bool ri.pile) (by rw [← hri.out]; rfl)
          have u0 : ∀ q : Ev (S 0), q.w.cell? ⟨b4, i * 4, none⟩ = some (.int .i64 fi.speed.lo) := fun q => by simpa using (((hS0 _).1 q.h).2.2).cellAt i h7 0 (.int .i64 fi.speed.lo) (by rw [← hfi.out]; rfl)
          have u1 : ∀ q : Ev (S 0), q.w.cell? ⟨b4, i * 4 + 1, none⟩ = some (.int .i64 fi.speed.hi) := fun q => by simpa using (((hS0 _).1 q.h).2.2).cellAt i h7 1 (.int .i64 fi.speed.hi) (by rw [← hfi.out]; rfl)
          have u2 : ∀ q : Ev (S 0), q.w.cell? ⟨b4, i * 4 + 2, none⟩ = some (.int .i64 fi.slope.lo) := fun q => by simpa using (((hS0 _).1 q.h).2.2).cellAt i h7 2 (.int .i64 fi.slope.lo) (by rw [← hfi.out]; rfl)
          have u3 : ∀ q : Ev (S 0), q.w.cell? ⟨b4, i * 4 + 3, none⟩ = some (.int .i64 fi.slope.hi) := fun q => by simpa using (((hS0 _).1 q.h).2.2).cellAt i h7 3 (.int .i64 fi.slope.hi) (by rw [← hfi.out]; rfl)
          have hevT := ev_true
          refine wp_region_ord S [(0, 0), (1, 0), (2, 0), (3, 1), (4, 0), (5, 0), (6, 0), (7, 1), (8, 0), (9, 0), (10, 0), (11, 1), (12, 2), (13, 0), (14, 0), (15, 0), (16, 0), (17, 0)] [] (by kernel_rfl) (by kernel_rfl) ((hS0 _).2 ⟨hcg, Q2, Q3⟩) ?_
          intro _hev
          iterate 12 (first | (refine wpOrd_v rfl rfl ?_; intro K hK; go_big_quiet_op; go_big_quiet_on) | (refine wpOrd_q rfl rfl ?_; intro K hK; go_big_quiet_op; go_big_quiet_on) | refine wpOrd_s (by decide) rfl rfl ?_)
          refine wpOrd_l rfl rfl ?_; intro K hK
          go_step
          refine (ref_Blows_any Ag cg gg ri fi _ hRg).mono ?_
          rintro e w9 ⟨⟨A8, c8, bl2, n4, rfl, hRb2, hn4⟩, k9⟩
          obtain ⟨e1, e2⟩ := blowsChk_one hn4 hn3
          subst e1 e2
          have hlen := blowsChk_len hn3
          replace hRb := hRb.kpN k9
          clear hn3 hn4
          replace Q1 := Q1.kpN k9
          replace Q2 := Q2.kpN k9
          replace Q3 := Q3.kpN k9
          replace hRg := hRg.kpN k9
          replace hcg := (k9.cell b1 i m1 (by simp)).trans hcg
          replace m1 := Nat.lt_of_lt_of_le m1 k9.size
          replace KK := KK.thenN k9 (Nat.le_refl _)
          replace hbr := hbr.kpN k9
          refine hK _ _ ((hS0 _).2 ⟨hcg, Q2, Q3⟩) ?_
          clear hK K k9
          iterate 5 (first | (refine wpOrd_v rfl rfl ?_; intro K hK; go_big_quiet_op; go_big_quiet_on) | (refine wpOrd_q rfl rfl ?_; intro K hK; go_big_quiet_op; go_big_quiet_on) | refine wpOrd_s (by decide) rfl rfl ?_)
          refine wpOrd_nil ?_
          clear hevT _hev
          clear cA t0 t1 t2 t3 t4 t5 t6 t7 t8 t9 t10 u0 u1 u2 u3 hS0 S
          go_wp2_with fail
          refine (kit_SameBlows_any A9 A8 c9 c8 bl2 bl2 _ hRb hRb2 (by omega)).mono ?_
          rintro e w10 ⟨⟨b, rfl, hbb⟩, k10⟩
          obtain rfl : b = true := hbb.2 rfl
          replace KK := KK.thenN k10 (Nat.le_refl _)
          go_wp2
          go_roundw
          case rel => exact ⟨i + 1, rfl, by omega, KK⟩
          case measure => simp [intOf]; omega
        · have h7' : ¬ (i : Int) < 2 := by omega
          have hb9 : Bnd wr := (hb.kpN hKK).kpN KK
          go_wp2_with fail
          refine (awake_any _ hb9).mono ?_
          rintro e w11 ⟨rfl, k11⟩
          have K11 := (hKK.thenN KK (Nat.le_refl _)).thenN k11 (Nat.le_refl _)
          go_wp2
          exact bodyPost_ret (v := .bool true) (by simp [results, Tryd.results8, go_sem]) rfl ⟨rfl, K11⟩
end Go.Proofs.YtdiigflbohbndaaDoor
