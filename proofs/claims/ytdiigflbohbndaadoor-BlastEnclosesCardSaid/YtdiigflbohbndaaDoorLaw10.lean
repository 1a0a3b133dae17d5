/- The statement on stones of a rock: its walk. -/
import Derived.Test.YtdiigflbohbndaaDoorMade
import Derived.Test.YtdiigflbohbndaaDoorSep
import Derived.Test.YtdiigflbohbndaaDoorRock2
namespace Go.Proofs.YtdiigflbohbndaaDoor
open Go.RowKit

structure M10 where
  A1 : Option Addr
  c1 : Nat
  l2 : List Layer
  A2 : Option Addr
  c2 : Nat
  gs2 : List Grade
  A3 : Option Addr
  c3 : Nat
  ps2 : List Int
  A4 : Option Addr
  c4 : Nat
  bs2 : List Bool
  s : Stone
  b8 : Nat
  m8 : Bool
  b9 : Nat
  m9 : Bool
def S10 (γ : M10) (j b : Nat) : Prop := match j with
  | 0 => ∃ ad, γ.A1 = some ad ∧ ad.block = b ∧ 0 < γ.l2.length
  | 1 => ∃ ad, γ.A2 = some ad ∧ ad.block = b ∧ 0 < γ.gs2.length
  | 2 => (∃ ad, γ.A3 = some ad ∧ ad.block = b ∧ 0 < γ.ps2.length) ∨ ∃ ad, γ.A4 = some ad ∧ ad.block = b ∧ 0 < γ.bs2.length
  | 3 => γ.m8 = true ∧ b = γ.b8
  | 4 => γ.m9 = true ∧ b = γ.b9
  | _ => False
def X1 (γ : M10) (g : Nat) (w : World) : Prop := Rd (some g) w 2 encLayer γ.A1 γ.l2.length γ.l2 ∧ γ.l2.length ≤ 6 ∧ ∀ x ∈ γ.l2, LayerOk x
def X3 (γ : M10) (g : Nat) (w : World) : Prop := Rd (some g) w 2 encGrade γ.A2 γ.gs2.length γ.gs2 ∧ GradesOk γ.gs2
def X5 (γ : M10) (g : Nat) (w : World) : Prop := Rd (some g) w 1 encI γ.A3 γ.ps2.length γ.ps2 ∧ Rd (some g) w 1 encB γ.A4 γ.bs2.length γ.bs2 ∧ 1 ≤ γ.ps2.length ∧ γ.ps2.length ≤ 16 ∧ γ.ps2.length ≤ γ.c3 ∧ LandOk γ.ps2 γ.bs2.length
def X10 (γ : M10) (B : Nat) (w : World) : Prop := γ.m8 = true ∧ B ≤ γ.b8 ∧ ∃ v v', Blk w γ.b8 54 #[v, v']
def X11 (γ : M10) (B : Nat) (w : World) : Prop := γ.m9 = true ∧ B ≤ γ.b9 ∧ ∃ x0 x1 x2 x3 x4 x5 x6 x7, Blk w γ.b9 36 #[x0, x1, x2, x3, x4, x5, x6, x7]
def X14 (γ : M10) (w : World) : Prop := Blk w γ.b8 54 #[.slice γ.A3 γ.ps2.length γ.c3, .slice γ.A4 γ.bs2.length γ.c4]
def X15 (γ : M10) (w : World) : Prop := Blk w γ.b9 36 #[.int .i64 γ.s.size, .int .i64 γ.s.dens, .int .i64 γ.s.strong, .int .i64 γ.s.spin, .int .i64 γ.s.shape, .bool γ.s.pile, .int .i64 γ.s.speed, .int .i64 γ.s.slope]
structure BB10 (r : Rock) (f : Fall) (nums : List Int) (g b1 B : Nat) (W : World) (γ : M10) (n : Nat) (w : World) : Prop where
  ring : ∃ k, k ≤ 200 + 100 * n ∧ RingAt w g nums k
  r : Blk w b1 28 #[.int .i64 r.size.lo, .int .i64 r.size.hi, .int .i64 r.dens.lo, .int .i64 r.dens.hi, .int .i64 r.strong.lo, .int .i64 r.strong.hi, .int .i64 r.spin.lo, .int .i64 r.spin.hi, .int .i64 r.shape.lo, .int .i64 r.shape.hi, .bool r.pile]
  f : Blk w (b1 + 1) 30 #[.int .i64 f.speed.lo, .int .i64 f.speed.hi, .int .i64 f.slope.lo, .int .i64 f.slope.hi]
  k : Kp W.heap.size none W w
  sep : Sep (S10 γ) w
  g : W.heap.size ≤ g ∧ g < b1 ∧ b1 + 1 < B ∧ B ≤ w.heap.size
section
variable {r : Rock} {f : Fall} {nums : List Int} {g b1 B n : Nat} {W w w' : World} {γ γ' : M10}
theorem X1.kp (h : X1 γ g w) (k : Kp w.heap.size (some g) w w') : X1 γ g w' := ⟨h.1.kp k, h.2⟩
theorem X3.kp (h : X3 γ g w) (k : Kp w.heap.size (some g) w w') : X3 γ g w' := ⟨h.1.kp k, h.2⟩
theorem X5.kp (h : X5 γ g w) (k : Kp w.heap.size (some g) w w') : X5 γ g w' := ⟨h.1.kp k, h.2.1.kp k, h.2.2⟩
theorem X10.kp (h : X10 γ B w) (k : Kp w.heap.size (some g) w w') (hg : g < B) : X10 γ B w' := ⟨h.1, h.2.1, h.2.2.imp fun _ q => q.imp fun _ q => q.kp k q.lt (sne (by have := h.2.1; omega))⟩
theorem X11.kp (h : X11 γ B w) (k : Kp w.heap.size (some g) w w') (hg : g < B) : X11 γ B w' := by
  obtain ⟨h1, h2, x0, x1, x2, x3, x4, x5, x6, x7, h3⟩ := h
  exact ⟨h1, h2, x0, x1, x2, x3, x4, x5, x6, x7, h3.kp k h3.lt (sne (by omega))⟩
theorem BB10.mono (h : BB10 r f nums g b1 B W γ n w) : BB10 r f nums g b1 B W γ (n + 1) w := by
  obtain ⟨⟨k, hk, hr⟩, h1, h2, h3, h4, h5⟩ := h
  exact ⟨⟨k, by omega, hr⟩, h1, h2, h3, h4, h5⟩
theorem BB10.kpN (h : BB10 r f nums g b1 B W γ n w) (k : Kp w.heap.size none w w') (hs : Sep (S10 γ') w') : BB10 r f nums g b1 B W γ' (n + 1) w' := by
  obtain ⟨⟨q, hq, hr⟩, h1, h2, h3, h4, h5⟩ := h
  exact ⟨⟨q, by omega, hr.kpN k⟩, h1.kpN k, h2.kpN k, h3.thenN k (Nat.le_refl _), hs, h5.1, h5.2.1, h5.2.2.1, Nat.le_trans h5.2.2.2 k.size⟩
theorem BB10.kpR (h : BB10 r f nums g b1 B W γ n w) (k : Kp w.heap.size (some g) w w') {q : Nat} (hq : q ≤ 200 + 100 * (n + 1)) (hr : RingAt w' g nums q) (hs : Sep (S10 γ') w') : BB10 r f nums g b1 B W γ' (n + 1) w' := by
  obtain ⟨_, h1, h2, h3, h4, h5⟩ := h
  exact ⟨⟨q, hq, hr⟩, h1.kp k h1.lt (sne (by omega)), h2.kp k h2.lt (sne (by omega)), h3.thenOwn k (Nat.le_refl _) h5.1, hs, h5.1, h5.2.1, h5.2.2.1, Nat.le_trans h5.2.2.2 k.size⟩
theorem X1.fill (h : X1 γ g w) (hs : Sep (S10 γ) w) {b k : Nat} (hk : k ≠ 0) (hb : S10 γ k b) (vs : List Value) : X1 γ g (fillAt w b 0 vs) :=
  ⟨h.1.fillOther (fun ad e hn he => hs.ap 0 k b (Ne.symm hk) ⟨ad, e, he, hn⟩ hb) vs 0 w, h.2⟩
theorem X3.fill (h : X3 γ g w) (hs : Sep (S10 γ) w) {b k : Nat} (hk : k ≠ 1) (hb : S10 γ k b) (vs : List Value) : X3 γ g (fillAt w b 0 vs) :=
  ⟨h.1.fillOther (fun ad e hn he => hs.ap 1 k b (Ne.symm hk) ⟨ad, e, he, hn⟩ hb) vs 0 w, h.2⟩
theorem X5.fill (h : X5 γ g w) (hs : Sep (S10 γ) w) {b k : Nat} (hk : k ≠ 2) (hb : S10 γ k b) (vs : List Value) : X5 γ g (fillAt w b 0 vs) :=
  ⟨h.1.fillOther (fun ad e hn he => hs.ap 2 k b (Ne.symm hk) (.inl ⟨ad, e, he, hn⟩) hb) vs 0 w, h.2.1.fillOther (fun ad e hn he => hs.ap 2 k b (Ne.symm hk) (.inr ⟨ad, e, he, hn⟩) hb) vs 0 w, h.2.2⟩
theorem BB10.fill (h : BB10 r f nums g b1 B W γ n w) {b : Nat} (hb : B ≤ b) (vs : List Value) : BB10 r f nums g b1 B W γ (n + 1) (fillAt w b 0 vs) := by
  obtain ⟨⟨q, hq, hr⟩, h1, h2, h3, h4, h5⟩ := h
  exact ⟨⟨q, by omega, RingAt.fill (by omega) vs 0 w hr⟩, h1.fillFar (by omega) vs 0, h2.fillFar (by omega) vs 0, h3.fill (by omega) vs 0, h4.fill b 0 vs, h5.1, h5.2.1, h5.2.2.1, by rw [fill_size]; exact h5.2.2.2⟩
end
theorem ends_made (A : Option Addr) (cap : Nat) (ls : List Layer) (s : Stone) (w : World) (h : Rd none w 2 encLayer A ls.length ls) (hb : Bnd w) (ha : AirOk ls) (hs : StoneOk s) :
    Calls Tryd.prog 20 #[.slice A ls.length cap, .agg #[.int .i64 s.size, .int .i64 s.dens, .int .i64 s.strong, .int .i64 s.spin, .int .i64 s.shape, .bool s.pile, .int .i64 s.speed, .int .i64 s.slope]] w fun e w' => e = .returned (.tuple #[.int .i64 (endsOf ls s).1, .int .i64 (endsOf ls s).2, .int .i64 0]) ∧ Kp w.heap.size none w w' :=
  (blast_Ends_any A cap ls s w h hb).mono fun e w' ⟨⟨n, x, y, h1, h2⟩, h3⟩ => by
    refine ⟨?_, h3⟩
    rcases h2 with ⟨_, _, rfl, rfl, rfl⟩ | ⟨h4, _⟩
    · exact h1
    · exact absurd ⟨ha, hs⟩ h4
theorem of_all {s : Stone} {r : Rock} {f : Fall} (hr : RockOk r f) (h : StoneIn s r f) (hs : StoneOk s) : OfAll s r f := by
  refine ⟨hs, rock_all hr, h.pile, fun i hi => ?_⟩
  obtain ⟨⟨a1, a2⟩, ⟨b1, b2⟩, ⟨c1, c2⟩, ⟨d1, d2⟩, ⟨e1, e2⟩, _, ⟨f1, f2⟩, ⟨g1, g2⟩⟩ := h
  rcases i with _ | _ | _ | _ | _ | _ | _ | i
  all_goals first | omega | skip
  all_goals
    simp only [rockSpan, stoneNum]
    constructor <;> assumption
set_option maxHeartbeats 400000 in
theorem inSpan_any (a : Span) (n : Int) (w : World) :
    Calls Tryd.prog 67 #[.agg #[.int .i64 a.lo, .int .i64 a.hi], .int .i64 n] w fun e w' => e = .returned (.bool (decide (a.lo ≤ n) && decide (n ≤ a.hi))) ∧ Kp w.heap.size none w w' := by
  have K := (Kp.refl w.heap.size none w).alloc (Nat.le_refl _) (.cells #[.int .i64 a.lo, .int .i64 a.hi] 26)
  go_enter Tryd.func67, Tryd.ntmps67
  go_wp2
  all_goals
    go_ret
    refine ⟨ret_bool ?_, K⟩
    rw [Bool.eq_iff_iff]
    simp
    try omega
def hit (L E : Int) (x : Blow) : Bool := decide (x.layer = L) && (decide (x.lo ≤ E) && decide (E ≤ x.hi))
theorem any_succ10 {α : Type} (p : α → Bool) (l : List α) (j : Nat) (hj : j < l.length) : (l.take (j + 1)).any p = ((l.take j).any p || p l[j]) := by
  rw [List.take_succ_eq_append_getElem hj, List.any_append]
  simp
def EncI (L E : Int) (bl : List Blow) (w0 : World) (v15 v16 : Value) (wr : World) : Prop :=
  ∃ j : Nat, v16 = .int .i64 j ∧ j ≤ bl.length ∧ v15 = .bool ((bl.take j).any (hit L E)) ∧ Kp w0.heap.size none w0 wr
def EncO (fr fi : Nat) (w0 : World) (v20 : Value) (wr : World) : Prop := ∃ a : Nat, v20 = .int .i64 a ∧ fr ≤ a ∧ a ≤ fi + 1 ∧ Kp w0.heap.size none w0 wr
set_option maxRecDepth 100000 in
set_option maxHeartbeats 4000000 in
theorem law_BlastEncloses_any (A : Option Addr) (cap : Nat) (nums : List Int) (w : World) (h : Rd none w 1 (fun x => [Value.int .i64 x]) A nums.length nums) (hn : nums.length ≤ 17592186044416) (hb : Bnd w) :
    Calls Tryd.prog 14 #[.slice A nums.length cap] w fun e w' => e = .returned (.bool true) ∧ Kp w.heap.size none w w' := by
  obtain ⟨W, hW⟩ : ∃ W, W = w := ⟨_, rfl⟩
  rw [← hW] at h hb ⊢
  clear hW
  go_enter Tryd.func14, Tryd.ntmps14
  go_wp2_with fail
  refine (newRing_any A cap nums _ h hn).mono ?_
  rintro e w1 ⟨g, rfl, hg, hr, K1⟩
  go_wp2_with fail
  refine (rockOf_any g nums 0 _ hr (by omega)).mono ?_
  rintro e w2 ⟨v, rfl, ⟨r, f, rfl, hrk, -⟩, hr2, k2⟩
  have K2 := K1.thenOwn k2 (Nat.le_refl _) hg
  clear k2 K1 hr h hn
  have hz2 : g < w2.heap.size := hr2.lt
  have hw2 : W.heap.size ≤ w2.heap.size := K2.size
  have KQ := (K2.alloc K2.size (.cells #[.int .i64 r.size.lo, .int .i64 r.size.hi, .int .i64 r.dens.lo, .int .i64 r.dens.hi, .int .i64 r.strong.lo, .int .i64 r.strong.hi, .int .i64 r.spin.lo, .int .i64 r.spin.hi, .int .i64 r.shape.lo, .int .i64 r.shape.hi, .bool r.pile] 28)).alloc (alloc_ge K2.size _) (.cells #[.int .i64 f.speed.lo, .int .i64 f.speed.hi, .int .i64 f.slope.lo, .int .i64 f.slope.hi] 30)
  have HR := (hr2.alloc (.cells #[.int .i64 r.size.lo, .int .i64 r.size.hi, .int .i64 r.dens.lo, .int .i64 r.dens.hi, .int .i64 r.strong.lo, .int .i64 r.strong.hi, .int .i64 r.spin.lo, .int .i64 r.spin.hi, .int .i64 r.shape.lo, .int .i64 r.shape.hi, .bool r.pile] 28)).alloc (.cells #[.int .i64 f.speed.lo, .int .i64 f.speed.hi, .int .i64 f.slope.lo, .int .i64 f.slope.hi] 30)
  have RB := (Blk.new w2 28 #[.int .i64 r.size.lo, .int .i64 r.size.hi, .int .i64 r.dens.lo, .int .i64 r.dens.hi, .int .i64 r.strong.lo, .int .i64 r.strong.hi, .int .i64 r.spin.lo, .int .i64 r.spin.hi, .int .i64 r.shape.lo, .int .i64 r.shape.hi, .bool r.pile]).alloc (.cells #[.int .i64 f.speed.lo, .int .i64 f.speed.hi, .int .i64 f.slope.lo, .int .i64 f.slope.hi] 30)
  have FB := Blk.newAt (w2.alloc (.cells #[.int .i64 r.size.lo, .int .i64 r.size.hi, .int .i64 r.dens.lo, .int .i64 r.dens.hi, .int .i64 r.strong.lo, .int .i64 r.strong.hi, .int .i64 r.spin.lo, .int .i64 r.spin.hi, .int .i64 r.shape.lo, .int .i64 r.shape.hi, .bool r.pile] 28)) 30 #[.int .i64 f.speed.lo, .int .i64 f.speed.hi, .int .i64 f.slope.lo, .int .i64 f.slope.hi] (n := w2.heap.size + 1) (by simp)
  clear hr2 K2
  go_wp2_with fail
  obtain ⟨b1, hb1⟩ : ∃ q, q = w2.heap.size := ⟨_, rfl⟩
  rw [← hb1] at RB FB hz2 hw2 ⊢
  generalize (w2.alloc (.cells #[.int .i64 r.size.lo, .int .i64 r.size.hi, .int .i64 r.dens.lo, .int .i64 r.dens.hi, .int .i64 r.strong.lo, .int .i64 r.strong.hi, .int .i64 r.spin.lo, .int .i64 r.spin.hi, .int .i64 r.shape.lo, .int .i64 r.shape.hi, .bool r.pile] 28)).alloc (.cells #[.int .i64 f.speed.lo, .int .i64 f.speed.hi, .int .i64 f.slope.lo, .int .i64 f.slope.hi] 30) = w3 at *
  clear hb1
  obtain ⟨B, hBe⟩ : ∃ B, B = w3.heap.size := ⟨_, rfl⟩
  have hb1B : b1 + 1 < B := by rw [hBe]; exact FB.lt
  refine wp_region_inv (Γ := M10) [none, none, none, none, none, none, some 12, some 13, some 10, some 11, none, none, none, none, none, none, none, none, none, none, none, none, none, none, none, none, none, none, none, none, some 0, some 1, some 2, some 3, some 4, some 5, some 6, some 7, some 8, some 9] [[], [0], [], [0, 1, 2], [], [0, 1, 2, 3, 4], [], [], [], [0, 1, 2, 3, 4, 5, 6, 7, 8], [], [], [0, 1, 2, 3, 4, 5, 6, 7, 8, 9, 10, 11], [0, 1, 2, 3, 4, 5, 6, 7, 8, 9, 10, 11, 12], [0, 1, 2, 3, 4, 5, 6, 7, 8, 9, 10, 11, 12, 13], [0, 1, 2, 3, 4, 5, 6, 7, 8, 9, 10, 11, 12, 13, 14]] [[2, 4, 6, 7, 8, 10, 11], [0, 2, 4, 6, 7, 8, 10, 11], [0, 1, 4, 6, 7, 8, 10, 11], [0, 1, 2, 4, 6, 7, 8, 10, 11], [0, 1, 2, 3, 6, 7, 8, 10, 11], [0, 1, 2, 3, 4, 6, 7, 8, 10, 11], [0, 1, 2, 3, 4, 5, 7, 8, 10, 11], [0, 1, 2, 3, 4, 5, 6, 8, 10, 11], [0, 1, 2, 3, 4, 5, 6, 7, 10, 11], [0, 1, 2, 3, 4, 5, 6, 7, 8, 10, 11], [0, 1, 2, 3, 4, 5, 6, 7, 8, 9, 11], [0, 1, 2, 3, 4, 5, 6, 7, 8, 9, 10], [0, 1, 2, 3, 4, 5, 6, 7, 8, 9, 10, 11], [0, 1, 2, 3, 4, 5, 6, 7, 8, 9, 10, 11, 12], [0, 1, 2, 3, 4, 5, 6, 7, 8, 9, 10, 11, 12, 13], [0, 1, 2, 3, 4, 5, 6, 7, 8, 9, 10, 11, 12, 13, 14]] (fun γ => [.pointer (some ⟨g, 0, none⟩), .slice γ.A1 γ.l2.length γ.c1, .pointer (some ⟨g, 0, none⟩), .slice γ.A2 γ.gs2.length γ.c2, .pointer (some ⟨g, 0, none⟩), .agg #[.slice γ.A3 γ.ps2.length γ.c3, .slice γ.A4 γ.bs2.length γ.c4], .pointer (some ⟨g, 0, none⟩), .agg #[.int .i64 r.size.lo, .int .i64 r.size.hi, .int .i64 r.dens.lo, .int .i64 r.dens.hi, .int .i64 r.strong.lo, .int .i64 r.strong.hi, .int .i64 r.spin.lo, .int .i64 r.spin.hi, .int .i64 r.shape.lo, .int .i64 r.shape.hi, .bool r.pile], .agg #[.int .i64 f.speed.lo, .int .i64 f.speed.hi, .int .i64 f.slope.lo, .int .i64 f.slope.hi], .agg #[.int .i64 γ.s.size, .int .i64 γ.s.dens, .int .i64 γ.s.strong, .int .i64 γ.s.spin, .int .i64 γ.s.shape, .bool γ.s.pile, .int .i64 γ.s.speed, .int .i64 γ.s.slope], .pointer (some ⟨γ.b8, 0, none⟩), .pointer (some ⟨γ.b9, 0, none⟩), .slice γ.A1 γ.l2.length γ.c1, .slice γ.A2 γ.gs2.length γ.c2, undef, undef]) (fun γ => [none, none, none, none, none, none, some (.slice γ.A1 γ.l2.length γ.c1), some (.slice γ.A2 γ.gs2.length γ.c2), some (.pointer (some ⟨γ.b8, 0, none⟩)), some (.pointer (some ⟨γ.b9, 0, none⟩)), none, none, none, none, none, none, none, none, none, none, none, none, none, none, none, none, none, none, none, none, some (.pointer (some ⟨g, 0, none⟩)), some (.slice γ.A1 γ.l2.length γ.c1), some (.pointer (some ⟨g, 0, none⟩)), some (.slice γ.A2 γ.gs2.length γ.c2), some (.pointer (some ⟨g, 0, none⟩)), some (.agg #[.slice γ.A3 γ.ps2.length γ.c3, .slice γ.A4 γ.bs2.length γ.c4]), some (.pointer (some ⟨g, 0, none⟩)), some (.agg #[.int .i64 r.size.lo, .int .i64 r.size.hi, .int .i64 r.dens.lo, .int .i64 r.dens.hi, .int .i64 r.strong.lo, .int .i64 r.strong.hi, .int .i64 r.spin.lo, .int .i64 r.spin.hi, .int .i64 r.shape.lo, .int .i64 r.shape.hi, .bool r.pile]), some (.agg #[.int .i64 f.speed.lo, .int .i64 f.speed.hi, .int .i64 f.slope.lo, .int .i64 f.slope.hi]), some (.agg #[.int .i64 γ.s.size, .int .i64 γ.s.dens, .int .i64 γ.s.strong, .int .i64 γ.s.spin, .int .i64 γ.s.shape, .bool γ.s.pile, .int .i64 γ.s.speed, .int .i64 γ.s.slope])]) ?A3_1 (fun n D γ w => BB10 r f nums g b1 B W γ n w) (fun k γ w => match k with | 1 => X1 γ g w | 3 => X3 γ g w | 5 => X5 γ g w | 9 => StoneIn γ.s r f | 10 => X10 γ B w | 11 => X11 γ B w | 14 => X14 γ w | 15 => X15 γ w | _ => True) ⟨none, 0, [], none, 0, [], none, 0, [], none, 0, [], ⟨0, 0, 0, 0, 0, false, 0, 0⟩, 0, false, 0, false⟩ (by kernel_rfl) (fun _ => rfl) ?hA3_1 (by kernel_rfl) ?hB03_1 ?hop3_1 ?hend3_1
  case hA3_1 => intro γ; dsimp only [fullV]; rfl
  case hB03_1 =>
    refine ⟨⟨_, by omega, HR.drew⟩, RB.drew, FB.drew, KQ.drew, ⟨fun j b hj => ?_, fun j k b hjk hj hk => ?_⟩, hg, hz2, hb1B, by rw [hBe]; exact Nat.le_refl _⟩
    · rcases j with _ | _ | _ | _ | _ | j <;> simp [S10] at hj
    · rcases j with _ | _ | _ | _ | _ | j <;> simp [S10] at hj
  case hop3_1 =>
    intro hA
    refine ⟨?_, ?_, ?_, ?_, ?_, ?_, ?_, ?_, ?_, ?_, ?_, ?_, ?_, ?_, ?_, ?_, trivial⟩
    · refine opOk_v hA (fun _ => rfl) (fun _ _ => trivial) ?_ ?_
      · intro n D γ w hn h
        replace hn : n < 16 := hn
        try dsimp only at h
        exact h.mono
      intro n D γ w hB hU K hK
      try dsimp only at hB
      try dsimp only
      clear hB hU
      go_step
      exact hK _ rfl
    · refine opOk_l hA (fun _ => rfl) ?_
      intro n D γ w hn hD hB hU K hK
      try dsimp only at hB
      clear hU
      replace hn : n < 16 := hn
      try dsimp only
      obtain ⟨k, hk, hR⟩ := hB.ring
      obtain ⟨q1, q2, q3, q4⟩ := hB.g
      go_step
      refine (layersOf_any g nums k _ hR (by omega)).mono ?_
      rintro e w5 ⟨v, k', rfl, ⟨A1, c1, l2, rfl, hG, hl6, hlo, hge⟩, hk', hR5, k5⟩
      have s1 : X1 γ g w → X1 γ g w5 := fun h => h.kp k5
      have s3 : X3 γ g w → X3 γ g w5 := fun h => h.kp k5
      have s5 : X5 γ g w → X5 γ g w5 := fun h => h.kp k5
      have s10 : X10 γ B w → X10 γ B w5 := fun h => h.kp k5 (by omega)
      have s11 : X11 γ B w → X11 γ B w5 := fun h => h.kp k5 (by omega)
      refine hK _ _ { γ with A1 := A1, c1 := c1, l2 := l2 } rfl (hB.kpR k5 (by omega) hR5 ?_) ⟨hG, hl6, hlo⟩ ?_
      · refine hB.sep.step 0 k5.size (fun j hj b hb => by rcases j with _ | _ | _ | _ | _ | j <;> first | exact absurd rfl hj | exact hb) ?_
        rintro b ⟨ad, e, rfl, hn0⟩
        obtain ⟨b', o', e', hb', -⟩ := hG.2 hn0
        dsimp only at e
        rw [e'] at e
        injection e with e
        subst e
        exact ⟨hge _ e', hb'⟩
      try dsimp only [allP, List.getD_cons_zero, List.getD_cons_succ]
      (repeat' apply And.intro) <;> first | exact rfl | exact trivial | exact id | assumption
    · refine opOk_v hA (fun _ => rfl) (fun _ _ => trivial) ?_ ?_
      · intro n D γ w hn h
        replace hn : n < 16 := hn
        try dsimp only at h
        exact h.mono
      intro n D γ w hB hU K hK
      try dsimp only at hB
      try dsimp only
      clear hB hU
      go_step
      exact hK _ rfl
    · refine opOk_l hA (fun _ => rfl) ?_
      intro n D γ w hn hD hB hU K hK
      try dsimp only at hB
      replace hU : (X1 γ g w) := hU.2.1
      replace hn : n < 16 := hn
      try dsimp only
      obtain ⟨k, hk, hR⟩ := hB.ring
      obtain ⟨q1, q2, q3, q4⟩ := hB.g
      go_step
      refine (gradesOf_any g nums k _ hR (by omega)).mono ?_
      rintro e w5 ⟨v, k', rfl, ⟨A2, c2, gs2, rfl, hG, hgs2, -, hge⟩, hk', hR5, k5⟩
      have s1 : X1 γ g w → X1 γ g w5 := fun h => h.kp k5
      have s3 : X3 γ g w → X3 γ g w5 := fun h => h.kp k5
      have s5 : X5 γ g w → X5 γ g w5 := fun h => h.kp k5
      have s10 : X10 γ B w → X10 γ B w5 := fun h => h.kp k5 (by omega)
      have s11 : X11 γ B w → X11 γ B w5 := fun h => h.kp k5 (by omega)
      refine hK _ _ { γ with A2 := A2, c2 := c2, gs2 := gs2 } rfl (hB.kpR k5 (by omega) hR5 ?_) ⟨hG, hgs2⟩ ?_
      · refine hB.sep.step 1 k5.size (fun j hj b hb => by rcases j with _ | _ | _ | _ | _ | j <;> first | exact absurd rfl hj | exact hb) ?_
        rintro b ⟨ad, e, rfl, hn0⟩
        obtain ⟨b', o', e', hb', -⟩ := hG.2 hn0
        dsimp only at e
        rw [e'] at e
        injection e with e
        subst e
        exact ⟨hge _ e', hb'⟩
      try dsimp only [allP, List.getD_cons_zero, List.getD_cons_succ]
      (repeat' apply And.intro) <;> first | exact rfl | exact trivial | exact id | assumption
    · refine opOk_v hA (fun _ => rfl) (fun _ _ => trivial) ?_ ?_
      · intro n D γ w hn h
        replace hn : n < 16 := hn
        try dsimp only at h
        exact h.mono
      intro n D γ w hB hU K hK
      try dsimp only at hB
      try dsimp only
      clear hB hU
      go_step
      exact hK _ rfl
    · refine opOk_l hA (fun _ => rfl) ?_
      intro n D γ w hn hD hB hU K hK
      try dsimp only at hB
      replace hU : (X1 γ g w) ∧ (X3 γ g w) := ⟨hU.2.1, hU.2.2.2.1⟩
      replace hn : n < 16 := hn
      try dsimp only
      obtain ⟨k, hk, hR⟩ := hB.ring
      obtain ⟨q1, q2, q3, q4⟩ := hB.g
      go_step
      refine (landOf_any g nums k _ hR (by omega)).mono ?_
      rintro e w5 ⟨v, k', rfl, ⟨A3, c3, A4, c4, ps2, bs2, rfl, hP, hQ, hbl, hp1, hp16, hpp, hc3, -, hge, hge'⟩, hk', hR5, k5⟩
      have s1 : X1 γ g w → X1 γ g w5 := fun h => h.kp k5
      have s3 : X3 γ g w → X3 γ g w5 := fun h => h.kp k5
      have s5 : X5 γ g w → X5 γ g w5 := fun h => h.kp k5
      have s10 : X10 γ B w → X10 γ B w5 := fun h => h.kp k5 (by omega)
      have s11 : X11 γ B w → X11 γ B w5 := fun h => h.kp k5 (by omega)
      refine hK _ _ { γ with A3 := A3, c3 := c3, A4 := A4, c4 := c4, ps2 := ps2, bs2 := bs2 } rfl (hB.kpR k5 (by omega) hR5 ?_) ⟨hP, hQ, hp1, hp16, hc3, land_made hbl hp1 hp16 hpp⟩ ?_
      · refine hB.sep.step 2 k5.size (fun j hj b hb => by rcases j with _ | _ | _ | _ | _ | j <;> first | exact absurd rfl hj | exact hb) ?_
        rintro b (⟨ad, e, rfl, hn0⟩ | ⟨ad, e, rfl, hn0⟩)
        · obtain ⟨b', o', e', hb', -⟩ := hP.2 hn0
          dsimp only at e
          rw [e'] at e
          injection e with e
          subst e
          exact ⟨hge _ e', hb'⟩
        · obtain ⟨b', o', e', hb', -⟩ := hQ.2 hn0
          dsimp only at e
          rw [e'] at e
          injection e with e
          subst e
          exact ⟨hge' _ e', hb'⟩
      try dsimp only [allP, List.getD_cons_zero, List.getD_cons_succ]
      (repeat' apply And.intro) <;> first | exact rfl | exact trivial | exact id | assumption
    · refine opOk_v hA (fun _ => rfl) (fun _ _ => trivial) ?_ ?_
      · intro n D γ w hn h
        replace hn : n < 16 := hn
        try dsimp only at h
        exact h.mono
      intro n D γ w hB hU K hK
      try dsimp only at hB
      try dsimp only
      clear hB hU
      go_step
      exact hK _ rfl
    · refine opOk_v hA (fun _ => rfl) (fun _ _ => trivial) ?_ ?_
      · intro n D γ w hn h
        replace hn : n < 16 := hn
        try dsimp only at h
        exact h.mono
      intro n D γ w hB hU K hK
      try dsimp only at hB
      try dsimp only
      have d1 := fun i => hB.r.cell i
      have d2 := fun i => hB.f.cell i
      clear hB hU
      go_step
      exact hK _ rfl
    · refine opOk_v hA (fun _ => rfl) (fun _ _ => trivial) ?_ ?_
      · intro n D γ w hn h
        replace hn : n < 16 := hn
        try dsimp only at h
        exact h.mono
      intro n D γ w hB hU K hK
      try dsimp only at hB
      try dsimp only
      have d1 := fun i => hB.r.cell i
      have d2 := fun i => hB.f.cell i
      clear hB hU
      go_step
      exact hK _ rfl
    · refine opOk_l hA (fun _ => rfl) ?_
      intro n D γ w hn hD hB hU K hK
      try dsimp only at hB
      replace hU : (X1 γ g w) ∧ (X3 γ g w) ∧ (X5 γ g w) := ⟨hU.2.1, hU.2.2.2.1, hU.2.2.2.2.2.1⟩
      replace hn : n < 16 := hn
      try dsimp only
      obtain ⟨k, hk, hR⟩ := hB.ring
      obtain ⟨q1, q2, q3, q4⟩ := hB.g
      go_step
      refine (stoneOf_any g nums k r f _ hR (by omega) hrk).mono ?_
      rintro e w5 ⟨v, rfl, ⟨s0, rfl, hs0⟩, hR5, k5⟩
      have s1 : X1 γ g w → X1 γ g w5 := fun h => h.kp k5
      have s3 : X3 γ g w → X3 γ g w5 := fun h => h.kp k5
      have s5 : X5 γ g w → X5 γ g w5 := fun h => h.kp k5
      have s10 : X10 γ B w → X10 γ B w5 := fun h => h.kp k5 (by omega)
      have s11 : X11 γ B w → X11 γ B w5 := fun h => h.kp k5 (by omega)
      refine hK _ _ { γ with s := s0 } rfl (hB.kpR k5 (by omega) hR5 (hB.sep.grow k5.size)) hs0 ?_
      try dsimp only [allP, List.getD_cons_zero, List.getD_cons_succ]
      (repeat' apply And.intro) <;> first | exact rfl | exact trivial | exact id | assumption
    · refine opOk_l hA (fun _ => rfl) ?_
      intro n D γ w hn hD hB hU K hK
      try dsimp only at hB
      clear hU
      replace hn : n < 16 := hn
      try dsimp only
      go_step
      obtain ⟨w5, hw5⟩ : ∃ w5, w5 = w.alloc (.cells #[.slice none 0 0, .slice none 0 0] 54) := ⟨_, rfl⟩
      have k5 : Kp w.heap.size none w w5 := hw5 ▸ (Kp.refl w.heap.size none w).alloc (Nat.le_refl _) _
      have hBn : Blk w5 w.heap.size 54 #[.slice none 0 0, .slice none 0 0] := hw5 ▸ Blk.new _ _ _
      change K _ (w.alloc (.cells #[.slice none 0 0, .slice none 0 0] 54))
      rw [← hw5]
      obtain ⟨q1, q2, q3, q4⟩ := hB.g
      have s1 : X1 γ g w → X1 γ g w5 := fun h => h.kp (k5.wide (some g))
      have s3 : X3 γ g w → X3 γ g w5 := fun h => h.kp (k5.wide (some g))
      have s5 : X5 γ g w → X5 γ g w5 := fun h => h.kp (k5.wide (some g))
      have s10 : X10 γ B w → X10 γ B w5 := fun h => h.kp (k5.wide (some g)) (by omega)
      have s11 : X11 γ B w → X11 γ B w5 := fun h => h.kp (k5.wide (some g)) (by omega)
      refine hK _ _ { γ with b8 := w.heap.size, m8 := true } rfl (hB.kpN k5 ?_) ⟨rfl, q4, _, _, hBn⟩ ?_
      · refine hB.sep.step 3 k5.size (fun j hj b hb => by rcases j with _ | _ | _ | _ | _ | j <;> first | exact absurd rfl hj | exact hb) ?_
        rintro b ⟨-, rfl⟩
        exact ⟨Nat.le_refl _, hBn.lt⟩
      try dsimp only [allP, List.getD_cons_zero, List.getD_cons_succ]
      (repeat' apply And.intro) <;> first | exact rfl | exact trivial | exact id | assumption
    · refine opOk_l hA (fun _ => rfl) ?_
      intro n D γ w hn hD hB hU K hK
      try dsimp only at hB
      clear hU
      replace hn : n < 16 := hn
      try dsimp only
      go_step
      obtain ⟨w5, hw5⟩ : ∃ w5, w5 = w.alloc (.cells #[.int .i64 0, .int .i64 0, .int .i64 0, .int .i64 0, .int .i64 0, .bool false, .int .i64 0, .int .i64 0] 36) := ⟨_, rfl⟩
      have k5 : Kp w.heap.size none w w5 := hw5 ▸ (Kp.refl w.heap.size none w).alloc (Nat.le_refl _) _
      have hBn : Blk w5 w.heap.size 36 #[.int .i64 0, .int .i64 0, .int .i64 0, .int .i64 0, .int .i64 0, .bool false, .int .i64 0, .int .i64 0] := hw5 ▸ Blk.new _ _ _
      change K _ (w.alloc (.cells #[.int .i64 0, .int .i64 0, .int .i64 0, .int .i64 0, .int .i64 0, .bool false, .int .i64 0, .int .i64 0] 36))
      rw [← hw5]
      obtain ⟨q1, q2, q3, q4⟩ := hB.g
      have s1 : X1 γ g w → X1 γ g w5 := fun h => h.kp (k5.wide (some g))
      have s3 : X3 γ g w → X3 γ g w5 := fun h => h.kp (k5.wide (some g))
      have s5 : X5 γ g w → X5 γ g w5 := fun h => h.kp (k5.wide (some g))
      have s10 : X10 γ B w → X10 γ B w5 := fun h => h.kp (k5.wide (some g)) (by omega)
      have s11 : X11 γ B w → X11 γ B w5 := fun h => h.kp (k5.wide (some g)) (by omega)
      refine hK _ _ { γ with b9 := w.heap.size, m9 := true } rfl (hB.kpN k5 ?_) ⟨rfl, q4, _, _, _, _, _, _, _, _, hBn⟩ ?_
      · refine hB.sep.step 4 k5.size (fun j hj b hb => by rcases j with _ | _ | _ | _ | _ | j <;> first | exact absurd rfl hj | exact hb) ?_
        rintro b ⟨-, rfl⟩
        exact ⟨Nat.le_refl _, hBn.lt⟩
      try dsimp only [allP, List.getD_cons_zero, List.getD_cons_succ]
      (repeat' apply And.intro) <;> first | exact rfl | exact trivial | exact id | assumption
    · refine opOk_v hA (fun _ => rfl) (fun _ _ => trivial) ?_ ?_
      · intro n D γ w hn h
        replace hn : n < 16 := hn
        try dsimp only at h
        exact h.mono
      intro n D γ w hB hU K hK
      try dsimp only at hB
      try dsimp only
      clear hB hU
      go_step
      exact hK _ rfl
    · refine opOk_v hA (fun _ => rfl) (fun _ _ => trivial) ?_ ?_
      · intro n D γ w hn h
        replace hn : n < 16 := hn
        try dsimp only at h
        exact h.mono
      intro n D γ w hB hU K hK
      try dsimp only at hB
      try dsimp only
      clear hB hU
      go_step
      exact hK _ rfl
    · refine opOk_l hA (fun _ => rfl) ?_
      intro n D γ w hn hD hB hU K hK
      try dsimp only at hB
      replace hU : (X1 γ g w) ∧ (X3 γ g w) ∧ (X5 γ g w) ∧ (StoneIn γ.s r f) ∧ (X10 γ B w) ∧ (X11 γ B w) := ⟨hU.2.1, hU.2.2.2.1, hU.2.2.2.2.2.1, hU.2.2.2.2.2.2.2.2.2.1, hU.2.2.2.2.2.2.2.2.2.2.1, hU.2.2.2.2.2.2.2.2.2.2.2.1⟩
      replace hn : n < 16 := hn
      try dsimp only
      obtain ⟨hx1, hx3, hx5, hx9, ⟨hm8, hb8, v, v', hBx⟩, hx11⟩ := hU
      have cX := fun i => hBx.cell i
      have fX := fun i => hBx.frozen i
      have hne89 : γ.b9 ≠ γ.b8 := fun e => hB.sep.ap 3 4 γ.b8 (by omega) ⟨hm8, rfl⟩ ⟨hx11.1, e.symm⟩
      go_step
      have s1 : X1 γ g w → X1 γ g (fillAt w γ.b8 0 [.slice γ.A3 γ.ps2.length γ.c3, .slice γ.A4 γ.bs2.length γ.c4]) := fun h => h.fill hB.sep (k := 3) (by omega) ⟨hm8, rfl⟩ _
      have s3 : X3 γ g w → X3 γ g (fillAt w γ.b8 0 [.slice γ.A3 γ.ps2.length γ.c3, .slice γ.A4 γ.bs2.length γ.c4]) := fun h => h.fill hB.sep (k := 3) (by omega) ⟨hm8, rfl⟩ _
      have s5 : X5 γ g w → X5 γ g (fillAt w γ.b8 0 [.slice γ.A3 γ.ps2.length γ.c3, .slice γ.A4 γ.bs2.length γ.c4]) := fun h => h.fill hB.sep (k := 3) (by omega) ⟨hm8, rfl⟩ _
      have F14 : X14 γ (fillAt w γ.b8 0 [.slice γ.A3 γ.ps2.length γ.c3, .slice γ.A4 γ.bs2.length γ.c4]) := Blk.fill2 _ _ hBx
      have s10 : X10 γ B w → X10 γ B (fillAt w γ.b8 0 [.slice γ.A3 γ.ps2.length γ.c3, .slice γ.A4 γ.bs2.length γ.c4]) := fun h => ⟨h.1, h.2.1, _, _, F14⟩
      have s11 : X11 γ B w → X11 γ B (fillAt w γ.b8 0 [.slice γ.A3 γ.ps2.length γ.c3, .slice γ.A4 γ.bs2.length γ.c4]) := fun ⟨h1, h2, x0, x1, x2, x3, x4, x5, x6, x7, h3⟩ => ⟨h1, h2, x0, x1, x2, x3, x4, x5, x6, x7, h3.fillFar hne89 _ 0⟩
      have hBf := hB.fill hb8 [.slice γ.A3 γ.ps2.length γ.c3, .slice γ.A4 γ.bs2.length γ.c4]
      refine hK _ (fillAt w γ.b8 0 [.slice γ.A3 γ.ps2.length γ.c3, .slice γ.A4 γ.bs2.length γ.c4]) γ rfl hBf F14 ?_
      try dsimp only [allP, List.getD_cons_zero, List.getD_cons_succ]
      (repeat' apply And.intro) <;> first | exact rfl | exact trivial | exact id | assumption
    · refine opOk_l hA (fun _ => rfl) ?_
      intro n D γ w hn hD hB hU K hK
      try dsimp only at hB
      replace hU : (X1 γ g w) ∧ (X3 γ g w) ∧ (X5 γ g w) ∧ (StoneIn γ.s r f) ∧ (X10 γ B w) ∧ (X11 γ B w) ∧ (X14 γ w) := ⟨hU.2.1, hU.2.2.2.1, hU.2.2.2.2.2.1, hU.2.2.2.2.2.2.2.2.2.1, hU.2.2.2.2.2.2.2.2.2.2.1, hU.2.2.2.2.2.2.2.2.2.2.2.1, hU.2.2.2.2.2.2.2.2.2.2.2.2.2.2.1⟩
      replace hn : n < 16 := hn
      try dsimp only
      obtain ⟨hx1, hx3, hx5, hx9, hx10, ⟨hm9, hb9, x0, x1, x2, x3, x4, x5, x6, x7, hBx⟩, hx14⟩ := hU
      have cX := fun i => hBx.cell i
      have fX := fun i => hBx.frozen i
      have hne89 : γ.b8 ≠ γ.b9 := fun e => hB.sep.ap 3 4 γ.b9 (by omega) ⟨hx10.1, e.symm⟩ ⟨hm9, rfl⟩
      go_step
      have s1 : X1 γ g w → X1 γ g (fillAt w γ.b9 0 [.int .i64 γ.s.size, .int .i64 γ.s.dens, .int .i64 γ.s.strong, .int .i64 γ.s.spin, .int .i64 γ.s.shape, .bool γ.s.pile, .int .i64 γ.s.speed, .int .i64 γ.s.slope]) := fun h => h.fill hB.sep (k := 4) (by omega) ⟨hm9, rfl⟩ _
      have s3 : X3 γ g w → X3 γ g (fillAt w γ.b9 0 [.int .i64 γ.s.size, .int .i64 γ.s.dens, .int .i64 γ.s.strong, .int .i64 γ.s.spin, .int .i64 γ.s.shape, .bool γ.s.pile, .int .i64 γ.s.speed, .int .i64 γ.s.slope]) := fun h => h.fill hB.sep (k := 4) (by omega) ⟨hm9, rfl⟩ _
      have s5 : X5 γ g w → X5 γ g (fillAt w γ.b9 0 [.int .i64 γ.s.size, .int .i64 γ.s.dens, .int .i64 γ.s.strong, .int .i64 γ.s.spin, .int .i64 γ.s.shape, .bool γ.s.pile, .int .i64 γ.s.speed, .int .i64 γ.s.slope]) := fun h => h.fill hB.sep (k := 4) (by omega) ⟨hm9, rfl⟩ _
      have s14 : X14 γ w → X14 γ (fillAt w γ.b9 0 [.int .i64 γ.s.size, .int .i64 γ.s.dens, .int .i64 γ.s.strong, .int .i64 γ.s.spin, .int .i64 γ.s.shape, .bool γ.s.pile, .int .i64 γ.s.speed, .int .i64 γ.s.slope]) := fun h => Blk.fillFar h hne89 _ 0
      have F15 : X15 γ (fillAt w γ.b9 0 [.int .i64 γ.s.size, .int .i64 γ.s.dens, .int .i64 γ.s.strong, .int .i64 γ.s.spin, .int .i64 γ.s.shape, .bool γ.s.pile, .int .i64 γ.s.speed, .int .i64 γ.s.slope]) := Blk.fill8 _ _ _ _ _ _ _ _ hBx
      have s11 : X11 γ B w → X11 γ B (fillAt w γ.b9 0 [.int .i64 γ.s.size, .int .i64 γ.s.dens, .int .i64 γ.s.strong, .int .i64 γ.s.spin, .int .i64 γ.s.shape, .bool γ.s.pile, .int .i64 γ.s.speed, .int .i64 γ.s.slope]) := fun h => ⟨h.1, h.2.1, _, _, _, _, _, _, _, _, F15⟩
      have s10 : X10 γ B w → X10 γ B (fillAt w γ.b9 0 [.int .i64 γ.s.size, .int .i64 γ.s.dens, .int .i64 γ.s.strong, .int .i64 γ.s.spin, .int .i64 γ.s.shape, .bool γ.s.pile, .int .i64 γ.s.speed, .int .i64 γ.s.slope]) := fun ⟨h1, h2, v, v', h3⟩ => ⟨h1, h2, v, v', h3.fillFar hne89 _ 0⟩
      have hBf := hB.fill hb9 [.int .i64 γ.s.size, .int .i64 γ.s.dens, .int .i64 γ.s.strong, .int .i64 γ.s.spin, .int .i64 γ.s.shape, .bool γ.s.pile, .int .i64 γ.s.speed, .int .i64 γ.s.slope]
      obtain ⟨w5, hw5⟩ : ∃ w5, w5 = fillAt w γ.b9 0 [.int .i64 γ.s.size, .int .i64 γ.s.dens, .int .i64 γ.s.strong, .int .i64 γ.s.spin, .int .i64 γ.s.shape, .bool γ.s.pile, .int .i64 γ.s.speed, .int .i64 γ.s.slope] := ⟨_, rfl⟩
      rw [← hw5] at hBf F15 s1 s3 s5 s14 s11 s10
      simp only [fillAt, Nat.zero_add, Nat.reduceAdd] at hw5
      rw [← hw5]
      clear hw5
      refine hK _ w5 γ rfl hBf F15 ?_
      try dsimp only [allP, List.getD_cons_zero, List.getD_cons_succ]
      (repeat' apply And.intro) <;> first | exact rfl | exact trivial | exact id | assumption
  case hend3_1 =>
    intro n D γ w hn hD hB hF
    replace hF := fun k (hk : k < 16) => hF k hk
    replace hF := (⟨hF 1 (by decide), hF 3 (by decide), hF 5 (by decide), hF 9 (by decide), hF 10 (by decide), hF 11 (by decide), hF 14 (by decide), hF 15 (by decide)⟩ : _ ∧ _ ∧ _ ∧ _ ∧ _ ∧ _ ∧ _ ∧ _)
    try dsimp only at hB
    try dsimp only at hF
    replace hn : n ≤ 16 := hn
    try dsimp only
    rename M10 => G
    obtain ⟨⟨k6', hkk, HR6⟩, RB, FB, KQ, -, hgs4⟩ := hB
    obtain ⟨⟨hL, hl6, hlo⟩, ⟨hG, hgs⟩, ⟨hP, hQ, hp1, hp16, hc3, hok⟩, hsin, ⟨-, hb8B, -⟩, -, LX, TX⟩ := hF
    obtain ⟨A1, c1, ls, A2, c2, gs, A3, c3, ps, A4, c4, bs, s, b8, m8, b9, m9⟩ := G
    dsimp only [X14, X15] at *
    have hair := Lib.hid (air_made hl6 hlo)
    have hs := Lib.hid (stoneOk_of_in hsin hrk)
    have hofa := Lib.hid (of_all hrk hsin hs.out)
    replace hrk := Lib.hid hrk
    replace hsin := Lib.hid hsin
    replace hgs := Lib.hid hgs
    replace hok := Lib.hid hok
    clear hD hlo
    have cr := fun i => RB.cell i
    have cf := fun i => FB.cell i
    go_wp2_with fail
    refine (blows_made A1 c1 ls r f _ hL.free (hb.kpN KQ) hair.out hrk.out).mono ?_
    rintro e w10 ⟨⟨B9, e9, rfl, hB9⟩, k10⟩
    replace hL := hL.kpN k10
    replace hG := hG.kpN k10
    replace hP := hP.kpN k10
    replace hQ := hQ.kpN k10
    replace RB := RB.kpN k10
    replace FB := FB.kpN k10
    replace LX := LX.kpN k10
    replace TX := TX.kpN k10
    replace HR6 := HR6.kpN k10
    replace KQ := KQ.thenN k10 (Nat.le_refl _)
    have henc := blowsOf_enclose (air_lay hair.out) hrk.out hsin.out hs.out
    have hsort : (blowsOf ls r f).Pairwise fun x y => x.layer < y.layer := blows_sorted _ _ _ _ _ _
    have hlay : ∀ x ∈ blowsOf ls r f, 0 ≤ x.layer ∧ x.layer ≤ (ls.length : Int) := fun x hx => by
      have := blows_from (weakS r f) (strongS r f) ls 0 _ _ x hx
      omega
    have hblen : (blowsOf ls r f).length ≤ 7 := by
      have := blowsFrom_len (weakS r f) (strongS r f) ls 0 (f.speed.lo * f.speed.lo) (f.speed.hi * f.speed.hi)
      unfold blowsOf; omega
    have hpos := blowsOf_some (air_lay hair.out) hrk.out
    obtain ⟨bl, hbl⟩ : ∃ x, x = blowsOf ls r f := ⟨_, rfl⟩
    rw [← hbl] at hB9 henc hsort hlay hblen hpos ⊢
    replace hbl := Lib.hid hbl
    replace hlay := Lib.hid hlay
    replace hsort := Lib.hid hsort
    clear k10 cr cf
    have ct := fun i => TX.cell i
    go_wp2_with fail
    refine (ends_made A1 c1 ls s _ hL.free (hb.kpN KQ) hair.out hs.out).mono ?_
    rintro e w11 ⟨rfl, k11⟩
    replace hL := hL.kpN k11
    replace hG := hG.kpN k11
    replace hP := hP.kpN k11
    replace hQ := hQ.kpN k11
    replace RB := RB.kpN k11
    replace FB := FB.kpN k11
    replace LX := LX.kpN k11
    replace TX := TX.kpN k11
    replace HR6 := HR6.kpN k11
    replace hB9 := hB9.kpN k11
    replace KQ := KQ.thenN k11 (Nat.le_refl _)
    obtain ⟨L, hLe⟩ : ∃ L, L = ((endsOf ls s).1 : Int) := ⟨_, rfl⟩
    obtain ⟨E, hEe⟩ : ∃ E, E = (endsOf ls s).2 := ⟨_, rfl⟩
    rw [← hLe, ← hEe] at henc ⊢
    clear hLe hEe
    replace henc := Lib.hid henc
    clear k11 ct
    have ct := fun i => TX.cell i
    have cr := fun i => RB.cell i
    have cf := fun i => FB.cell i
    have hpos' : ¬ (bl.length : Int) = 0 := by omega
    have hpos2 : ((bl.length : Int) == 0) = false := beq_eq_false_iff_ne.2 hpos'
    go_wp2_with fail
    refine (blast_Of_any s r f _ (hb.kpN KQ)).mono ?_
    rintro e w12 ⟨⟨b, rfl, hbb⟩, k12⟩
    obtain rfl : b = true := hbb.2 hofa.out
    replace hL := hL.kpN k12
    replace hG := hG.kpN k12
    replace hP := hP.kpN k12
    replace hQ := hQ.kpN k12
    replace RB := RB.kpN k12
    replace FB := FB.kpN k12
    replace LX := LX.kpN k12
    replace TX := TX.kpN k12
    replace HR6 := HR6.kpN k12
    replace hB9 := hB9.kpN k12
    replace KQ := KQ.thenN k12 (Nat.le_refl _)
    clear k12 ct cr cf hbb
    go_wp2_with fail
    go_loopw [15, 16] (fun v15 v16 wr => EncI L E bl w12 v15 v16 wr) (fun _ v _ => bl.length - (intOf v).toNat)
    case atStart => exact ⟨0, rfl, by omega, rfl, Kp.refl _ _ _⟩
    case round =>
      obtain ⟨j, rfl, hj, rfl, KK⟩ := hrel
      by_cases h7 : j < bl.length
      · obtain ⟨b, o, rfl, hbx, -, hcc⟩ := (hB9.kpN KK).at_ (by omega)
        have d0 : wr.cell? ⟨b, o + j * 3, none⟩ = some (.int .i64 bl[j].layer) := hcc j h7 0 _ rfl
        have d1 : wr.cell? ⟨b, o + j * 3 + 1, none⟩ = some (.int .i64 bl[j].lo) := hcc j h7 1 _ rfl
        have d2 : wr.cell? ⟨b, o + j * 3 + 2, none⟩ = some (.int .i64 bl[j].hi) := hcc j h7 2 _ rfl
        have hs' := any_succ10 (hit L E) bl j h7
        have hbl7 : (bl.length : Int) ≤ 7 := by omega
        rcases Nat.eq_zero_or_pos j with h0 | h0
        · subst h0
          clear hcc
          simp only [Nat.zero_mul, Nat.add_zero] at d0 d1 d2
          generalize bl[0] = x at hs' d0 d1 d2
          obtain ⟨x1, x2, x3⟩ := x
          dsimp only at d0 d1 d2
          have h7' : (0 : Int) < (bl.length : Int) := by omega
          generalize (bl.take 0).any (hit L E) = q at hs' ⊢
          replace hs' := Lib.hid hs'
          cases q
          · by_cases hy : x1 = L
            · subst hy
              go_wp2_with fail
              refine (inSpan_any ⟨x2, x3⟩ E _).mono ?_
              rintro e w13 ⟨rfl, k13⟩
              dsimp only
              replace d0 := (k13.cell b _ hbx (by simp)).trans d0
              try replace p0 := (k13.cell b _ hbx (by simp)).trans p0
              replace KK := KK.thenN k13 (Nat.le_refl _)
              clear k13 d1 d2
              go_wp2_with fail
              obtain ⟨S, hS⟩ : ∃ S : Nat → World → Prop, S = fun _ w' => True := ⟨_, rfl⟩
              have hS0 : ∀ w', S 0 w' ↔ (True) := fun w' => by rw [hS]
              clear hS
              have hevT := ev_true
              refine wp_region_ord S [(0, 0), (1, 0), (2, 0), (3, 0), (4, 0), (5, 0), (6, 0), (7, 1), (8, 0), (9, 0), (10, 0), (11, 0), (12, 0), (13, 1), (14, 0), (15, 0)] [] (by kernel_rfl) (by kernel_rfl) ((hS0 _).2 trivial) ?_
              intro _hev
              first | (refine wpOrd_v rfl rfl ?_; intro K hK; go_big_quiet_op; go_big_quiet_on) | (refine wpOrd_q rfl rfl ?_; intro K hK; go_big_quiet_op; go_big_quiet_on)
              first | (refine wpOrd_v rfl rfl ?_; intro K hK; go_big_quiet_op; go_big_quiet_on) | (refine wpOrd_q rfl rfl ?_; intro K hK; go_big_quiet_op; go_big_quiet_on)
              first | (refine wpOrd_v rfl rfl ?_; intro K hK; go_big_quiet_op; go_big_quiet_on) | (refine wpOrd_q rfl rfl ?_; intro K hK; go_big_quiet_op; go_big_quiet_on)
              refine wpOrd_s2 (by decide) rfl rfl rfl ?_; intro K hK; go_big_quiet_op; go_big_quiet_on
              refine wpOrd_s2 (by decide) rfl rfl rfl ?_; intro K hK; go_big_quiet_op; go_big_quiet_on
              refine wpOrd_s2 (by decide) rfl rfl rfl ?_; intro K hK; go_big_quiet_op; go_big_quiet_on
              refine wpOrd_s2 (by decide) rfl rfl rfl ?_; intro K hK; go_big_quiet_op; go_big_quiet_on
              refine wpOrd_s2 (by decide) rfl rfl rfl ?_; intro K hK; go_big_quiet_op; go_big_quiet_on
              refine wpOrd_s2 (by decide) rfl rfl rfl ?_; intro K hK; go_big_quiet_op; go_big_quiet_on
              refine wpOrd_s2 (by decide) rfl rfl rfl ?_; intro K hK; go_big_quiet_op; go_big_quiet_on
              refine wpOrd_s2 (by decide) rfl rfl rfl ?_; intro K hK; go_big_quiet_op; go_big_quiet_on
              refine wpOrd_s2 (by decide) rfl rfl rfl ?_; intro K hK; go_big_quiet_op; go_big_quiet_on
              refine wpOrd_s2 (by decide) rfl rfl rfl ?_; intro K hK; go_big_quiet_op; go_big_quiet_on
              refine wpOrd_s2 (by decide) rfl rfl rfl ?_; intro K hK; go_big_quiet_op; go_big_quiet_on
              refine wpOrd_s2 (by decide) rfl rfl rfl ?_; intro K hK; go_big_quiet_op; go_big_quiet_on
              first | (refine wpOrd_v rfl rfl ?_; intro K hK; go_big_quiet_op; go_big_quiet_on) | (refine wpOrd_q rfl rfl ?_; intro K hK; go_big_quiet_op; go_big_quiet_on)
              refine wpOrd_nil ?_
              clear hevT _hev
              clear hS0 S
              go_wp2
              go_roundw
              case rel => exact ⟨0 + 1, rfl, by omega, congrArg Value.bool (by rw [hs'.out]; simp [hit]), KK.drew⟩
              case measure => simp [intOf]; omega
            · have hy2 : (x1 == L) = false := by simp [hy]
              have hy3 : decide (x1 = L) = false := by simp [hy]
              go_wp2_with fail
              obtain ⟨S, hS⟩ : ∃ S : Nat → World → Prop, S = fun _ w' => True := ⟨_, rfl⟩
              have hS0 : ∀ w', S 0 w' ↔ (True) := fun w' => by rw [hS]
              clear hS
              have hevT := ev_true
              refine wp_region_ord S [(0, 0), (1, 0), (2, 0), (3, 0), (4, 0), (5, 0), (6, 0), (7, 1), (8, 0), (9, 0), (10, 0), (11, 0), (12, 0), (13, 1), (14, 0), (15, 0)] [] (by kernel_rfl) (by kernel_rfl) ((hS0 _).2 trivial) ?_
              intro _hev
              first | (refine wpOrd_v rfl rfl ?_; intro K hK; go_big_quiet_op; go_big_quiet_on) | (refine wpOrd_q rfl rfl ?_; intro K hK; go_big_quiet_op; go_big_quiet_on)
              first | (refine wpOrd_v rfl rfl ?_; intro K hK; go_big_quiet_op; go_big_quiet_on) | (refine wpOrd_q rfl rfl ?_; intro K hK; go_big_quiet_op; go_big_quiet_on)
              first | (refine wpOrd_v rfl rfl ?_; intro K hK; go_big_quiet_op; go_big_quiet_on) | (refine wpOrd_q rfl rfl ?_; intro K hK; go_big_quiet_op; go_big_quiet_on)
              refine wpOrd_s2 (by decide) rfl rfl rfl ?_; intro K hK; go_big_quiet_op; go_big_quiet_on
              refine wpOrd_s2 (by decide) rfl rfl rfl ?_; intro K hK; go_big_quiet_op; go_big_quiet_on
              refine wpOrd_s2 (by decide) rfl rfl rfl ?_; intro K hK; go_big_quiet_op; go_big_quiet_on
              refine wpOrd_s2 (by decide) rfl rfl rfl ?_; intro K hK; go_big_quiet_op; go_big_quiet_on
              refine wpOrd_s2 (by decide) rfl rfl rfl ?_; intro K hK; go_big_quiet_op; go_big_quiet_on
              refine wpOrd_s2 (by decide) rfl rfl rfl ?_; intro K hK; go_big_quiet_op; go_big_quiet_on
              refine wpOrd_s2 (by decide) rfl rfl rfl ?_; intro K hK; go_big_quiet_op; go_big_quiet_on
              refine wpOrd_s2 (by decide) rfl rfl rfl ?_; intro K hK; go_big_quiet_op; go_big_quiet_on
              refine wpOrd_s2 (by decide) rfl rfl rfl ?_; intro K hK; go_big_quiet_op; go_big_quiet_on
              refine wpOrd_s2 (by decide) rfl rfl rfl ?_; intro K hK; go_big_quiet_op; go_big_quiet_on
              refine wpOrd_s2 (by decide) rfl rfl rfl ?_; intro K hK; go_big_quiet_op; go_big_quiet_on
              refine wpOrd_s2 (by decide) rfl rfl rfl ?_; intro K hK; go_big_quiet_op; go_big_quiet_on
              first | (refine wpOrd_v rfl rfl ?_; intro K hK; go_big_quiet_op; go_big_quiet_on) | (refine wpOrd_q rfl rfl ?_; intro K hK; go_big_quiet_op; go_big_quiet_on)
              refine wpOrd_nil ?_
              clear hevT _hev
              clear hS0 S
              go_wp2
              go_roundw
              case rel => exact ⟨0 + 1, rfl, by omega, congrArg Value.bool (by rw [hs'.out]; simp [hit, hy]), KK.drew⟩
              case measure => simp [intOf]; omega
          ·
            go_wp2_with fail
            obtain ⟨S, hS⟩ : ∃ S : Nat → World → Prop, S = fun _ w' => True := ⟨_, rfl⟩
            have hS0 : ∀ w', S 0 w' ↔ (True) := fun w' => by rw [hS]
            clear hS
            have hevT := ev_true
            refine wp_region_ord S [(0, 0), (1, 0), (2, 0), (3, 0), (4, 0), (5, 0), (6, 0), (7, 1), (8, 0), (9, 0), (10, 0), (11, 0), (12, 0), (13, 1), (14, 0), (15, 0)] [] (by kernel_rfl) (by kernel_rfl) ((hS0 _).2 trivial) ?_
            intro _hev
            first | (refine wpOrd_v rfl rfl ?_; intro K hK; go_big_quiet_op; go_big_quiet_on) | (refine wpOrd_q rfl rfl ?_; intro K hK; go_big_quiet_op; go_big_quiet_on)
            first | (refine wpOrd_v rfl rfl ?_; intro K hK; go_big_quiet_op; go_big_quiet_on) | (refine wpOrd_q rfl rfl ?_; intro K hK; go_big_quiet_op; go_big_quiet_on)
            first | (refine wpOrd_v rfl rfl ?_; intro K hK; go_big_quiet_op; go_big_quiet_on) | (refine wpOrd_q rfl rfl ?_; intro K hK; go_big_quiet_op; go_big_quiet_on)
            refine wpOrd_s2 (by decide) rfl rfl rfl ?_; intro K hK; go_big_quiet_op; go_big_quiet_on
            refine wpOrd_s2 (by decide) rfl rfl rfl ?_; intro K hK; go_big_quiet_op; go_big_quiet_on
            refine wpOrd_s2 (by decide) rfl rfl rfl ?_; intro K hK; go_big_quiet_op; go_big_quiet_on
            refine wpOrd_s2 (by decide) rfl rfl rfl ?_; intro K hK; go_big_quiet_op; go_big_quiet_on
            refine wpOrd_s2 (by decide) rfl rfl rfl ?_; intro K hK; go_big_quiet_op; go_big_quiet_on
            refine wpOrd_s2 (by decide) rfl rfl rfl ?_; intro K hK; go_big_quiet_op; go_big_quiet_on
            refine wpOrd_s2 (by decide) rfl rfl rfl ?_; intro K hK; go_big_quiet_op; go_big_quiet_on
            refine wpOrd_s2 (by decide) rfl rfl rfl ?_; intro K hK; go_big_quiet_op; go_big_quiet_on
            refine wpOrd_s2 (by decide) rfl rfl rfl ?_; intro K hK; go_big_quiet_op; go_big_quiet_on
            refine wpOrd_s2 (by decide) rfl rfl rfl ?_; intro K hK; go_big_quiet_op; go_big_quiet_on
            refine wpOrd_s2 (by decide) rfl rfl rfl ?_; intro K hK; go_big_quiet_op; go_big_quiet_on
            refine wpOrd_s2 (by decide) rfl rfl rfl ?_; intro K hK; go_big_quiet_op; go_big_quiet_on
            first | (refine wpOrd_v rfl rfl ?_; intro K hK; go_big_quiet_op; go_big_quiet_on) | (refine wpOrd_q rfl rfl ?_; intro K hK; go_big_quiet_op; go_big_quiet_on)
            refine wpOrd_nil ?_
            clear hevT _hev
            clear hS0 S
            go_wp2
            go_roundw
            case rel => exact ⟨0 + 1, rfl, by omega, congrArg Value.bool (by rw [hs'.out]; rfl), KK.drew⟩
            case measure => simp [intOf]; omega
        · obtain ⟨i, hji⟩ : ∃ i, j = i + 1 := ⟨j - 1, by omega⟩
          have p0 : wr.cell? ⟨b, o + i * 3, none⟩ = some (.int .i64 (bl[i]'(by omega)).layer) := hcc i (by omega) 0 _ rfl
          have hlt : (bl[i]'(by omega)).layer < bl[j].layer := List.pairwise_iff_getElem.1 hsort.out i j (by omega) h7 (by omega)
          clear hcc
          generalize (bl[i]'(by omega)).layer = z at p0 hlt
          generalize bl[j] = x at hs' d0 d1 d2 hlt
          obtain ⟨x1, x2, x3⟩ := x
          dsimp only at d0 d1 d2 hlt
          have h7' : (j : Int) < (bl.length : Int) := by omega
          have h70 : (0 : Int) < (j : Int) := by omega
          have hj1 : (j : Int) - 1 = (i : Int) := by omega
          have hib : (i : Int) < (bl.length : Int) := by omega
          have hlt' : ¬ x1 ≤ z := by omega
          replace hji := Lib.hid hji
          generalize (bl.take j).any (hit L E) = q at hs' ⊢
          replace hs' := Lib.hid hs'
          cases q
          · by_cases hy : x1 = L
            · subst hy
              go_wp2_with fail
              refine (inSpan_any ⟨x2, x3⟩ E _).mono ?_
              rintro e w13 ⟨rfl, k13⟩
              dsimp only
              replace d0 := (k13.cell b _ hbx (by simp)).trans d0
              try replace p0 := (k13.cell b _ hbx (by simp)).trans p0
              replace KK := KK.thenN k13 (Nat.le_refl _)
              clear k13 d1 d2
              go_wp2_with fail
              replace d0 : w13.drew.cell? _ = _ := d0
              replace p0 : w13.drew.cell? _ = _ := p0
              obtain ⟨S, hS⟩ : ∃ S : Nat → World → Prop, S = fun _ w' => w'.cell? ⟨b, o + j * 3, none⟩ = some (.int .i64 x1) ∧ w'.cell? ⟨b, o + i * 3, none⟩ = some (.int .i64 z) := ⟨_, rfl⟩
              have hS0 : ∀ w', S 0 w' ↔ (w'.cell? ⟨b, o + j * 3, none⟩ = some (.int .i64 x1) ∧ w'.cell? ⟨b, o + i * 3, none⟩ = some (.int .i64 z)) := fun w' => by rw [hS]
              clear hS
              have cA : ∀ q : Ev (S 0), q.w.cell? ⟨b, o + j * 3, none⟩ = some (.int .i64 x1) := fun q => ((hS0 _).1 q.h).1
              have cB : ∀ q : Ev (S 0), q.w.cell? ⟨b, o + i * 3, none⟩ = some (.int .i64 z) := fun q => ((hS0 _).1 q.h).2
              have hevT := ev_true
              refine wp_region_ord S [(0, 0), (1, 0), (2, 0), (3, 0), (4, 0), (5, 0), (6, 0), (7, 1), (8, 0), (9, 0), (10, 0), (11, 0), (12, 0), (13, 1), (14, 0), (15, 0)] [] (by kernel_rfl) (by kernel_rfl) ((hS0 _).2 ⟨d0, p0⟩) ?_
              intro _hev
              iterate 16 (first | (refine wpOrd_v rfl rfl ?_; intro K hK; go_big_quiet_op; go_big_quiet_on) | (refine wpOrd_q rfl rfl ?_; intro K hK; go_big_quiet_op; go_big_quiet_on) | refine wpOrd_s (by decide) rfl rfl ?_)
              refine wpOrd_nil ?_
              clear hevT _hev
              clear cA cB hS0 S
              go_wp2
              go_roundw
              case rel => exact ⟨j + 1, rfl, by omega, congrArg Value.bool (by rw [hs'.out]; simp [hit]), KK.drew⟩
              case measure => simp [intOf]; omega
            · have hy2 : (x1 == L) = false := by simp [hy]
              have hy3 : decide (x1 = L) = false := by simp [hy]
              go_wp2_with fail
              replace d0 : wr.drew.cell? _ = _ := d0
              replace p0 : wr.drew.cell? _ = _ := p0
              obtain ⟨S, hS⟩ : ∃ S : Nat → World → Prop, S = fun _ w' => w'.cell? ⟨b, o + j * 3, none⟩ = some (.int .i64 x1) ∧ w'.cell? ⟨b, o + i * 3, none⟩ = some (.int .i64 z) := ⟨_, rfl⟩
              have hS0 : ∀ w', S 0 w' ↔ (w'.cell? ⟨b, o + j * 3, none⟩ = some (.int .i64 x1) ∧ w'.cell? ⟨b, o + i * 3, none⟩ = some (.int .i64 z)) := fun w' => by rw [hS]
              clear hS
              have cA : ∀ q : Ev (S 0), q.w.cell? ⟨b, o + j * 3, none⟩ = some (.int .i64 x1) := fun q => ((hS0 _).1 q.h).1
              have cB : ∀ q : Ev (S 0), q.w.cell? ⟨b, o + i * 3, none⟩ = some (.int .i64 z) := fun q => ((hS0 _).1 q.h).2
              have hevT := ev_true
              refine wp_region_ord S [(0, 0), (1, 0), (2, 0), (3, 0), (4, 0), (5, 0), (6, 0), (7, 1), (8, 0), (9, 0), (10, 0), (11, 0), (12, 0), (13, 1), (14, 0), (15, 0)] [] (by kernel_rfl) (by kernel_rfl) ((hS0 _).2 ⟨d0, p0⟩) ?_
              intro _hev
              iterate 16 (first | (refine wpOrd_v rfl rfl ?_; intro K hK; go_big_quiet_op; go_big_quiet_on) | (refine wpOrd_q rfl rfl ?_; intro K hK; go_big_quiet_op; go_big_quiet_on) | refine wpOrd_s (by decide) rfl rfl ?_)
              refine wpOrd_nil ?_
              clear hevT _hev
              clear cA cB hS0 S
              go_wp2
              go_roundw
              case rel => exact ⟨j + 1, rfl, by omega, congrArg Value.bool (by rw [hs'.out]; simp [hit, hy]), KK.drew⟩
              case measure => simp [intOf]; omega
          ·
            go_wp2_with fail
            replace d0 : wr.drew.cell? _ = _ := d0
            replace p0 : wr.drew.cell? _ = _ := p0
            obtain ⟨S, hS⟩ : ∃ S : Nat → World → Prop, S = fun _ w' => w'.cell? ⟨b, o + j * 3, none⟩ = some (.int .i64 x1) ∧ w'.cell? ⟨b, o + i * 3, none⟩ = some (.int .i64 z) := ⟨_, rfl⟩
            have hS0 : ∀ w', S 0 w' ↔ (w'.cell? ⟨b, o + j * 3, none⟩ = some (.int .i64 x1) ∧ w'.cell? ⟨b, o + i * 3, none⟩ = some (.int .i64 z)) := fun w' => by rw [hS]
            clear hS
            have cA : ∀ q : Ev (S 0), q.w.cell? ⟨b, o + j * 3, none⟩ = some (.int .i64 x1) := fun q => ((hS0 _).1 q.h).1
            have cB : ∀ q : Ev (S 0), q.w.cell? ⟨b, o + i * 3, none⟩ = some (.int .i64 z) := fun q => ((hS0 _).1 q.h).2
            have hevT := ev_true
            refine wp_region_ord S [(0, 0), (1, 0), (2, 0), (3, 0), (4, 0), (5, 0), (6, 0), (7, 1), (8, 0), (9, 0), (10, 0), (11, 0), (12, 0), (13, 1), (14, 0), (15, 0)] [] (by kernel_rfl) (by kernel_rfl) ((hS0 _).2 ⟨d0, p0⟩) ?_
            intro _hev
            iterate 16 (first | (refine wpOrd_v rfl rfl ?_; intro K hK; go_big_quiet_op; go_big_quiet_on) | (refine wpOrd_q rfl rfl ?_; intro K hK; go_big_quiet_op; go_big_quiet_on) | refine wpOrd_s (by decide) rfl rfl ?_)
            refine wpOrd_nil ?_
            clear hevT _hev
            clear cA cB hS0 S
            go_wp2
            go_roundw
            case rel => exact ⟨j + 1, rfl, by omega, congrArg Value.bool (by rw [hs'.out]; rfl), KK.drew⟩
            case measure => simp [intOf]; omega
      · obtain rfl : j = bl.length := by omega
        have h7' : ¬ (bl.length : Int) < (bl.length : Int) := by omega
        have hany : (bl.take bl.length).any (hit L E) = true := by
          rw [List.take_length]
          obtain ⟨x, hx, q1, q2, q3⟩ := henc.out
          exact List.any_eq_true.2 ⟨x, hx, by simp [hit, q1, q2, q3]⟩
        rw [hany]
        have hLb : 0 ≤ L ∧ L ≤ (ls.length : Int) := by
          obtain ⟨x, hx, q1, _⟩ := henc.out
          rw [← q1]
          exact hlay.out x hx
        replace hL := hL.kpN KK
        replace hG := hG.kpN KK
        replace hP := hP.kpN KK
        replace hQ := hQ.kpN KK
        replace RB := RB.kpN KK
        replace FB := FB.kpN KK
        replace LX := LX.kpN KK
        replace HR6 := HR6.kpN KK
        replace KQ := KQ.thenN KK (Nat.le_refl _)
        clear KK hany h7 hB9 TX hofa hsort hlay
        have hpl16 : (ps.length : Int) ≤ 16 := by omega
        obtain ⟨qg1, qg2, qg3, -⟩ := hgs4
        go_wp2_with fail
        replace HR6 := HR6.drew
        replace hL := hL.drew
        replace hG := hG.drew
        replace hP := hP.drew
        replace hQ := hQ.drew
        replace RB := RB.drew
        replace FB := FB.drew
        replace LX := LX.drew
        replace KQ := KQ.drew
        obtain ⟨S, hS⟩ : ∃ S : Nat → World → Prop, S = fun _ w' => Blk w' b8 54 #[.slice A3 ps.length c3, .slice A4 bs.length c4] := ⟨_, rfl⟩
        have hS0 : ∀ w', S 0 w' ↔ (Blk w' b8 54 #[.slice A3 ps.length c3, .slice A4 bs.length c4]) := fun w' => by rw [hS]
        clear hS
        have cA := fun (q : Ev (S 0)) i => ((hS0 _).1 q.h).cell i
        have hevT := ev_true
        refine wp_region_ord S [(0, 0), (1, 0), (2, 1), (3, 0), (5, 0), (6, 0), (7, 1), (8, 0), (4, 2), (9, 2), (10, 0), (11, 0)] [] (by kernel_rfl) (by kernel_rfl) ((hS0 _).2 LX) ?_
        intro _hev
        iterate 8 (first | (refine wpOrd_v rfl rfl ?_; intro K hK; go_big_quiet_op; go_big_quiet_on) | (refine wpOrd_q rfl rfl ?_; intro K hK; go_big_quiet_op; go_big_quiet_on) | refine wpOrd_s (by decide) rfl rfl ?_)
        refine wpOrd_l rfl rfl ?_; intro K hK
        go_step
        refine (next_any g nums _ _ _ HR6 (by omega) (by omega) (by omega)).mono ?_
        rintro e w13 ⟨v, rfl, ⟨x, rfl, hx0, hx1⟩, HR7, k13⟩
        obtain ⟨x, rfl⟩ := Int.eq_ofNat_of_zero_le hx0
        replace hL := hL.kp k13
        replace hG := hG.kp k13
        replace hP := hP.kp k13
        replace hQ := hQ.kp k13
        replace RB := RB.kp k13 RB.lt (sne (by omega))
        replace FB := FB.kp k13 FB.lt (sne (by omega))
        replace LX := LX.kp k13 LX.lt (sne (by omega))
        replace KQ := KQ.thenOwn k13 (Nat.le_refl _) hg
        refine hK _ _ ((hS0 _).2 LX) ?_
        clear hK K k13 HR6
        refine wpOrd_l rfl rfl ?_; intro K hK
        go_step
        refine (next_any g nums _ _ _ HR7 (by omega) (by omega) (by omega)).mono ?_
        rintro e w14 ⟨v, rfl, ⟨y, rfl, hy0, hy1⟩, HR8, k14⟩
        obtain ⟨y, rfl⟩ := Int.eq_ofNat_of_zero_le hy0
        replace hL := (hL.kp k14).free
        replace hG := (hG.kp k14).free
        replace hP := (hP.kp k14).free
        replace hQ := (hQ.kp k14).free
        replace RB := RB.kp k14 RB.lt (sne (by omega))
        replace FB := FB.kp k14 FB.lt (sne (by omega))
        replace LX := LX.kp k14 LX.lt (sne (by omega))
        replace KQ := KQ.thenOwn k14 (Nat.le_refl _) hg
        refine hK _ _ ((hS0 _).2 LX) ?_
        clear hK K k14 HR7 HR8
        iterate 2 (first | (refine wpOrd_v rfl rfl ?_; intro K hK; go_big_quiet_op; go_big_quiet_on) | (refine wpOrd_q rfl rfl ?_; intro K hK; go_big_quiet_op; go_big_quiet_on) | refine wpOrd_s (by decide) rfl rfl ?_)
        refine wpOrd_nil ?_
        clear hevT _hev
        clear cA hS0 S
        have cl := fun i => LX.cell i
        have cr := fun i => RB.cell i
        have cf := fun i => FB.cell i
        go_wp2_with fail
        obtain ⟨fr, hfr⟩ : ∃ fr : Nat, min (x : Int) (y : Int) = (fr : Int) := ⟨min x y, by omega⟩
        obtain ⟨fi, hfi⟩ : ∃ fi : Nat, max (x : Int) (y : Int) = (fi : Int) := ⟨max x y, by omega⟩
        have hff : fr ≤ fi := by omega
        have hfp : fi < ps.length := by omega
        rw [hfr, hfi]
        clear hfr hfi hx0 hx1 hy0 hy1
        have hgood := toll_good (gs := gs) hair.out hrk.out hok.out hff hfp
        rw [← hbl.out] at hgood
        have t1 := toll_made A1 c1 ls A2 c2 gs A3 A4 c3 c4 ps bs r f fr fi
        rw [← hbl.out] at t1
        generalize tollOf (harmsOf ls.length gs ps bs) bl fr fi = T at hgood t1
        have hin : ∀ a, fr ≤ a → a ≤ fi → T.lo ≤ harmsOf ls.length gs ps bs L E a ∧ harmsOf ls.length gs ps bs L E a ≤ T.hi := fun a h1 h2 => by
          obtain ⟨x, hx, q1, q2, q3⟩ := henc.out
          obtain ⟨p1, p2⟩ := hgood.all a x ⟨⟨h1, h2⟩, hx⟩
          rw [q1] at p1 p2
          exact ⟨Int.le_trans p1 (harmsOf_mono hgs.out hok.out (by omega) q2), Int.le_trans (harmsOf_mono hgs.out hok.out (by omega) q3) p2⟩
        clear hgood
        replace hin := Lib.hid hin
        refine (t1 _ hL hG hP hQ hc3 (hb.kpN KQ) hair.out hrk.out hgs.out hok.out hff hfp).mono ?_
        clear t1
        rintro e w15 ⟨rfl, k15⟩
        replace hL := hL.kpN k15
        replace hG := hG.kpN k15
        replace hP := hP.kpN k15
        replace hQ := hQ.kpN k15
        replace LX := LX.kpN k15
        replace KQ := KQ.thenN k15 (Nat.le_refl _)
        have SX := Blk.new w15 26 #[.int .i64 T.lo, .int .i64 T.hi]
        have m15 := (Kp.refl w15.heap.size none w15).alloc (Nat.le_refl _) (.cells #[.int .i64 T.lo, .int .i64 T.hi] 26)
        replace hL := hL.kpN m15
        replace hG := hG.kpN m15
        replace hP := hP.kpN m15
        replace hQ := hQ.kpN m15
        replace LX := LX.kpN m15
        replace KQ := KQ.thenN m15 (Nat.le_refl _)
        clear k15 m15 cl cr cf RB FB
        go_wp2_with fail
        obtain ⟨bt, hbt⟩ : ∃ q, q = w15.heap.size := ⟨_, rfl⟩
        rw [← hbt] at SX ⊢
        generalize w15.alloc (.cells #[.int .i64 T.lo, .int .i64 T.hi] 26) = w16 at *
        clear hbt
        go_loopw [20] (fun v20 wx => EncO fr fi w16 v20 wx) (fun v _ => fi + 1 - (intOf v).toNat)
        case atStart => exact ⟨fr, rfl, Nat.le_refl _, by omega, Kp.refl _ _ _⟩
        case round =>
          obtain ⟨a, rfl, ha1, ha2, KI⟩ := hrel
          by_cases h8 : a ≤ fi
          · have h8' : (a : Int) ≤ (fi : Int) := by omega
            obtain ⟨i1, i2⟩ := hin.out a ha1 h8
            replace hL := hL.kpN KI
            replace hG := hG.kpN KI
            replace hP := hP.kpN KI
            replace hQ := hQ.kpN KI
            replace LX := LX.kpN KI
            replace SX := SX.kpN KI
            have cl := fun i => LX.cell i
            go_wp2_with fail
            refine (harms_made A1 c1 ls A2 c2 gs A3 A4 c3 c4 ps bs L E a _ hL hG hP hQ hc3 hair.out hgs.out hok.out hLb (by omega)).mono ?_
            rintro e w17 ⟨rfl, k17⟩
            generalize harmsOf ls.length gs ps bs L E a = H at i1 i2 ⊢
            replace SX := SX.kpN k17
            replace KI := KI.thenN k17 (Nat.le_refl _)
            clear k17 cl hL hG hP hQ LX
            have cs := fun i => SX.cell i
            have hib : (decide (T.lo ≤ H) && decide (H ≤ T.hi)) = true := by simp [i1, i2]
            replace hib := Lib.hid hib
            clear i1 i2
            go_wp2_with fail
            refine (inSpan_any ⟨T.lo, T.hi⟩ H _).mono ?_
            rintro e w18 ⟨rfl, k18⟩
            dsimp only
            rw [hib.out]
            replace KI := KI.thenN k18 (Nat.le_refl _)
            clear k18 cs
            go_wp2
            go_roundw
            case rel => exact ⟨a + 1, rfl, by omega, by omega, KI⟩
            case measure => simp [intOf]; omega
          · have h8' : ¬ (a : Int) ≤ (fi : Int) := by omega
            have hb9 := (hb.kpN KQ).kpN KI
            go_wp2_with fail
            refine (awake_any _ hb9).mono ?_
            rintro e w20 ⟨rfl, k20⟩
            have K20 := (KQ.thenN KI (Nat.le_refl _)).thenN k20 (Nat.le_refl _)
            go_wp2
            exact bodyPost_ret (v := .bool true) (by simp [results, Tryd.results14, go_sem]) rfl ⟨rfl, K20⟩
end Go.Proofs.YtdiigflbohbndaaDoor
