/- The statement on tolls: its walk. (Printed by gen14.py.) -/
import Derived.Test.YtdiigflbohbndaaDoorLaw13
import Derived.Test.YtdiigflbohbndaaDoorHarmAll
import Derived.Test.YtdiigflbohbndaaDoorRefHarmAll
namespace Go.Proofs.YtdiigflbohbndaaDoor
open Go.RowKit

theorem tollIs_one {ls : List Layer} {gs : List Grade} {ps : List Int} {bs : List Bool} {r : Rock} {f : Fall} {fr fi lo hi wo n lo' hi' wo' n' : Int} (h : TollIs ls gs ps bs r f fr fi lo hi wo n) (k : TollIs ls gs ps bs r f fr fi lo' hi' wo' n') : lo = lo' ∧ hi = hi' ∧ wo = wo' ∧ n = n' := by
  have one : ∀ {x y : List Blow} {n m : Int}, BlowsChk ls r f x n → BlowsChk ls r f y m → n = m := fun h k => by
    rcases h with ⟨ha, hr, rfl, rfl⟩ | ⟨h0, rfl, h⟩ <;> rcases k with ⟨ka, kr, rfl, rfl⟩ | ⟨k0, rfl, k⟩
    · rfl
    · exfalso
      rcases k with k | ⟨ka, k⟩
      · exact k0 (airChk_one k (.inl ⟨rfl, ha⟩))
      · exact k0 (rockChk_one k (.inl ⟨rfl, hr⟩))
    · exfalso
      rcases h with h | ⟨_, h⟩
      · exact h0 (airChk_one h (.inl ⟨rfl, ka⟩))
      · exact h0 (rockChk_one h (.inl ⟨rfl, kr⟩))
    · rcases h with h | ⟨ha, h⟩ <;> rcases k with k | ⟨ka, k⟩
      · exact airChk_one h k
      · exact absurd (airChk_one h (.inl ⟨rfl, ka⟩)) h0
      · exact absurd (airChk_one k (.inl ⟨rfl, ha⟩)) k0
      · exact rockChk_one h k
  rcases h with ⟨h0, ⟨rfl, rfl, rfl⟩, h⟩ | ⟨h1, h0, ⟨rfl, rfl, rfl⟩, h⟩ | ⟨h1, h2, h⟩ <;> rcases k with ⟨k0, ⟨rfl, rfl, rfl⟩, k⟩ | ⟨k1, k0, ⟨rfl, rfl, rfl⟩, k⟩ | ⟨k1, k2, k⟩
  · exact ⟨rfl, rfl, rfl, one h k⟩
  · exact absurd (one h k1) h0
  · exact absurd (one h k1) h0
  · exact absurd (one k h1) k0
  · exact ⟨rfl, rfl, rfl, groundChk_one h k⟩
  · exact absurd (groundChk_one h k2) h0
  · exact absurd (one k h1) k0
  · exact absurd (groundChk_one k h2) k0
  · rcases h with ⟨h3, ⟨rfl, rfl, rfl⟩, rfl⟩ | ⟨h3, ⟨h4, ⟨rfl, rfl, rfl⟩, rfl⟩ | ⟨h4, ⟨rfl, rfl, rfl⟩, rfl⟩⟩ <;> rcases k with ⟨k3, ⟨rfl, rfl, rfl⟩, rfl⟩ | ⟨k3, ⟨k4, ⟨rfl, rfl, rfl⟩, rfl⟩ | ⟨k4, ⟨rfl, rfl, rfl⟩, rfl⟩⟩ <;> first | exact ⟨rfl, rfl, rfl, rfl⟩ | contradiction | (exfalso; omega)
def encRockT (r : Rock) : List Value := [.int .i64 r.size.lo, .int .i64 r.size.hi, .int .i64 r.dens.lo, .int .i64 r.dens.hi, .int .i64 r.strong.lo, .int .i64 r.strong.hi, .int .i64 r.spin.lo, .int .i64 r.spin.hi, .int .i64 r.shape.lo, .int .i64 r.shape.hi, .bool r.pile]
def encFallT (f : Fall) : List Value := [.int .i64 f.speed.lo, .int .i64 f.speed.hi, .int .i64 f.slope.lo, .int .i64 f.slope.hi]
theorem Rd.cellT {α : Type} {row : Option Nat} {w : World} {sz n b o : Nat} {enc : α → List Value} {xs : List α} (h : Rd row w sz enc (some ⟨b, o, none⟩) n xs) (i : Nat) (hi : i < xs.length) (j : Nat) (v : Value) (hv : (enc xs[i])[j]? = some v) :
    w.cell? ⟨b, o + (i * sz + j), none⟩ = some v := by
  obtain ⟨b', o', e, _, _, hc⟩ := h.2 (by have := h.1; omega)
  injection e with e; injection e with e1 e2
  subst e1 e2
  exact hc i hi j v hv
structure G14 where
  G : G13
  b4 : Nat
  b5 : Nat
def Z14 (r r2 : Rock) (γ : G14) (g : Nat) (w : World) : Prop := Blk w γ.b4 28 (.int .i64 r.size.lo :: .int .i64 r.size.hi :: .int .i64 r.dens.lo :: .int .i64 r.dens.hi :: .int .i64 r.strong.lo :: .int .i64 r.strong.hi :: .int .i64 r.spin.lo :: .int .i64 r.spin.hi :: .int .i64 r.shape.lo :: .int .i64 r.shape.hi :: .bool r.pile :: .int .i64 r2.size.lo :: .int .i64 r2.size.hi :: .int .i64 r2.dens.lo :: .int .i64 r2.dens.hi :: .int .i64 r2.strong.lo :: .int .i64 r2.strong.hi :: .int .i64 r2.spin.lo :: .int .i64 r2.spin.hi :: .int .i64 r2.shape.lo :: .int .i64 r2.shape.hi :: .bool r2.pile :: [] : List Value).toArray ∧ g < γ.b4
def Z17 (f f2 : Fall) (γ : G14) (g : Nat) (w : World) : Prop := Blk w γ.b5 30 #[.int .i64 f.speed.lo, .int .i64 f.speed.hi, .int .i64 f.slope.lo, .int .i64 f.slope.hi, .int .i64 f2.speed.lo, .int .i64 f2.speed.hi, .int .i64 f2.slope.lo, .int .i64 f2.slope.hi] ∧ g < γ.b5
section
variable {γ : G14} {g : Nat} {w w' : World} {r r2 : Rock} {f f2 : Fall}
theorem Z14.kp (h : Z14 r r2 γ g w) (k : Kp w.heap.size (some g) w w') : Z14 r r2 γ g w' := ⟨h.1.kp k h.1.lt (sne (Nat.ne_of_gt h.2)), h.2⟩
theorem Z17.kp (h : Z17 f f2 γ g w) (k : Kp w.heap.size (some g) w w') : Z17 f f2 γ g w' := ⟨h.1.kp k h.1.lt (sne (Nat.ne_of_gt h.2)), h.2⟩
end
structure ZZ (A0 : Option Addr) (c0 : Nat) (ls : List Layer) (Ag : Option Addr) (cg : Nat) (gs : List Grade) (Ap : Option Addr) (cp : Nat) (ps : List Int) (Ab : Option Addr) (cb : Nat) (bs : List Bool) (r r2 : Rock) (f f2 : Fall) (γ : G14) (g : Nat) (w : World) : Prop where
  y : YY A0 c0 ls Ag cg gs Ap cp ps Ab cb bs γ.G g w
  z14 : Z14 r r2 γ g w
  z17 : Z17 f f2 γ g w
theorem ZZ.kp {γ : G14} {g : Nat} {w w' : World} {A0 Ag Ap Ab : Option Addr} {c0 cg cp cb : Nat} {ls : List Layer} {gs : List Grade} {ps : List Int} {bs : List Bool} {r r2 : Rock} {f f2 : Fall} (h : ZZ A0 c0 ls Ag cg gs Ap cp ps Ab cb bs r r2 f f2 γ g w) (k : Kp w.heap.size (some g) w w') :
    ZZ A0 c0 ls Ag cg gs Ap cp ps Ab cb bs r r2 f f2 γ g w' := ⟨h.y.kp k, h.z14.kp k, h.z17.kp k⟩
/-- The boxes of the arguments and of the rock of numbers, and the ring. -/
structure BB14 (Ap : Option Addr) (cp : Nat) (ps : List Int) (Ab : Option Addr) (cb : Nat) (bs : List Bool) (r : Rock) (f : Fall) (r2 : Rock) (f2 : Fall) (nums : List Int) (g bq : Nat) (W : World) (n : Nat) (w : World) : Prop where
  ring : ∃ k, k ≤ 100 + 100 * n ∧ RingAt w g nums k
  l : Blk w W.heap.size 54 #[.slice Ap ps.length cp, .slice Ab bs.length cb]
  r : Blk w (W.heap.size + 1) 28 #[.int .i64 r.size.lo, .int .i64 r.size.hi, .int .i64 r.dens.lo, .int .i64 r.dens.hi, .int .i64 r.strong.lo, .int .i64 r.strong.hi, .int .i64 r.spin.lo, .int .i64 r.spin.hi, .int .i64 r.shape.lo, .int .i64 r.shape.hi, .bool r.pile]
  f : Blk w (W.heap.size + 1 + 1) 30 #[.int .i64 f.speed.lo, .int .i64 f.speed.hi, .int .i64 f.slope.lo, .int .i64 f.slope.hi]
  r2 : Blk w bq 28 #[.int .i64 r2.size.lo, .int .i64 r2.size.hi, .int .i64 r2.dens.lo, .int .i64 r2.dens.hi, .int .i64 r2.strong.lo, .int .i64 r2.strong.hi, .int .i64 r2.spin.lo, .int .i64 r2.spin.hi, .int .i64 r2.shape.lo, .int .i64 r2.shape.hi, .bool r2.pile]
  f2 : Blk w (bq + 1) 30 #[.int .i64 f2.speed.lo, .int .i64 f2.speed.hi, .int .i64 f2.slope.lo, .int .i64 f2.slope.hi]
  k : Kp W.heap.size none W w
  g : W.heap.size + 1 + 1 < g ∧ g < bq
section
variable {Ap Ab : Option Addr} {cp cb : Nat} {ps : List Int} {bs : List Bool} {r : Rock} {f : Fall} {r2 : Rock} {f2 : Fall} {nums : List Int} {g bq n : Nat} {W w w' : World}
theorem BB14.mono (h : BB14 Ap cp ps Ab cb bs r f r2 f2 nums g bq W n w) : BB14 Ap cp ps Ab cb bs r f r2 f2 nums g bq W (n + 1) w := by
  obtain ⟨⟨k, hk, hr⟩, h1, h2, h3, h4, h5, h6, h7⟩ := h
  exact ⟨⟨k, by omega, hr⟩, h1, h2, h3, h4, h5, h6, h7⟩
theorem BB14.kpN (h : BB14 Ap cp ps Ab cb bs r f r2 f2 nums g bq W n w) (k : Kp w.heap.size none w w') : BB14 Ap cp ps Ab cb bs r f r2 f2 nums g bq W (n + 1) w' := by
  obtain ⟨⟨q, hq, hr⟩, h1, h2, h3, h4, h5, h6, h7⟩ := h
  exact ⟨⟨q, by omega, hr.kpN k⟩, h1.kpN k, h2.kpN k, h3.kpN k, h4.kpN k, h5.kpN k, h6.thenN k (Nat.le_refl _), h7⟩
theorem BB14.kpR (h : BB14 Ap cp ps Ab cb bs r f r2 f2 nums g bq W n w) (k : Kp w.heap.size (some g) w w') {q : Nat} (hq : q ≤ 100 + 100 * (n + 1)) (hr : RingAt w' g nums q) : BB14 Ap cp ps Ab cb bs r f r2 f2 nums g bq W (n + 1) w' := by
  obtain ⟨_, h1, h2, h3, h4, h5, h6, h7⟩ := h
  exact ⟨⟨q, hq, hr⟩, h1.kp k h1.lt (sne (by omega)), h2.kp k h2.lt (sne (by omega)), h3.kp k h3.lt (sne (by omega)), h4.kp k h4.lt (sne (by omega)), h5.kp k h5.lt (sne (by omega)), h6.thenOwn k (Nat.le_refl _) (by omega), h7⟩
end
/-- What a round reads. -/
structure LC14 (i b1 b2 b3 b4 b5 b6 b7 : Nat) (Aa : Option Addr) (ca : Nat) (la : List Layer) (Af : Option Addr) (cf : Nat) (gg : List Grade) (Al : Option Addr) (cl : Nat) (pp : List Int) (Aw : Option Addr) (cw : Nat) (bb : List Bool) (r r2 : Rock) (f f2 : Fall) (y9 a9 : Int) (W w : World) : Prop where
  c1 : w.cell? ⟨b1, i, none⟩ = some (.slice Aa la.length ca)
  c2 : w.cell? ⟨b2, i, none⟩ = some (.slice Af gg.length cf)
  c3 : w.cell? ⟨b3, i * 2, none⟩ = some (.slice Al pp.length cl)
  c4 : w.cell? ⟨b3, i * 2 + 1, none⟩ = some (.slice Aw bb.length cw)
  q4 : Rd none w 11 encRockT (some ⟨b4, 0, none⟩) 2 [r, r2]
  q5 : Rd none w 4 encFallT (some ⟨b5, 0, none⟩) 2 [f, f2]
  c6 : w.cell? ⟨b6, i, none⟩ = some (.int .i64 y9)
  c7 : w.cell? ⟨b7, i, none⟩ = some (.int .i64 a9)
  l1 : b1 < w.heap.size
  l2 : b2 < w.heap.size
  l3 : b3 < w.heap.size
  l6 : b6 < w.heap.size
  l7 : b7 < w.heap.size
  ra : Rd none w 2 encLayer Aa la.length la
  rg : Rd none w 2 encGrade Af gg.length gg
  rl : Rd none w 1 encI Al pp.length pp
  rw : Rd none w 1 encB Aw bb.length bb
  k : Kp W.heap.size none W w
section
variable {i b1 b2 b3 b4 b5 b6 b7 : Nat} {Aa Af Al Aw : Option Addr} {ca cf cl cw : Nat} {la : List Layer} {gg : List Grade} {pp : List Int} {bb : List Bool} {r r2 : Rock} {f f2 : Fall} {y9 a9 : Int} {W w w' : World}
theorem LC14.kpN (h : LC14 i b1 b2 b3 b4 b5 b6 b7 Aa ca la Af cf gg Al cl pp Aw cw bb r r2 f f2 y9 a9 W w) (k : Kp w.heap.size none w w') : LC14 i b1 b2 b3 b4 b5 b6 b7 Aa ca la Af cf gg Al cl pp Aw cw bb r r2 f f2 y9 a9 W w' :=
  ⟨(k.cell _ _ h.l1 (by simp)).trans h.c1, (k.cell _ _ h.l2 (by simp)).trans h.c2, (k.cell _ _ h.l3 (by simp)).trans h.c3, (k.cell _ _ h.l3 (by simp)).trans h.c4, h.q4.kpN k, h.q5.kpN k, (k.cell _ _ h.l6 (by simp)).trans h.c6, (k.cell _ _ h.l7 (by simp)).trans h.c7,
    Nat.lt_of_lt_of_le h.l1 k.size, Nat.lt_of_lt_of_le h.l2 k.size, Nat.lt_of_lt_of_le h.l3 k.size, Nat.lt_of_lt_of_le h.l6 k.size, Nat.lt_of_lt_of_le h.l7 k.size, h.ra.kpN k, h.rg.kpN k, h.rl.kpN k, h.rw.kpN k, h.k.thenN k (Nat.le_refl _)⟩
theorem LC14.drew (h : LC14 i b1 b2 b3 b4 b5 b6 b7 Aa ca la Af cf gg Al cl pp Aw cw bb r r2 f f2 y9 a9 W w) : LC14 i b1 b2 b3 b4 b5 b6 b7 Aa ca la Af cf gg Al cl pp Aw cw bb r r2 f f2 y9 a9 W w.drew := h.kpN (Kp.refl _ _ _).drew
end
structure T14 where
  lo : Int
  hi : Int
  wo : Int
  n : Int
  bx : Nat
structure H14 where
  x : Int
  y : Int
set_option maxRecDepth 100000 in
set_option maxHeartbeats 8000000 in
theorem law_BlastTolls_any (A0 : Option Addr) (c0 : Nat) (ls : List Layer) (Ag : Option Addr) (cg : Nat) (gs : List Grade) (Ap : Option Addr) (cp : Nat) (ps : List Int) (Ab : Option Addr) (cb : Nat) (bs : List Bool) (r : Rock) (f : Fall) (fr0 to0 : Int) (A7 : Option Addr) (c7 : Nat) (nums : List Int) (W : World)
    (hls : Rd none W 2 encLayer A0 ls.length ls) (hgs : Rd none W 2 encGrade Ag gs.length gs) (hps : Rd none W 1 encI Ap ps.length ps) (hbs : Rd none W 1 encB Ab bs.length bs) (hcp : ps.length ≤ cp)
    (h : Rd none W 1 (fun x => [Value.int .i64 x]) A7 nums.length nums) (hn : nums.length ≤ 17592186044416) (hb : Bnd W) :
    Calls Tryd.prog 12 #[.slice A0 ls.length c0, .slice Ag gs.length cg, .agg #[.slice Ap ps.length cp, .slice Ab bs.length cb], .agg #[.int .i64 r.size.lo, .int .i64 r.size.hi, .int .i64 r.dens.lo, .int .i64 r.dens.hi, .int .i64 r.strong.lo, .int .i64 r.strong.hi, .int .i64 r.spin.lo, .int .i64 r.spin.hi, .int .i64 r.shape.lo, .int .i64 r.shape.hi, .bool r.pile], .agg #[.int .i64 f.speed.lo, .int .i64 f.speed.hi, .int .i64 f.slope.lo, .int .i64 f.slope.hi], .int .i64 fr0, .int .i64 to0, .slice A7 nums.length c7] W fun e W' => e = .returned (.bool true) ∧ Kp W.heap.size none W W' := by
  have K0 := (((Kp.refl W.heap.size none W).alloc (Nat.le_refl _) (.cells #[.slice Ap ps.length cp, .slice Ab bs.length cb] 54)).alloc (by simp) (.cells #[.int .i64 r.size.lo, .int .i64 r.size.hi, .int .i64 r.dens.lo, .int .i64 r.dens.hi, .int .i64 r.strong.lo, .int .i64 r.strong.hi, .int .i64 r.spin.lo, .int .i64 r.spin.hi, .int .i64 r.shape.lo, .int .i64 r.shape.hi, .bool r.pile] 28)).alloc (by simp; omega) (.cells #[.int .i64 f.speed.lo, .int .i64 f.speed.hi, .int .i64 f.slope.lo, .int .i64 f.slope.hi] 30)
  have LB := ((Blk.new W 54 #[.slice Ap ps.length cp, .slice Ab bs.length cb]).alloc (.cells #[.int .i64 r.size.lo, .int .i64 r.size.hi, .int .i64 r.dens.lo, .int .i64 r.dens.hi, .int .i64 r.strong.lo, .int .i64 r.strong.hi, .int .i64 r.spin.lo, .int .i64 r.spin.hi, .int .i64 r.shape.lo, .int .i64 r.shape.hi, .bool r.pile] 28)).alloc (.cells #[.int .i64 f.speed.lo, .int .i64 f.speed.hi, .int .i64 f.slope.lo, .int .i64 f.slope.hi] 30)
  have KB := (Blk.newAt (W.alloc (.cells #[.slice Ap ps.length cp, .slice Ab bs.length cb] 54)) 28 #[.int .i64 r.size.lo, .int .i64 r.size.hi, .int .i64 r.dens.lo, .int .i64 r.dens.hi, .int .i64 r.strong.lo, .int .i64 r.strong.hi, .int .i64 r.spin.lo, .int .i64 r.spin.hi, .int .i64 r.shape.lo, .int .i64 r.shape.hi, .bool r.pile] (n := W.heap.size + 1) (by simp)).alloc (.cells #[.int .i64 f.speed.lo, .int .i64 f.speed.hi, .int .i64 f.slope.lo, .int .i64 f.slope.hi] 30)
  have FB := Blk.newAt ((W.alloc (.cells #[.slice Ap ps.length cp, .slice Ab bs.length cb] 54)).alloc (.cells #[.int .i64 r.size.lo, .int .i64 r.size.hi, .int .i64 r.dens.lo, .int .i64 r.dens.hi, .int .i64 r.strong.lo, .int .i64 r.strong.hi, .int .i64 r.spin.lo, .int .i64 r.spin.hi, .int .i64 r.shape.lo, .int .i64 r.shape.hi, .bool r.pile] 28)) 30 #[.int .i64 f.speed.lo, .int .i64 f.speed.hi, .int .i64 f.slope.lo, .int .i64 f.slope.hi] (n := W.heap.size + 1 + 1) (by simp)
  generalize hw0 : ((W.alloc (.cells #[.slice Ap ps.length cp, .slice Ab bs.length cb] 54)).alloc (.cells #[.int .i64 r.size.lo, .int .i64 r.size.hi, .int .i64 r.dens.lo, .int .i64 r.dens.hi, .int .i64 r.strong.lo, .int .i64 r.strong.hi, .int .i64 r.spin.lo, .int .i64 r.spin.hi, .int .i64 r.shape.lo, .int .i64 r.shape.hi, .bool r.pile] 28)).alloc (.cells #[.int .i64 f.speed.lo, .int .i64 f.speed.hi, .int .i64 f.slope.lo, .int .i64 f.slope.hi] 30) = w0 at K0 LB KB FB
  go_enter Tryd.func12, Tryd.ntmps12
  have cl := fun i => LB.cell i
  go_wp2_with fail
  clear hw0
  refine (bigGround_any A0 ls.length c0 Ag gs.length cg Ap Ab ps.length cp bs.length cb _).mono ?_
  rintro e w1 ⟨⟨b, rfl, hbig⟩, k1⟩
  have K1 := K0.thenN k1 (Nat.le_refl _)
  replace LB := LB.kpN k1
  replace KB := KB.kpN k1
  replace FB := FB.kpN k1
  clear k1 K0 cl
  cases b
  case true =>
    clear hbig
    go_wp2_with fail
    refine (awake_any _ (hb.kpN K1)).mono ?_
    rintro e w2 ⟨rfl, k2⟩
    have K2 := K1.thenN k2 (Nat.le_refl _)
    go_wp2
    exact bodyPost_ret (v := .bool true) (by simp [results, Tryd.results12, go_sem]) rfl ⟨rfl, K2⟩
  case false =>
    clear hbig
    go_wp2_with fail
    refine (newRing_any A7 c7 nums _ (h.kpN K1) hn).mono ?_
    rintro e w2 ⟨g, rfl, hg, hr, k2⟩
    have K2 := K1.thenN k2 (Nat.le_refl _)
    have hlg : W.heap.size + 1 + 1 < g := by have := FB.lt; omega
    replace LB := LB.kpN k2
    replace KB := KB.kpN k2
    replace FB := FB.kpN k2
    clear k2 K1
    go_wp2_with fail
    refine (rockOf_any g nums 0 _ hr (by omega)).mono ?_
    rintro e w3 ⟨v, rfl, ⟨r2, f2, rfl, hrk, -⟩, hr3, k3⟩
    have K3 := K2.thenOwn k3 (Nat.le_refl _) (by omega)
    replace LB := LB.kp k3 LB.lt (sne (by omega))
    replace KB := KB.kp k3 KB.lt (sne (by omega))
    replace FB := FB.kp k3 FB.lt (sne (by omega))
    have hz3 : g < w3.heap.size := hr3.lt
    have KQ := (K3.alloc K3.size (.cells #[.int .i64 r2.size.lo, .int .i64 r2.size.hi, .int .i64 r2.dens.lo, .int .i64 r2.dens.hi, .int .i64 r2.strong.lo, .int .i64 r2.strong.hi, .int .i64 r2.spin.lo, .int .i64 r2.spin.hi, .int .i64 r2.shape.lo, .int .i64 r2.shape.hi, .bool r2.pile] 28)).alloc (alloc_ge K3.size _) (.cells #[.int .i64 f2.speed.lo, .int .i64 f2.speed.hi, .int .i64 f2.slope.lo, .int .i64 f2.slope.hi] 30)
    have HR := (hr3.alloc (.cells #[.int .i64 r2.size.lo, .int .i64 r2.size.hi, .int .i64 r2.dens.lo, .int .i64 r2.dens.hi, .int .i64 r2.strong.lo, .int .i64 r2.strong.hi, .int .i64 r2.spin.lo, .int .i64 r2.spin.hi, .int .i64 r2.shape.lo, .int .i64 r2.shape.hi, .bool r2.pile] 28)).alloc (.cells #[.int .i64 f2.speed.lo, .int .i64 f2.speed.hi, .int .i64 f2.slope.lo, .int .i64 f2.slope.hi] 30)
    have RB := (Blk.new w3 28 #[.int .i64 r2.size.lo, .int .i64 r2.size.hi, .int .i64 r2.dens.lo, .int .i64 r2.dens.hi, .int .i64 r2.strong.lo, .int .i64 r2.strong.hi, .int .i64 r2.spin.lo, .int .i64 r2.spin.hi, .int .i64 r2.shape.lo, .int .i64 r2.shape.hi, .bool r2.pile]).alloc (.cells #[.int .i64 f2.speed.lo, .int .i64 f2.speed.hi, .int .i64 f2.slope.lo, .int .i64 f2.slope.hi] 30)
    have GB := Blk.newAt (w3.alloc (.cells #[.int .i64 r2.size.lo, .int .i64 r2.size.hi, .int .i64 r2.dens.lo, .int .i64 r2.dens.hi, .int .i64 r2.strong.lo, .int .i64 r2.strong.hi, .int .i64 r2.spin.lo, .int .i64 r2.spin.hi, .int .i64 r2.shape.lo, .int .i64 r2.shape.hi, .bool r2.pile] 28)) 30 #[.int .i64 f2.speed.lo, .int .i64 f2.speed.hi, .int .i64 f2.slope.lo, .int .i64 f2.slope.hi] (n := w3.heap.size + 1) (by simp)
    replace LB := (LB.alloc (.cells #[.int .i64 r2.size.lo, .int .i64 r2.size.hi, .int .i64 r2.dens.lo, .int .i64 r2.dens.hi, .int .i64 r2.strong.lo, .int .i64 r2.strong.hi, .int .i64 r2.spin.lo, .int .i64 r2.spin.hi, .int .i64 r2.shape.lo, .int .i64 r2.shape.hi, .bool r2.pile] 28)).alloc (.cells #[.int .i64 f2.speed.lo, .int .i64 f2.speed.hi, .int .i64 f2.slope.lo, .int .i64 f2.slope.hi] 30)
    replace KB := (KB.alloc (.cells #[.int .i64 r2.size.lo, .int .i64 r2.size.hi, .int .i64 r2.dens.lo, .int .i64 r2.dens.hi, .int .i64 r2.strong.lo, .int .i64 r2.strong.hi, .int .i64 r2.spin.lo, .int .i64 r2.spin.hi, .int .i64 r2.shape.lo, .int .i64 r2.shape.hi, .bool r2.pile] 28)).alloc (.cells #[.int .i64 f2.speed.lo, .int .i64 f2.speed.hi, .int .i64 f2.slope.lo, .int .i64 f2.slope.hi] 30)
    replace FB := (FB.alloc (.cells #[.int .i64 r2.size.lo, .int .i64 r2.size.hi, .int .i64 r2.dens.lo, .int .i64 r2.dens.hi, .int .i64 r2.strong.lo, .int .i64 r2.strong.hi, .int .i64 r2.spin.lo, .int .i64 r2.spin.hi, .int .i64 r2.shape.lo, .int .i64 r2.shape.hi, .bool r2.pile] 28)).alloc (.cells #[.int .i64 f2.speed.lo, .int .i64 f2.speed.hi, .int .i64 f2.slope.lo, .int .i64 f2.slope.hi] 30)
    clear k3 K2 hr K3 hr3 hg
    go_wp2_with fail
    obtain ⟨bq, hbq⟩ : ∃ q, q = w3.heap.size := ⟨_, rfl⟩
    rw [← hbq] at RB GB hz3 ⊢
    generalize (w3.alloc (.cells #[.int .i64 r2.size.lo, .int .i64 r2.size.hi, .int .i64 r2.dens.lo, .int .i64 r2.dens.hi, .int .i64 r2.strong.lo, .int .i64 r2.strong.hi, .int .i64 r2.spin.lo, .int .i64 r2.spin.hi, .int .i64 r2.shape.lo, .int .i64 r2.shape.hi, .bool r2.pile] 28)).alloc (.cells #[.int .i64 f2.speed.lo, .int .i64 f2.speed.hi, .int .i64 f2.slope.lo, .int .i64 f2.slope.hi] 30) = w4 at *
    have HB0 : BB14 Ap cp ps Ab cb bs r f r2 f2 nums g bq W 0 w4 := ⟨⟨_, by omega, HR⟩, LB, KB, FB, RB, GB, KQ, ⟨hlg, hz3⟩⟩
    clear HR LB KB FB RB GB KQ hbq
    refine wp_region_inv (Γ := G14) [none, none, none, none, none, none, none, none, none, none, none, none, none, none, none, none, none, none, none, none, some 18, some 19, some 20, some 21, some 22, none, none, none, none, none, none, none, none, none, none, none, none, none, none, none, none, none, none, none, none, none, none, none, none, none, some 0, some 1, some 2, some 3, some 4, some 5, some 6, some 7, some 8, some 9, some 10, some 11, some 12, some 13, some 14, some 15, some 16, some 17] [[], [], [1], [0, 1, 2], [], [], [1, 2, 5], [1, 2, 4, 5, 6], [], [], [1, 2, 5, 6, 9], [1, 2, 5, 6, 8, 9, 10], [], [], [12, 13], [], [], [15, 16], [0, 1, 2, 3, 5, 6, 9, 10], [0, 1, 2, 3, 4, 5, 6, 7, 9, 10, 18], [0, 1, 2, 3, 4, 5, 6, 7, 8, 9, 10, 11, 18, 19], [0, 1, 2, 3, 4, 5, 6, 7, 8, 9, 10, 11, 12, 13, 14, 18, 19, 20], [0, 1, 2, 3, 4, 5, 6, 7, 8, 9, 10, 11, 12, 13, 14, 15, 16, 17, 18, 19, 20, 21]] [[1, 2, 4, 5, 6, 7, 8, 9, 10, 11, 12, 13, 14, 15, 16, 17], [0, 4, 5, 8, 9, 12, 13, 14, 15, 16, 17], [0, 1, 4, 5, 8, 9, 12, 13, 14, 15, 16, 17], [0, 1, 2, 4, 5, 6, 7, 8, 9, 10, 11, 12, 13, 14, 15, 16, 17], [0, 1, 2, 3, 5, 6, 8, 9, 10, 11, 12, 13, 14, 15, 16, 17, 18], [0, 1, 2, 3, 4, 8, 9, 12, 13, 14, 15, 16, 17], [0, 1, 2, 3, 4, 5, 8, 9, 12, 13, 14, 15, 16, 17], [0, 1, 2, 3, 4, 5, 6, 8, 9, 10, 11, 12, 13, 14, 15, 16, 17, 18], [0, 1, 2, 3, 4, 5, 6, 7, 9, 10, 12, 13, 14, 15, 16, 17, 18, 19], [0, 1, 2, 3, 4, 5, 6, 7, 8, 12, 13, 14, 15, 16, 17], [0, 1, 2, 3, 4, 5, 6, 7, 8, 9, 12, 13, 14, 15, 16, 17], [0, 1, 2, 3, 4, 5, 6, 7, 8, 9, 10, 12, 13, 14, 15, 16, 17, 18, 19], [0, 1, 2, 3, 4, 5, 6, 7, 8, 9, 10, 11, 13, 15, 16, 17, 18, 19, 20], [0, 1, 2, 3, 4, 5, 6, 7, 8, 9, 10, 11, 12, 15, 16, 17, 18, 19, 20], [0, 1, 2, 3, 4, 5, 6, 7, 8, 9, 10, 11, 12, 13, 15, 16, 17, 18, 19, 20], [0, 1, 2, 3, 4, 5, 6, 7, 8, 9, 10, 11, 12, 13, 14, 16, 18, 19, 20, 21], [0, 1, 2, 3, 4, 5, 6, 7, 8, 9, 10, 11, 12, 13, 14, 15, 18, 19, 20, 21], [0, 1, 2, 3, 4, 5, 6, 7, 8, 9, 10, 11, 12, 13, 14, 15, 16, 18, 19, 20, 21], [0, 1, 2, 3, 4, 5, 6, 7, 8, 9, 10, 11, 12, 13, 14, 15, 16, 17], [0, 1, 2, 3, 4, 5, 6, 7, 8, 9, 10, 11, 12, 13, 14, 15, 16, 17, 18], [0, 1, 2, 3, 4, 5, 6, 7, 8, 9, 10, 11, 12, 13, 14, 15, 16, 17, 18, 19], [0, 1, 2, 3, 4, 5, 6, 7, 8, 9, 10, 11, 12, 13, 14, 15, 16, 17, 18, 19, 20], [0, 1, 2, 3, 4, 5, 6, 7, 8, 9, 10, 11, 12, 13, 14, 15, 16, 17, 18, 19, 20, 21]] (fun γ => [.slice A0 ls.length c0, .pointer (some ⟨g, 0, none⟩), .slice γ.G.A1 γ.G.l2.length γ.G.c1, .slice (some ⟨γ.G.b1, 0, none⟩) 2 2, .slice Ag gs.length cg, .pointer (some ⟨g, 0, none⟩), .slice γ.G.A2 γ.G.gs2.length γ.G.c2, .slice (some ⟨γ.G.b2, 0, none⟩) 2 2, .agg #[.slice Ap ps.length cp, .slice Ab bs.length cb], .pointer (some ⟨g, 0, none⟩), .agg #[.slice γ.G.A3 γ.G.ps2.length γ.G.c3, .slice γ.G.A4 γ.G.bs2.length γ.G.c4], .slice (some ⟨γ.G.b3, 0, none⟩) 2 2, .agg #[.int .i64 r.size.lo, .int .i64 r.size.hi, .int .i64 r.dens.lo, .int .i64 r.dens.hi, .int .i64 r.strong.lo, .int .i64 r.strong.hi, .int .i64 r.spin.lo, .int .i64 r.spin.hi, .int .i64 r.shape.lo, .int .i64 r.shape.hi, .bool r.pile], .agg #[.int .i64 r2.size.lo, .int .i64 r2.size.hi, .int .i64 r2.dens.lo, .int .i64 r2.dens.hi, .int .i64 r2.strong.lo, .int .i64 r2.strong.hi, .int .i64 r2.spin.lo, .int .i64 r2.spin.hi, .int .i64 r2.shape.lo, .int .i64 r2.shape.hi, .bool r2.pile], .slice (some ⟨γ.b4, 0, none⟩) 2 2, .agg #[.int .i64 f.speed.lo, .int .i64 f.speed.hi, .int .i64 f.slope.lo, .int .i64 f.slope.hi], .agg #[.int .i64 f2.speed.lo, .int .i64 f2.speed.hi, .int .i64 f2.slope.lo, .int .i64 f2.slope.hi], .slice (some ⟨γ.b5, 0, none⟩) 2 2, .slice (some ⟨γ.G.b1, 0, none⟩) 2 2, .slice (some ⟨γ.G.b2, 0, none⟩) 2 2, .slice (some ⟨γ.G.b3, 0, none⟩) 2 2, .slice (some ⟨γ.b4, 0, none⟩) 2 2, .slice (some ⟨γ.b5, 0, none⟩) 2 2]) (fun γ => [none, none, none, none, none, none, none, none, none, none, none, none, none, none, none, none, none, none, none, none, some (.slice (some ⟨γ.G.b1, 0, none⟩) 2 2), some (.slice (some ⟨γ.G.b2, 0, none⟩) 2 2), some (.slice (some ⟨γ.G.b3, 0, none⟩) 2 2), some (.slice (some ⟨γ.b4, 0, none⟩) 2 2), some (.slice (some ⟨γ.b5, 0, none⟩) 2 2), none, none, none, none, none, none, none, none, none, none, none, none, none, none, none, none, none, none, none, none, none, none, none, none, none, some (.slice A0 ls.length c0), some (.pointer (some ⟨g, 0, none⟩)), some (.slice γ.G.A1 γ.G.l2.length γ.G.c1), some (.slice (some ⟨γ.G.b1, 0, none⟩) 2 2), some (.slice Ag gs.length cg), some (.pointer (some ⟨g, 0, none⟩)), some (.slice γ.G.A2 γ.G.gs2.length γ.G.c2), some (.slice (some ⟨γ.G.b2, 0, none⟩) 2 2), some (.agg #[.slice Ap ps.length cp, .slice Ab bs.length cb]), some (.pointer (some ⟨g, 0, none⟩)), some (.agg #[.slice γ.G.A3 γ.G.ps2.length γ.G.c3, .slice γ.G.A4 γ.G.bs2.length γ.G.c4]), some (.slice (some ⟨γ.G.b3, 0, none⟩) 2 2), some (.agg #[.int .i64 r.size.lo, .int .i64 r.size.hi, .int .i64 r.dens.lo, .int .i64 r.dens.hi, .int .i64 r.strong.lo, .int .i64 r.strong.hi, .int .i64 r.spin.lo, .int .i64 r.spin.hi, .int .i64 r.shape.lo, .int .i64 r.shape.hi, .bool r.pile]), some (.agg #[.int .i64 r2.size.lo, .int .i64 r2.size.hi, .int .i64 r2.dens.lo, .int .i64 r2.dens.hi, .int .i64 r2.strong.lo, .int .i64 r2.strong.hi, .int .i64 r2.spin.lo, .int .i64 r2.spin.hi, .int .i64 r2.shape.lo, .int .i64 r2.shape.hi, .bool r2.pile]), some (.slice (some ⟨γ.b4, 0, none⟩) 2 2), some (.agg #[.int .i64 f.speed.lo, .int .i64 f.speed.hi, .int .i64 f.slope.lo, .int .i64 f.slope.hi]), some (.agg #[.int .i64 f2.speed.lo, .int .i64 f2.speed.hi, .int .i64 f2.slope.lo, .int .i64 f2.slope.hi]), some (.slice (some ⟨γ.b5, 0, none⟩) 2 2)]) ?A5_1 (fun n D γ w => BB14 Ap cp ps Ab cb bs r f r2 f2 nums g bq W n w) (fun k γ w => match k with | 2 => Y2 γ.G g w | 3 => Y3 A0 c0 ls γ.G g w | 6 => Y6 γ.G g w | 7 => Y7 Ag cg gs γ.G g w | 10 => Y10 γ.G g w | 11 => Y11 Ap cp ps Ab cb bs γ.G g w | 14 => Z14 r r2 γ g w | 17 => Z17 f f2 γ g w | _ => True) ⟨⟨none, 0, [], none, 0, [], none, 0, [], none, 0, [], 0, 0, 0⟩, 0, 0⟩ (by kernel_rfl) (fun _ => rfl) ?hA5_1 (by kernel_rfl) ?hB05_1 ?hop5_1 ?hend5_1
    case hA5_1 => intro γ; dsimp only [fullV]; rfl
    case hB05_1 =>
      obtain ⟨⟨q, hq, hr⟩, h1, h2, h3, h4, h5, h6, h7⟩ := HB0
      exact ⟨⟨q, hq, hr.drew⟩, h1.drew, h2.drew, h3.drew, h4.drew, h5.drew, h6.drew, h7⟩
    case hop5_1 =>
      intro hA
      refine ⟨?_, ?_, ?_, ?_, ?_, ?_, ?_, ?_, ?_, ?_, ?_, ?_, ?_, ?_, ?_, ?_, ?_, ?_, ?_, ?_, ?_, ?_, ?_, trivial⟩
      · refine opOk_v hA (fun _ => rfl) (fun _ _ => trivial) ?_ ?_
        · intro n D γ w hn h
          replace hn : n < 23 := hn
          try dsimp only at h
          exact h.mono
        intro n D γ w hB hU K hK
        try dsimp only at hB
        try dsimp only
        clear hB hU
        go_step
        exact hK _ rfl
      · refine opOk_v hA (fun _ => rfl) (fun _ _ => trivial) ?_ ?_
        · intro n D γ w hn h
          replace hn : n < 23 := hn
          try dsimp only at h
          exact h.mono
        intro n D γ w hB hU K hK
        try dsimp only at hB
        try dsimp only
        clear hB hU
        go_step
        exact hK _ rfl
      · refine opOk_l hA (fun _ => rfl) ?_
        intro n D γ w hn hD hB hU K hK
        try dsimp only at hB
        clear hU
        replace hn : n < 23 := hn
        try dsimp only
        obtain ⟨k, hk, hR⟩ := hB.ring
        go_step
        refine (layersOf_any g nums k _ hR (by omega)).mono ?_
        rintro e w5 ⟨v, k', rfl, ⟨A1, c1, l2, rfl, hG, hl6, -, -⟩, hk', hR5, k5⟩
        have s2 : Y2 γ.G g w → Y2 γ.G g w5 := fun h => h.kp k5
        have s3 : Y3 A0 c0 ls γ.G g w → Y3 A0 c0 ls γ.G g w5 := fun h => h.kp k5
        have s6 : Y6 γ.G g w → Y6 γ.G g w5 := fun h => h.kp k5
        have s7 : Y7 Ag cg gs γ.G g w → Y7 Ag cg gs γ.G g w5 := fun h => h.kp k5
        have s10 : Y10 γ.G g w → Y10 γ.G g w5 := fun h => h.kp k5
        have s11 : Y11 Ap cp ps Ab cb bs γ.G g w → Y11 Ap cp ps Ab cb bs γ.G g w5 := fun h => h.kp k5
        have s14 : Z14 r r2 γ g w → Z14 r r2 γ g w5 := fun h => h.kp k5
        have s17 : Z17 f f2 γ g w → Z17 f f2 γ g w5 := fun h => h.kp k5
        refine hK _ _ { γ with G := { γ.G with A1 := A1, c1 := c1, l2 := l2 } } rfl (hB.kpR k5 (by omega) hR5) ⟨hG, hl6⟩ ?_
        try dsimp only [allP, List.getD_cons_zero, List.getD_cons_succ]
        (repeat' apply And.intro) <;> first | exact rfl | exact trivial | exact id | assumption
      · refine opOk_l hA (fun _ => rfl) ?_
        intro n D γ w hn hD hB hU K hK
        try dsimp only at hB
        replace hU : (Y2 γ.G g w) := hU.2.2.1
        replace hn : n < 23 := hn
        try dsimp only
        go_step
        obtain ⟨w5, hw5⟩ : ∃ w5, w5 = w.alloc (.cells #[.slice A0 ls.length c0, .slice γ.G.A1 γ.G.l2.length γ.G.c1] 33) := ⟨_, rfl⟩
        have k5 : Kp w.heap.size none w w5 := hw5 ▸ (Kp.refl w.heap.size none w).alloc (Nat.le_refl _) _
        have hBn : Blk w5 w.heap.size 33 #[.slice A0 ls.length c0, .slice γ.G.A1 γ.G.l2.length γ.G.c1] := hw5 ▸ Blk.new _ _ _
        have hgb : g < w.heap.size := by obtain ⟨q, _, hr⟩ := hB.ring; exact hr.lt
        change K _ (w.alloc (.cells #[.slice A0 ls.length c0, .slice γ.G.A1 γ.G.l2.length γ.G.c1] 33))
        rw [← hw5]
        have s2 : Y2 γ.G g w → Y2 γ.G g w5 := fun h => h.kp (k5.wide (some g))
        have s3 : Y3 A0 c0 ls γ.G g w → Y3 A0 c0 ls γ.G g w5 := fun h => h.kp (k5.wide (some g))
        have s6 : Y6 γ.G g w → Y6 γ.G g w5 := fun h => h.kp (k5.wide (some g))
        have s7 : Y7 Ag cg gs γ.G g w → Y7 Ag cg gs γ.G g w5 := fun h => h.kp (k5.wide (some g))
        have s10 : Y10 γ.G g w → Y10 γ.G g w5 := fun h => h.kp (k5.wide (some g))
        have s11 : Y11 Ap cp ps Ab cb bs γ.G g w → Y11 Ap cp ps Ab cb bs γ.G g w5 := fun h => h.kp (k5.wide (some g))
        have s14 : Z14 r r2 γ g w → Z14 r r2 γ g w5 := fun h => h.kp (k5.wide (some g))
        have s17 : Z17 f f2 γ g w → Z17 f f2 γ g w5 := fun h => h.kp (k5.wide (some g))
        refine hK _ _ { γ with G := { γ.G with b1 := w.heap.size } } rfl (hB.kpN k5) ⟨hBn, hgb⟩ ?_
        try dsimp only [allP, List.getD_cons_zero, List.getD_cons_succ]
        (repeat' apply And.intro) <;> first | exact rfl | exact trivial | exact id | assumption
      · refine opOk_v hA (fun _ => rfl) (fun _ _ => trivial) ?_ ?_
        · intro n D γ w hn h
          replace hn : n < 23 := hn
          try dsimp only at h
          exact h.mono
        intro n D γ w hB hU K hK
        try dsimp only at hB
        try dsimp only
        clear hB hU
        go_step
        exact hK _ rfl
      · refine opOk_v hA (fun _ => rfl) (fun _ _ => trivial) ?_ ?_
        · intro n D γ w hn h
          replace hn : n < 23 := hn
          try dsimp only at h
          exact h.mono
        intro n D γ w hB hU K hK
        try dsimp only at hB
        try dsimp only
        clear hB hU
        go_step
        exact hK _ rfl
      · refine opOk_l hA (fun _ => rfl) ?_
        intro n D γ w hn hD hB hU K hK
        try dsimp only at hB
        replace hU : (Y2 γ.G g w) := hU.2.1
        replace hn : n < 23 := hn
        try dsimp only
        obtain ⟨k, hk, hR⟩ := hB.ring
        go_step
        refine (gradesOf_any g nums k _ hR (by omega)).mono ?_
        rintro e w5 ⟨v, k', rfl, ⟨A2, c2, gs2, rfl, hG, hgs2, -, -⟩, hk', hR5, k5⟩
        have s2 : Y2 γ.G g w → Y2 γ.G g w5 := fun h => h.kp k5
        have s3 : Y3 A0 c0 ls γ.G g w → Y3 A0 c0 ls γ.G g w5 := fun h => h.kp k5
        have s6 : Y6 γ.G g w → Y6 γ.G g w5 := fun h => h.kp k5
        have s7 : Y7 Ag cg gs γ.G g w → Y7 Ag cg gs γ.G g w5 := fun h => h.kp k5
        have s10 : Y10 γ.G g w → Y10 γ.G g w5 := fun h => h.kp k5
        have s11 : Y11 Ap cp ps Ab cb bs γ.G g w → Y11 Ap cp ps Ab cb bs γ.G g w5 := fun h => h.kp k5
        have s14 : Z14 r r2 γ g w → Z14 r r2 γ g w5 := fun h => h.kp k5
        have s17 : Z17 f f2 γ g w → Z17 f f2 γ g w5 := fun h => h.kp k5
        refine hK _ _ { γ with G := { γ.G with A2 := A2, c2 := c2, gs2 := gs2 } } rfl (hB.kpR k5 (by omega) hR5) hG ?_
        try dsimp only [allP, List.getD_cons_zero, List.getD_cons_succ]
        (repeat' apply And.intro) <;> first | exact rfl | exact trivial | exact id | assumption
      · refine opOk_l hA (fun _ => rfl) ?_
        intro n D γ w hn hD hB hU K hK
        try dsimp only at hB
        replace hU : (Y2 γ.G g w) ∧ (Y6 γ.G g w) := ⟨hU.2.1, hU.2.2.2.2.1⟩
        replace hn : n < 23 := hn
        try dsimp only
        go_step
        obtain ⟨w5, hw5⟩ : ∃ w5, w5 = w.alloc (.cells #[.slice Ag gs.length cg, .slice γ.G.A2 γ.G.gs2.length γ.G.c2] 49) := ⟨_, rfl⟩
        have k5 : Kp w.heap.size none w w5 := hw5 ▸ (Kp.refl w.heap.size none w).alloc (Nat.le_refl _) _
        have hBn : Blk w5 w.heap.size 49 #[.slice Ag gs.length cg, .slice γ.G.A2 γ.G.gs2.length γ.G.c2] := hw5 ▸ Blk.new _ _ _
        have hgb : g < w.heap.size := by obtain ⟨q, _, hr⟩ := hB.ring; exact hr.lt
        change K _ (w.alloc (.cells #[.slice Ag gs.length cg, .slice γ.G.A2 γ.G.gs2.length γ.G.c2] 49))
        rw [← hw5]
        have s2 : Y2 γ.G g w → Y2 γ.G g w5 := fun h => h.kp (k5.wide (some g))
        have s3 : Y3 A0 c0 ls γ.G g w → Y3 A0 c0 ls γ.G g w5 := fun h => h.kp (k5.wide (some g))
        have s6 : Y6 γ.G g w → Y6 γ.G g w5 := fun h => h.kp (k5.wide (some g))
        have s7 : Y7 Ag cg gs γ.G g w → Y7 Ag cg gs γ.G g w5 := fun h => h.kp (k5.wide (some g))
        have s10 : Y10 γ.G g w → Y10 γ.G g w5 := fun h => h.kp (k5.wide (some g))
        have s11 : Y11 Ap cp ps Ab cb bs γ.G g w → Y11 Ap cp ps Ab cb bs γ.G g w5 := fun h => h.kp (k5.wide (some g))
        have s14 : Z14 r r2 γ g w → Z14 r r2 γ g w5 := fun h => h.kp (k5.wide (some g))
        have s17 : Z17 f f2 γ g w → Z17 f f2 γ g w5 := fun h => h.kp (k5.wide (some g))
        refine hK _ _ { γ with G := { γ.G with b2 := w.heap.size } } rfl (hB.kpN k5) ⟨hBn, hgb⟩ ?_
        try dsimp only [allP, List.getD_cons_zero, List.getD_cons_succ]
        (repeat' apply And.intro) <;> first | exact rfl | exact trivial | exact id | assumption
      · refine opOk_v hA (fun _ => rfl) (fun _ _ => trivial) ?_ ?_
        · intro n D γ w hn h
          replace hn : n < 23 := hn
          try dsimp only at h
          exact h.mono
        intro n D γ w hB hU K hK
        try dsimp only at hB
        try dsimp only
        have d1 := fun i => hB.l.cell i
        have d2 := fun i => hB.r.cell i
        have d3 := fun i => hB.f.cell i
        have d4 := fun i => hB.r2.cell i
        have d5 := fun i => hB.f2.cell i
        clear hB hU
        go_step
        exact hK _ rfl
      · refine opOk_v hA (fun _ => rfl) (fun _ _ => trivial) ?_ ?_
        · intro n D γ w hn h
          replace hn : n < 23 := hn
          try dsimp only at h
          exact h.mono
        intro n D γ w hB hU K hK
        try dsimp only at hB
        try dsimp only
        clear hB hU
        go_step
        exact hK _ rfl
      · refine opOk_l hA (fun _ => rfl) ?_
        intro n D γ w hn hD hB hU K hK
        try dsimp only at hB
        replace hU : (Y2 γ.G g w) ∧ (Y6 γ.G g w) := ⟨hU.2.1, hU.2.2.2.1⟩
        replace hn : n < 23 := hn
        try dsimp only
        obtain ⟨k, hk, hR⟩ := hB.ring
        go_step
        refine (landOf_any g nums k _ hR (by omega)).mono ?_
        rintro e w5 ⟨v, k', rfl, ⟨A3, c3, A4, c4, ps2, bs2, rfl, hP, hQ, hbl, hp1, hp16, hpp, hc3, -⟩, hk', hR5, k5⟩
        have s2 : Y2 γ.G g w → Y2 γ.G g w5 := fun h => h.kp k5
        have s3 : Y3 A0 c0 ls γ.G g w → Y3 A0 c0 ls γ.G g w5 := fun h => h.kp k5
        have s6 : Y6 γ.G g w → Y6 γ.G g w5 := fun h => h.kp k5
        have s7 : Y7 Ag cg gs γ.G g w → Y7 Ag cg gs γ.G g w5 := fun h => h.kp k5
        have s10 : Y10 γ.G g w → Y10 γ.G g w5 := fun h => h.kp k5
        have s11 : Y11 Ap cp ps Ab cb bs γ.G g w → Y11 Ap cp ps Ab cb bs γ.G g w5 := fun h => h.kp k5
        have s14 : Z14 r r2 γ g w → Z14 r r2 γ g w5 := fun h => h.kp k5
        have s17 : Z17 f f2 γ g w → Z17 f f2 γ g w5 := fun h => h.kp k5
        refine hK _ _ { γ with G := { γ.G with A3 := A3, c3 := c3, A4 := A4, c4 := c4, ps2 := ps2, bs2 := bs2 } } rfl (hB.kpR k5 (by omega) hR5) ⟨hP, hQ, hp1, hp16, hc3, hbl⟩ ?_
        try dsimp only [allP, List.getD_cons_zero, List.getD_cons_succ]
        (repeat' apply And.intro) <;> first | exact rfl | exact trivial | exact id | assumption
      · refine opOk_l hA (fun _ => rfl) ?_
        intro n D γ w hn hD hB hU K hK
        try dsimp only at hB
        replace hU : (Y2 γ.G g w) ∧ (Y6 γ.G g w) ∧ (Y10 γ.G g w) := ⟨hU.2.1, hU.2.2.2.1, hU.2.2.2.2.2.2.1⟩
        replace hn : n < 23 := hn
        try dsimp only
        go_step
        obtain ⟨w5, hw5⟩ : ∃ w5, w5 = w.alloc (.cells #[.slice Ap ps.length cp, .slice Ab bs.length cb, .slice γ.G.A3 γ.G.ps2.length γ.G.c3, .slice γ.G.A4 γ.G.bs2.length γ.G.c4] 54) := ⟨_, rfl⟩
        have k5 : Kp w.heap.size none w w5 := hw5 ▸ (Kp.refl w.heap.size none w).alloc (Nat.le_refl _) _
        have hBn : Blk w5 w.heap.size 54 #[.slice Ap ps.length cp, .slice Ab bs.length cb, .slice γ.G.A3 γ.G.ps2.length γ.G.c3, .slice γ.G.A4 γ.G.bs2.length γ.G.c4] := hw5 ▸ Blk.new _ _ _
        have hgb : g < w.heap.size := by obtain ⟨q, _, hr⟩ := hB.ring; exact hr.lt
        change K _ (w.alloc (.cells #[.slice Ap ps.length cp, .slice Ab bs.length cb, .slice γ.G.A3 γ.G.ps2.length γ.G.c3, .slice γ.G.A4 γ.G.bs2.length γ.G.c4] 54))
        rw [← hw5]
        have s2 : Y2 γ.G g w → Y2 γ.G g w5 := fun h => h.kp (k5.wide (some g))
        have s3 : Y3 A0 c0 ls γ.G g w → Y3 A0 c0 ls γ.G g w5 := fun h => h.kp (k5.wide (some g))
        have s6 : Y6 γ.G g w → Y6 γ.G g w5 := fun h => h.kp (k5.wide (some g))
        have s7 : Y7 Ag cg gs γ.G g w → Y7 Ag cg gs γ.G g w5 := fun h => h.kp (k5.wide (some g))
        have s10 : Y10 γ.G g w → Y10 γ.G g w5 := fun h => h.kp (k5.wide (some g))
        have s11 : Y11 Ap cp ps Ab cb bs γ.G g w → Y11 Ap cp ps Ab cb bs γ.G g w5 := fun h => h.kp (k5.wide (some g))
        have s14 : Z14 r r2 γ g w → Z14 r r2 γ g w5 := fun h => h.kp (k5.wide (some g))
        have s17 : Z17 f f2 γ g w → Z17 f f2 γ g w5 := fun h => h.kp (k5.wide (some g))
        refine hK _ _ { γ with G := { γ.G with b3 := w.heap.size } } rfl (hB.kpN k5) ⟨hBn, hgb⟩ ?_
        try dsimp only [allP, List.getD_cons_zero, List.getD_cons_succ]
        (repeat' apply And.intro) <;> first | exact rfl | exact trivial | exact id | assumption
      · refine opOk_v hA (fun _ => rfl) (fun _ _ => trivial) ?_ ?_
        · intro n D γ w hn h
          replace hn : n < 23 := hn
          try dsimp only at h
          exact h.mono
        intro n D γ w hB hU K hK
        try dsimp only at hB
        try dsimp only
        have d1 := fun i => hB.l.cell i
        have d2 := fun i => hB.r.cell i
        have d3 := fun i => hB.f.cell i
        have d4 := fun i => hB.r2.cell i
        have d5 := fun i => hB.f2.cell i
        clear hB hU
        go_step
        exact hK _ rfl
      · refine opOk_v hA (fun _ => rfl) (fun _ _ => trivial) ?_ ?_
        · intro n D γ w hn h
          replace hn : n < 23 := hn
          try dsimp only at h
          exact h.mono
        intro n D γ w hB hU K hK
        try dsimp only at hB
        try dsimp only
        have d1 := fun i => hB.l.cell i
        have d2 := fun i => hB.r.cell i
        have d3 := fun i => hB.f.cell i
        have d4 := fun i => hB.r2.cell i
        have d5 := fun i => hB.f2.cell i
        clear hB hU
        go_step
        exact hK _ rfl
      · refine opOk_l hA (fun _ => rfl) ?_
        intro n D γ w hn hD hB hU K hK
        try dsimp only at hB
        clear hU
        replace hn : n < 23 := hn
        try dsimp only
        go_step
        obtain ⟨w5, hw5⟩ : ∃ w5, w5 = w.alloc (.cells (.int .i64 r.size.lo :: .int .i64 r.size.hi :: .int .i64 r.dens.lo :: .int .i64 r.dens.hi :: .int .i64 r.strong.lo :: .int .i64 r.strong.hi :: .int .i64 r.spin.lo :: .int .i64 r.spin.hi :: .int .i64 r.shape.lo :: .int .i64 r.shape.hi :: .bool r.pile :: .int .i64 r2.size.lo :: .int .i64 r2.size.hi :: .int .i64 r2.dens.lo :: .int .i64 r2.dens.hi :: .int .i64 r2.strong.lo :: .int .i64 r2.strong.hi :: .int .i64 r2.spin.lo :: .int .i64 r2.spin.hi :: .int .i64 r2.shape.lo :: .int .i64 r2.shape.hi :: .bool r2.pile :: [] : List Value).toArray 28) := ⟨_, rfl⟩
        have k5 : Kp w.heap.size none w w5 := hw5 ▸ (Kp.refl w.heap.size none w).alloc (Nat.le_refl _) _
        have hBn : Blk w5 w.heap.size 28 (.int .i64 r.size.lo :: .int .i64 r.size.hi :: .int .i64 r.dens.lo :: .int .i64 r.dens.hi :: .int .i64 r.strong.lo :: .int .i64 r.strong.hi :: .int .i64 r.spin.lo :: .int .i64 r.spin.hi :: .int .i64 r.shape.lo :: .int .i64 r.shape.hi :: .bool r.pile :: .int .i64 r2.size.lo :: .int .i64 r2.size.hi :: .int .i64 r2.dens.lo :: .int .i64 r2.dens.hi :: .int .i64 r2.strong.lo :: .int .i64 r2.strong.hi :: .int .i64 r2.spin.lo :: .int .i64 r2.spin.hi :: .int .i64 r2.shape.lo :: .int .i64 r2.shape.hi :: .bool r2.pile :: [] : List Value).toArray := hw5 ▸ Blk.new _ _ _
        have hgb : g < w.heap.size := by obtain ⟨q, _, hr⟩ := hB.ring; exact hr.lt
        change K _ (w.alloc (.cells (.int .i64 r.size.lo :: .int .i64 r.size.hi :: .int .i64 r.dens.lo :: .int .i64 r.dens.hi :: .int .i64 r.strong.lo :: .int .i64 r.strong.hi :: .int .i64 r.spin.lo :: .int .i64 r.spin.hi :: .int .i64 r.shape.lo :: .int .i64 r.shape.hi :: .bool r.pile :: .int .i64 r2.size.lo :: .int .i64 r2.size.hi :: .int .i64 r2.dens.lo :: .int .i64 r2.dens.hi :: .int .i64 r2.strong.lo :: .int .i64 r2.strong.hi :: .int .i64 r2.spin.lo :: .int .i64 r2.spin.hi :: .int .i64 r2.shape.lo :: .int .i64 r2.shape.hi :: .bool r2.pile :: [] : List Value).toArray 28))
        rw [← hw5]
        have s2 : Y2 γ.G g w → Y2 γ.G g w5 := fun h => h.kp (k5.wide (some g))
        have s3 : Y3 A0 c0 ls γ.G g w → Y3 A0 c0 ls γ.G g w5 := fun h => h.kp (k5.wide (some g))
        have s6 : Y6 γ.G g w → Y6 γ.G g w5 := fun h => h.kp (k5.wide (some g))
        have s7 : Y7 Ag cg gs γ.G g w → Y7 Ag cg gs γ.G g w5 := fun h => h.kp (k5.wide (some g))
        have s10 : Y10 γ.G g w → Y10 γ.G g w5 := fun h => h.kp (k5.wide (some g))
        have s11 : Y11 Ap cp ps Ab cb bs γ.G g w → Y11 Ap cp ps Ab cb bs γ.G g w5 := fun h => h.kp (k5.wide (some g))
        have s14 : Z14 r r2 γ g w → Z14 r r2 γ g w5 := fun h => h.kp (k5.wide (some g))
        have s17 : Z17 f f2 γ g w → Z17 f f2 γ g w5 := fun h => h.kp (k5.wide (some g))
        refine hK _ _ { γ with b4 := w.heap.size } rfl (hB.kpN k5) ⟨hBn, hgb⟩ ?_
        try dsimp only [allP, List.getD_cons_zero, List.getD_cons_succ]
        (repeat' apply And.intro) <;> first | exact rfl | exact trivial | exact id | assumption
      · refine opOk_v hA (fun _ => rfl) (fun _ _ => trivial) ?_ ?_
        · intro n D γ w hn h
          replace hn : n < 23 := hn
          try dsimp only at h
          exact h.mono
        intro n D γ w hB hU K hK
        try dsimp only at hB
        try dsimp only
        have d1 := fun i => hB.l.cell i
        have d2 := fun i => hB.r.cell i
        have d3 := fun i => hB.f.cell i
        have d4 := fun i => hB.r2.cell i
        have d5 := fun i => hB.f2.cell i
        clear hB hU
        go_step
        exact hK _ rfl
      · refine opOk_v hA (fun _ => rfl) (fun _ _ => trivial) ?_ ?_
        · intro n D γ w hn h
          replace hn : n < 23 := hn
          try dsimp only at h
          exact h.mono
        intro n D γ w hB hU K hK
        try dsimp only at hB
        try dsimp only
        have d1 := fun i => hB.l.cell i
        have d2 := fun i => hB.r.cell i
        have d3 := fun i => hB.f.cell i
        have d4 := fun i => hB.r2.cell i
        have d5 := fun i => hB.f2.cell i
        clear hB hU
        go_step
        exact hK _ rfl
      · refine opOk_l hA (fun _ => rfl) ?_
        intro n D γ w hn hD hB hU K hK
        try dsimp only at hB
        clear hU
        replace hn : n < 23 := hn
        try dsimp only
        go_step
        obtain ⟨w5, hw5⟩ : ∃ w5, w5 = w.alloc (.cells #[.int .i64 f.speed.lo, .int .i64 f.speed.hi, .int .i64 f.slope.lo, .int .i64 f.slope.hi, .int .i64 f2.speed.lo, .int .i64 f2.speed.hi, .int .i64 f2.slope.lo, .int .i64 f2.slope.hi] 30) := ⟨_, rfl⟩
        have k5 : Kp w.heap.size none w w5 := hw5 ▸ (Kp.refl w.heap.size none w).alloc (Nat.le_refl _) _
        have hBn : Blk w5 w.heap.size 30 #[.int .i64 f.speed.lo, .int .i64 f.speed.hi, .int .i64 f.slope.lo, .int .i64 f.slope.hi, .int .i64 f2.speed.lo, .int .i64 f2.speed.hi, .int .i64 f2.slope.lo, .int .i64 f2.slope.hi] := hw5 ▸ Blk.new _ _ _
        have hgb : g < w.heap.size := by obtain ⟨q, _, hr⟩ := hB.ring; exact hr.lt
        change K _ (w.alloc (.cells #[.int .i64 f.speed.lo, .int .i64 f.speed.hi, .int .i64 f.slope.lo, .int .i64 f.slope.hi, .int .i64 f2.speed.lo, .int .i64 f2.speed.hi, .int .i64 f2.slope.lo, .int .i64 f2.slope.hi] 30))
        rw [← hw5]
        have s2 : Y2 γ.G g w → Y2 γ.G g w5 := fun h => h.kp (k5.wide (some g))
        have s3 : Y3 A0 c0 ls γ.G g w → Y3 A0 c0 ls γ.G g w5 := fun h => h.kp (k5.wide (some g))
        have s6 : Y6 γ.G g w → Y6 γ.G g w5 := fun h => h.kp (k5.wide (some g))
        have s7 : Y7 Ag cg gs γ.G g w → Y7 Ag cg gs γ.G g w5 := fun h => h.kp (k5.wide (some g))
        have s10 : Y10 γ.G g w → Y10 γ.G g w5 := fun h => h.kp (k5.wide (some g))
        have s11 : Y11 Ap cp ps Ab cb bs γ.G g w → Y11 Ap cp ps Ab cb bs γ.G g w5 := fun h => h.kp (k5.wide (some g))
        have s14 : Z14 r r2 γ g w → Z14 r r2 γ g w5 := fun h => h.kp (k5.wide (some g))
        have s17 : Z17 f f2 γ g w → Z17 f f2 γ g w5 := fun h => h.kp (k5.wide (some g))
        refine hK _ _ { γ with b5 := w.heap.size } rfl (hB.kpN k5) ⟨hBn, hgb⟩ ?_
        try dsimp only [allP, List.getD_cons_zero, List.getD_cons_succ]
        (repeat' apply And.intro) <;> first | exact rfl | exact trivial | exact id | assumption
      · refine opOk_v hA (fun _ => rfl) (fun _ _ => trivial) ?_ ?_
        · intro n D γ w hn h
          replace hn : n < 23 := hn
          try dsimp only at h
          exact h.mono
        intro n D γ w hB hU K hK
        try dsimp only at hB
        try dsimp only
        clear hB hU
        go_step
        exact hK _ rfl
      · refine opOk_v hA (fun _ => rfl) (fun _ _ => trivial) ?_ ?_
        · intro n D γ w hn h
          replace hn : n < 23 := hn
          try dsimp only at h
          exact h.mono
        intro n D γ w hB hU K hK
        try dsimp only at hB
        try dsimp only
        clear hB hU
        go_step
        exact hK _ rfl
      · refine opOk_v hA (fun _ => rfl) (fun _ _ => trivial) ?_ ?_
        · intro n D γ w hn h
          replace hn : n < 23 := hn
          try dsimp only at h
          exact h.mono
        intro n D γ w hB hU K hK
        try dsimp only at hB
        try dsimp only
        clear hB hU
        go_step
        exact hK _ rfl
      · refine opOk_v hA (fun _ => rfl) (fun _ _ => trivial) ?_ ?_
        · intro n D γ w hn h
          replace hn : n < 23 := hn
          try dsimp only at h
          exact h.mono
        intro n D γ w hB hU K hK
        try dsimp only at hB
        try dsimp only
        clear hB hU
        go_step
        exact hK _ rfl
      · refine opOk_v hA (fun _ => rfl) (fun _ _ => trivial) ?_ ?_
        · intro n D γ w hn h
          replace hn : n < 23 := hn
          try dsimp only at h
          exact h.mono
        intro n D γ w hB hU K hK
        try dsimp only at hB
        try dsimp only
        clear hB hU
        go_step
        exact hK _ rfl
    case hend5_1 =>
      intro n D γ w hn hD hB hF
      replace hF := fun k (hk : k < 23) => hF k hk
      replace hF := (⟨hF 2 (by decide), hF 3 (by decide), hF 6 (by decide), hF 7 (by decide), hF 10 (by decide), hF 11 (by decide), hF 14 (by decide), hF 17 (by decide)⟩ : _ ∧ _ ∧ _ ∧ _ ∧ _ ∧ _ ∧ _ ∧ _)
      try dsimp only at hB
      try dsimp only at hF
      replace hn : n ≤ 23 := hn
      try dsimp only
      rename G14 => G
      obtain ⟨⟨k, hk, hR⟩, -, -, -, -, -, hKK, -⟩ := hB
      obtain ⟨hG2, hG3, hG6, hG7, hG10, hG11, hG14, hG17⟩ := hF
      have HY : ZZ A0 c0 ls Ag cg gs Ap cp ps Ab cb bs r r2 f f2 G g w := ⟨⟨hG2, hG3, hG6, hG7, hG10, hG11⟩, hG14, hG17⟩
      clear hG2 hG3 hG6 hG7 hG10 hG11 hG14 hG17 hD HB0
      have hrk : k ≤ 2500 := by omega
      clear hk hn
      have hgw : W.heap.size ≤ g := by omega
      go_wp2_with fail
      refine wp_region_inv (Γ := H14) [none, none, none, none, none, none, none, none, none, none, none, none, none, none, none, none, none, none, none, none, none, none, none, none, none, some 14, some 15, none, none, none, none, none, none, none, none, none, none, none, none, none, none, none, none, none, none, none, none, none, none, none, none, none, none, none, none, none, none, none, none, none, none, none, none, none, none, none, none, none, some 0, some 1, some 2, some 3, some 4, some 5, some 6, some 7, some 8, some 9, some 10, some 11, some 12, some 13] [[], [], [1], [1, 2], [1, 2, 3], [1, 2, 3, 4], [0, 1, 2, 3, 4, 5], [], [], [8], [8, 9], [8, 9, 10], [8, 9, 10, 11], [0, 1, 2, 3, 4, 5, 6, 7, 8, 9, 10, 11, 12], [0, 1, 2, 3, 4, 5, 6, 7, 8, 9, 10, 11, 12, 13], [0, 1, 2, 3, 4, 5, 6, 7, 8, 9, 10, 11, 12, 13, 14]] [[1, 2, 3, 4, 5, 7, 8, 9, 10, 11, 12], [0, 7, 8, 9, 10, 11, 12], [0, 1, 7, 8, 9, 10, 11, 12], [0, 1, 2, 7, 8, 9, 10, 11, 12], [0, 1, 2, 3, 7, 8, 9, 10, 11, 12], [0, 1, 2, 3, 4, 7, 8, 9, 10, 11, 12], [0, 1, 2, 3, 4, 5, 7, 8, 9, 10, 11, 12], [0, 1, 2, 3, 4, 5, 6, 8, 9, 10, 11, 12], [0, 1, 2, 3, 4, 5, 6, 7], [0, 1, 2, 3, 4, 5, 6, 7, 8], [0, 1, 2, 3, 4, 5, 6, 7, 8, 9], [0, 1, 2, 3, 4, 5, 6, 7, 8, 9, 10], [0, 1, 2, 3, 4, 5, 6, 7, 8, 9, 10, 11], [0, 1, 2, 3, 4, 5, 6, 7, 8, 9, 10, 11, 12], [0, 1, 2, 3, 4, 5, 6, 7, 8, 9, 10, 11, 12, 13], [0, 1, 2, 3, 4, 5, 6, 7, 8, 9, 10, 11, 12, 13, 14]] (fun γ => [.pointer (some ⟨g, 0, none⟩), .slice (some ⟨G.G.b3, 0, none⟩) 2 2, .pointer (some ⟨G.G.b3, 2, none⟩), .pointer (some ⟨G.G.b3, 2, none⟩), .slice G.G.A3 G.G.ps2.length G.G.c3, .int .i64 G.G.ps2.length, .int .i64 γ.x, .pointer (some ⟨g, 0, none⟩), .slice (some ⟨G.G.b3, 0, none⟩) 2 2, .pointer (some ⟨G.G.b3, 2, none⟩), .pointer (some ⟨G.G.b3, 2, none⟩), .slice G.G.A3 G.G.ps2.length G.G.c3, .int .i64 G.G.ps2.length, .int .i64 γ.y, .int .i64 γ.x, .int .i64 γ.y]) (fun γ => [none, none, none, none, none, none, none, none, none, none, none, none, none, none, none, none, none, none, none, none, none, none, none, none, none, some (.int .i64 γ.x), some (.int .i64 γ.y), none, none, none, none, none, none, none, none, none, none, none, none, none, none, none, none, none, none, none, none, none, none, none, none, none, none, none, none, none, none, none, none, none, none, none, none, none, none, none, none, none, some (.pointer (some ⟨g, 0, none⟩)), some (.slice (some ⟨G.G.b3, 0, none⟩) 2 2), some (.pointer (some ⟨G.G.b3, 2, none⟩)), some (.pointer (some ⟨G.G.b3, 2, none⟩)), some (.slice G.G.A3 G.G.ps2.length G.G.c3), some (.int .i64 G.G.ps2.length), some (.int .i64 γ.x), some (.pointer (some ⟨g, 0, none⟩)), some (.slice (some ⟨G.G.b3, 0, none⟩) 2 2), some (.pointer (some ⟨G.G.b3, 2, none⟩)), some (.pointer (some ⟨G.G.b3, 2, none⟩)), some (.slice G.G.A3 G.G.ps2.length G.G.c3), some (.int .i64 G.G.ps2.length), some (.int .i64 γ.y)]) ?A6_2 (fun n D γ w => (∃ k, k ≤ 2500 + 100 * n ∧ RingAt w g nums k) ∧ ZZ A0 c0 ls Ag cg gs Ap cp ps Ab cb bs r r2 f f2 G g w ∧ Kp W.heap.size none W w) (fun k γ w => True) ⟨0, 0⟩ (by kernel_rfl) (fun _ => rfl) ?hA6_2 (by kernel_rfl) ?hB06_2 ?hop6_2 ?hend6_2
      case hA6_2 => intro γ; dsimp only [fullV]; rfl
      case hB06_2 =>
        exact ⟨⟨k, by omega, hR.drew⟩, HY.kp (Kp.refl _ _ _).drew, hKK.drew⟩
      case hop6_2 =>
        intro hA
        refine ⟨?_, ?_, ?_, ?_, ?_, ?_, ?_, ?_, ?_, ?_, ?_, ?_, ?_, ?_, ?_, ?_, trivial⟩
        · refine opOk_v hA (fun _ => rfl) (fun _ _ => trivial) ?_ ?_
          · intro n D γ w hn h
            replace hn : n < 16 := hn
            try dsimp only at h
            obtain ⟨⟨k, hk, h1⟩, h2⟩ := h
            exact ⟨⟨k, by omega, h1⟩, h2⟩
          intro n D γ w hB hU K hK
          try dsimp only at hB
          try dsimp only
          clear hB hU
          go_step
          exact hK _ rfl
        · refine opOk_v hA (fun _ => rfl) (fun _ _ => trivial) ?_ ?_
          · intro n D γ w hn h
            replace hn : n < 16 := hn
            try dsimp only at h
            obtain ⟨⟨k, hk, h1⟩, h2⟩ := h
            exact ⟨⟨k, by omega, h1⟩, h2⟩
          intro n D γ w hB hU K hK
          try dsimp only at hB
          try dsimp only
          clear hB hU
          go_step
          exact hK _ rfl
        · refine opOk_v hA (fun _ => rfl) (fun _ _ => trivial) ?_ ?_
          · intro n D γ w hn h
            replace hn : n < 16 := hn
            try dsimp only at h
            obtain ⟨⟨k, hk, h1⟩, h2⟩ := h
            exact ⟨⟨k, by omega, h1⟩, h2⟩
          intro n D γ w hB hU K hK
          try dsimp only at hB
          try dsimp only
          clear hB hU
          go_step
          exact hK _ rfl
        · refine opOk_v hA (fun _ => rfl) (fun _ _ => trivial) ?_ ?_
          · intro n D γ w hn h
            replace hn : n < 16 := hn
            try dsimp only at h
            obtain ⟨⟨k, hk, h1⟩, h2⟩ := h
            exact ⟨⟨k, by omega, h1⟩, h2⟩
          intro n D γ w hB hU K hK
          try dsimp only at hB
          try dsimp only
          clear hB hU
          go_step
          exact hK _ rfl
        · refine opOk_v hA (fun _ => rfl) (fun _ _ => trivial) ?_ ?_
          · intro n D γ w hn h
            replace hn : n < 16 := hn
            try dsimp only at h
            obtain ⟨⟨k, hk, h1⟩, h2⟩ := h
            exact ⟨⟨k, by omega, h1⟩, h2⟩
          intro n D γ w hB hU K hK
          try dsimp only at hB
          try dsimp only
          have c2 := fun i => hB.2.1.y.y11.1.cell i
          clear hB hU
          go_step
          exact hK _ rfl
        · refine opOk_v hA (fun _ => rfl) (fun _ _ => trivial) ?_ ?_
          · intro n D γ w hn h
            replace hn : n < 16 := hn
            try dsimp only at h
            obtain ⟨⟨k, hk, h1⟩, h2⟩ := h
            exact ⟨⟨k, by omega, h1⟩, h2⟩
          intro n D γ w hB hU K hK
          try dsimp only at hB
          try dsimp only
          clear hB hU
          go_step
          exact hK _ rfl
        · refine opOk_l hA (fun _ => rfl) ?_
          intro n D γ w hn hD hB hU K hK
          try dsimp only at hB
          clear hU
          replace hn : n < 16 := hn
          try dsimp only
          obtain ⟨⟨k, hk, hR⟩, hY, hKK⟩ := hB
          have hq := hY.y.y10.2.2.1
          have hq2 := hY.y.y10.2.2.2.1
          go_step
          refine (next_any g nums k _ _ hR (by omega) (by omega) (by omega)).mono ?_
          rintro e w5 ⟨v, rfl, ⟨x, rfl, -, -⟩, hR5, k5⟩
          refine hK _ _ { γ with x := x } rfl ⟨⟨k + 1, by omega, hR5⟩, hY.kp k5, hKK.thenOwn k5 (Nat.le_refl _) hgw⟩ trivial ?_
          try dsimp only [allP, List.getD_cons_zero, List.getD_cons_succ]
          (repeat' apply And.intro) <;> first | exact rfl | exact trivial | exact id | assumption
        · refine opOk_v hA (fun _ => rfl) (fun _ _ => trivial) ?_ ?_
          · intro n D γ w hn h
            replace hn : n < 16 := hn
            try dsimp only at h
            obtain ⟨⟨k, hk, h1⟩, h2⟩ := h
            exact ⟨⟨k, by omega, h1⟩, h2⟩
          intro n D γ w hB hU K hK
          try dsimp only at hB
          try dsimp only
          clear hB hU
          go_step
          exact hK _ rfl
        · refine opOk_v hA (fun _ => rfl) (fun _ _ => trivial) ?_ ?_
          · intro n D γ w hn h
            replace hn : n < 16 := hn
            try dsimp only at h
            obtain ⟨⟨k, hk, h1⟩, h2⟩ := h
            exact ⟨⟨k, by omega, h1⟩, h2⟩
          intro n D γ w hB hU K hK
          try dsimp only at hB
          try dsimp only
          clear hB hU
          go_step
          exact hK _ rfl
        · refine opOk_v hA (fun _ => rfl) (fun _ _ => trivial) ?_ ?_
          · intro n D γ w hn h
            replace hn : n < 16 := hn
            try dsimp only at h
            obtain ⟨⟨k, hk, h1⟩, h2⟩ := h
            exact ⟨⟨k, by omega, h1⟩, h2⟩
          intro n D γ w hB hU K hK
          try dsimp only at hB
          try dsimp only
          clear hB hU
          go_step
          exact hK _ rfl
        · refine opOk_v hA (fun _ => rfl) (fun _ _ => trivial) ?_ ?_
          · intro n D γ w hn h
            replace hn : n < 16 := hn
            try dsimp only at h
            obtain ⟨⟨k, hk, h1⟩, h2⟩ := h
            exact ⟨⟨k, by omega, h1⟩, h2⟩
          intro n D γ w hB hU K hK
          try dsimp only at hB
          try dsimp only
          clear hB hU
          go_step
          exact hK _ rfl
        · refine opOk_v hA (fun _ => rfl) (fun _ _ => trivial) ?_ ?_
          · intro n D γ w hn h
            replace hn : n < 16 := hn
            try dsimp only at h
            obtain ⟨⟨k, hk, h1⟩, h2⟩ := h
            exact ⟨⟨k, by omega, h1⟩, h2⟩
          intro n D γ w hB hU K hK
          try dsimp only at hB
          try dsimp only
          have c2 := fun i => hB.2.1.y.y11.1.cell i
          clear hB hU
          go_step
          exact hK _ rfl
        · refine opOk_v hA (fun _ => rfl) (fun _ _ => trivial) ?_ ?_
          · intro n D γ w hn h
            replace hn : n < 16 := hn
            try dsimp only at h
            obtain ⟨⟨k, hk, h1⟩, h2⟩ := h
            exact ⟨⟨k, by omega, h1⟩, h2⟩
          intro n D γ w hB hU K hK
          try dsimp only at hB
          try dsimp only
          clear hB hU
          go_step
          exact hK _ rfl
        · refine opOk_l hA (fun _ => rfl) ?_
          intro n D γ w hn hD hB hU K hK
          try dsimp only at hB
          clear hU
          replace hn : n < 16 := hn
          try dsimp only
          obtain ⟨⟨k, hk, hR⟩, hY, hKK⟩ := hB
          have hq := hY.y.y10.2.2.1
          have hq2 := hY.y.y10.2.2.2.1
          go_step
          refine (next_any g nums k _ _ hR (by omega) (by omega) (by omega)).mono ?_
          rintro e w5 ⟨v, rfl, ⟨y, rfl, -, -⟩, hR5, k5⟩
          refine hK _ _ { γ with y := y } rfl ⟨⟨k + 1, by omega, hR5⟩, hY.kp k5, hKK.thenOwn k5 (Nat.le_refl _) hgw⟩ trivial ?_
          try dsimp only [allP, List.getD_cons_zero, List.getD_cons_succ]
          (repeat' apply And.intro) <;> first | exact rfl | exact trivial | exact id | assumption
        · refine opOk_v hA (fun _ => rfl) (fun _ _ => trivial) ?_ ?_
          · intro n D γ w hn h
            replace hn : n < 16 := hn
            try dsimp only at h
            obtain ⟨⟨k, hk, h1⟩, h2⟩ := h
            exact ⟨⟨k, by omega, h1⟩, h2⟩
          intro n D γ w hB hU K hK
          try dsimp only at hB
          try dsimp only
          clear hB hU
          go_step
          exact hK _ rfl
        · refine opOk_v hA (fun _ => rfl) (fun _ _ => trivial) ?_ ?_
          · intro n D γ w hn h
            replace hn : n < 16 := hn
            try dsimp only at h
            obtain ⟨⟨k, hk, h1⟩, h2⟩ := h
            exact ⟨⟨k, by omega, h1⟩, h2⟩
          intro n D γ w hB hU K hK
          try dsimp only at hB
          try dsimp only
          clear hB hU
          go_step
          exact hK _ rfl
      case hend6_2 =>
        intro n D γ w hn hD hB hF
        replace hF := fun k (hk : k < 16) => hF k hk
        try dsimp only at hB
        try dsimp only at hF
        replace hn : n ≤ 16 := hn
        try dsimp only
        obtain ⟨-, hY, hKK⟩ := hB
        obtain ⟨⟨⟨G2, -⟩, ⟨B1, -⟩, G6, ⟨B2, -⟩, ⟨P3, Q3, -, -, hpc, -⟩, ⟨B3, -⟩⟩, ⟨B4, -⟩, ⟨B5, -⟩⟩ := hY
        obtain ⟨⟨A1, c1, l2, A2, c2, gs2, A3, c3, ps2, A4, c4, bs2, b1, b2, b3⟩, b4, b5⟩ := G
        obtain ⟨x, y⟩ := γ
        dsimp only [Y6] at *
        replace G2 := Rd.free G2
        replace G6 := Rd.free G6
        replace P3 := Rd.free P3
        replace Q3 := Rd.free Q3
        have K6 := (Kp.refl w.heap.size none w).alloc (Nat.le_refl _) (.cells #[.int .i64 fr0, .int .i64 (min x y)] 3)
        have K7 := K6.alloc K6.size (.cells #[.int .i64 to0, .int .i64 (max x y)] 3)
        have B6 := (Blk.new w 3 #[.int .i64 fr0, .int .i64 (min x y)]).alloc (.cells #[.int .i64 to0, .int .i64 (max x y)] 3)
        have B7 := Blk.newAt (w.alloc (.cells #[.int .i64 fr0, .int .i64 (min x y)] 3)) 3 #[.int .i64 to0, .int .i64 (max x y)] (n := w.heap.size + 1) (by simp)
        replace G2 := G2.kpN K7
        replace G6 := G6.kpN K7
        replace P3 := P3.kpN K7
        replace Q3 := Q3.kpN K7
        replace B1 := B1.kpN K7
        replace B2 := B2.kpN K7
        replace B3 := B3.kpN K7
        replace B4 := B4.kpN K7
        replace B5 := B5.kpN K7
        replace hKK := hKK.thenN K7 (Nat.le_refl _)
        clear K6 K7 hD hR HY
        go_wp2_with fail
        obtain ⟨b6, hb6⟩ : ∃ b6, b6 = w.heap.size := ⟨_, rfl⟩
        rw [← hb6] at B6 B7 ⊢
        generalize (w.alloc (.cells #[.int .i64 fr0, .int .i64 (min x y)] 3)).alloc (.cells #[.int .i64 to0, .int .i64 (max x y)] 3) = wc at *
        clear hb6
        have hA : ∀ i, i < 2 → ∃ (A : Option Addr) (c : Nat) (ll : List Layer), wc.cell? ⟨b1, i, none⟩ = some (.slice A ll.length c) ∧ Rd none wc 2 encLayer A ll.length ll := fun i hi => by
          rcases (show i = 0 ∨ i = 1 by omega) with rfl | rfl
          · exact ⟨A0, c0, ls, B1.cell 0, hls.kpN hKK⟩
          · exact ⟨A1, c1, l2, B1.cell 1, G2⟩
        have hG : ∀ i, i < 2 → ∃ (A : Option Addr) (c : Nat) (gg : List Grade), wc.cell? ⟨b2, i, none⟩ = some (.slice A gg.length c) ∧ Rd none wc 2 encGrade A gg.length gg := fun i hi => by
          rcases (show i = 0 ∨ i = 1 by omega) with rfl | rfl
          · exact ⟨Ag, cg, gs, B2.cell 0, hgs.kpN hKK⟩
          · exact ⟨A2, c2, gs2, B2.cell 1, G6⟩
        have hL : ∀ i, i < 2 → ∃ (A : Option Addr) (c : Nat) (pp : List Int) (A' : Option Addr) (c' : Nat) (bb : List Bool), wc.cell? ⟨b3, i * 2, none⟩ = some (.slice A pp.length c) ∧ wc.cell? ⟨b3, i * 2 + 1, none⟩ = some (.slice A' bb.length c') ∧ Rd none wc 1 encI A pp.length pp ∧ Rd none wc 1 encB A' bb.length bb ∧ pp.length ≤ c := fun i hi => by
          rcases (show i = 0 ∨ i = 1 by omega) with rfl | rfl
          · exact ⟨Ap, cp, ps, Ab, cb, bs, B3.cell 0, B3.cell 1, hps.kpN hKK, hbs.kpN hKK, hcp⟩
          · exact ⟨A3, c3, ps2, A4, c4, bs2, B3.cell 2, B3.cell 3, P3, Q3, hpc⟩
        have hI : ∀ i, i < 2 → ∃ n : Int, wc.cell? ⟨b6, i, none⟩ = some (.int .i64 n) := fun i hi => by
          rcases (show i = 0 ∨ i = 1 by omega) with rfl | rfl
          · exact ⟨_, B6.cell 0⟩
          · exact ⟨_, B6.cell 1⟩
        have hJ : ∀ i, i < 2 → ∃ n : Int, wc.cell? ⟨b6 + 1, i, none⟩ = some (.int .i64 n) := fun i hi => by
          rcases (show i = 0 ∨ i = 1 by omega) with rfl | rfl
          · exact ⟨_, B7.cell 0⟩
          · exact ⟨_, B7.cell 1⟩
        have R4 : Rd none wc 11 encRockT (some ⟨b4, 0, none⟩) 2 [r, r2] := Rd.of_blk (sz := 11) (enc := encRockT) [r, r2] (fun _ => rfl) rfl B4 none (by simp)
        have R5 : Rd none wc 4 encFallT (some ⟨b5, 0, none⟩) 2 [f, f2] := Rd.of_blk (sz := 4) (enc := encFallT) [f, f2] (fun _ => rfl) rfl B5 none (by simp)
        have l1 := B1.lt
        have l2' := B2.lt
        have l3 := B3.lt
        have l6 := B6.lt
        have l7 := B7.lt
        obtain ⟨b7, hb7⟩ : ∃ b7, b7 = b6 + 1 := ⟨_, rfl⟩
        rw [← hb7] at hJ l7 ⊢
        clear B1 B2 B3 B4 B5 B6 B7 hb7 G2 G6 P3 Q3 hls hgs hps hbs h
        have hC : ∀ i, i < 2 → ∃ Aa ca la Af cf gg Al cl pp Aw cw bb y9 a9, LC14 i b1 b2 b3 b4 b5 b6 b7 Aa ca la Af cf gg Al cl pp Aw cw bb r r2 f f2 y9 a9 W wc ∧ pp.length ≤ cl := fun i hi => by
          obtain ⟨Aa, ca, la, hca, hRa⟩ := hA i hi
          obtain ⟨Af, cf, gg, hcg, hRg⟩ := hG i hi
          obtain ⟨Al, cl, pp, Aw, cw, bb, hcl, hcw, hRl, hRw, hcl2⟩ := hL i hi
          obtain ⟨y9, hci⟩ := hI i hi
          obtain ⟨a9, hcc⟩ := hJ i hi
          exact ⟨Aa, ca, la, Af, cf, gg, Al, cl, pp, Aw, cw, bb, y9, a9, ⟨hca, hcg, hcl, hcw, R4, R5, hci, hcc, l1, l2', l3, l6, l7, hRa, hRg, hRl, hRw, hKK⟩, hcl2⟩
        clear hA hG hL hI hJ R4 R5 l1 l2' l3 l6 l7
        go_loopw [29] (fun v wr => TwoAt13 wc v wr) (fun v _ => 2 - (intOf v).toNat)
        case atStart => exact ⟨0, rfl, by omega, Kp.refl _ _ _⟩
        case round =>
          obtain ⟨i, rfl, hi, KK⟩ := hrel
          by_cases h7 : i < 2
          · obtain ⟨Aa, ca, la, Af, cf, gg, Al, cl, pp, Aw, cw, bb, y9, a9, hL, hcl2⟩ := hC i h7
            replace hL := hL.kpN KK
            have h7' : (i : Int) < 2 := by omega
            obtain ⟨ri, hri⟩ : ∃ x, x = [r, r2][i]'(by simpa using h7) := ⟨_, rfl⟩
            replace hri := Lib.hid hri
            obtain ⟨gi, hgi⟩ : ∃ x, x = [f, f2][i]'(by simpa using h7) := ⟨_, rfl⟩
            replace hgi := Lib.hid hgi
            clear hC hKK
            go_wp2_with fail
            refine wp_region_inv (Γ := T14) [none, none, none, none, none, none, none, none, none, none, none, none, none, none, none, none, none, none, none, none, none, none, none, none, none, none, none, none, none, none, some 32, some 34, none, none, none, none, none, none, none, none, none, none, none, none, none, none, none, none, none, none, none, none, none, none, none, none, none, none, none, none, none, none, none, none, none, none, none, none, none, none, none, none, none, none, none, none, none, none, none, none, none, none, none, none, none, none, none, none, none, none, none, none, none, none, none, none, some 29, some 0, some 1, some 2, some 3, some 4, some 5, some 6, some 7, some 8, some 9, some 10, some 11, some 12, some 13, some 14, some 15, some 16, some 17, some 18, some 19, some 20, some 21, some 22, some 23, some 24, some 25, some 26, some 27, some 28, some 30, some 31] [[], [], [0, 1], [0, 1, 2], [], [], [4, 5], [4, 5, 6], [], [], [8, 9], [8, 9, 10], [], [], [12, 13], [12, 13, 14], [], [], [16, 17], [16, 17, 18], [], [], [20, 21], [20, 21, 22], [], [], [24, 25], [24, 25, 26], [0, 1, 2, 3, 4, 5, 6, 7, 8, 9, 10, 11, 12, 13, 14, 15, 16, 17, 18, 19, 20, 21, 22, 23, 24, 25, 26, 27], [0, 1, 2, 3, 4, 5, 6, 7, 8, 9, 10, 11, 12, 13, 14, 15, 16, 17, 18, 19, 20, 21, 22, 23, 24, 25, 26, 27, 28], [0, 1, 2, 3, 4, 5, 6, 7, 8, 9, 10, 11, 12, 13, 14, 15, 16, 17, 18, 19, 20, 21, 22, 23, 24, 25, 26, 27, 28, 29], [0, 1, 2, 3, 4, 5, 6, 7, 8, 9, 10, 11, 12, 13, 14, 15, 16, 17, 18, 19, 20, 21, 22, 23, 24, 25, 26, 27, 28, 29], [], [0, 1, 2, 3, 4, 5, 6, 7, 8, 9, 10, 11, 12, 13, 14, 15, 16, 17, 18, 19, 20, 21, 22, 23, 24, 25, 26, 27, 28, 29, 30, 32], [0, 1, 2, 3, 4, 5, 6, 7, 8, 9, 10, 11, 12, 13, 14, 15, 16, 17, 18, 19, 20, 21, 22, 23, 24, 25, 26, 27, 28, 29, 30, 31, 32, 33]] [[1, 4, 5, 6, 7, 8, 9, 10, 11, 12, 13, 14, 15, 16, 17, 18, 19, 20, 21, 22, 23, 24, 25, 26, 27, 32], [0, 4, 5, 6, 7, 8, 9, 10, 11, 12, 13, 14, 15, 16, 17, 18, 19, 20, 21, 22, 23, 24, 25, 26, 27, 32], [0, 1, 4, 5, 6, 7, 8, 9, 10, 11, 12, 13, 14, 15, 16, 17, 18, 19, 20, 21, 22, 23, 24, 25, 26, 27, 32], [0, 1, 2, 4, 5, 6, 7, 8, 9, 10, 11, 12, 13, 14, 15, 16, 17, 18, 19, 20, 21, 22, 23, 24, 25, 26, 27, 32], [0, 1, 2, 3, 5, 8, 9, 10, 11, 12, 13, 14, 15, 16, 17, 18, 19, 20, 21, 22, 23, 24, 25, 26, 27, 32], [0, 1, 2, 3, 4, 8, 9, 10, 11, 12, 13, 14, 15, 16, 17, 18, 19, 20, 21, 22, 23, 24, 25, 26, 27, 32], [0, 1, 2, 3, 4, 5, 8, 9, 10, 11, 12, 13, 14, 15, 16, 17, 18, 19, 20, 21, 22, 23, 24, 25, 26, 27, 32], [0, 1, 2, 3, 4, 5, 6, 8, 9, 10, 11, 12, 13, 14, 15, 16, 17, 18, 19, 20, 21, 22, 23, 24, 25, 26, 27, 32], [0, 1, 2, 3, 4, 5, 6, 7, 9, 12, 13, 14, 15, 16, 17, 18, 19, 20, 21, 22, 23, 24, 25, 26, 27, 32], [0, 1, 2, 3, 4, 5, 6, 7, 8, 12, 13, 14, 15, 16, 17, 18, 19, 20, 21, 22, 23, 24, 25, 26, 27, 32], [0, 1, 2, 3, 4, 5, 6, 7, 8, 9, 12, 13, 14, 15, 16, 17, 18, 19, 20, 21, 22, 23, 24, 25, 26, 27, 32], [0, 1, 2, 3, 4, 5, 6, 7, 8, 9, 10, 12, 13, 14, 15, 16, 17, 18, 19, 20, 21, 22, 23, 24, 25, 26, 27, 32], [0, 1, 2, 3, 4, 5, 6, 7, 8, 9, 10, 11, 13, 16, 17, 18, 19, 20, 21, 22, 23, 24, 25, 26, 27, 32], [0, 1, 2, 3, 4, 5, 6, 7, 8, 9, 10, 11, 12, 16, 17, 18, 19, 20, 21, 22, 23, 24, 25, 26, 27, 32], [0, 1, 2, 3, 4, 5, 6, 7, 8, 9, 10, 11, 12, 13, 16, 17, 18, 19, 20, 21, 22, 23, 24, 25, 26, 27, 32], [0, 1, 2, 3, 4, 5, 6, 7, 8, 9, 10, 11, 12, 13, 14, 16, 17, 18, 19, 20, 21, 22, 23, 24, 25, 26, 27, 32], [0, 1, 2, 3, 4, 5, 6, 7, 8, 9, 10, 11, 12, 13, 14, 15, 17, 20, 21, 22, 23, 24, 25, 26, 27, 32], [0, 1, 2, 3, 4, 5, 6, 7, 8, 9, 10, 11, 12, 13, 14, 15, 16, 20, 21, 22, 23, 24, 25, 26, 27, 32], [0, 1, 2, 3, 4, 5, 6, 7, 8, 9, 10, 11, 12, 13, 14, 15, 16, 17, 20, 21, 22, 23, 24, 25, 26, 27, 32], [0, 1, 2, 3, 4, 5, 6, 7, 8, 9, 10, 11, 12, 13, 14, 15, 16, 17, 18, 20, 21, 22, 23, 24, 25, 26, 27, 32], [0, 1, 2, 3, 4, 5, 6, 7, 8, 9, 10, 11, 12, 13, 14, 15, 16, 17, 18, 19, 21, 24, 25, 26, 27, 32], [0, 1, 2, 3, 4, 5, 6, 7, 8, 9, 10, 11, 12, 13, 14, 15, 16, 17, 18, 19, 20, 24, 25, 26, 27, 32], [0, 1, 2, 3, 4, 5, 6, 7, 8, 9, 10, 11, 12, 13, 14, 15, 16, 17, 18, 19, 20, 21, 24, 25, 26, 27, 32], [0, 1, 2, 3, 4, 5, 6, 7, 8, 9, 10, 11, 12, 13, 14, 15, 16, 17, 18, 19, 20, 21, 22, 24, 25, 26, 27, 32], [0, 1, 2, 3, 4, 5, 6, 7, 8, 9, 10, 11, 12, 13, 14, 15, 16, 17, 18, 19, 20, 21, 22, 23, 25, 32], [0, 1, 2, 3, 4, 5, 6, 7, 8, 9, 10, 11, 12, 13, 14, 15, 16, 17, 18, 19, 20, 21, 22, 23, 24, 32], [0, 1, 2, 3, 4, 5, 6, 7, 8, 9, 10, 11, 12, 13, 14, 15, 16, 17, 18, 19, 20, 21, 22, 23, 24, 25, 32], [0, 1, 2, 3, 4, 5, 6, 7, 8, 9, 10, 11, 12, 13, 14, 15, 16, 17, 18, 19, 20, 21, 22, 23, 24, 25, 26, 32], [0, 1, 2, 3, 4, 5, 6, 7, 8, 9, 10, 11, 12, 13, 14, 15, 16, 17, 18, 19, 20, 21, 22, 23, 24, 25, 26, 27, 32], [0, 1, 2, 3, 4, 5, 6, 7, 8, 9, 10, 11, 12, 13, 14, 15, 16, 17, 18, 19, 20, 21, 22, 23, 24, 25, 26, 27, 28, 32], [0, 1, 2, 3, 4, 5, 6, 7, 8, 9, 10, 11, 12, 13, 14, 15, 16, 17, 18, 19, 20, 21, 22, 23, 24, 25, 26, 27, 28, 29, 31, 32], [0, 1, 2, 3, 4, 5, 6, 7, 8, 9, 10, 11, 12, 13, 14, 15, 16, 17, 18, 19, 20, 21, 22, 23, 24, 25, 26, 27, 28, 29, 30, 32, 33], [0, 1, 2, 3, 4, 5, 6, 7, 8, 9, 10, 11, 12, 13, 14, 15, 16, 17, 18, 19, 20, 21, 22, 23, 24, 25, 26, 27, 28, 29, 30, 31], [0, 1, 2, 3, 4, 5, 6, 7, 8, 9, 10, 11, 12, 13, 14, 15, 16, 17, 18, 19, 20, 21, 22, 23, 24, 25, 26, 27, 28, 29, 30, 31, 32], [0, 1, 2, 3, 4, 5, 6, 7, 8, 9, 10, 11, 12, 13, 14, 15, 16, 17, 18, 19, 20, 21, 22, 23, 24, 25, 26, 27, 28, 29, 30, 31, 32, 33]] (fun γ => [.slice (some ⟨b1, 0, none⟩) 2 2, .int .i64 i, .pointer (some ⟨b1, i, none⟩), .slice Aa la.length ca, .slice (some ⟨b2, 0, none⟩) 2 2, .int .i64 i, .pointer (some ⟨b2, i, none⟩), .slice Af gg.length cf, .slice (some ⟨b3, 0, none⟩) 2 2, .int .i64 i, .pointer (some ⟨b3, i * 2, none⟩), .agg #[.slice Al pp.length cl, .slice Aw bb.length cw], .slice (some ⟨b4, 0, none⟩) 2 2, .int .i64 i, .pointer (some ⟨b4, i * 11, none⟩), .agg #[.int .i64 ri.size.lo, .int .i64 ri.size.hi, .int .i64 ri.dens.lo, .int .i64 ri.dens.hi, .int .i64 ri.strong.lo, .int .i64 ri.strong.hi, .int .i64 ri.spin.lo, .int .i64 ri.spin.hi, .int .i64 ri.shape.lo, .int .i64 ri.shape.hi, .bool ri.pile], .slice (some ⟨b5, 0, none⟩) 2 2, .int .i64 i, .pointer (some ⟨b5, i * 4, none⟩), .agg #[.int .i64 gi.speed.lo, .int .i64 gi.speed.hi, .int .i64 gi.slope.lo, .int .i64 gi.slope.hi], .slice (some ⟨b6, 0, none⟩) 2 2, .int .i64 i, .pointer (some ⟨b6, i, none⟩), .int .i64 y9, .slice (some ⟨b7, 0, none⟩) 2 2, .int .i64 i, .pointer (some ⟨b7, i, none⟩), .int .i64 a9, .tuple #[.agg #[.int .i64 γ.lo, .int .i64 γ.hi], .int .i64 γ.n], .tuple #[.agg #[.int .i64 γ.lo, .int .i64 γ.hi], .int .i64 γ.n], .agg #[.int .i64 γ.lo, .int .i64 γ.hi], .int .i64 γ.n, .pointer (some ⟨γ.bx, 0, none⟩), undef, .int .i64 γ.n]) (fun γ => [none, none, none, none, none, none, none, none, none, none, none, none, none, none, none, none, none, none, none, none, none, none, none, none, none, none, none, none, none, none, some (.pointer (some ⟨γ.bx, 0, none⟩)), some (.int .i64 γ.n), none, none, none, none, none, none, none, none, none, none, none, none, none, none, none, none, none, none, none, none, none, none, none, none, none, none, none, none, none, none, none, none, none, none, none, none, none, none, none, none, none, none, none, none, none, none, none, none, none, none, none, none, none, none, none, none, none, none, none, none, none, none, none, none, some (.tuple #[.agg #[.int .i64 γ.lo, .int .i64 γ.hi], .int .i64 γ.n]), some (.slice (some ⟨b1, 0, none⟩) 2 2), some (.int .i64 i), some (.pointer (some ⟨b1, i, none⟩)), some (.slice Aa la.length ca), some (.slice (some ⟨b2, 0, none⟩) 2 2), some (.int .i64 i), some (.pointer (some ⟨b2, i, none⟩)), some (.slice Af gg.length cf), some (.slice (some ⟨b3, 0, none⟩) 2 2), some (.int .i64 i), some (.pointer (some ⟨b3, i * 2, none⟩)), some (.agg #[.slice Al pp.length cl, .slice Aw bb.length cw]), some (.slice (some ⟨b4, 0, none⟩) 2 2), some (.int .i64 i), some (.pointer (some ⟨b4, i * 11, none⟩)), some (.agg #[.int .i64 ri.size.lo, .int .i64 ri.size.hi, .int .i64 ri.dens.lo, .int .i64 ri.dens.hi, .int .i64 ri.strong.lo, .int .i64 ri.strong.hi, .int .i64 ri.spin.lo, .int .i64 ri.spin.hi, .int .i64 ri.shape.lo, .int .i64 ri.shape.hi, .bool ri.pile]), some (.slice (some ⟨b5, 0, none⟩) 2 2), some (.int .i64 i), some (.pointer (some ⟨b5, i * 4, none⟩)), some (.agg #[.int .i64 gi.speed.lo, .int .i64 gi.speed.hi, .int .i64 gi.slope.lo, .int .i64 gi.slope.hi]), some (.slice (some ⟨b6, 0, none⟩) 2 2), some (.int .i64 i), some (.pointer (some ⟨b6, i, none⟩)), some (.int .i64 y9), some (.slice (some ⟨b7, 0, none⟩) 2 2), some (.int .i64 i), some (.pointer (some ⟨b7, i, none⟩)), some (.int .i64 a9), some (.tuple #[.agg #[.int .i64 γ.lo, .int .i64 γ.hi], .int .i64 γ.n]), some (.agg #[.int .i64 γ.lo, .int .i64 γ.hi]), some (.int .i64 γ.n)]) ?A11_3 (fun n D γ w => Kp wr.heap.size none wr w) (fun k γ w => match k with | 28 => TollIs la gg pp bb ri gi y9 a9 γ.lo γ.hi γ.wo γ.n | 32 => wr.heap.size ≤ γ.bx ∧ ∃ v v', Blk w γ.bx 26 #[v, v'] | 33 => wr.heap.size ≤ γ.bx ∧ Blk w γ.bx 26 #[.int .i64 γ.lo, .int .i64 γ.hi] | _ => True) ⟨0, 0, 0, 0, 0⟩ (by kernel_rfl) (fun _ => rfl) ?hA11_3 (by kernel_rfl) ?hB011_3 ?hop11_3 ?hend11_3
            case hA11_3 => intro γ; dsimp only [fullV]; rfl
            case hB011_3 =>
              exact (Kp.refl _ _ _).drew
            case hop11_3 =>
              intro hA
              refine ⟨?_, ?_, ?_, ?_, ?_, ?_, ?_, ?_, ?_, ?_, ?_, ?_, ?_, ?_, ?_, ?_, ?_, ?_, ?_, ?_, ?_, ?_, ?_, ?_, ?_, ?_, ?_, ?_, ?_, ?_, ?_, ?_, ?_, ?_, ?_, trivial⟩
              · refine opOk_v hA (fun _ => rfl) (fun _ _ => trivial) ?_ ?_
                · intro n D γ w hn h
                  replace hn : n < 35 := hn
                  try dsimp only at h
                  exact h
                intro n D γ w hB hU K hK
                try dsimp only at hB
                try dsimp only
                clear hB hU
                go_step
                exact hK _ rfl
              · refine opOk_v hA (fun _ => rfl) (fun _ _ => trivial) ?_ ?_
                · intro n D γ w hn h
                  replace hn : n < 35 := hn
                  try dsimp only at h
                  exact h
                intro n D γ w hB hU K hK
                try dsimp only at hB
                try dsimp only
                clear hB hU
                go_step
                exact hK _ rfl
              · refine opOk_v hA (fun _ => rfl) (fun _ _ => trivial) ?_ ?_
                · intro n D γ w hn h
                  replace hn : n < 35 := hn
                  try dsimp only at h
                  exact h
                intro n D γ w hB hU K hK
                try dsimp only at hB
                try dsimp only
                clear hB hU
                go_step
                exact hK _ rfl
              · refine opOk_v hA (fun _ => rfl) (fun _ _ => trivial) ?_ ?_
                · intro n D γ w hn h
                  replace hn : n < 35 := hn
                  try dsimp only at h
                  exact h
                intro n D γ w hB hU K hK
                try dsimp only at hB
                try dsimp only
                have hq := hL.kpN hB
                have t0 : w.cell? ⟨b4, i * 11, none⟩ = some (.int .i64 ri.size.lo) := by simpa using (hq).q4.cellT i h7 0 (.int .i64 ri.size.lo) (by rw [← hri.out]; rfl)
                have t1 : w.cell? ⟨b4, i * 11 + 1, none⟩ = some (.int .i64 ri.size.hi) := by simpa using (hq).q4.cellT i h7 1 (.int .i64 ri.size.hi) (by rw [← hri.out]; rfl)
                have t2 : w.cell? ⟨b4, i * 11 + 2, none⟩ = some (.int .i64 ri.dens.lo) := by simpa using (hq).q4.cellT i h7 2 (.int .i64 ri.dens.lo) (by rw [← hri.out]; rfl)
                have t3 : w.cell? ⟨b4, i * 11 + 3, none⟩ = some (.int .i64 ri.dens.hi) := by simpa using (hq).q4.cellT i h7 3 (.int .i64 ri.dens.hi) (by rw [← hri.out]; rfl)
                have t4 : w.cell? ⟨b4, i * 11 + 4, none⟩ = some (.int .i64 ri.strong.lo) := by simpa using (hq).q4.cellT i h7 4 (.int .i64 ri.strong.lo) (by rw [← hri.out]; rfl)
                have t5 : w.cell? ⟨b4, i * 11 + 5, none⟩ = some (.int .i64 ri.strong.hi) := by simpa using (hq).q4.cellT i h7 5 (.int .i64 ri.strong.hi) (by rw [← hri.out]; rfl)
                have t6 : w.cell? ⟨b4, i * 11 + 6, none⟩ = some (.int .i64 ri.spin.lo) := by simpa using (hq).q4.cellT i h7 6 (.int .i64 ri.spin.lo) (by rw [← hri.out]; rfl)
                have t7 : w.cell? ⟨b4, i * 11 + 7, none⟩ = some (.int .i64 ri.spin.hi) := by simpa using (hq).q4.cellT i h7 7 (.int .i64 ri.spin.hi) (by rw [← hri.out]; rfl)
                have t8 : w.cell? ⟨b4, i * 11 + 8, none⟩ = some (.int .i64 ri.shape.lo) := by simpa using (hq).q4.cellT i h7 8 (.int .i64 ri.shape.lo) (by rw [← hri.out]; rfl)
                have t9 : w.cell? ⟨b4, i * 11 + 9, none⟩ = some (.int .i64 ri.shape.hi) := by simpa using (hq).q4.cellT i h7 9 (.int .i64 ri.shape.hi) (by rw [← hri.out]; rfl)
                have t10 : w.cell? ⟨b4, i * 11 + 10, none⟩ = some (.bool ri.pile) := by simpa using (hq).q4.cellT i h7 10 (.bool ri.pile) (by rw [← hri.out]; rfl)
                have u0 : w.cell? ⟨b5, i * 4, none⟩ = some (.int .i64 gi.speed.lo) := by simpa using (hq).q5.cellT i h7 0 (.int .i64 gi.speed.lo) (by rw [← hgi.out]; rfl)
                have u1 : w.cell? ⟨b5, i * 4 + 1, none⟩ = some (.int .i64 gi.speed.hi) := by simpa using (hq).q5.cellT i h7 1 (.int .i64 gi.speed.hi) (by rw [← hgi.out]; rfl)
                have u2 : w.cell? ⟨b5, i * 4 + 2, none⟩ = some (.int .i64 gi.slope.lo) := by simpa using (hq).q5.cellT i h7 2 (.int .i64 gi.slope.lo) (by rw [← hgi.out]; rfl)
                have u3 : w.cell? ⟨b5, i * 4 + 3, none⟩ = some (.int .i64 gi.slope.hi) := by simpa using (hq).q5.cellT i h7 3 (.int .i64 gi.slope.hi) (by rw [← hgi.out]; rfl)
                have e1 := hq.c1
                have e2 := hq.c2
                have e3 := hq.c3
                have e4 := hq.c4
                have e6 := hq.c6
                have e7 := hq.c7
                clear hq
                clear hB hU
                go_step
                exact hK _ rfl
              · refine opOk_v hA (fun _ => rfl) (fun _ _ => trivial) ?_ ?_
                · intro n D γ w hn h
                  replace hn : n < 35 := hn
                  try dsimp only at h
                  exact h
                intro n D γ w hB hU K hK
                try dsimp only at hB
                try dsimp only
                clear hB hU
                go_step
                exact hK _ rfl
              · refine opOk_v hA (fun _ => rfl) (fun _ _ => trivial) ?_ ?_
                · intro n D γ w hn h
                  replace hn : n < 35 := hn
                  try dsimp only at h
                  exact h
                intro n D γ w hB hU K hK
                try dsimp only at hB
                try dsimp only
                clear hB hU
                go_step
                exact hK _ rfl
              · refine opOk_v hA (fun _ => rfl) (fun _ _ => trivial) ?_ ?_
                · intro n D γ w hn h
                  replace hn : n < 35 := hn
                  try dsimp only at h
                  exact h
                intro n D γ w hB hU K hK
                try dsimp only at hB
                try dsimp only
                clear hB hU
                go_step
                exact hK _ rfl
              · refine opOk_v hA (fun _ => rfl) (fun _ _ => trivial) ?_ ?_
                · intro n D γ w hn h
                  replace hn : n < 35 := hn
                  try dsimp only at h
                  exact h
                intro n D γ w hB hU K hK
                try dsimp only at hB
                try dsimp only
                have hq := hL.kpN hB
                have t0 : w.cell? ⟨b4, i * 11, none⟩ = some (.int .i64 ri.size.lo) := by simpa using (hq).q4.cellT i h7 0 (.int .i64 ri.size.lo) (by rw [← hri.out]; rfl)
                have t1 : w.cell? ⟨b4, i * 11 + 1, none⟩ = some (.int .i64 ri.size.hi) := by simpa using (hq).q4.cellT i h7 1 (.int .i64 ri.size.hi) (by rw [← hri.out]; rfl)
                have t2 : w.cell? ⟨b4, i * 11 + 2, none⟩ = some (.int .i64 ri.dens.lo) := by simpa using (hq).q4.cellT i h7 2 (.int .i64 ri.dens.lo) (by rw [← hri.out]; rfl)
                have t3 : w.cell? ⟨b4, i * 11 + 3, none⟩ = some (.int .i64 ri.dens.hi) := by simpa using (hq).q4.cellT i h7 3 (.int .i64 ri.dens.hi) (by rw [← hri.out]; rfl)
                have t4 : w.cell? ⟨b4, i * 11 + 4, none⟩ = some (.int .i64 ri.strong.lo) := by simpa using (hq).q4.cellT i h7 4 (.int .i64 ri.strong.lo) (by rw [← hri.out]; rfl)
                have t5 : w.cell? ⟨b4, i * 11 + 5, none⟩ = some (.int .i64 ri.strong.hi) := by simpa using (hq).q4.cellT i h7 5 (.int .i64 ri.strong.hi) (by rw [← hri.out]; rfl)
                have t6 : w.cell? ⟨b4, i * 11 + 6, none⟩ = some (.int .i64 ri.spin.lo) := by simpa using (hq).q4.cellT i h7 6 (.int .i64 ri.spin.lo) (by rw [← hri.out]; rfl)
                have t7 : w.cell? ⟨b4, i * 11 + 7, none⟩ = some (.int .i64 ri.spin.hi) := by simpa using (hq).q4.cellT i h7 7 (.int .i64 ri.spin.hi) (by rw [← hri.out]; rfl)
                have t8 : w.cell? ⟨b4, i * 11 + 8, none⟩ = some (.int .i64 ri.shape.lo) := by simpa using (hq).q4.cellT i h7 8 (.int .i64 ri.shape.lo) (by rw [← hri.out]; rfl)
                have t9 : w.cell? ⟨b4, i * 11 + 9, none⟩ = some (.int .i64 ri.shape.hi) := by simpa using (hq).q4.cellT i h7 9 (.int .i64 ri.shape.hi) (by rw [← hri.out]; rfl)
                have t10 : w.cell? ⟨b4, i * 11 + 10, none⟩ = some (.bool ri.pile) := by simpa using (hq).q4.cellT i h7 10 (.bool ri.pile) (by rw [← hri.out]; rfl)
                have u0 : w.cell? ⟨b5, i * 4, none⟩ = some (.int .i64 gi.speed.lo) := by simpa using (hq).q5.cellT i h7 0 (.int .i64 gi.speed.lo) (by rw [← hgi.out]; rfl)
                have u1 : w.cell? ⟨b5, i * 4 + 1, none⟩ = some (.int .i64 gi.speed.hi) := by simpa using (hq).q5.cellT i h7 1 (.int .i64 gi.speed.hi) (by rw [← hgi.out]; rfl)
                have u2 : w.cell? ⟨b5, i * 4 + 2, none⟩ = some (.int .i64 gi.slope.lo) := by simpa using (hq).q5.cellT i h7 2 (.int .i64 gi.slope.lo) (by rw [← hgi.out]; rfl)
                have u3 : w.cell? ⟨b5, i * 4 + 3, none⟩ = some (.int .i64 gi.slope.hi) := by simpa using (hq).q5.cellT i h7 3 (.int .i64 gi.slope.hi) (by rw [← hgi.out]; rfl)
                have e1 := hq.c1
                have e2 := hq.c2
                have e3 := hq.c3
                have e4 := hq.c4
                have e6 := hq.c6
                have e7 := hq.c7
                clear hq
                clear hB hU
                go_step
                exact hK _ rfl
              · refine opOk_v hA (fun _ => rfl) (fun _ _ => trivial) ?_ ?_
                · intro n D γ w hn h
                  replace hn : n < 35 := hn
                  try dsimp only at h
                  exact h
                intro n D γ w hB hU K hK
                try dsimp only at hB
                try dsimp only
                clear hB hU
                go_step
                exact hK _ rfl
              · refine opOk_v hA (fun _ => rfl) (fun _ _ => trivial) ?_ ?_
                · intro n D γ w hn h
                  replace hn : n < 35 := hn
                  try dsimp only at h
                  exact h
                intro n D γ w hB hU K hK
                try dsimp only at hB
                try dsimp only
                clear hB hU
                go_step
                exact hK _ rfl
              · refine opOk_v hA (fun _ => rfl) (fun _ _ => trivial) ?_ ?_
                · intro n D γ w hn h
                  replace hn : n < 35 := hn
                  try dsimp only at h
                  exact h
                intro n D γ w hB hU K hK
                try dsimp only at hB
                try dsimp only
                clear hB hU
                go_step
                exact hK _ rfl
              · refine opOk_v hA (fun _ => rfl) (fun _ _ => trivial) ?_ ?_
                · intro n D γ w hn h
                  replace hn : n < 35 := hn
                  try dsimp only at h
                  exact h
                intro n D γ w hB hU K hK
                try dsimp only at hB
                try dsimp only
                have hq := hL.kpN hB
                have t0 : w.cell? ⟨b4, i * 11, none⟩ = some (.int .i64 ri.size.lo) := by simpa using (hq).q4.cellT i h7 0 (.int .i64 ri.size.lo) (by rw [← hri.out]; rfl)
                have t1 : w.cell? ⟨b4, i * 11 + 1, none⟩ = some (.int .i64 ri.size.hi) := by simpa using (hq).q4.cellT i h7 1 (.int .i64 ri.size.hi) (by rw [← hri.out]; rfl)
                have t2 : w.cell? ⟨b4, i * 11 + 2, none⟩ = some (.int .i64 ri.dens.lo) := by simpa using (hq).q4.cellT i h7 2 (.int .i64 ri.dens.lo) (by rw [← hri.out]; rfl)
                have t3 : w.cell? ⟨b4, i * 11 + 3, none⟩ = some (.int .i64 ri.dens.hi) := by simpa using (hq).q4.cellT i h7 3 (.int .i64 ri.dens.hi) (by rw [← hri.out]; rfl)
                have t4 : w.cell? ⟨b4, i * 11 + 4, none⟩ = some (.int .i64 ri.strong.lo) := by simpa using (hq).q4.cellT i h7 4 (.int .i64 ri.strong.lo) (by rw [← hri.out]; rfl)
                have t5 : w.cell? ⟨b4, i * 11 + 5, none⟩ = some (.int .i64 ri.strong.hi) := by simpa using (hq).q4.cellT i h7 5 (.int .i64 ri.strong.hi) (by rw [← hri.out]; rfl)
                have t6 : w.cell? ⟨b4, i * 11 + 6, none⟩ = some (.int .i64 ri.spin.lo) := by simpa using (hq).q4.cellT i h7 6 (.int .i64 ri.spin.lo) (by rw [← hri.out]; rfl)
                have t7 : w.cell? ⟨b4, i * 11 + 7, none⟩ = some (.int .i64 ri.spin.hi) := by simpa using (hq).q4.cellT i h7 7 (.int .i64 ri.spin.hi) (by rw [← hri.out]; rfl)
                have t8 : w.cell? ⟨b4, i * 11 + 8, none⟩ = some (.int .i64 ri.shape.lo) := by simpa using (hq).q4.cellT i h7 8 (.int .i64 ri.shape.lo) (by rw [← hri.out]; rfl)
                have t9 : w.cell? ⟨b4, i * 11 + 9, none⟩ = some (.int .i64 ri.shape.hi) := by simpa using (hq).q4.cellT i h7 9 (.int .i64 ri.shape.hi) (by rw [← hri.out]; rfl)
                have t10 : w.cell? ⟨b4, i * 11 + 10, none⟩ = some (.bool ri.pile) := by simpa using (hq).q4.cellT i h7 10 (.bool ri.pile) (by rw [← hri.out]; rfl)
                have u0 : w.cell? ⟨b5, i * 4, none⟩ = some (.int .i64 gi.speed.lo) := by simpa using (hq).q5.cellT i h7 0 (.int .i64 gi.speed.lo) (by rw [← hgi.out]; rfl)
                have u1 : w.cell? ⟨b5, i * 4 + 1, none⟩ = some (.int .i64 gi.speed.hi) := by simpa using (hq).q5.cellT i h7 1 (.int .i64 gi.speed.hi) (by rw [← hgi.out]; rfl)
                have u2 : w.cell? ⟨b5, i * 4 + 2, none⟩ = some (.int .i64 gi.slope.lo) := by simpa using (hq).q5.cellT i h7 2 (.int .i64 gi.slope.lo) (by rw [← hgi.out]; rfl)
                have u3 : w.cell? ⟨b5, i * 4 + 3, none⟩ = some (.int .i64 gi.slope.hi) := by simpa using (hq).q5.cellT i h7 3 (.int .i64 gi.slope.hi) (by rw [← hgi.out]; rfl)
                have e1 := hq.c1
                have e2 := hq.c2
                have e3 := hq.c3
                have e4 := hq.c4
                have e6 := hq.c6
                have e7 := hq.c7
                clear hq
                clear hB hU
                go_step
                exact hK _ rfl
              · refine opOk_v hA (fun _ => rfl) (fun _ _ => trivial) ?_ ?_
                · intro n D γ w hn h
                  replace hn : n < 35 := hn
                  try dsimp only at h
                  exact h
                intro n D γ w hB hU K hK
                try dsimp only at hB
                try dsimp only
                clear hB hU
                go_step
                exact hK _ rfl
              · refine opOk_v hA (fun _ => rfl) (fun _ _ => trivial) ?_ ?_
                · intro n D γ w hn h
                  replace hn : n < 35 := hn
                  try dsimp only at h
                  exact h
                intro n D γ w hB hU K hK
                try dsimp only at hB
                try dsimp only
                clear hB hU
                go_step
                exact hK _ rfl
              · refine opOk_v hA (fun _ => rfl) (fun _ _ => trivial) ?_ ?_
                · intro n D γ w hn h
                  replace hn : n < 35 := hn
                  try dsimp only at h
                  exact h
                intro n D γ w hB hU K hK
                try dsimp only at hB
                try dsimp only
                clear hB hU
                go_step
                exact hK _ rfl
              · refine opOk_v hA (fun _ => rfl) (fun _ _ => trivial) ?_ ?_
                · intro n D γ w hn h
                  replace hn : n < 35 := hn
                  try dsimp only at h
                  exact h
                intro n D γ w hB hU K hK
                try dsimp only at hB
                try dsimp only
                have hq := hL.kpN hB
                have t0 : w.cell? ⟨b4, i * 11, none⟩ = some (.int .i64 ri.size.lo) := by simpa using (hq).q4.cellT i h7 0 (.int .i64 ri.size.lo) (by rw [← hri.out]; rfl)
                have t1 : w.cell? ⟨b4, i * 11 + 1, none⟩ = some (.int .i64 ri.size.hi) := by simpa using (hq).q4.cellT i h7 1 (.int .i64 ri.size.hi) (by rw [← hri.out]; rfl)
                have t2 : w.cell? ⟨b4, i * 11 + 2, none⟩ = some (.int .i64 ri.dens.lo) := by simpa using (hq).q4.cellT i h7 2 (.int .i64 ri.dens.lo) (by rw [← hri.out]; rfl)
                have t3 : w.cell? ⟨b4, i * 11 + 3, none⟩ = some (.int .i64 ri.dens.hi) := by simpa using (hq).q4.cellT i h7 3 (.int .i64 ri.dens.hi) (by rw [← hri.out]; rfl)
                have t4 : w.cell? ⟨b4, i * 11 + 4, none⟩ = some (.int .i64 ri.strong.lo) := by simpa using (hq).q4.cellT i h7 4 (.int .i64 ri.strong.lo) (by rw [← hri.out]; rfl)
                have t5 : w.cell? ⟨b4, i * 11 + 5, none⟩ = some (.int .i64 ri.strong.hi) := by simpa using (hq).q4.cellT i h7 5 (.int .i64 ri.strong.hi) (by rw [← hri.out]; rfl)
                have t6 : w.cell? ⟨b4, i * 11 + 6, none⟩ = some (.int .i64 ri.spin.lo) := by simpa using (hq).q4.cellT i h7 6 (.int .i64 ri.spin.lo) (by rw [← hri.out]; rfl)
                have t7 : w.cell? ⟨b4, i * 11 + 7, none⟩ = some (.int .i64 ri.spin.hi) := by simpa using (hq).q4.cellT i h7 7 (.int .i64 ri.spin.hi) (by rw [← hri.out]; rfl)
                have t8 : w.cell? ⟨b4, i * 11 + 8, none⟩ = some (.int .i64 ri.shape.lo) := by simpa using (hq).q4.cellT i h7 8 (.int .i64 ri.shape.lo) (by rw [← hri.out]; rfl)
                have t9 : w.cell? ⟨b4, i * 11 + 9, none⟩ = some (.int .i64 ri.shape.hi) := by simpa using (hq).q4.cellT i h7 9 (.int .i64 ri.shape.hi) (by rw [← hri.out]; rfl)
                have t10 : w.cell? ⟨b4, i * 11 + 10, none⟩ = some (.bool ri.pile) := by simpa using (hq).q4.cellT i h7 10 (.bool ri.pile) (by rw [← hri.out]; rfl)
                have u0 : w.cell? ⟨b5, i * 4, none⟩ = some (.int .i64 gi.speed.lo) := by simpa using (hq).q5.cellT i h7 0 (.int .i64 gi.speed.lo) (by rw [← hgi.out]; rfl)
                have u1 : w.cell? ⟨b5, i * 4 + 1, none⟩ = some (.int .i64 gi.speed.hi) := by simpa using (hq).q5.cellT i h7 1 (.int .i64 gi.speed.hi) (by rw [← hgi.out]; rfl)
                have u2 : w.cell? ⟨b5, i * 4 + 2, none⟩ = some (.int .i64 gi.slope.lo) := by simpa using (hq).q5.cellT i h7 2 (.int .i64 gi.slope.lo) (by rw [← hgi.out]; rfl)
                have u3 : w.cell? ⟨b5, i * 4 + 3, none⟩ = some (.int .i64 gi.slope.hi) := by simpa using (hq).q5.cellT i h7 3 (.int .i64 gi.slope.hi) (by rw [← hgi.out]; rfl)
                have e1 := hq.c1
                have e2 := hq.c2
                have e3 := hq.c3
                have e4 := hq.c4
                have e6 := hq.c6
                have e7 := hq.c7
                clear hq
                clear hB hU
                go_step
                exact hK _ rfl
              · refine opOk_v hA (fun _ => rfl) (fun _ _ => trivial) ?_ ?_
                · intro n D γ w hn h
                  replace hn : n < 35 := hn
                  try dsimp only at h
                  exact h
                intro n D γ w hB hU K hK
                try dsimp only at hB
                try dsimp only
                clear hB hU
                go_step
                exact hK _ rfl
              · refine opOk_v hA (fun _ => rfl) (fun _ _ => trivial) ?_ ?_
                · intro n D γ w hn h
                  replace hn : n < 35 := hn
                  try dsimp only at h
                  exact h
                intro n D γ w hB hU K hK
                try dsimp only at hB
                try dsimp only
                clear hB hU
                go_step
                exact hK _ rfl
              · refine opOk_v hA (fun _ => rfl) (fun _ _ => trivial) ?_ ?_
                · intro n D γ w hn h
                  replace hn : n < 35 := hn
                  try dsimp only at h
                  exact h
                intro n D γ w hB hU K hK
                try dsimp only at hB
                try dsimp only
                clear hB hU
                go_step
                exact hK _ rfl
              · refine opOk_v hA (fun _ => rfl) (fun _ _ => trivial) ?_ ?_
                · intro n D γ w hn h
                  replace hn : n < 35 := hn
                  try dsimp only at h
                  exact h
                intro n D γ w hB hU K hK
                try dsimp only at hB
                try dsimp only
                have hq := hL.kpN hB
                have t0 : w.cell? ⟨b4, i * 11, none⟩ = some (.int .i64 ri.size.lo) := by simpa using (hq).q4.cellT i h7 0 (.int .i64 ri.size.lo) (by rw [← hri.out]; rfl)
                have t1 : w.cell? ⟨b4, i * 11 + 1, none⟩ = some (.int .i64 ri.size.hi) := by simpa using (hq).q4.cellT i h7 1 (.int .i64 ri.size.hi) (by rw [← hri.out]; rfl)
                have t2 : w.cell? ⟨b4, i * 11 + 2, none⟩ = some (.int .i64 ri.dens.lo) := by simpa using (hq).q4.cellT i h7 2 (.int .i64 ri.dens.lo) (by rw [← hri.out]; rfl)
                have t3 : w.cell? ⟨b4, i * 11 + 3, none⟩ = some (.int .i64 ri.dens.hi) := by simpa using (hq).q4.cellT i h7 3 (.int .i64 ri.dens.hi) (by rw [← hri.out]; rfl)
                have t4 : w.cell? ⟨b4, i * 11 + 4, none⟩ = some (.int .i64 ri.strong.lo) := by simpa using (hq).q4.cellT i h7 4 (.int .i64 ri.strong.lo) (by rw [← hri.out]; rfl)
                have t5 : w.cell? ⟨b4, i * 11 + 5, none⟩ = some (.int .i64 ri.strong.hi) := by simpa using (hq).q4.cellT i h7 5 (.int .i64 ri.strong.hi) (by rw [← hri.out]; rfl)
                have t6 : w.cell? ⟨b4, i * 11 + 6, none⟩ = some (.int .i64 ri.spin.lo) := by simpa using (hq).q4.cellT i h7 6 (.int .i64 ri.spin.lo) (by rw [← hri.out]; rfl)
                have t7 : w.cell? ⟨b4, i * 11 + 7, none⟩ = some (.int .i64 ri.spin.hi) := by simpa using (hq).q4.cellT i h7 7 (.int .i64 ri.spin.hi) (by rw [← hri.out]; rfl)
                have t8 : w.cell? ⟨b4, i * 11 + 8, none⟩ = some (.int .i64 ri.shape.lo) := by simpa using (hq).q4.cellT i h7 8 (.int .i64 ri.shape.lo) (by rw [← hri.out]; rfl)
                have t9 : w.cell? ⟨b4, i * 11 + 9, none⟩ = some (.int .i64 ri.shape.hi) := by simpa using (hq).q4.cellT i h7 9 (.int .i64 ri.shape.hi) (by rw [← hri.out]; rfl)
                have t10 : w.cell? ⟨b4, i * 11 + 10, none⟩ = some (.bool ri.pile) := by simpa using (hq).q4.cellT i h7 10 (.bool ri.pile) (by rw [← hri.out]; rfl)
                have u0 : w.cell? ⟨b5, i * 4, none⟩ = some (.int .i64 gi.speed.lo) := by simpa using (hq).q5.cellT i h7 0 (.int .i64 gi.speed.lo) (by rw [← hgi.out]; rfl)
                have u1 : w.cell? ⟨b5, i * 4 + 1, none⟩ = some (.int .i64 gi.speed.hi) := by simpa using (hq).q5.cellT i h7 1 (.int .i64 gi.speed.hi) (by rw [← hgi.out]; rfl)
                have u2 : w.cell? ⟨b5, i * 4 + 2, none⟩ = some (.int .i64 gi.slope.lo) := by simpa using (hq).q5.cellT i h7 2 (.int .i64 gi.slope.lo) (by rw [← hgi.out]; rfl)
                have u3 : w.cell? ⟨b5, i * 4 + 3, none⟩ = some (.int .i64 gi.slope.hi) := by simpa using (hq).q5.cellT i h7 3 (.int .i64 gi.slope.hi) (by rw [← hgi.out]; rfl)
                have e1 := hq.c1
                have e2 := hq.c2
                have e3 := hq.c3
                have e4 := hq.c4
                have e6 := hq.c6
                have e7 := hq.c7
                clear hq
                clear hB hU
                go_step
                exact hK _ rfl
              · refine opOk_v hA (fun _ => rfl) (fun _ _ => trivial) ?_ ?_
                · intro n D γ w hn h
                  replace hn : n < 35 := hn
                  try dsimp only at h
                  exact h
                intro n D γ w hB hU K hK
                try dsimp only at hB
                try dsimp only
                clear hB hU
                go_step
                exact hK _ rfl
              · refine opOk_v hA (fun _ => rfl) (fun _ _ => trivial) ?_ ?_
                · intro n D γ w hn h
                  replace hn : n < 35 := hn
                  try dsimp only at h
                  exact h
                intro n D γ w hB hU K hK
                try dsimp only at hB
                try dsimp only
                clear hB hU
                go_step
                exact hK _ rfl
              · refine opOk_v hA (fun _ => rfl) (fun _ _ => trivial) ?_ ?_
                · intro n D γ w hn h
                  replace hn : n < 35 := hn
                  try dsimp only at h
                  exact h
                intro n D γ w hB hU K hK
                try dsimp only at hB
                try dsimp only
                clear hB hU
                go_step
                exact hK _ rfl
              · refine opOk_v hA (fun _ => rfl) (fun _ _ => trivial) ?_ ?_
                · intro n D γ w hn h
                  replace hn : n < 35 := hn
                  try dsimp only at h
                  exact h
                intro n D γ w hB hU K hK
                try dsimp only at hB
                try dsimp only
                have hq := hL.kpN hB
                have t0 : w.cell? ⟨b4, i * 11, none⟩ = some (.int .i64 ri.size.lo) := by simpa using (hq).q4.cellT i h7 0 (.int .i64 ri.size.lo) (by rw [← hri.out]; rfl)
                have t1 : w.cell? ⟨b4, i * 11 + 1, none⟩ = some (.int .i64 ri.size.hi) := by simpa using (hq).q4.cellT i h7 1 (.int .i64 ri.size.hi) (by rw [← hri.out]; rfl)
                have t2 : w.cell? ⟨b4, i * 11 + 2, none⟩ = some (.int .i64 ri.dens.lo) := by simpa using (hq).q4.cellT i h7 2 (.int .i64 ri.dens.lo) (by rw [← hri.out]; rfl)
                have t3 : w.cell? ⟨b4, i * 11 + 3, none⟩ = some (.int .i64 ri.dens.hi) := by simpa using (hq).q4.cellT i h7 3 (.int .i64 ri.dens.hi) (by rw [← hri.out]; rfl)
                have t4 : w.cell? ⟨b4, i * 11 + 4, none⟩ = some (.int .i64 ri.strong.lo) := by simpa using (hq).q4.cellT i h7 4 (.int .i64 ri.strong.lo) (by rw [← hri.out]; rfl)
                have t5 : w.cell? ⟨b4, i * 11 + 5, none⟩ = some (.int .i64 ri.strong.hi) := by simpa using (hq).q4.cellT i h7 5 (.int .i64 ri.strong.hi) (by rw [← hri.out]; rfl)
                have t6 : w.cell? ⟨b4, i * 11 + 6, none⟩ = some (.int .i64 ri.spin.lo) := by simpa using (hq).q4.cellT i h7 6 (.int .i64 ri.spin.lo) (by rw [← hri.out]; rfl)
                have t7 : w.cell? ⟨b4, i * 11 + 7, none⟩ = some (.int .i64 ri.spin.hi) := by simpa using (hq).q4.cellT i h7 7 (.int .i64 ri.spin.hi) (by rw [← hri.out]; rfl)
                have t8 : w.cell? ⟨b4, i * 11 + 8, none⟩ = some (.int .i64 ri.shape.lo) := by simpa using (hq).q4.cellT i h7 8 (.int .i64 ri.shape.lo) (by rw [← hri.out]; rfl)
                have t9 : w.cell? ⟨b4, i * 11 + 9, none⟩ = some (.int .i64 ri.shape.hi) := by simpa using (hq).q4.cellT i h7 9 (.int .i64 ri.shape.hi) (by rw [← hri.out]; rfl)
                have t10 : w.cell? ⟨b4, i * 11 + 10, none⟩ = some (.bool ri.pile) := by simpa using (hq).q4.cellT i h7 10 (.bool ri.pile) (by rw [← hri.out]; rfl)
                have u0 : w.cell? ⟨b5, i * 4, none⟩ = some (.int .i64 gi.speed.lo) := by simpa using (hq).q5.cellT i h7 0 (.int .i64 gi.speed.lo) (by rw [← hgi.out]; rfl)
                have u1 : w.cell? ⟨b5, i * 4 + 1, none⟩ = some (.int .i64 gi.speed.hi) := by simpa using (hq).q5.cellT i h7 1 (.int .i64 gi.speed.hi) (by rw [← hgi.out]; rfl)
                have u2 : w.cell? ⟨b5, i * 4 + 2, none⟩ = some (.int .i64 gi.slope.lo) := by simpa using (hq).q5.cellT i h7 2 (.int .i64 gi.slope.lo) (by rw [← hgi.out]; rfl)
                have u3 : w.cell? ⟨b5, i * 4 + 3, none⟩ = some (.int .i64 gi.slope.hi) := by simpa using (hq).q5.cellT i h7 3 (.int .i64 gi.slope.hi) (by rw [← hgi.out]; rfl)
                have e1 := hq.c1
                have e2 := hq.c2
                have e3 := hq.c3
                have e4 := hq.c4
                have e6 := hq.c6
                have e7 := hq.c7
                clear hq
                clear hB hU
                go_step
                exact hK _ rfl
              · refine opOk_v hA (fun _ => rfl) (fun _ _ => trivial) ?_ ?_
                · intro n D γ w hn h
                  replace hn : n < 35 := hn
                  try dsimp only at h
                  exact h
                intro n D γ w hB hU K hK
                try dsimp only at hB
                try dsimp only
                clear hB hU
                go_step
                exact hK _ rfl
              · refine opOk_v hA (fun _ => rfl) (fun _ _ => trivial) ?_ ?_
                · intro n D γ w hn h
                  replace hn : n < 35 := hn
                  try dsimp only at h
                  exact h
                intro n D γ w hB hU K hK
                try dsimp only at hB
                try dsimp only
                clear hB hU
                go_step
                exact hK _ rfl
              · refine opOk_v hA (fun _ => rfl) (fun _ _ => trivial) ?_ ?_
                · intro n D γ w hn h
                  replace hn : n < 35 := hn
                  try dsimp only at h
                  exact h
                intro n D γ w hB hU K hK
                try dsimp only at hB
                try dsimp only
                clear hB hU
                go_step
                exact hK _ rfl
              · refine opOk_v hA (fun _ => rfl) (fun _ _ => trivial) ?_ ?_
                · intro n D γ w hn h
                  replace hn : n < 35 := hn
                  try dsimp only at h
                  exact h
                intro n D γ w hB hU K hK
                try dsimp only at hB
                try dsimp only
                have hq := hL.kpN hB
                have t0 : w.cell? ⟨b4, i * 11, none⟩ = some (.int .i64 ri.size.lo) := by simpa using (hq).q4.cellT i h7 0 (.int .i64 ri.size.lo) (by rw [← hri.out]; rfl)
                have t1 : w.cell? ⟨b4, i * 11 + 1, none⟩ = some (.int .i64 ri.size.hi) := by simpa using (hq).q4.cellT i h7 1 (.int .i64 ri.size.hi) (by rw [← hri.out]; rfl)
                have t2 : w.cell? ⟨b4, i * 11 + 2, none⟩ = some (.int .i64 ri.dens.lo) := by simpa using (hq).q4.cellT i h7 2 (.int .i64 ri.dens.lo) (by rw [← hri.out]; rfl)
                have t3 : w.cell? ⟨b4, i * 11 + 3, none⟩ = some (.int .i64 ri.dens.hi) := by simpa using (hq).q4.cellT i h7 3 (.int .i64 ri.dens.hi) (by rw [← hri.out]; rfl)
                have t4 : w.cell? ⟨b4, i * 11 + 4, none⟩ = some (.int .i64 ri.strong.lo) := by simpa using (hq).q4.cellT i h7 4 (.int .i64 ri.strong.lo) (by rw [← hri.out]; rfl)
                have t5 : w.cell? ⟨b4, i * 11 + 5, none⟩ = some (.int .i64 ri.strong.hi) := by simpa using (hq).q4.cellT i h7 5 (.int .i64 ri.strong.hi) (by rw [← hri.out]; rfl)
                have t6 : w.cell? ⟨b4, i * 11 + 6, none⟩ = some (.int .i64 ri.spin.lo) := by simpa using (hq).q4.cellT i h7 6 (.int .i64 ri.spin.lo) (by rw [← hri.out]; rfl)
                have t7 : w.cell? ⟨b4, i * 11 + 7, none⟩ = some (.int .i64 ri.spin.hi) := by simpa using (hq).q4.cellT i h7 7 (.int .i64 ri.spin.hi) (by rw [← hri.out]; rfl)
                have t8 : w.cell? ⟨b4, i * 11 + 8, none⟩ = some (.int .i64 ri.shape.lo) := by simpa using (hq).q4.cellT i h7 8 (.int .i64 ri.shape.lo) (by rw [← hri.out]; rfl)
                have t9 : w.cell? ⟨b4, i * 11 + 9, none⟩ = some (.int .i64 ri.shape.hi) := by simpa using (hq).q4.cellT i h7 9 (.int .i64 ri.shape.hi) (by rw [← hri.out]; rfl)
                have t10 : w.cell? ⟨b4, i * 11 + 10, none⟩ = some (.bool ri.pile) := by simpa using (hq).q4.cellT i h7 10 (.bool ri.pile) (by rw [← hri.out]; rfl)
                have u0 : w.cell? ⟨b5, i * 4, none⟩ = some (.int .i64 gi.speed.lo) := by simpa using (hq).q5.cellT i h7 0 (.int .i64 gi.speed.lo) (by rw [← hgi.out]; rfl)
                have u1 : w.cell? ⟨b5, i * 4 + 1, none⟩ = some (.int .i64 gi.speed.hi) := by simpa using (hq).q5.cellT i h7 1 (.int .i64 gi.speed.hi) (by rw [← hgi.out]; rfl)
                have u2 : w.cell? ⟨b5, i * 4 + 2, none⟩ = some (.int .i64 gi.slope.lo) := by simpa using (hq).q5.cellT i h7 2 (.int .i64 gi.slope.lo) (by rw [← hgi.out]; rfl)
                have u3 : w.cell? ⟨b5, i * 4 + 3, none⟩ = some (.int .i64 gi.slope.hi) := by simpa using (hq).q5.cellT i h7 3 (.int .i64 gi.slope.hi) (by rw [← hgi.out]; rfl)
                have e1 := hq.c1
                have e2 := hq.c2
                have e3 := hq.c3
                have e4 := hq.c4
                have e6 := hq.c6
                have e7 := hq.c7
                clear hq
                clear hB hU
                go_step
                exact hK _ rfl
              · refine opOk_l hA (fun _ => rfl) ?_
                intro n D γ w hn hD hB hU K hK
                try dsimp only at hB
                clear hU
                replace hn : n < 35 := hn
                try dsimp only
                have hq := hL.kpN hB
                go_step
                refine (blast_Toll_any Aa ca la Af cf gg Al Aw cl cw pp bb ri gi y9 a9 _ hq.ra hq.rg hq.rl hq.rw hcl2 (hb.kpN hq.k)).mono ?_
                rintro e w5 ⟨⟨lo, hi, wo, n, rfl, ht⟩, k5⟩
                have s32 : (wr.heap.size ≤ γ.bx ∧ ∃ v v', Blk w γ.bx 26 #[v, v']) → wr.heap.size ≤ γ.bx ∧ ∃ v v', Blk w5 γ.bx 26 #[v, v'] := fun h => ⟨h.1, h.2.imp fun _ h => h.imp fun _ h => h.kpN k5⟩
                refine hK _ _ { γ with lo := lo, hi := hi, wo := wo, n := n } rfl (hB.thenN k5 (Nat.le_refl _)) ht ?_
                try dsimp only [allP, List.getD_cons_zero, List.getD_cons_succ]
                (repeat' apply And.intro) <;> first | exact rfl | exact trivial | exact id | assumption
              · refine opOk_v hA (fun _ => rfl) (fun _ _ => trivial) ?_ ?_
                · intro n D γ w hn h
                  replace hn : n < 35 := hn
                  try dsimp only at h
                  exact h
                intro n D γ w hB hU K hK
                try dsimp only at hB
                try dsimp only
                clear hB hU
                go_step
                exact hK _ rfl
              · refine opOk_v hA (fun _ => rfl) (fun _ _ => trivial) ?_ ?_
                · intro n D γ w hn h
                  replace hn : n < 35 := hn
                  try dsimp only at h
                  exact h
                intro n D γ w hB hU K hK
                try dsimp only at hB
                try dsimp only
                clear hB hU
                go_step
                exact hK _ rfl
              · refine opOk_v hA (fun _ => rfl) (fun _ _ => trivial) ?_ ?_
                · intro n D γ w hn h
                  replace hn : n < 35 := hn
                  try dsimp only at h
                  exact h
                intro n D γ w hB hU K hK
                try dsimp only at hB
                try dsimp only
                clear hB hU
                go_step
                exact hK _ rfl
              · refine opOk_l hA (fun _ => rfl) ?_
                intro n D γ w hn hD hB hU K hK
                try dsimp only at hB
                clear hU
                replace hn : n < 35 := hn
                try dsimp only
                go_step
                refine hK _ _ { γ with bx := w.heap.size } rfl (hB.alloc hB.size _) ⟨hB.size, _, _, Blk.new _ _ _⟩ ?_
                try dsimp only [allP, List.getD_cons_zero, List.getD_cons_succ]
                (repeat' apply And.intro) <;> first | exact rfl | exact trivial | exact id | assumption
              · refine opOk_l hA (fun _ => rfl) ?_
                intro n D γ w hn hD hB hU K hK
                try dsimp only at hB
                replace hU : (TollIs la gg pp bb ri gi y9 a9 γ.lo γ.hi γ.wo γ.n) ∧ (wr.heap.size ≤ γ.bx ∧ ∃ v v', Blk w γ.bx 26 #[v, v']) := ⟨hU.2.2.2.2.2.2.2.2.2.2.2.2.2.2.2.2.2.2.2.2.2.2.2.2.2.2.2.2.1, hU.2.2.2.2.2.2.2.2.2.2.2.2.2.2.2.2.2.2.2.2.2.2.2.2.2.2.2.2.2.2.2.1⟩
                replace hn : n < 35 := hn
                try dsimp only
                obtain ⟨-, hbx, v, v', hBx⟩ := hU
                have cX := fun i => hBx.cell i
                have fX := fun i => hBx.frozen i
                go_step
                have s32 : (wr.heap.size ≤ γ.bx ∧ ∃ v v', Blk w γ.bx 26 #[v, v']) → wr.heap.size ≤ γ.bx ∧ ∃ v v', Blk ((w.setCell ⟨γ.bx, 0, none⟩ (.int .i64 γ.lo)).setCell ⟨γ.bx, 1, none⟩ (.int .i64 γ.hi)) γ.bx 26 #[v, v'] := fun _ => ⟨hbx, _, _, (hBx.set_ 0 _).set_ 1 _⟩
                refine hK _ _ γ rfl ((hB.setNew (p := ⟨γ.bx, 0, none⟩) hbx _).setNew (p := ⟨γ.bx, 1, none⟩) hbx _) ⟨hbx, (hBx.set_ 0 (.int .i64 γ.lo)).set_ 1 (.int .i64 γ.hi)⟩ ?_
                try dsimp only [allP, List.getD_cons_zero, List.getD_cons_succ]
                (repeat' apply And.intro) <;> first | exact rfl | exact trivial | exact id | assumption
              · refine opOk_v hA (fun _ => rfl) (fun _ _ => trivial) ?_ ?_
                · intro n D γ w hn h
                  replace hn : n < 35 := hn
                  try dsimp only at h
                  exact h
                intro n D γ w hB hU K hK
                try dsimp only at hB
                try dsimp only
                clear hB hU
                go_step
                exact hK _ rfl
            case hend11_3 =>
              intro n D γ w hn hD hB hF
              replace hF := fun k (hk : k < 35) => hF k hk
              replace hF := (⟨hF 28 (by decide), hF 32 (by decide), hF 33 (by decide)⟩ : _ ∧ _ ∧ _)
              try dsimp only at hB
              try dsimp only at hF
              replace hn : n ≤ 35 := hn
              try dsimp only
              obtain ⟨ht1, -, -, hBX⟩ := hF
              rename T14 => T
              obtain ⟨lo, hi9, wo, n9, bx⟩ := T
              dsimp only at *
              obtain ⟨w1', hw1'⟩ : ∃ u, u = w := ⟨_, rfl⟩
              rw [← hw1'] at hB hBX ⊢
              replace hL := hL.kpN hB
              have KZ := hB
              have BX := hBX
              clear hB hBX hw1' hD
              go_wp2_with fail
              refine wp_region_inv (Γ := T14) [none, none, none, none, none, none, none, none, none, none, none, none, none, none, none, none, none, none, none, none, none, none, none, none, none, none, none, none, none, none, none, none, some 32, some 34, none, none, none, none, none, none, none, none, none, none, none, none, none, none, none, none, none, none, none, none, none, none, none, none, none, none, none, none, none, none, none, none, none, none, none, none, none, none, none, none, none, none, none, none, none, none, none, none, none, none, none, none, none, none, none, none, none, none, none, none, none, none, none, none, none, none, none, none, none, none, none, none, none, none, none, none, none, none, none, none, none, none, none, none, none, none, none, none, none, none, none, none, none, none, some 29, some 0, some 1, some 2, some 3, some 4, some 5, some 6, some 7, some 8, some 9, some 10, some 11, some 12, some 13, some 14, some 15, some 16, some 17, some 18, some 19, some 20, some 21, some 22, some 23, some 24, some 25, some 26, some 27, some 28, some 30, some 31] [[], [], [0, 1], [0, 1, 2], [], [], [4, 5], [4, 5, 6], [], [], [8, 9], [8, 9, 10], [], [], [12, 13], [12, 13, 14], [], [], [16, 17], [16, 17, 18], [], [], [20, 21], [20, 21, 22], [], [], [24, 25], [24, 25, 26], [0, 1, 2, 3, 4, 5, 6, 7, 8, 9, 10, 11, 12, 13, 14, 15, 16, 17, 18, 19, 20, 21, 22, 23, 24, 25, 26, 27], [0, 1, 2, 3, 4, 5, 6, 7, 8, 9, 10, 11, 12, 13, 14, 15, 16, 17, 18, 19, 20, 21, 22, 23, 24, 25, 26, 27, 28], [0, 1, 2, 3, 4, 5, 6, 7, 8, 9, 10, 11, 12, 13, 14, 15, 16, 17, 18, 19, 20, 21, 22, 23, 24, 25, 26, 27, 28, 29], [0, 1, 2, 3, 4, 5, 6, 7, 8, 9, 10, 11, 12, 13, 14, 15, 16, 17, 18, 19, 20, 21, 22, 23, 24, 25, 26, 27, 28, 29], [], [0, 1, 2, 3, 4, 5, 6, 7, 8, 9, 10, 11, 12, 13, 14, 15, 16, 17, 18, 19, 20, 21, 22, 23, 24, 25, 26, 27, 28, 29, 30, 32], [0, 1, 2, 3, 4, 5, 6, 7, 8, 9, 10, 11, 12, 13, 14, 15, 16, 17, 18, 19, 20, 21, 22, 23, 24, 25, 26, 27, 28, 29, 30, 31, 32, 33]] [[1, 4, 5, 6, 7, 8, 9, 10, 11, 12, 13, 14, 15, 16, 17, 18, 19, 20, 21, 22, 23, 24, 25, 26, 27, 32], [0, 4, 5, 6, 7, 8, 9, 10, 11, 12, 13, 14, 15, 16, 17, 18, 19, 20, 21, 22, 23, 24, 25, 26, 27, 32], [0, 1, 4, 5, 6, 7, 8, 9, 10, 11, 12, 13, 14, 15, 16, 17, 18, 19, 20, 21, 22, 23, 24, 25, 26, 27, 32], [0, 1, 2, 4, 5, 6, 7, 8, 9, 10, 11, 12, 13, 14, 15, 16, 17, 18, 19, 20, 21, 22, 23, 24, 25, 26, 27, 32], [0, 1, 2, 3, 5, 8, 9, 10, 11, 12, 13, 14, 15, 16, 17, 18, 19, 20, 21, 22, 23, 24, 25, 26, 27, 32], [0, 1, 2, 3, 4, 8, 9, 10, 11, 12, 13, 14, 15, 16, 17, 18, 19, 20, 21, 22, 23, 24, 25, 26, 27, 32], [0, 1, 2, 3, 4, 5, 8, 9, 10, 11, 12, 13, 14, 15, 16, 17, 18, 19, 20, 21, 22, 23, 24, 25, 26, 27, 32], [0, 1, 2, 3, 4, 5, 6, 8, 9, 10, 11, 12, 13, 14, 15, 16, 17, 18, 19, 20, 21, 22, 23, 24, 25, 26, 27, 32], [0, 1, 2, 3, 4, 5, 6, 7, 9, 12, 13, 14, 15, 16, 17, 18, 19, 20, 21, 22, 23, 24, 25, 26, 27, 32], [0, 1, 2, 3, 4, 5, 6, 7, 8, 12, 13, 14, 15, 16, 17, 18, 19, 20, 21, 22, 23, 24, 25, 26, 27, 32], [0, 1, 2, 3, 4, 5, 6, 7, 8, 9, 12, 13, 14, 15, 16, 17, 18, 19, 20, 21, 22, 23, 24, 25, 26, 27, 32], [0, 1, 2, 3, 4, 5, 6, 7, 8, 9, 10, 12, 13, 14, 15, 16, 17, 18, 19, 20, 21, 22, 23, 24, 25, 26, 27, 32], [0, 1, 2, 3, 4, 5, 6, 7, 8, 9, 10, 11, 13, 16, 17, 18, 19, 20, 21, 22, 23, 24, 25, 26, 27, 32], [0, 1, 2, 3, 4, 5, 6, 7, 8, 9, 10, 11, 12, 16, 17, 18, 19, 20, 21, 22, 23, 24, 25, 26, 27, 32], [0, 1, 2, 3, 4, 5, 6, 7, 8, 9, 10, 11, 12, 13, 16, 17, 18, 19, 20, 21, 22, 23, 24, 25, 26, 27, 32], [0, 1, 2, 3, 4, 5, 6, 7, 8, 9, 10, 11, 12, 13, 14, 16, 17, 18, 19, 20, 21, 22, 23, 24, 25, 26, 27, 32], [0, 1, 2, 3, 4, 5, 6, 7, 8, 9, 10, 11, 12, 13, 14, 15, 17, 20, 21, 22, 23, 24, 25, 26, 27, 32], [0, 1, 2, 3, 4, 5, 6, 7, 8, 9, 10, 11, 12, 13, 14, 15, 16, 20, 21, 22, 23, 24, 25, 26, 27, 32], [0, 1, 2, 3, 4, 5, 6, 7, 8, 9, 10, 11, 12, 13, 14, 15, 16, 17, 20, 21, 22, 23, 24, 25, 26, 27, 32], [0, 1, 2, 3, 4, 5, 6, 7, 8, 9, 10, 11, 12, 13, 14, 15, 16, 17, 18, 20, 21, 22, 23, 24, 25, 26, 27, 32], [0, 1, 2, 3, 4, 5, 6, 7, 8, 9, 10, 11, 12, 13, 14, 15, 16, 17, 18, 19, 21, 24, 25, 26, 27, 32], [0, 1, 2, 3, 4, 5, 6, 7, 8, 9, 10, 11, 12, 13, 14, 15, 16, 17, 18, 19, 20, 24, 25, 26, 27, 32], [0, 1, 2, 3, 4, 5, 6, 7, 8, 9, 10, 11, 12, 13, 14, 15, 16, 17, 18, 19, 20, 21, 24, 25, 26, 27, 32], [0, 1, 2, 3, 4, 5, 6, 7, 8, 9, 10, 11, 12, 13, 14, 15, 16, 17, 18, 19, 20, 21, 22, 24, 25, 26, 27, 32], [0, 1, 2, 3, 4, 5, 6, 7, 8, 9, 10, 11, 12, 13, 14, 15, 16, 17, 18, 19, 20, 21, 22, 23, 25, 32], [0, 1, 2, 3, 4, 5, 6, 7, 8, 9, 10, 11, 12, 13, 14, 15, 16, 17, 18, 19, 20, 21, 22, 23, 24, 32], [0, 1, 2, 3, 4, 5, 6, 7, 8, 9, 10, 11, 12, 13, 14, 15, 16, 17, 18, 19, 20, 21, 22, 23, 24, 25, 32], [0, 1, 2, 3, 4, 5, 6, 7, 8, 9, 10, 11, 12, 13, 14, 15, 16, 17, 18, 19, 20, 21, 22, 23, 24, 25, 26, 32], [0, 1, 2, 3, 4, 5, 6, 7, 8, 9, 10, 11, 12, 13, 14, 15, 16, 17, 18, 19, 20, 21, 22, 23, 24, 25, 26, 27, 32], [0, 1, 2, 3, 4, 5, 6, 7, 8, 9, 10, 11, 12, 13, 14, 15, 16, 17, 18, 19, 20, 21, 22, 23, 24, 25, 26, 27, 28, 32], [0, 1, 2, 3, 4, 5, 6, 7, 8, 9, 10, 11, 12, 13, 14, 15, 16, 17, 18, 19, 20, 21, 22, 23, 24, 25, 26, 27, 28, 29, 31, 32], [0, 1, 2, 3, 4, 5, 6, 7, 8, 9, 10, 11, 12, 13, 14, 15, 16, 17, 18, 19, 20, 21, 22, 23, 24, 25, 26, 27, 28, 29, 30, 32, 33], [0, 1, 2, 3, 4, 5, 6, 7, 8, 9, 10, 11, 12, 13, 14, 15, 16, 17, 18, 19, 20, 21, 22, 23, 24, 25, 26, 27, 28, 29, 30, 31], [0, 1, 2, 3, 4, 5, 6, 7, 8, 9, 10, 11, 12, 13, 14, 15, 16, 17, 18, 19, 20, 21, 22, 23, 24, 25, 26, 27, 28, 29, 30, 31, 32], [0, 1, 2, 3, 4, 5, 6, 7, 8, 9, 10, 11, 12, 13, 14, 15, 16, 17, 18, 19, 20, 21, 22, 23, 24, 25, 26, 27, 28, 29, 30, 31, 32, 33]] (fun γ => [.slice (some ⟨b1, 0, none⟩) 2 2, .int .i64 i, .pointer (some ⟨b1, i, none⟩), .slice Aa la.length ca, .slice (some ⟨b2, 0, none⟩) 2 2, .int .i64 i, .pointer (some ⟨b2, i, none⟩), .slice Af gg.length cf, .slice (some ⟨b3, 0, none⟩) 2 2, .int .i64 i, .pointer (some ⟨b3, i * 2, none⟩), .agg #[.slice Al pp.length cl, .slice Aw bb.length cw], .slice (some ⟨b4, 0, none⟩) 2 2, .int .i64 i, .pointer (some ⟨b4, i * 11, none⟩), .agg #[.int .i64 ri.size.lo, .int .i64 ri.size.hi, .int .i64 ri.dens.lo, .int .i64 ri.dens.hi, .int .i64 ri.strong.lo, .int .i64 ri.strong.hi, .int .i64 ri.spin.lo, .int .i64 ri.spin.hi, .int .i64 ri.shape.lo, .int .i64 ri.shape.hi, .bool ri.pile], .slice (some ⟨b5, 0, none⟩) 2 2, .int .i64 i, .pointer (some ⟨b5, i * 4, none⟩), .agg #[.int .i64 gi.speed.lo, .int .i64 gi.speed.hi, .int .i64 gi.slope.lo, .int .i64 gi.slope.hi], .slice (some ⟨b6, 0, none⟩) 2 2, .int .i64 i, .pointer (some ⟨b6, i, none⟩), .int .i64 y9, .slice (some ⟨b7, 0, none⟩) 2 2, .int .i64 i, .pointer (some ⟨b7, i, none⟩), .int .i64 a9, .tuple #[.agg #[.int .i64 γ.lo, .int .i64 γ.hi], .int .i64 γ.n], .tuple #[.agg #[.int .i64 γ.lo, .int .i64 γ.hi], .int .i64 γ.n], .agg #[.int .i64 γ.lo, .int .i64 γ.hi], .int .i64 γ.n, .pointer (some ⟨γ.bx, 0, none⟩), undef, .int .i64 γ.n]) (fun γ => [none, none, none, none, none, none, none, none, none, none, none, none, none, none, none, none, none, none, none, none, none, none, none, none, none, none, none, none, none, none, none, none, some (.pointer (some ⟨γ.bx, 0, none⟩)), some (.int .i64 γ.n), none, none, none, none, none, none, none, none, none, none, none, none, none, none, none, none, none, none, none, none, none, none, none, none, none, none, none, none, none, none, none, none, none, none, none, none, none, none, none, none, none, none, none, none, none, none, none, none, none, none, none, none, none, none, none, none, none, none, none, none, none, none, none, none, none, none, none, none, none, none, none, none, none, none, none, none, none, none, none, none, none, none, none, none, none, none, none, none, none, none, none, none, none, none, some (.tuple #[.agg #[.int .i64 γ.lo, .int .i64 γ.hi], .int .i64 γ.n]), some (.slice (some ⟨b1, 0, none⟩) 2 2), some (.int .i64 i), some (.pointer (some ⟨b1, i, none⟩)), some (.slice Aa la.length ca), some (.slice (some ⟨b2, 0, none⟩) 2 2), some (.int .i64 i), some (.pointer (some ⟨b2, i, none⟩)), some (.slice Af gg.length cf), some (.slice (some ⟨b3, 0, none⟩) 2 2), some (.int .i64 i), some (.pointer (some ⟨b3, i * 2, none⟩)), some (.agg #[.slice Al pp.length cl, .slice Aw bb.length cw]), some (.slice (some ⟨b4, 0, none⟩) 2 2), some (.int .i64 i), some (.pointer (some ⟨b4, i * 11, none⟩)), some (.agg #[.int .i64 ri.size.lo, .int .i64 ri.size.hi, .int .i64 ri.dens.lo, .int .i64 ri.dens.hi, .int .i64 ri.strong.lo, .int .i64 ri.strong.hi, .int .i64 ri.spin.lo, .int .i64 ri.spin.hi, .int .i64 ri.shape.lo, .int .i64 ri.shape.hi, .bool ri.pile]), some (.slice (some ⟨b5, 0, none⟩) 2 2), some (.int .i64 i), some (.pointer (some ⟨b5, i * 4, none⟩)), some (.agg #[.int .i64 gi.speed.lo, .int .i64 gi.speed.hi, .int .i64 gi.slope.lo, .int .i64 gi.slope.hi]), some (.slice (some ⟨b6, 0, none⟩) 2 2), some (.int .i64 i), some (.pointer (some ⟨b6, i, none⟩)), some (.int .i64 y9), some (.slice (some ⟨b7, 0, none⟩) 2 2), some (.int .i64 i), some (.pointer (some ⟨b7, i, none⟩)), some (.int .i64 a9), some (.tuple #[.agg #[.int .i64 γ.lo, .int .i64 γ.hi], .int .i64 γ.n]), some (.agg #[.int .i64 γ.lo, .int .i64 γ.hi]), some (.int .i64 γ.n)]) ?A12_4 (fun n D γ w => Kp w1'.heap.size none w1' w) (fun k γ w => match k with | 28 => TollIs la gg pp bb ri gi y9 a9 γ.lo γ.hi γ.wo γ.n | 32 => w1'.heap.size ≤ γ.bx ∧ ∃ v v', Blk w γ.bx 26 #[v, v'] | 33 => w1'.heap.size ≤ γ.bx ∧ Blk w γ.bx 26 #[.int .i64 γ.lo, .int .i64 γ.hi] | _ => True) ⟨0, 0, 0, 0, 0⟩ (by kernel_rfl) (fun _ => rfl) ?hA12_4 (by kernel_rfl) ?hB012_4 ?hop12_4 ?hend12_4
              case hA12_4 => intro γ; dsimp only [fullV]; rfl
              case hB012_4 =>
                exact (Kp.refl _ _ _).drew
              case hop12_4 =>
                intro hA
                refine ⟨?_, ?_, ?_, ?_, ?_, ?_, ?_, ?_, ?_, ?_, ?_, ?_, ?_, ?_, ?_, ?_, ?_, ?_, ?_, ?_, ?_, ?_, ?_, ?_, ?_, ?_, ?_, ?_, ?_, ?_, ?_, ?_, ?_, ?_, ?_, trivial⟩
                · refine opOk_v hA (fun _ => rfl) (fun _ _ => trivial) ?_ ?_
                  · intro n D γ w hn h
                    replace hn : n < 35 := hn
                    try dsimp only at h
                    exact h
                  intro n D γ w hB hU K hK
                  try dsimp only at hB
                  try dsimp only
                  clear hB hU
                  go_step
                  exact hK _ rfl
                · refine opOk_v hA (fun _ => rfl) (fun _ _ => trivial) ?_ ?_
                  · intro n D γ w hn h
                    replace hn : n < 35 := hn
                    try dsimp only at h
                    exact h
                  intro n D γ w hB hU K hK
                  try dsimp only at hB
                  try dsimp only
                  clear hB hU
                  go_step
                  exact hK _ rfl
                · refine opOk_v hA (fun _ => rfl) (fun _ _ => trivial) ?_ ?_
                  · intro n D γ w hn h
                    replace hn : n < 35 := hn
                    try dsimp only at h
                    exact h
                  intro n D γ w hB hU K hK
                  try dsimp only at hB
                  try dsimp only
                  clear hB hU
                  go_step
                  exact hK _ rfl
                · refine opOk_v hA (fun _ => rfl) (fun _ _ => trivial) ?_ ?_
                  · intro n D γ w hn h
                    replace hn : n < 35 := hn
                    try dsimp only at h
                    exact h
                  intro n D γ w hB hU K hK
                  try dsimp only at hB
                  try dsimp only
                  have hq := hL.kpN hB
                  have t0 : w.cell? ⟨b4, i * 11, none⟩ = some (.int .i64 ri.size.lo) := by simpa using (hq).q4.cellT i h7 0 (.int .i64 ri.size.lo) (by rw [← hri.out]; rfl)
                  have t1 : w.cell? ⟨b4, i * 11 + 1, none⟩ = some (.int .i64 ri.size.hi) := by simpa using (hq).q4.cellT i h7 1 (.int .i64 ri.size.hi) (by rw [← hri.out]; rfl)
                  have t2 : w.cell? ⟨b4, i * 11 + 2, none⟩ = some (.int .i64 ri.dens.lo) := by simpa using (hq).q4.cellT i h7 2 (.int .i64 ri.dens.lo) (by rw [← hri.out]; rfl)
                  have t3 : w.cell? ⟨b4, i * 11 + 3, none⟩ = some (.int .i64 ri.dens.hi) := by simpa using (hq).q4.cellT i h7 3 (.int .i64 ri.dens.hi) (by rw [← hri.out]; rfl)
                  have t4 : w.cell? ⟨b4, i * 11 + 4, none⟩ = some (.int .i64 ri.strong.lo) := by simpa using (hq).q4.cellT i h7 4 (.int .i64 ri.strong.lo) (by rw [← hri.out]; rfl)
                  have t5 : w.cell? ⟨b4, i * 11 + 5, none⟩ = some (.int .i64 ri.strong.hi) := by simpa using (hq).q4.cellT i h7 5 (.int .i64 ri.strong.hi) (by rw [← hri.out]; rfl)
                  have t6 : w.cell? ⟨b4, i * 11 + 6, none⟩ = some (.int .i64 ri.spin.lo) := by simpa using (hq).q4.cellT i h7 6 (.int .i64 ri.spin.lo) (by rw [← hri.out]; rfl)
                  have t7 : w.cell? ⟨b4, i * 11 + 7, none⟩ = some (.int .i64 ri.spin.hi) := by simpa using (hq).q4.cellT i h7 7 (.int .i64 ri.spin.hi) (by rw [← hri.out]; rfl)
                  have t8 : w.cell? ⟨b4, i * 11 + 8, none⟩ = some (.int .i64 ri.shape.lo) := by simpa using (hq).q4.cellT i h7 8 (.int .i64 ri.shape.lo) (by rw [← hri.out]; rfl)
                  have t9 : w.cell? ⟨b4, i * 11 + 9, none⟩ = some (.int .i64 ri.shape.hi) := by simpa using (hq).q4.cellT i h7 9 (.int .i64 ri.shape.hi) (by rw [← hri.out]; rfl)
                  have t10 : w.cell? ⟨b4, i * 11 + 10, none⟩ = some (.bool ri.pile) := by simpa using (hq).q4.cellT i h7 10 (.bool ri.pile) (by rw [← hri.out]; rfl)
                  have u0 : w.cell? ⟨b5, i * 4, none⟩ = some (.int .i64 gi.speed.lo) := by simpa using (hq).q5.cellT i h7 0 (.int .i64 gi.speed.lo) (by rw [← hgi.out]; rfl)
                  have u1 : w.cell? ⟨b5, i * 4 + 1, none⟩ = some (.int .i64 gi.speed.hi) := by simpa using (hq).q5.cellT i h7 1 (.int .i64 gi.speed.hi) (by rw [← hgi.out]; rfl)
                  have u2 : w.cell? ⟨b5, i * 4 + 2, none⟩ = some (.int .i64 gi.slope.lo) := by simpa using (hq).q5.cellT i h7 2 (.int .i64 gi.slope.lo) (by rw [← hgi.out]; rfl)
                  have u3 : w.cell? ⟨b5, i * 4 + 3, none⟩ = some (.int .i64 gi.slope.hi) := by simpa using (hq).q5.cellT i h7 3 (.int .i64 gi.slope.hi) (by rw [← hgi.out]; rfl)
                  have e1 := hq.c1
                  have e2 := hq.c2
                  have e3 := hq.c3
                  have e4 := hq.c4
                  have e6 := hq.c6
                  have e7 := hq.c7
                  clear hq
                  clear hB hU
                  go_step
                  exact hK _ rfl
                · refine opOk_v hA (fun _ => rfl) (fun _ _ => trivial) ?_ ?_
                  · intro n D γ w hn h
                    replace hn : n < 35 := hn
                    try dsimp only at h
                    exact h
                  intro n D γ w hB hU K hK
                  try dsimp only at hB
                  try dsimp only
                  clear hB hU
                  go_step
                  exact hK _ rfl
                · refine opOk_v hA (fun _ => rfl) (fun _ _ => trivial) ?_ ?_
                  · intro n D γ w hn h
                    replace hn : n < 35 := hn
                    try dsimp only at h
                    exact h
                  intro n D γ w hB hU K hK
                  try dsimp only at hB
                  try dsimp only
                  clear hB hU
                  go_step
                  exact hK _ rfl
                · refine opOk_v hA (fun _ => rfl) (fun _ _ => trivial) ?_ ?_
                  · intro n D γ w hn h
                    replace hn : n < 35 := hn
                    try dsimp only at h
                    exact h
                  intro n D γ w hB hU K hK
                  try dsimp only at hB
                  try dsimp only
                  clear hB hU
                  go_step
                  exact hK _ rfl
                · refine opOk_v hA (fun _ => rfl) (fun _ _ => trivial) ?_ ?_
                  · intro n D γ w hn h
                    replace hn : n < 35 := hn
                    try dsimp only at h
                    exact h
                  intro n D γ w hB hU K hK
                  try dsimp only at hB
                  try dsimp only
                  have hq := hL.kpN hB
                  have t0 : w.cell? ⟨b4, i * 11, none⟩ = some (.int .i64 ri.size.lo) := by simpa using (hq).q4.cellT i h7 0 (.int .i64 ri.size.lo) (by rw [← hri.out]; rfl)
                  have t1 : w.cell? ⟨b4, i * 11 + 1, none⟩ = some (.int .i64 ri.size.hi) := by simpa using (hq).q4.cellT i h7 1 (.int .i64 ri.size.hi) (by rw [← hri.out]; rfl)
                  have t2 : w.cell? ⟨b4, i * 11 + 2, none⟩ = some (.int .i64 ri.dens.lo) := by simpa using (hq).q4.cellT i h7 2 (.int .i64 ri.dens.lo) (by rw [← hri.out]; rfl)
                  have t3 : w.cell? ⟨b4, i * 11 + 3, none⟩ = some (.int .i64 ri.dens.hi) := by simpa using (hq).q4.cellT i h7 3 (.int .i64 ri.dens.hi) (by rw [← hri.out]; rfl)
                  have t4 : w.cell? ⟨b4, i * 11 + 4, none⟩ = some (.int .i64 ri.strong.lo) := by simpa using (hq).q4.cellT i h7 4 (.int .i64 ri.strong.lo) (by rw [← hri.out]; rfl)
                  have t5 : w.cell? ⟨b4, i * 11 + 5, none⟩ = some (.int .i64 ri.strong.hi) := by simpa using (hq).q4.cellT i h7 5 (.int .i64 ri.strong.hi) (by rw [← hri.out]; rfl)
                  have t6 : w.cell? ⟨b4, i * 11 + 6, none⟩ = some (.int .i64 ri.spin.lo) := by simpa using (hq).q4.cellT i h7 6 (.int .i64 ri.spin.lo) (by rw [← hri.out]; rfl)
                  have t7 : w.cell? ⟨b4, i * 11 + 7, none⟩ = some (.int .i64 ri.spin.hi) := by simpa using (hq).q4.cellT i h7 7 (.int .i64 ri.spin.hi) (by rw [← hri.out]; rfl)
                  have t8 : w.cell? ⟨b4, i * 11 + 8, none⟩ = some (.int .i64 ri.shape.lo) := by simpa using (hq).q4.cellT i h7 8 (.int .i64 ri.shape.lo) (by rw [← hri.out]; rfl)
                  have t9 : w.cell? ⟨b4, i * 11 + 9, none⟩ = some (.int .i64 ri.shape.hi) := by simpa using (hq).q4.cellT i h7 9 (.int .i64 ri.shape.hi) (by rw [← hri.out]; rfl)
                  have t10 : w.cell? ⟨b4, i * 11 + 10, none⟩ = some (.bool ri.pile) := by simpa using (hq).q4.cellT i h7 10 (.bool ri.pile) (by rw [← hri.out]; rfl)
                  have u0 : w.cell? ⟨b5, i * 4, none⟩ = some (.int .i64 gi.speed.lo) := by simpa using (hq).q5.cellT i h7 0 (.int .i64 gi.speed.lo) (by rw [← hgi.out]; rfl)
                  have u1 : w.cell? ⟨b5, i * 4 + 1, none⟩ = some (.int .i64 gi.speed.hi) := by simpa using (hq).q5.cellT i h7 1 (.int .i64 gi.speed.hi) (by rw [← hgi.out]; rfl)
                  have u2 : w.cell? ⟨b5, i * 4 + 2, none⟩ = some (.int .i64 gi.slope.lo) := by simpa using (hq).q5.cellT i h7 2 (.int .i64 gi.slope.lo) (by rw [← hgi.out]; rfl)
                  have u3 : w.cell? ⟨b5, i * 4 + 3, none⟩ = some (.int .i64 gi.slope.hi) := by simpa using (hq).q5.cellT i h7 3 (.int .i64 gi.slope.hi) (by rw [← hgi.out]; rfl)
                  have e1 := hq.c1
                  have e2 := hq.c2
                  have e3 := hq.c3
                  have e4 := hq.c4
                  have e6 := hq.c6
                  have e7 := hq.c7
                  clear hq
                  clear hB hU
                  go_step
                  exact hK _ rfl
                · refine opOk_v hA (fun _ => rfl) (fun _ _ => trivial) ?_ ?_
                  · intro n D γ w hn h
                    replace hn : n < 35 := hn
                    try dsimp only at h
                    exact h
                  intro n D γ w hB hU K hK
                  try dsimp only at hB
                  try dsimp only
                  clear hB hU
                  go_step
                  exact hK _ rfl
                · refine opOk_v hA (fun _ => rfl) (fun _ _ => trivial) ?_ ?_
                  · intro n D γ w hn h
                    replace hn : n < 35 := hn
                    try dsimp only at h
                    exact h
                  intro n D γ w hB hU K hK
                  try dsimp only at hB
                  try dsimp only
                  clear hB hU
                  go_step
                  exact hK _ rfl
                · refine opOk_v hA (fun _ => rfl) (fun _ _ => trivial) ?_ ?_
                  · intro n D γ w hn h
                    replace hn : n < 35 := hn
                    try dsimp only at h
                    exact h
                  intro n D γ w hB hU K hK
                  try dsimp only at hB
                  try dsimp only
                  clear hB hU
                  go_step
                  exact hK _ rfl
                · refine opOk_v hA (fun _ => rfl) (fun _ _ => trivial) ?_ ?_
                  · intro n D γ w hn h
                    replace hn : n < 35 := hn
                    try dsimp only at h
                    exact h
                  intro n D γ w hB hU K hK
                  try dsimp only at hB
                  try dsimp only
                  have hq := hL.kpN hB
                  have t0 : w.cell? ⟨b4, i * 11, none⟩ = some (.int .i64 ri.size.lo) := by simpa using (hq).q4.cellT i h7 0 (.int .i64 ri.size.lo) (by rw [← hri.out]; rfl)
                  have t1 : w.cell? ⟨b4, i * 11 + 1, none⟩ = some (.int .i64 ri.size.hi) := by simpa using (hq).q4.cellT i h7 1 (.int .i64 ri.size.hi) (by rw [← hri.out]; rfl)
                  have t2 : w.cell? ⟨b4, i * 11 + 2, none⟩ = some (.int .i64 ri.dens.lo) := by simpa using (hq).q4.cellT i h7 2 (.int .i64 ri.dens.lo) (by rw [← hri.out]; rfl)
                  have t3 : w.cell? ⟨b4, i * 11 + 3, none⟩ = some (.int .i64 ri.dens.hi) := by simpa using (hq).q4.cellT i h7 3 (.int .i64 ri.dens.hi) (by rw [← hri.out]; rfl)
                  have t4 : w.cell? ⟨b4, i * 11 + 4, none⟩ = some (.int .i64 ri.strong.lo) := by simpa using (hq).q4.cellT i h7 4 (.int .i64 ri.strong.lo) (by rw [← hri.out]; rfl)
                  have t5 : w.cell? ⟨b4, i * 11 + 5, none⟩ = some (.int .i64 ri.strong.hi) := by simpa using (hq).q4.cellT i h7 5 (.int .i64 ri.strong.hi) (by rw [← hri.out]; rfl)
                  have t6 : w.cell? ⟨b4, i * 11 + 6, none⟩ = some (.int .i64 ri.spin.lo) := by simpa using (hq).q4.cellT i h7 6 (.int .i64 ri.spin.lo) (by rw [← hri.out]; rfl)
                  have t7 : w.cell? ⟨b4, i * 11 + 7, none⟩ = some (.int .i64 ri.spin.hi) := by simpa using (hq).q4.cellT i h7 7 (.int .i64 ri.spin.hi) (by rw [← hri.out]; rfl)
                  have t8 : w.cell? ⟨b4, i * 11 + 8, none⟩ = some (.int .i64 ri.shape.lo) := by simpa using (hq).q4.cellT i h7 8 (.int .i64 ri.shape.lo) (by rw [← hri.out]; rfl)
                  have t9 : w.cell? ⟨b4, i * 11 + 9, none⟩ = some (.int .i64 ri.shape.hi) := by simpa using (hq).q4.cellT i h7 9 (.int .i64 ri.shape.hi) (by rw [← hri.out]; rfl)
                  have t10 : w.cell? ⟨b4, i * 11 + 10, none⟩ = some (.bool ri.pile) := by simpa using (hq).q4.cellT i h7 10 (.bool ri.pile) (by rw [← hri.out]; rfl)
                  have u0 : w.cell? ⟨b5, i * 4, none⟩ = some (.int .i64 gi.speed.lo) := by simpa using (hq).q5.cellT i h7 0 (.int .i64 gi.speed.lo) (by rw [← hgi.out]; rfl)
                  have u1 : w.cell? ⟨b5, i * 4 + 1, none⟩ = some (.int .i64 gi.speed.hi) := by simpa using (hq).q5.cellT i h7 1 (.int .i64 gi.speed.hi) (by rw [← hgi.out]; rfl)
                  have u2 : w.cell? ⟨b5, i * 4 + 2, none⟩ = some (.int .i64 gi.slope.lo) := by simpa using (hq).q5.cellT i h7 2 (.int .i64 gi.slope.lo) (by rw [← hgi.out]; rfl)
                  have u3 : w.cell? ⟨b5, i * 4 + 3, none⟩ = some (.int .i64 gi.slope.hi) := by simpa using (hq).q5.cellT i h7 3 (.int .i64 gi.slope.hi) (by rw [← hgi.out]; rfl)
                  have e1 := hq.c1
                  have e2 := hq.c2
                  have e3 := hq.c3
                  have e4 := hq.c4
                  have e6 := hq.c6
                  have e7 := hq.c7
                  clear hq
                  clear hB hU
                  go_step
                  exact hK _ rfl
                · refine opOk_v hA (fun _ => rfl) (fun _ _ => trivial) ?_ ?_
                  · intro n D γ w hn h
                    replace hn : n < 35 := hn
                    try dsimp only at h
                    exact h
                  intro n D γ w hB hU K hK
                  try dsimp only at hB
                  try dsimp only
                  clear hB hU
                  go_step
                  exact hK _ rfl
                · refine opOk_v hA (fun _ => rfl) (fun _ _ => trivial) ?_ ?_
                  · intro n D γ w hn h
                    replace hn : n < 35 := hn
                    try dsimp only at h
                    exact h
                  intro n D γ w hB hU K hK
                  try dsimp only at hB
                  try dsimp only
                  clear hB hU
                  go_step
                  exact hK _ rfl
                · refine opOk_v hA (fun _ => rfl) (fun _ _ => trivial) ?_ ?_
                  · intro n D γ w hn h
                    replace hn : n < 35 := hn
                    try dsimp only at h
                    exact h
                  intro n D γ w hB hU K hK
                  try dsimp only at hB
                  try dsimp only
                  clear hB hU
                  go_step
                  exact hK _ rfl
                · refine opOk_v hA (fun _ => rfl) (fun _ _ => trivial) ?_ ?_
                  · intro n D γ w hn h
                    replace hn : n < 35 := hn
                    try dsimp only at h
                    exact h
                  intro n D γ w hB hU K hK
                  try dsimp only at hB
                  try dsimp only
                  have hq := hL.kpN hB
                  have t0 : w.cell? ⟨b4, i * 11, none⟩ = some (.int .i64 ri.size.lo) := by simpa using (hq).q4.cellT i h7 0 (.int .i64 ri.size.lo) (by rw [← hri.out]; rfl)
                  have t1 : w.cell? ⟨b4, i * 11 + 1, none⟩ = some (.int .i64 ri.size.hi) := by simpa using (hq).q4.cellT i h7 1 (.int .i64 ri.size.hi) (by rw [← hri.out]; rfl)
                  have t2 : w.cell? ⟨b4, i * 11 + 2, none⟩ = some (.int .i64 ri.dens.lo) := by simpa using (hq).q4.cellT i h7 2 (.int .i64 ri.dens.lo) (by rw [← hri.out]; rfl)
                  have t3 : w.cell? ⟨b4, i * 11 + 3, none⟩ = some (.int .i64 ri.dens.hi) := by simpa using (hq).q4.cellT i h7 3 (.int .i64 ri.dens.hi) (by rw [← hri.out]; rfl)
                  have t4 : w.cell? ⟨b4, i * 11 + 4, none⟩ = some (.int .i64 ri.strong.lo) := by simpa using (hq).q4.cellT i h7 4 (.int .i64 ri.strong.lo) (by rw [← hri.out]; rfl)
                  have t5 : w.cell? ⟨b4, i * 11 + 5, none⟩ = some (.int .i64 ri.strong.hi) := by simpa using (hq).q4.cellT i h7 5 (.int .i64 ri.strong.hi) (by rw [← hri.out]; rfl)
                  have t6 : w.cell? ⟨b4, i * 11 + 6, none⟩ = some (.int .i64 ri.spin.lo) := by simpa using (hq).q4.cellT i h7 6 (.int .i64 ri.spin.lo) (by rw [← hri.out]; rfl)
                  have t7 : w.cell? ⟨b4, i * 11 + 7, none⟩ = some (.int .i64 ri.spin.hi) := by simpa using (hq).q4.cellT i h7 7 (.int .i64 ri.spin.hi) (by rw [← hri.out]; rfl)
                  have t8 : w.cell? ⟨b4, i * 11 + 8, none⟩ = some (.int .i64 ri.shape.lo) := by simpa using (hq).q4.cellT i h7 8 (.int .i64 ri.shape.lo) (by rw [← hri.out]; rfl)
                  have t9 : w.cell? ⟨b4, i * 11 + 9, none⟩ = some (.int .i64 ri.shape.hi) := by simpa using (hq).q4.cellT i h7 9 (.int .i64 ri.shape.hi) (by rw [← hri.out]; rfl)
                  have t10 : w.cell? ⟨b4, i * 11 + 10, none⟩ = some (.bool ri.pile) := by simpa using (hq).q4.cellT i h7 10 (.bool ri.pile) (by rw [← hri.out]; rfl)
                  have u0 : w.cell? ⟨b5, i * 4, none⟩ = some (.int .i64 gi.speed.lo) := by simpa using (hq).q5.cellT i h7 0 (.int .i64 gi.speed.lo) (by rw [← hgi.out]; rfl)
                  have u1 : w.cell? ⟨b5, i * 4 + 1, none⟩ = some (.int .i64 gi.speed.hi) := by simpa using (hq).q5.cellT i h7 1 (.int .i64 gi.speed.hi) (by rw [← hgi.out]; rfl)
                  have u2 : w.cell? ⟨b5, i * 4 + 2, none⟩ = some (.int .i64 gi.slope.lo) := by simpa using (hq).q5.cellT i h7 2 (.int .i64 gi.slope.lo) (by rw [← hgi.out]; rfl)
                  have u3 : w.cell? ⟨b5, i * 4 + 3, none⟩ = some (.int .i64 gi.slope.hi) := by simpa using (hq).q5.cellT i h7 3 (.int .i64 gi.slope.hi) (by rw [← hgi.out]; rfl)
                  have e1 := hq.c1
                  have e2 := hq.c2
                  have e3 := hq.c3
                  have e4 := hq.c4
                  have e6 := hq.c6
                  have e7 := hq.c7
                  clear hq
                  clear hB hU
                  go_step
                  exact hK _ rfl
                · refine opOk_v hA (fun _ => rfl) (fun _ _ => trivial) ?_ ?_
                  · intro n D γ w hn h
                    replace hn : n < 35 := hn
                    try dsimp only at h
                    exact h
                  intro n D γ w hB hU K hK
                  try dsimp only at hB
                  try dsimp only
                  clear hB hU
                  go_step
                  exact hK _ rfl
                · refine opOk_v hA (fun _ => rfl) (fun _ _ => trivial) ?_ ?_
                  · intro n D γ w hn h
                    replace hn : n < 35 := hn
                    try dsimp only at h
                    exact h
                  intro n D γ w hB hU K hK
                  try dsimp only at hB
                  try dsimp only
                  clear hB hU
                  go_step
                  exact hK _ rfl
                · refine opOk_v hA (fun _ => rfl) (fun _ _ => trivial) ?_ ?_
                  · intro n D γ w hn h
                    replace hn : n < 35 := hn
                    try dsimp only at h
                    exact h
                  intro n D γ w hB hU K hK
                  try dsimp only at hB
                  try dsimp only
                  clear hB hU
                  go_step
                  exact hK _ rfl
                · refine opOk_v hA (fun _ => rfl) (fun _ _ => trivial) ?_ ?_
                  · intro n D γ w hn h
                    replace hn : n < 35 := hn
                    try dsimp only at h
                    exact h
                  intro n D γ w hB hU K hK
                  try dsimp only at hB
                  try dsimp only
                  have hq := hL.kpN hB
                  have t0 : w.cell? ⟨b4, i * 11, none⟩ = some (.int .i64 ri.size.lo) := by simpa using (hq).q4.cellT i h7 0 (.int .i64 ri.size.lo) (by rw [← hri.out]; rfl)
                  have t1 : w.cell? ⟨b4, i * 11 + 1, none⟩ = some (.int .i64 ri.size.hi) := by simpa using (hq).q4.cellT i h7 1 (.int .i64 ri.size.hi) (by rw [← hri.out]; rfl)
                  have t2 : w.cell? ⟨b4, i * 11 + 2, none⟩ = some (.int .i64 ri.dens.lo) := by simpa using (hq).q4.cellT i h7 2 (.int .i64 ri.dens.lo) (by rw [← hri.out]; rfl)
                  have t3 : w.cell? ⟨b4, i * 11 + 3, none⟩ = some (.int .i64 ri.dens.hi) := by simpa using (hq).q4.cellT i h7 3 (.int .i64 ri.dens.hi) (by rw [← hri.out]; rfl)
                  have t4 : w.cell? ⟨b4, i * 11 + 4, none⟩ = some (.int .i64 ri.strong.lo) := by simpa using (hq).q4.cellT i h7 4 (.int .i64 ri.strong.lo) (by rw [← hri.out]; rfl)
                  have t5 : w.cell? ⟨b4, i * 11 + 5, none⟩ = some (.int .i64 ri.strong.hi) := by simpa using (hq).q4.cellT i h7 5 (.int .i64 ri.strong.hi) (by rw [← hri.out]; rfl)
                  have t6 : w.cell? ⟨b4, i * 11 + 6, none⟩ = some (.int .i64 ri.spin.lo) := by simpa using (hq).q4.cellT i h7 6 (.int .i64 ri.spin.lo) (by rw [← hri.out]; rfl)
                  have t7 : w.cell? ⟨b4, i * 11 + 7, none⟩ = some (.int .i64 ri.spin.hi) := by simpa using (hq).q4.cellT i h7 7 (.int .i64 ri.spin.hi) (by rw [← hri.out]; rfl)
                  have t8 : w.cell? ⟨b4, i * 11 + 8, none⟩ = some (.int .i64 ri.shape.lo) := by simpa using (hq).q4.cellT i h7 8 (.int .i64 ri.shape.lo) (by rw [← hri.out]; rfl)
                  have t9 : w.cell? ⟨b4, i * 11 + 9, none⟩ = some (.int .i64 ri.shape.hi) := by simpa using (hq).q4.cellT i h7 9 (.int .i64 ri.shape.hi) (by rw [← hri.out]; rfl)
                  have t10 : w.cell? ⟨b4, i * 11 + 10, none⟩ = some (.bool ri.pile) := by simpa using (hq).q4.cellT i h7 10 (.bool ri.pile) (by rw [← hri.out]; rfl)
                  have u0 : w.cell? ⟨b5, i * 4, none⟩ = some (.int .i64 gi.speed.lo) := by simpa using (hq).q5.cellT i h7 0 (.int .i64 gi.speed.lo) (by rw [← hgi.out]; rfl)
                  have u1 : w.cell? ⟨b5, i * 4 + 1, none⟩ = some (.int .i64 gi.speed.hi) := by simpa using (hq).q5.cellT i h7 1 (.int .i64 gi.speed.hi) (by rw [← hgi.out]; rfl)
                  have u2 : w.cell? ⟨b5, i * 4 + 2, none⟩ = some (.int .i64 gi.slope.lo) := by simpa using (hq).q5.cellT i h7 2 (.int .i64 gi.slope.lo) (by rw [← hgi.out]; rfl)
                  have u3 : w.cell? ⟨b5, i * 4 + 3, none⟩ = some (.int .i64 gi.slope.hi) := by simpa using (hq).q5.cellT i h7 3 (.int .i64 gi.slope.hi) (by rw [← hgi.out]; rfl)
                  have e1 := hq.c1
                  have e2 := hq.c2
                  have e3 := hq.c3
                  have e4 := hq.c4
                  have e6 := hq.c6
                  have e7 := hq.c7
                  clear hq
                  clear hB hU
                  go_step
                  exact hK _ rfl
                · refine opOk_v hA (fun _ => rfl) (fun _ _ => trivial) ?_ ?_
                  · intro n D γ w hn h
                    replace hn : n < 35 := hn
                    try dsimp only at h
                    exact h
                  intro n D γ w hB hU K hK
                  try dsimp only at hB
                  try dsimp only
                  clear hB hU
                  go_step
                  exact hK _ rfl
                · refine opOk_v hA (fun _ => rfl) (fun _ _ => trivial) ?_ ?_
                  · intro n D γ w hn h
                    replace hn : n < 35 := hn
                    try dsimp only at h
                    exact h
                  intro n D γ w hB hU K hK
                  try dsimp only at hB
                  try dsimp only
                  clear hB hU
                  go_step
                  exact hK _ rfl
                · refine opOk_v hA (fun _ => rfl) (fun _ _ => trivial) ?_ ?_
                  · intro n D γ w hn h
                    replace hn : n < 35 := hn
                    try dsimp only at h
                    exact h
                  intro n D γ w hB hU K hK
                  try dsimp only at hB
                  try dsimp only
                  clear hB hU
                  go_step
                  exact hK _ rfl
                · refine opOk_v hA (fun _ => rfl) (fun _ _ => trivial) ?_ ?_
                  · intro n D γ w hn h
                    replace hn : n < 35 := hn
                    try dsimp only at h
                    exact h
                  intro n D γ w hB hU K hK
                  try dsimp only at hB
                  try dsimp only
                  have hq := hL.kpN hB
                  have t0 : w.cell? ⟨b4, i * 11, none⟩ = some (.int .i64 ri.size.lo) := by simpa using (hq).q4.cellT i h7 0 (.int .i64 ri.size.lo) (by rw [← hri.out]; rfl)
                  have t1 : w.cell? ⟨b4, i * 11 + 1, none⟩ = some (.int .i64 ri.size.hi) := by simpa using (hq).q4.cellT i h7 1 (.int .i64 ri.size.hi) (by rw [← hri.out]; rfl)
                  have t2 : w.cell? ⟨b4, i * 11 + 2, none⟩ = some (.int .i64 ri.dens.lo) := by simpa using (hq).q4.cellT i h7 2 (.int .i64 ri.dens.lo) (by rw [← hri.out]; rfl)
                  have t3 : w.cell? ⟨b4, i * 11 + 3, none⟩ = some (.int .i64 ri.dens.hi) := by simpa using (hq).q4.cellT i h7 3 (.int .i64 ri.dens.hi) (by rw [← hri.out]; rfl)
                  have t4 : w.cell? ⟨b4, i * 11 + 4, none⟩ = some (.int .i64 ri.strong.lo) := by simpa using (hq).q4.cellT i h7 4 (.int .i64 ri.strong.lo) (by rw [← hri.out]; rfl)
                  have t5 : w.cell? ⟨b4, i * 11 + 5, none⟩ = some (.int .i64 ri.strong.hi) := by simpa using (hq).q4.cellT i h7 5 (.int .i64 ri.strong.hi) (by rw [← hri.out]; rfl)
                  have t6 : w.cell? ⟨b4, i * 11 + 6, none⟩ = some (.int .i64 ri.spin.lo) := by simpa using (hq).q4.cellT i h7 6 (.int .i64 ri.spin.lo) (by rw [← hri.out]; rfl)
                  have t7 : w.cell? ⟨b4, i * 11 + 7, none⟩ = some (.int .i64 ri.spin.hi) := by simpa using (hq).q4.cellT i h7 7 (.int .i64 ri.spin.hi) (by rw [← hri.out]; rfl)
                  have t8 : w.cell? ⟨b4, i * 11 + 8, none⟩ = some (.int .i64 ri.shape.lo) := by simpa using (hq).q4.cellT i h7 8 (.int .i64 ri.shape.lo) (by rw [← hri.out]; rfl)
                  have t9 : w.cell? ⟨b4, i * 11 + 9, none⟩ = some (.int .i64 ri.shape.hi) := by simpa using (hq).q4.cellT i h7 9 (.int .i64 ri.shape.hi) (by rw [← hri.out]; rfl)
                  have t10 : w.cell? ⟨b4, i * 11 + 10, none⟩ = some (.bool ri.pile) := by simpa using (hq).q4.cellT i h7 10 (.bool ri.pile) (by rw [← hri.out]; rfl)
                  have u0 : w.cell? ⟨b5, i * 4, none⟩ = some (.int .i64 gi.speed.lo) := by simpa using (hq).q5.cellT i h7 0 (.int .i64 gi.speed.lo) (by rw [← hgi.out]; rfl)
                  have u1 : w.cell? ⟨b5, i * 4 + 1, none⟩ = some (.int .i64 gi.speed.hi) := by simpa using (hq).q5.cellT i h7 1 (.int .i64 gi.speed.hi) (by rw [← hgi.out]; rfl)
                  have u2 : w.cell? ⟨b5, i * 4 + 2, none⟩ = some (.int .i64 gi.slope.lo) := by simpa using (hq).q5.cellT i h7 2 (.int .i64 gi.slope.lo) (by rw [← hgi.out]; rfl)
                  have u3 : w.cell? ⟨b5, i * 4 + 3, none⟩ = some (.int .i64 gi.slope.hi) := by simpa using (hq).q5.cellT i h7 3 (.int .i64 gi.slope.hi) (by rw [← hgi.out]; rfl)
                  have e1 := hq.c1
                  have e2 := hq.c2
                  have e3 := hq.c3
                  have e4 := hq.c4
                  have e6 := hq.c6
                  have e7 := hq.c7
                  clear hq
                  clear hB hU
                  go_step
                  exact hK _ rfl
                · refine opOk_v hA (fun _ => rfl) (fun _ _ => trivial) ?_ ?_
                  · intro n D γ w hn h
                    replace hn : n < 35 := hn
                    try dsimp only at h
                    exact h
                  intro n D γ w hB hU K hK
                  try dsimp only at hB
                  try dsimp only
                  clear hB hU
                  go_step
                  exact hK _ rfl
                · refine opOk_v hA (fun _ => rfl) (fun _ _ => trivial) ?_ ?_
                  · intro n D γ w hn h
                    replace hn : n < 35 := hn
                    try dsimp only at h
                    exact h
                  intro n D γ w hB hU K hK
                  try dsimp only at hB
                  try dsimp only
                  clear hB hU
                  go_step
                  exact hK _ rfl
                · refine opOk_v hA (fun _ => rfl) (fun _ _ => trivial) ?_ ?_
                  · intro n D γ w hn h
                    replace hn : n < 35 := hn
                    try dsimp only at h
                    exact h
                  intro n D γ w hB hU K hK
                  try dsimp only at hB
                  try dsimp only
                  clear hB hU
                  go_step
                  exact hK _ rfl
                · refine opOk_v hA (fun _ => rfl) (fun _ _ => trivial) ?_ ?_
                  · intro n D γ w hn h
                    replace hn : n < 35 := hn
                    try dsimp only at h
                    exact h
                  intro n D γ w hB hU K hK
                  try dsimp only at hB
                  try dsimp only
                  have hq := hL.kpN hB
                  have t0 : w.cell? ⟨b4, i * 11, none⟩ = some (.int .i64 ri.size.lo) := by simpa using (hq).q4.cellT i h7 0 (.int .i64 ri.size.lo) (by rw [← hri.out]; rfl)
                  have t1 : w.cell? ⟨b4, i * 11 + 1, none⟩ = some (.int .i64 ri.size.hi) := by simpa using (hq).q4.cellT i h7 1 (.int .i64 ri.size.hi) (by rw [← hri.out]; rfl)
                  have t2 : w.cell? ⟨b4, i * 11 + 2, none⟩ = some (.int .i64 ri.dens.lo) := by simpa using (hq).q4.cellT i h7 2 (.int .i64 ri.dens.lo) (by rw [← hri.out]; rfl)
                  have t3 : w.cell? ⟨b4, i * 11 + 3, none⟩ = some (.int .i64 ri.dens.hi) := by simpa using (hq).q4.cellT i h7 3 (.int .i64 ri.dens.hi) (by rw [← hri.out]; rfl)
                  have t4 : w.cell? ⟨b4, i * 11 + 4, none⟩ = some (.int .i64 ri.strong.lo) := by simpa using (hq).q4.cellT i h7 4 (.int .i64 ri.strong.lo) (by rw [← hri.out]; rfl)
                  have t5 : w.cell? ⟨b4, i * 11 + 5, none⟩ = some (.int .i64 ri.strong.hi) := by simpa using (hq).q4.cellT i h7 5 (.int .i64 ri.strong.hi) (by rw [← hri.out]; rfl)
                  have t6 : w.cell? ⟨b4, i * 11 + 6, none⟩ = some (.int .i64 ri.spin.lo) := by simpa using (hq).q4.cellT i h7 6 (.int .i64 ri.spin.lo) (by rw [← hri.out]; rfl)
                  have t7 : w.cell? ⟨b4, i * 11 + 7, none⟩ = some (.int .i64 ri.spin.hi) := by simpa using (hq).q4.cellT i h7 7 (.int .i64 ri.spin.hi) (by rw [← hri.out]; rfl)
                  have t8 : w.cell? ⟨b4, i * 11 + 8, none⟩ = some (.int .i64 ri.shape.lo) := by simpa using (hq).q4.cellT i h7 8 (.int .i64 ri.shape.lo) (by rw [← hri.out]; rfl)
                  have t9 : w.cell? ⟨b4, i * 11 + 9, none⟩ = some (.int .i64 ri.shape.hi) := by simpa using (hq).q4.cellT i h7 9 (.int .i64 ri.shape.hi) (by rw [← hri.out]; rfl)
                  have t10 : w.cell? ⟨b4, i * 11 + 10, none⟩ = some (.bool ri.pile) := by simpa using (hq).q4.cellT i h7 10 (.bool ri.pile) (by rw [← hri.out]; rfl)
                  have u0 : w.cell? ⟨b5, i * 4, none⟩ = some (.int .i64 gi.speed.lo) := by simpa using (hq).q5.cellT i h7 0 (.int .i64 gi.speed.lo) (by rw [← hgi.out]; rfl)
                  have u1 : w.cell? ⟨b5, i * 4 + 1, none⟩ = some (.int .i64 gi.speed.hi) := by simpa using (hq).q5.cellT i h7 1 (.int .i64 gi.speed.hi) (by rw [← hgi.out]; rfl)
                  have u2 : w.cell? ⟨b5, i * 4 + 2, none⟩ = some (.int .i64 gi.slope.lo) := by simpa using (hq).q5.cellT i h7 2 (.int .i64 gi.slope.lo) (by rw [← hgi.out]; rfl)
                  have u3 : w.cell? ⟨b5, i * 4 + 3, none⟩ = some (.int .i64 gi.slope.hi) := by simpa using (hq).q5.cellT i h7 3 (.int .i64 gi.slope.hi) (by rw [← hgi.out]; rfl)
                  have e1 := hq.c1
                  have e2 := hq.c2
                  have e3 := hq.c3
                  have e4 := hq.c4
                  have e6 := hq.c6
                  have e7 := hq.c7
                  clear hq
                  clear hB hU
                  go_step
                  exact hK _ rfl
                · refine opOk_l hA (fun _ => rfl) ?_
                  intro n D γ w hn hD hB hU K hK
                  try dsimp only at hB
                  clear hU
                  replace hn : n < 35 := hn
                  try dsimp only
                  have hq := hL.kpN hB
                  go_step
                  refine (ref_Toll_any Aa ca la Af cf gg Al Aw cl cw pp bb ri gi y9 a9 _ hq.ra hq.rg hq.rl hq.rw).mono ?_
                  rintro e w5 ⟨⟨lo, hi, wo, n, rfl, ht⟩, k5⟩
                  have s32 : (w1'.heap.size ≤ γ.bx ∧ ∃ v v', Blk w γ.bx 26 #[v, v']) → w1'.heap.size ≤ γ.bx ∧ ∃ v v', Blk w5 γ.bx 26 #[v, v'] := fun h => ⟨h.1, h.2.imp fun _ h => h.imp fun _ h => h.kpN k5⟩
                  refine hK _ _ { γ with lo := lo, hi := hi, wo := wo, n := n } rfl (hB.thenN k5 (Nat.le_refl _)) ht ?_
                  try dsimp only [allP, List.getD_cons_zero, List.getD_cons_succ]
                  (repeat' apply And.intro) <;> first | exact rfl | exact trivial | exact id | assumption
                · refine opOk_v hA (fun _ => rfl) (fun _ _ => trivial) ?_ ?_
                  · intro n D γ w hn h
                    replace hn : n < 35 := hn
                    try dsimp only at h
                    exact h
                  intro n D γ w hB hU K hK
                  try dsimp only at hB
                  try dsimp only
                  clear hB hU
                  go_step
                  exact hK _ rfl
                · refine opOk_v hA (fun _ => rfl) (fun _ _ => trivial) ?_ ?_
                  · intro n D γ w hn h
                    replace hn : n < 35 := hn
                    try dsimp only at h
                    exact h
                  intro n D γ w hB hU K hK
                  try dsimp only at hB
                  try dsimp only
                  clear hB hU
                  go_step
                  exact hK _ rfl
                · refine opOk_v hA (fun _ => rfl) (fun _ _ => trivial) ?_ ?_
                  · intro n D γ w hn h
                    replace hn : n < 35 := hn
                    try dsimp only at h
                    exact h
                  intro n D γ w hB hU K hK
                  try dsimp only at hB
                  try dsimp only
                  clear hB hU
                  go_step
                  exact hK _ rfl
                · refine opOk_l hA (fun _ => rfl) ?_
                  intro n D γ w hn hD hB hU K hK
                  try dsimp only at hB
                  clear hU
                  replace hn : n < 35 := hn
                  try dsimp only
                  go_step
                  refine hK _ _ { γ with bx := w.heap.size } rfl (hB.alloc hB.size _) ⟨hB.size, _, _, Blk.new _ _ _⟩ ?_
                  try dsimp only [allP, List.getD_cons_zero, List.getD_cons_succ]
                  (repeat' apply And.intro) <;> first | exact rfl | exact trivial | exact id | assumption
                · refine opOk_l hA (fun _ => rfl) ?_
                  intro n D γ w hn hD hB hU K hK
                  try dsimp only at hB
                  replace hU : (TollIs la gg pp bb ri gi y9 a9 γ.lo γ.hi γ.wo γ.n) ∧ (w1'.heap.size ≤ γ.bx ∧ ∃ v v', Blk w γ.bx 26 #[v, v']) := ⟨hU.2.2.2.2.2.2.2.2.2.2.2.2.2.2.2.2.2.2.2.2.2.2.2.2.2.2.2.2.1, hU.2.2.2.2.2.2.2.2.2.2.2.2.2.2.2.2.2.2.2.2.2.2.2.2.2.2.2.2.2.2.2.1⟩
                  replace hn : n < 35 := hn
                  try dsimp only
                  obtain ⟨-, hbx, v, v', hBx⟩ := hU
                  have cX := fun i => hBx.cell i
                  have fX := fun i => hBx.frozen i
                  go_step
                  have s32 : (w1'.heap.size ≤ γ.bx ∧ ∃ v v', Blk w γ.bx 26 #[v, v']) → w1'.heap.size ≤ γ.bx ∧ ∃ v v', Blk ((w.setCell ⟨γ.bx, 0, none⟩ (.int .i64 γ.lo)).setCell ⟨γ.bx, 1, none⟩ (.int .i64 γ.hi)) γ.bx 26 #[v, v'] := fun _ => ⟨hbx, _, _, (hBx.set_ 0 _).set_ 1 _⟩
                  refine hK _ _ γ rfl ((hB.setNew (p := ⟨γ.bx, 0, none⟩) hbx _).setNew (p := ⟨γ.bx, 1, none⟩) hbx _) ⟨hbx, (hBx.set_ 0 (.int .i64 γ.lo)).set_ 1 (.int .i64 γ.hi)⟩ ?_
                  try dsimp only [allP, List.getD_cons_zero, List.getD_cons_succ]
                  (repeat' apply And.intro) <;> first | exact rfl | exact trivial | exact id | assumption
                · refine opOk_v hA (fun _ => rfl) (fun _ _ => trivial) ?_ ?_
                  · intro n D γ w hn h
                    replace hn : n < 35 := hn
                    try dsimp only at h
                    exact h
                  intro n D γ w hB hU K hK
                  try dsimp only at hB
                  try dsimp only
                  clear hB hU
                  go_step
                  exact hK _ rfl
              case hend12_4 =>
                intro n D γ w hn hD hB hF
                replace hF := fun k (hk : k < 35) => hF k hk
                replace hF := (⟨hF 28 (by decide), hF 32 (by decide), hF 33 (by decide)⟩ : _ ∧ _ ∧ _)
                try dsimp only at hB
                try dsimp only at hF
                replace hn : n ≤ 35 := hn
                try dsimp only
                obtain ⟨ht2, -, -, hBY⟩ := hF
                rename T14 => T
                obtain ⟨lo', hi', wo', n', by'⟩ := T
                dsimp only at *
                obtain ⟨e1, e2, e3, e4⟩ := tollIs_one ht2 ht1
                subst e1 e2 e3 e4
                clear ht2
                replace hL := hL.kpN hB
                replace BX := BX.kpN hB
                replace KZ := KZ.thenN hB (Nat.le_refl _)
                have BY := hBY
                clear hB hBY hD
                go_wp2_with fail
                obtain ⟨wY, hwY⟩ : ∃ u, u = w := ⟨_, rfl⟩
                rw [← hwY] at hL BX BY KZ ⊢
                clear hwY
                obtain ⟨S, hS⟩ : ∃ S : Nat → World → Prop, S = fun _ w' => Kp wY.heap.size none wY w' := ⟨_, rfl⟩
                have hS0 : ∀ w', S 0 w' ↔ (Kp wY.heap.size none wY w') := fun w' => by rw [hS]
                clear hS
                have t0 : ∀ q : Ev (S 0), q.w.cell? ⟨b4, i * 11, none⟩ = some (.int .i64 ri.size.lo) := fun q => by simpa using (hL.kpN ((hS0 _).1 q.h)).q4.cellT i h7 0 (.int .i64 ri.size.lo) (by rw [← hri.out]; rfl)
                have t1 : ∀ q : Ev (S 0), q.w.cell? ⟨b4, i * 11 + 1, none⟩ = some (.int .i64 ri.size.hi) := fun q => by simpa using (hL.kpN ((hS0 _).1 q.h)).q4.cellT i h7 1 (.int .i64 ri.size.hi) (by rw [← hri.out]; rfl)
                have t2 : ∀ q : Ev (S 0), q.w.cell? ⟨b4, i * 11 + 2, none⟩ = some (.int .i64 ri.dens.lo) := fun q => by simpa using (hL.kpN ((hS0 _).1 q.h)).q4.cellT i h7 2 (.int .i64 ri.dens.lo) (by rw [← hri.out]; rfl)
                have t3 : ∀ q : Ev (S 0), q.w.cell? ⟨b4, i * 11 + 3, none⟩ = some (.int .i64 ri.dens.hi) := fun q => by simpa using (hL.kpN ((hS0 _).1 q.h)).q4.cellT i h7 3 (.int .i64 ri.dens.hi) (by rw [← hri.out]; rfl)
                have t4 : ∀ q : Ev (S 0), q.w.cell? ⟨b4, i * 11 + 4, none⟩ = some (.int .i64 ri.strong.lo) := fun q => by simpa using (hL.kpN ((hS0 _).1 q.h)).q4.cellT i h7 4 (.int .i64 ri.strong.lo) (by rw [← hri.out]; rfl)
                have t5 : ∀ q : Ev (S 0), q.w.cell? ⟨b4, i * 11 + 5, none⟩ = some (.int .i64 ri.strong.hi) := fun q => by simpa using (hL.kpN ((hS0 _).1 q.h)).q4.cellT i h7 5 (.int .i64 ri.strong.hi) (by rw [← hri.out]; rfl)
                have t6 : ∀ q : Ev (S 0), q.w.cell? ⟨b4, i * 11 + 6, none⟩ = some (.int .i64 ri.spin.lo) := fun q => by simpa using (hL.kpN ((hS0 _).1 q.h)).q4.cellT i h7 6 (.int .i64 ri.spin.lo) (by rw [← hri.out]; rfl)
                have t7 : ∀ q : Ev (S 0), q.w.cell? ⟨b4, i * 11 + 7, none⟩ = some (.int .i64 ri.spin.hi) := fun q => by simpa using (hL.kpN ((hS0 _).1 q.h)).q4.cellT i h7 7 (.int .i64 ri.spin.hi) (by rw [← hri.out]; rfl)
                have t8 : ∀ q : Ev (S 0), q.w.cell? ⟨b4, i * 11 + 8, none⟩ = some (.int .i64 ri.shape.lo) := fun q => by simpa using (hL.kpN ((hS0 _).1 q.h)).q4.cellT i h7 8 (.int .i64 ri.shape.lo) (by rw [← hri.out]; rfl)
                have t9 : ∀ q : Ev (S 0), q.w.cell? ⟨b4, i * 11 + 9, none⟩ = some (.int .i64 ri.shape.hi) := fun q => by simpa using (hL.kpN ((hS0 _).1 q.h)).q4.cellT i h7 9 (.int .i64 ri.shape.hi) (by rw [← hri.out]; rfl)
                have t10 : ∀ q : Ev (S 0), q.w.cell? ⟨b4, i * 11 + 10, none⟩ = some (.bool ri.pile) := fun q => by simpa using (hL.kpN ((hS0 _).1 q.h)).q4.cellT i h7 10 (.bool ri.pile) (by rw [← hri.out]; rfl)
                have u0 : ∀ q : Ev (S 0), q.w.cell? ⟨b5, i * 4, none⟩ = some (.int .i64 gi.speed.lo) := fun q => by simpa using (hL.kpN ((hS0 _).1 q.h)).q5.cellT i h7 0 (.int .i64 gi.speed.lo) (by rw [← hgi.out]; rfl)
                have u1 : ∀ q : Ev (S 0), q.w.cell? ⟨b5, i * 4 + 1, none⟩ = some (.int .i64 gi.speed.hi) := fun q => by simpa using (hL.kpN ((hS0 _).1 q.h)).q5.cellT i h7 1 (.int .i64 gi.speed.hi) (by rw [← hgi.out]; rfl)
                have u2 : ∀ q : Ev (S 0), q.w.cell? ⟨b5, i * 4 + 2, none⟩ = some (.int .i64 gi.slope.lo) := fun q => by simpa using (hL.kpN ((hS0 _).1 q.h)).q5.cellT i h7 2 (.int .i64 gi.slope.lo) (by rw [← hgi.out]; rfl)
                have u3 : ∀ q : Ev (S 0), q.w.cell? ⟨b5, i * 4 + 3, none⟩ = some (.int .i64 gi.slope.hi) := fun q => by simpa using (hL.kpN ((hS0 _).1 q.h)).q5.cellT i h7 3 (.int .i64 gi.slope.hi) (by rw [← hgi.out]; rfl)
                have e1 := fun q : Ev (S 0) => (hL.kpN ((hS0 _).1 q.h)).c1
                have e2 := fun q : Ev (S 0) => (hL.kpN ((hS0 _).1 q.h)).c2
                have e3 := fun q : Ev (S 0) => (hL.kpN ((hS0 _).1 q.h)).c3
                have e4 := fun q : Ev (S 0) => (hL.kpN ((hS0 _).1 q.h)).c4
                have e6 := fun q : Ev (S 0) => (hL.kpN ((hS0 _).1 q.h)).c6
                have e7 := fun q : Ev (S 0) => (hL.kpN ((hS0 _).1 q.h)).c7
                have hevT := ev_true
                refine wp_region_ord S [(0, 0), (1, 0), (2, 0), (3, 1), (4, 0), (5, 0), (6, 0), (7, 1), (8, 0), (9, 0), (10, 0), (11, 1), (12, 0), (13, 0), (14, 0), (15, 1), (16, 0), (17, 0), (18, 0), (19, 1), (20, 0), (21, 0), (22, 0), (23, 1), (24, 0), (25, 0), (26, 0), (27, 1), (28, 2), (29, 0), (30, 0), (31, 0), (32, 0), (33, 0)] [] (by kernel_rfl) (by kernel_rfl) ((hS0 _).2 (Kp.refl _ _ _).drew) ?_
                intro _hev
                iterate 28 (first | (refine wpOrd_v rfl rfl ?_; intro K hK; go_big_quiet_op; go_big_quiet_on) | (refine wpOrd_q rfl rfl ?_; intro K hK; go_big_quiet_op; go_big_quiet_on) | refine wpOrd_s (by decide) rfl rfl ?_)
                refine wpOrd_l rfl rfl ?_; intro K hK
                go_step
                have hM := hL.drew
                refine (blast_Worst_any Aa ca la Af cf gg Al Aw cl cw pp bb ri gi y9 a9 _ hM.ra hM.rg hM.rl hM.rw hcl2 (hb.kpN hM.k)).mono ?_
                rintro e w5 ⟨⟨lo3, hi3, wo3, n3, rfl, ht3⟩, k5⟩
                replace BX := BX.drew.kpN k5
                replace BY := BY.drew.kpN k5
                replace KZ := KZ.drew.thenN k5 (Nat.le_refl _)
                obtain ⟨q1, q2, q3, q4⟩ := tollIs_one ht3 ht1
                subst q1 q2 q3 q4
                clear ht3
                replace hL := hM.kpN k5
                clear hM
                refine hK _ _ ((hS0 _).2 ((Kp.refl _ _ _).drew.thenN k5 (Nat.le_refl _))) ?_
                clear hK K
                iterate 5 (first | (refine wpOrd_v rfl rfl ?_; intro K hK; go_big_quiet_op; go_big_quiet_on) | (refine wpOrd_q rfl rfl ?_; intro K hK; go_big_quiet_op; go_big_quiet_on) | refine wpOrd_s (by decide) rfl rfl ?_)
                refine wpOrd_nil ?_
                clear hevT _hev
                clear t0 t1 t2 t3 t4 t5 t6 t7 t8 t9 t10 u0 u1 u2 u3 e1 e2 e3 e4 e6 e7 hS0 S
                go_wp2_with fail
                obtain ⟨S, hS⟩ : ∃ S : Nat → World → Prop, S = fun _ w' => Kp w5.heap.size none w5 w' := ⟨_, rfl⟩
                have hS0 : ∀ w', S 0 w' ↔ (Kp w5.heap.size none w5 w') := fun w' => by rw [hS]
                clear hS
                have t0 : ∀ q : Ev (S 0), q.w.cell? ⟨b4, i * 11, none⟩ = some (.int .i64 ri.size.lo) := fun q => by simpa using (hL.kpN ((hS0 _).1 q.h)).q4.cellT i h7 0 (.int .i64 ri.size.lo) (by rw [← hri.out]; rfl)
                have t1 : ∀ q : Ev (S 0), q.w.cell? ⟨b4, i * 11 + 1, none⟩ = some (.int .i64 ri.size.hi) := fun q => by simpa using (hL.kpN ((hS0 _).1 q.h)).q4.cellT i h7 1 (.int .i64 ri.size.hi) (by rw [← hri.out]; rfl)
                have t2 : ∀ q : Ev (S 0), q.w.cell? ⟨b4, i * 11 + 2, none⟩ = some (.int .i64 ri.dens.lo) := fun q => by simpa using (hL.kpN ((hS0 _).1 q.h)).q4.cellT i h7 2 (.int .i64 ri.dens.lo) (by rw [← hri.out]; rfl)
                have t3 : ∀ q : Ev (S 0), q.w.cell? ⟨b4, i * 11 + 3, none⟩ = some (.int .i64 ri.dens.hi) := fun q => by simpa using (hL.kpN ((hS0 _).1 q.h)).q4.cellT i h7 3 (.int .i64 ri.dens.hi) (by rw [← hri.out]; rfl)
                have t4 : ∀ q : Ev (S 0), q.w.cell? ⟨b4, i * 11 + 4, none⟩ = some (.int .i64 ri.strong.lo) := fun q => by simpa using (hL.kpN ((hS0 _).1 q.h)).q4.cellT i h7 4 (.int .i64 ri.strong.lo) (by rw [← hri.out]; rfl)
                have t5 : ∀ q : Ev (S 0), q.w.cell? ⟨b4, i * 11 + 5, none⟩ = some (.int .i64 ri.strong.hi) := fun q => by simpa using (hL.kpN ((hS0 _).1 q.h)).q4.cellT i h7 5 (.int .i64 ri.strong.hi) (by rw [← hri.out]; rfl)
                have t6 : ∀ q : Ev (S 0), q.w.cell? ⟨b4, i * 11 + 6, none⟩ = some (.int .i64 ri.spin.lo) := fun q => by simpa using (hL.kpN ((hS0 _).1 q.h)).q4.cellT i h7 6 (.int .i64 ri.spin.lo) (by rw [← hri.out]; rfl)
                have t7 : ∀ q : Ev (S 0), q.w.cell? ⟨b4, i * 11 + 7, none⟩ = some (.int .i64 ri.spin.hi) := fun q => by simpa using (hL.kpN ((hS0 _).1 q.h)).q4.cellT i h7 7 (.int .i64 ri.spin.hi) (by rw [← hri.out]; rfl)
                have t8 : ∀ q : Ev (S 0), q.w.cell? ⟨b4, i * 11 + 8, none⟩ = some (.int .i64 ri.shape.lo) := fun q => by simpa using (hL.kpN ((hS0 _).1 q.h)).q4.cellT i h7 8 (.int .i64 ri.shape.lo) (by rw [← hri.out]; rfl)
                have t9 : ∀ q : Ev (S 0), q.w.cell? ⟨b4, i * 11 + 9, none⟩ = some (.int .i64 ri.shape.hi) := fun q => by simpa using (hL.kpN ((hS0 _).1 q.h)).q4.cellT i h7 9 (.int .i64 ri.shape.hi) (by rw [← hri.out]; rfl)
                have t10 : ∀ q : Ev (S 0), q.w.cell? ⟨b4, i * 11 + 10, none⟩ = some (.bool ri.pile) := fun q => by simpa using (hL.kpN ((hS0 _).1 q.h)).q4.cellT i h7 10 (.bool ri.pile) (by rw [← hri.out]; rfl)
                have u0 : ∀ q : Ev (S 0), q.w.cell? ⟨b5, i * 4, none⟩ = some (.int .i64 gi.speed.lo) := fun q => by simpa using (hL.kpN ((hS0 _).1 q.h)).q5.cellT i h7 0 (.int .i64 gi.speed.lo) (by rw [← hgi.out]; rfl)
                have u1 : ∀ q : Ev (S 0), q.w.cell? ⟨b5, i * 4 + 1, none⟩ = some (.int .i64 gi.speed.hi) := fun q => by simpa using (hL.kpN ((hS0 _).1 q.h)).q5.cellT i h7 1 (.int .i64 gi.speed.hi) (by rw [← hgi.out]; rfl)
                have u2 : ∀ q : Ev (S 0), q.w.cell? ⟨b5, i * 4 + 2, none⟩ = some (.int .i64 gi.slope.lo) := fun q => by simpa using (hL.kpN ((hS0 _).1 q.h)).q5.cellT i h7 2 (.int .i64 gi.slope.lo) (by rw [← hgi.out]; rfl)
                have u3 : ∀ q : Ev (S 0), q.w.cell? ⟨b5, i * 4 + 3, none⟩ = some (.int .i64 gi.slope.hi) := fun q => by simpa using (hL.kpN ((hS0 _).1 q.h)).q5.cellT i h7 3 (.int .i64 gi.slope.hi) (by rw [← hgi.out]; rfl)
                have e1 := fun q : Ev (S 0) => (hL.kpN ((hS0 _).1 q.h)).c1
                have e2 := fun q : Ev (S 0) => (hL.kpN ((hS0 _).1 q.h)).c2
                have e3 := fun q : Ev (S 0) => (hL.kpN ((hS0 _).1 q.h)).c3
                have e4 := fun q : Ev (S 0) => (hL.kpN ((hS0 _).1 q.h)).c4
                have e6 := fun q : Ev (S 0) => (hL.kpN ((hS0 _).1 q.h)).c6
                have e7 := fun q : Ev (S 0) => (hL.kpN ((hS0 _).1 q.h)).c7
                have hevT := ev_true
                refine wp_region_ord S [(0, 0), (1, 0), (2, 0), (3, 1), (4, 0), (5, 0), (6, 0), (7, 1), (8, 0), (9, 0), (10, 0), (11, 1), (12, 0), (13, 0), (14, 0), (15, 1), (16, 0), (17, 0), (18, 0), (19, 1), (20, 0), (21, 0), (22, 0), (23, 1), (24, 0), (25, 0), (26, 0), (27, 1), (28, 2), (29, 0), (30, 0), (31, 0), (32, 0), (33, 0)] [] (by kernel_rfl) (by kernel_rfl) ((hS0 _).2 (Kp.refl _ _ _).drew) ?_
                intro _hev
                iterate 28 (first | (refine wpOrd_v rfl rfl ?_; intro K hK; go_big_quiet_op; go_big_quiet_on) | (refine wpOrd_q rfl rfl ?_; intro K hK; go_big_quiet_op; go_big_quiet_on) | refine wpOrd_s (by decide) rfl rfl ?_)
                refine wpOrd_l rfl rfl ?_; intro K hK
                go_step
                have hM := hL.drew
                refine (ref_Worst_any Aa ca la Af cf gg Al Aw cl cw pp bb ri gi y9 a9 _ hM.ra hM.rg hM.rl hM.rw).mono ?_
                rintro e w5 ⟨⟨lo3, hi3, wo3, n3, rfl, ht3⟩, k5⟩
                replace BX := BX.drew.kpN k5
                replace BY := BY.drew.kpN k5
                replace KZ := KZ.drew.thenN k5 (Nat.le_refl _)
                obtain ⟨q1, q2, q3, q4⟩ := tollIs_one ht3 ht1
                subst q1 q2 q3 q4
                clear ht3
                replace hL := hM.kpN k5
                clear hM
                refine hK _ _ ((hS0 _).2 ((Kp.refl _ _ _).drew.thenN k5 (Nat.le_refl _))) ?_
                clear hK K
                iterate 5 (first | (refine wpOrd_v rfl rfl ?_; intro K hK; go_big_quiet_op; go_big_quiet_on) | (refine wpOrd_q rfl rfl ?_; intro K hK; go_big_quiet_op; go_big_quiet_on) | refine wpOrd_s (by decide) rfl rfl ?_)
                refine wpOrd_nil ?_
                clear hevT _hev
                clear t0 t1 t2 t3 t4 t5 t6 t7 t8 t9 t10 u0 u1 u2 u3 e1 e2 e3 e4 e6 e7 hS0 S
                have cX := fun i => BX.cell i
                have cY := fun i => BY.cell i
                replace KK := KK.thenN KZ (Nat.le_refl _)
                clear hL KZ
                go_wp2
                go_roundw
                case rel => exact ⟨i + 1, rfl, by omega, KK⟩
                case measure => simp [intOf]; omega
          · have h7' : ¬ (i : Int) < 2 := by omega
            have hb9 : Bnd wr := (hb.kpN hKK).kpN KK
            go_wp2_with fail
            refine (awake_any _ hb9).mono ?_
            rintro e w11 ⟨rfl, k11⟩
            have K11 := (hKK.thenN KK (Nat.le_refl _)).thenN k11 (Nat.le_refl _)
            go_wp2
            exact bodyPost_ret (v := .bool true) (by simp [results, Tryd.results12, go_sem]) rfl ⟨rfl, K11⟩
end Go.Proofs.YtdiigflbohbndaaDoor
