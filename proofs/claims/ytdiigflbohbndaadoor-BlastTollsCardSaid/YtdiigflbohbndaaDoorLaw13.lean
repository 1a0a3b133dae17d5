/- The statement on harms: its walk. -/
import Derived.Test.YtdiigflbohbndaaDoorLaw1
import Derived.Test.YtdiigflbohbndaaDoorInv
import Derived.Test.YtdiigflbohbndaaDoorRefHarmAll
namespace Go.Proofs.YtdiigflbohbndaaDoor
open Go.RowKit

structure G13 where
  A1 : Option Addr
  c1 : Nat
  l2 : List Layer
  A2 : Option Addr
  c2 : Nat
  gs2 : List Grade
  A3 : Option Addr
  c3 : Nat
  ps2 : List Int
  A4 : Option Addr
  c4 : Nat
  bs2 : List Bool
  b1 : Nat
  b2 : Nat
  b3 : Nat
def Y2 (γ : G13) (g : Nat) (w : World) : Prop := Rd (some g) w 2 encLayer γ.A1 γ.l2.length γ.l2 ∧ γ.l2.length ≤ 6
def Y3 (A0 : Option Addr) (c0 : Nat) (ls : List Layer) (γ : G13) (g : Nat) (w : World) : Prop := Blk w γ.b1 33 #[.slice A0 ls.length c0, .slice γ.A1 γ.l2.length γ.c1] ∧ g < γ.b1
def Y6 (γ : G13) (g : Nat) (w : World) : Prop := Rd (some g) w 2 encGrade γ.A2 γ.gs2.length γ.gs2
def Y7 (Ag : Option Addr) (cg : Nat) (gs : List Grade) (γ : G13) (g : Nat) (w : World) : Prop := Blk w γ.b2 49 #[.slice Ag gs.length cg, .slice γ.A2 γ.gs2.length γ.c2] ∧ g < γ.b2
def Y10 (γ : G13) (g : Nat) (w : World) : Prop := Rd (some g) w 1 encI γ.A3 γ.ps2.length γ.ps2 ∧ Rd (some g) w 1 encB γ.A4 γ.bs2.length γ.bs2 ∧ 1 ≤ γ.ps2.length ∧ γ.ps2.length ≤ 16 ∧ γ.ps2.length ≤ γ.c3 ∧ γ.bs2.length = γ.ps2.length
def Y11 (Ap : Option Addr) (cp : Nat) (ps : List Int) (Ab : Option Addr) (cb : Nat) (bs : List Bool) (γ : G13) (g : Nat) (w : World) : Prop := Blk w γ.b3 54 #[.slice Ap ps.length cp, .slice Ab bs.length cb, .slice γ.A3 γ.ps2.length γ.c3, .slice γ.A4 γ.bs2.length γ.c4] ∧ g < γ.b3
section
variable {γ : G13} {g : Nat} {w w' : World} {A0 Ag Ap Ab : Option Addr} {c0 cg cp cb : Nat} {ls : List Layer} {gs : List Grade} {ps : List Int} {bs : List Bool}
theorem Y2.kp (h : Y2 γ g w) (k : Kp w.heap.size (some g) w w') : Y2 γ g w' := ⟨Rd.kp h.1 k, h.2⟩
theorem Y3.kp (h : Y3 A0 c0 ls γ g w) (k : Kp w.heap.size (some g) w w') : Y3 A0 c0 ls γ g w' := ⟨h.1.kp k h.1.lt (sne (Nat.ne_of_gt h.2)), h.2⟩
theorem Y6.kp (h : Y6 γ g w) (k : Kp w.heap.size (some g) w w') : Y6 γ g w' := Rd.kp h k
theorem Y7.kp (h : Y7 Ag cg gs γ g w) (k : Kp w.heap.size (some g) w w') : Y7 Ag cg gs γ g w' := ⟨h.1.kp k h.1.lt (sne (Nat.ne_of_gt h.2)), h.2⟩
theorem Y10.kp (h : Y10 γ g w) (k : Kp w.heap.size (some g) w w') : Y10 γ g w' := ⟨Rd.kp h.1 k, Rd.kp h.2.1 k, h.2.2⟩
theorem Y11.kp (h : Y11 Ap cp ps Ab cb bs γ g w) (k : Kp w.heap.size (some g) w w') : Y11 Ap cp ps Ab cb bs γ g w' := ⟨h.1.kp k h.1.lt (sne (Nat.ne_of_gt h.2)), h.2⟩
end
structure YY (A0 : Option Addr) (c0 : Nat) (ls : List Layer) (Ag : Option Addr) (cg : Nat) (gs : List Grade) (Ap : Option Addr) (cp : Nat) (ps : List Int) (Ab : Option Addr) (cb : Nat) (bs : List Bool) (γ : G13) (g : Nat) (w : World) : Prop where
  y2 : Y2 γ g w
  y3 : Y3 A0 c0 ls γ g w
  y6 : Y6 γ g w
  y7 : Y7 Ag cg gs γ g w
  y10 : Y10 γ g w
  y11 : Y11 Ap cp ps Ab cb bs γ g w
theorem YY.kp {γ : G13} {g : Nat} {w w' : World} {A0 Ag Ap Ab : Option Addr} {c0 cg cp cb : Nat} {ls : List Layer} {gs : List Grade} {ps : List Int} {bs : List Bool} (h : YY A0 c0 ls Ag cg gs Ap cp ps Ab cb bs γ g w) (k : Kp w.heap.size (some g) w w') :
    YY A0 c0 ls Ag cg gs Ap cp ps Ab cb bs γ g w' := ⟨h.y2.kp k, h.y3.kp k, h.y6.kp k, h.y7.kp k, h.y10.kp k, h.y11.kp k⟩
theorem YY.drew {γ : G13} {g : Nat} {w : World} {A0 Ag Ap Ab : Option Addr} {c0 cg cp cb : Nat} {ls : List Layer} {gs : List Grade} {ps : List Int} {bs : List Bool} (h : YY A0 c0 ls Ag cg gs Ap cp ps Ab cb bs γ g w) :
    YY A0 c0 ls Ag cg gs Ap cp ps Ab cb bs γ g w.drew := h.kp (Kp.refl _ _ w).drew
/-- What holds throughout the first region. -/
structure BB13 (Ap : Option Addr) (cp : Nat) (ps : List Int) (Ab : Option Addr) (cb : Nat) (bs : List Bool) (nums : List Int) (g : Nat) (W : World) (n : Nat) (w : World) : Prop where
  ring : ∃ k, k ≤ 100 * n ∧ RingAt w g nums k
  l : Blk w W.heap.size 54 #[.slice Ap ps.length cp, .slice Ab bs.length cb]
  k : Kp W.heap.size none W w
  g : W.heap.size < g
section
variable {Ap Ab : Option Addr} {cp cb : Nat} {ps : List Int} {bs : List Bool} {nums : List Int} {g n : Nat} {W w w' : World}
theorem BB13.mono (h : BB13 Ap cp ps Ab cb bs nums g W n w) : BB13 Ap cp ps Ab cb bs nums g W (n + 1) w := by
  obtain ⟨⟨k, hk, hr⟩, h1, h2, h3⟩ := h
  exact ⟨⟨k, by omega, hr⟩, h1, h2, h3⟩
theorem BB13.kpN (h : BB13 Ap cp ps Ab cb bs nums g W n w) (k : Kp w.heap.size none w w') : BB13 Ap cp ps Ab cb bs nums g W (n + 1) w' := by
  obtain ⟨⟨q, hq, hr⟩, h1, h2, h3⟩ := h
  exact ⟨⟨q, by omega, hr.kpN k⟩, h1.kpN k, h2.thenN k (Nat.le_refl _), h3⟩
theorem BB13.kpR (h : BB13 Ap cp ps Ab cb bs nums g W n w) (k : Kp w.heap.size (some g) w w') {q : Nat} (hq : q ≤ 100 * (n + 1)) (hr : RingAt w' g nums q) : BB13 Ap cp ps Ab cb bs nums g W (n + 1) w' := by
  obtain ⟨_, h1, h2, h3⟩ := h
  exact ⟨⟨q, hq, hr⟩, h1.kp k h1.lt (sne (by omega)), h2.thenOwn k (Nat.le_refl _) (by omega), h3⟩
end
structure H13 where
  x : Int
  y : Int
  b4 : Nat
  b5 : Nat
def TwoAt13 (w : World) (v : Value) (wr : World) : Prop := ∃ i : Nat, v = .int .i64 i ∧ i ≤ 2 ∧ Kp w.heap.size none w wr
set_option maxRecDepth 100000 in
set_option maxHeartbeats 8000000 in
theorem law_BlastHarms_any (A0 : Option Addr) (c0 : Nat) (ls : List Layer) (Ag : Option Addr) (cg : Nat) (gs : List Grade) (Ap : Option Addr) (cp : Nat) (ps : List Int) (Ab : Option Addr) (cb : Nat) (bs : List Bool) (la0 en at0 : Int) (A6 : Option Addr) (c6 : Nat) (nums : List Int) (W : World)
    (hls : Rd none W 2 encLayer A0 ls.length ls) (hgs : Rd none W 2 encGrade Ag gs.length gs) (hps : Rd none W 1 encI Ap ps.length ps) (hbs : Rd none W 1 encB Ab bs.length bs) (hcp : ps.length ≤ cp)
    (h : Rd none W 1 (fun x => [Value.int .i64 x]) A6 nums.length nums) (hn : nums.length ≤ 17592186044416) (hb : Bnd W) :
    Calls Tryd.prog 10 #[.slice A0 ls.length c0, .slice Ag gs.length cg, .agg #[.slice Ap ps.length cp, .slice Ab bs.length cb], .int .i64 la0, .int .i64 en, .int .i64 at0, .slice A6 nums.length c6] W fun e W' => e = .returned (.bool true) ∧ Kp W.heap.size none W W' := by
  have K0 := (Kp.refl W.heap.size none W).alloc (Nat.le_refl _) (.cells #[.slice Ap ps.length cp, .slice Ab bs.length cb] 54)
  have LB := Blk.new W 54 #[.slice Ap ps.length cp, .slice Ab bs.length cb]
  generalize hw0 : W.alloc (.cells #[.slice Ap ps.length cp, .slice Ab bs.length cb] 54) = w0 at K0 LB
  go_enter Tryd.func10, Tryd.ntmps10
  have cl := fun i => LB.cell i
  go_wp2_with fail
  clear hw0
  refine (bigGround_any A0 ls.length c0 Ag gs.length cg Ap Ab ps.length cp bs.length cb _).mono ?_
  rintro e w1 ⟨⟨b, rfl, hbig⟩, k1⟩
  have K1 := K0.thenN k1 (Nat.le_refl _)
  replace LB := LB.kpN k1
  clear k1 K0 cl
  cases b
  case true =>
    clear hbig
    go_wp2_with fail
    refine (awake_any _ (hb.kpN K1)).mono ?_
    rintro e w2 ⟨rfl, k2⟩
    have K2 := K1.thenN k2 (Nat.le_refl _)
    go_wp2
    exact bodyPost_ret (v := .bool true) (by simp [results, Tryd.results10, go_sem]) rfl ⟨rfl, K2⟩
  case false =>
    have hl40 := (hbig rfl).1
    clear hbig
    go_wp2_with fail
    refine (newRing_any A6 c6 nums _ (h.kpN K1) hn).mono ?_
    rintro e w2 ⟨g, rfl, hg, hr, k2⟩
    have K2 := K1.thenN k2 (Nat.le_refl _)
    have hlg : W.heap.size < g := by have := LB.lt; omega
    replace LB := LB.kpN k2
    clear k2 K1
    go_wp2_with fail
    have HB0 : BB13 Ap cp ps Ab cb bs nums g W 0 w2 := ⟨⟨0, by omega, hr⟩, LB, K2, hlg⟩
    clear LB K2 hr
    refine wp_region_inv (Γ := G13) [none, none, none, none, none, none, none, none, none, none, none, none, none, none, none, none, some 12, some 13, some 14, none, none, none, none, none, none, none, none, none, none, none, none, none, none, some 0, some 1, some 2, some 3, some 4, some 5, some 6, some 7, some 8, some 9, some 10, some 11] [[], [], [1], [0, 1, 2], [], [], [1, 2, 5], [1, 2, 4, 5, 6], [], [], [1, 2, 5, 6, 9], [1, 2, 5, 6, 8, 9, 10], [0, 1, 2, 3, 5, 6, 9, 10], [0, 1, 2, 3, 4, 5, 6, 7, 9, 10, 12], [0, 1, 2, 3, 4, 5, 6, 7, 8, 9, 10, 11, 12, 13]] [[1, 2, 4, 5, 6, 7, 8, 9, 10, 11], [0, 4, 5, 8, 9], [0, 1, 4, 5, 8, 9], [0, 1, 2, 4, 5, 6, 7, 8, 9, 10, 11], [0, 1, 2, 3, 5, 6, 8, 9, 10, 11, 12], [0, 1, 2, 3, 4, 8, 9], [0, 1, 2, 3, 4, 5, 8, 9], [0, 1, 2, 3, 4, 5, 6, 8, 9, 10, 11, 12], [0, 1, 2, 3, 4, 5, 6, 7, 9, 10, 12, 13], [0, 1, 2, 3, 4, 5, 6, 7, 8], [0, 1, 2, 3, 4, 5, 6, 7, 8, 9], [0, 1, 2, 3, 4, 5, 6, 7, 8, 9, 10, 12, 13], [0, 1, 2, 3, 4, 5, 6, 7, 8, 9, 10, 11], [0, 1, 2, 3, 4, 5, 6, 7, 8, 9, 10, 11, 12], [0, 1, 2, 3, 4, 5, 6, 7, 8, 9, 10, 11, 12, 13]] (fun γ => [.slice A0 ls.length c0, .pointer (some ⟨g, 0, none⟩), .slice γ.A1 γ.l2.length γ.c1, .slice (some ⟨γ.b1, 0, none⟩) 2 2, .slice Ag gs.length cg, .pointer (some ⟨g, 0, none⟩), .slice γ.A2 γ.gs2.length γ.c2, .slice (some ⟨γ.b2, 0, none⟩) 2 2, .agg #[.slice Ap ps.length cp, .slice Ab bs.length cb], .pointer (some ⟨g, 0, none⟩), .agg #[.slice γ.A3 γ.ps2.length γ.c3, .slice γ.A4 γ.bs2.length γ.c4], .slice (some ⟨γ.b3, 0, none⟩) 2 2, .slice (some ⟨γ.b1, 0, none⟩) 2 2, .slice (some ⟨γ.b2, 0, none⟩) 2 2, .slice (some ⟨γ.b3, 0, none⟩) 2 2]) (fun γ => [none, none, none, none, none, none, none, none, none, none, none, none, none, none, none, none, some (.slice (some ⟨γ.b1, 0, none⟩) 2 2), some (.slice (some ⟨γ.b2, 0, none⟩) 2 2), some (.slice (some ⟨γ.b3, 0, none⟩) 2 2), none, none, none, none, none, none, none, none, none, none, none, none, none, none, some (.slice A0 ls.length c0), some (.pointer (some ⟨g, 0, none⟩)), some (.slice γ.A1 γ.l2.length γ.c1), some (.slice (some ⟨γ.b1, 0, none⟩) 2 2), some (.slice Ag gs.length cg), some (.pointer (some ⟨g, 0, none⟩)), some (.slice γ.A2 γ.gs2.length γ.c2), some (.slice (some ⟨γ.b2, 0, none⟩) 2 2), some (.agg #[.slice Ap ps.length cp, .slice Ab bs.length cb]), some (.pointer (some ⟨g, 0, none⟩)), some (.agg #[.slice γ.A3 γ.ps2.length γ.c3, .slice γ.A4 γ.bs2.length γ.c4]), some (.slice (some ⟨γ.b3, 0, none⟩) 2 2)]) ?A4_1 (fun n D γ w => BB13 Ap cp ps Ab cb bs nums g W n w) (fun k γ w => match k with | 2 => Y2 γ g w | 3 => Y3 A0 c0 ls γ g w | 6 => Y6 γ g w | 7 => Y7 Ag cg gs γ g w | 10 => Y10 γ g w | 11 => Y11 Ap cp ps Ab cb bs γ g w | _ => True) ⟨none, 0, [], none, 0, [], none, 0, [], none, 0, [], 0, 0, 0⟩ (by kernel_rfl) (fun _ => rfl) ?hA4_1 (by kernel_rfl) ?hB04_1 ?hop4_1 ?hend4_1
    case hA4_1 => intro γ; dsimp only [fullV]; rfl
    case hB04_1 =>
      obtain ⟨⟨q, hq, hr⟩, h1, h2, h3⟩ := HB0
      exact ⟨⟨q, hq, hr.drew⟩, h1.drew, h2.drew, h3⟩
    case hop4_1 =>
      intro hA
      refine ⟨?_, ?_, ?_, ?_, ?_, ?_, ?_, ?_, ?_, ?_, ?_, ?_, ?_, ?_, ?_, trivial⟩
      · refine opOk_v hA (fun _ => rfl) (fun _ _ => trivial) ?_ ?_
        · intro n D γ w hn h
          replace hn : n < 15 := hn
          try dsimp only at h
          exact h.mono
        intro n D γ w hB hU K hK
        try dsimp only at hB
        try dsimp only
        clear hB hU
        go_step
        exact hK _ rfl
      · refine opOk_v hA (fun _ => rfl) (fun _ _ => trivial) ?_ ?_
        · intro n D γ w hn h
          replace hn : n < 15 := hn
          try dsimp only at h
          exact h.mono
        intro n D γ w hB hU K hK
        try dsimp only at hB
        try dsimp only
        clear hB hU
        go_step
        exact hK _ rfl
      · refine opOk_l hA (fun _ => rfl) ?_
        intro n D γ w hn hD hB hU K hK
        try dsimp only at hB
        clear hU
        replace hn : n < 15 := hn
        try dsimp only
        obtain ⟨k, hk, hR⟩ := hB.ring
        go_step
        refine (layersOf_any g nums k _ hR (by omega)).mono ?_
        rintro e w5 ⟨v, k', rfl, ⟨A1, c1, l2, rfl, hG, hl6, -, -⟩, hk', hR5, k5⟩
        have s2 : Y2 γ g w → Y2 γ g w5 := fun h => h.kp k5
        have s3 : Y3 A0 c0 ls γ g w → Y3 A0 c0 ls γ g w5 := fun h => h.kp k5
        have s6 : Y6 γ g w → Y6 γ g w5 := fun h => h.kp k5
        have s7 : Y7 Ag cg gs γ g w → Y7 Ag cg gs γ g w5 := fun h => h.kp k5
        have s10 : Y10 γ g w → Y10 γ g w5 := fun h => h.kp k5
        have s11 : Y11 Ap cp ps Ab cb bs γ g w → Y11 Ap cp ps Ab cb bs γ g w5 := fun h => h.kp k5
        refine hK _ _ { γ with A1 := A1, c1 := c1, l2 := l2 } rfl (hB.kpR k5 (by omega) hR5) ⟨hG, hl6⟩ ?_
        try dsimp only [allP, List.getD_cons_zero, List.getD_cons_succ]
        (repeat' apply And.intro) <;> first | exact rfl | exact trivial | exact id | assumption
      · refine opOk_l hA (fun _ => rfl) ?_
        intro n D γ w hn hD hB hU K hK
        try dsimp only at hB
        replace hU : (Y2 γ g w) := hU.2.2.1
        replace hn : n < 15 := hn
        try dsimp only
        go_step
        obtain ⟨w5, hw5⟩ : ∃ w5, w5 = w.alloc (.cells #[.slice A0 ls.length c0, .slice γ.A1 γ.l2.length γ.c1] 33) := ⟨_, rfl⟩
        have k5 : Kp w.heap.size none w w5 := hw5 ▸ (Kp.refl w.heap.size none w).alloc (Nat.le_refl _) _
        have hBn : Blk w5 w.heap.size 33 #[.slice A0 ls.length c0, .slice γ.A1 γ.l2.length γ.c1] := hw5 ▸ Blk.new _ _ _
        have hgb : g < w.heap.size := by obtain ⟨q, _, hr⟩ := hB.ring; exact hr.lt
        change K _ (w.alloc (.cells #[.slice A0 ls.length c0, .slice γ.A1 γ.l2.length γ.c1] 33))
        rw [← hw5]
        have s2 : Y2 γ g w → Y2 γ g w5 := fun h => h.kp (k5.wide (some g))
        have s3 : Y3 A0 c0 ls γ g w → Y3 A0 c0 ls γ g w5 := fun h => h.kp (k5.wide (some g))
        have s6 : Y6 γ g w → Y6 γ g w5 := fun h => h.kp (k5.wide (some g))
        have s7 : Y7 Ag cg gs γ g w → Y7 Ag cg gs γ g w5 := fun h => h.kp (k5.wide (some g))
        have s10 : Y10 γ g w → Y10 γ g w5 := fun h => h.kp (k5.wide (some g))
        have s11 : Y11 Ap cp ps Ab cb bs γ g w → Y11 Ap cp ps Ab cb bs γ g w5 := fun h => h.kp (k5.wide (some g))
        refine hK _ _ { γ with b1 := w.heap.size } rfl (hB.kpN k5) ⟨hBn, hgb⟩ ?_
        try dsimp only [allP, List.getD_cons_zero, List.getD_cons_succ]
        (repeat' apply And.intro) <;> first | exact rfl | exact trivial | exact id | assumption
      · refine opOk_v hA (fun _ => rfl) (fun _ _ => trivial) ?_ ?_
        · intro n D γ w hn h
          replace hn : n < 15 := hn
          try dsimp only at h
          exact h.mono
        intro n D γ w hB hU K hK
        try dsimp only at hB
        try dsimp only
        clear hB hU
        go_step
        exact hK _ rfl
      · refine opOk_v hA (fun _ => rfl) (fun _ _ => trivial) ?_ ?_
        · intro n D γ w hn h
          replace hn : n < 15 := hn
          try dsimp only at h
          exact h.mono
        intro n D γ w hB hU K hK
        try dsimp only at hB
        try dsimp only
        clear hB hU
        go_step
        exact hK _ rfl
      · refine opOk_l hA (fun _ => rfl) ?_
        intro n D γ w hn hD hB hU K hK
        try dsimp only at hB
        replace hU : (Y2 γ g w) := hU.2.1
        replace hn : n < 15 := hn
        try dsimp only
        obtain ⟨k, hk, hR⟩ := hB.ring
        go_step
        refine (gradesOf_any g nums k _ hR (by omega)).mono ?_
        rintro e w5 ⟨v, k', rfl, ⟨A2, c2, gs2, rfl, hG, hgs2, -, -⟩, hk', hR5, k5⟩
        have s2 : Y2 γ g w → Y2 γ g w5 := fun h => h.kp k5
        have s3 : Y3 A0 c0 ls γ g w → Y3 A0 c0 ls γ g w5 := fun h => h.kp k5
        have s6 : Y6 γ g w → Y6 γ g w5 := fun h => h.kp k5
        have s7 : Y7 Ag cg gs γ g w → Y7 Ag cg gs γ g w5 := fun h => h.kp k5
        have s10 : Y10 γ g w → Y10 γ g w5 := fun h => h.kp k5
        have s11 : Y11 Ap cp ps Ab cb bs γ g w → Y11 Ap cp ps Ab cb bs γ g w5 := fun h => h.kp k5
        refine hK _ _ { γ with A2 := A2, c2 := c2, gs2 := gs2 } rfl (hB.kpR k5 (by omega) hR5) hG ?_
        try dsimp only [allP, List.getD_cons_zero, List.getD_cons_succ]
        (repeat' apply And.intro) <;> first | exact rfl | exact trivial | exact id | assumption
      · refine opOk_l hA (fun _ => rfl) ?_
        intro n D γ w hn hD hB hU K hK
        try dsimp only at hB
        replace hU : (Y2 γ g w) ∧ (Y6 γ g w) := ⟨hU.2.1, hU.2.2.2.2.1⟩
        replace hn : n < 15 := hn
        try dsimp only
        go_step
        obtain ⟨w5, hw5⟩ : ∃ w5, w5 = w.alloc (.cells #[.slice Ag gs.length cg, .slice γ.A2 γ.gs2.length γ.c2] 49) := ⟨_, rfl⟩
        have k5 : Kp w.heap.size none w w5 := hw5 ▸ (Kp.refl w.heap.size none w).alloc (Nat.le_refl _) _
        have hBn : Blk w5 w.heap.size 49 #[.slice Ag gs.length cg, .slice γ.A2 γ.gs2.length γ.c2] := hw5 ▸ Blk.new _ _ _
        have hgb : g < w.heap.size := by obtain ⟨q, _, hr⟩ := hB.ring; exact hr.lt
        change K _ (w.alloc (.cells #[.slice Ag gs.length cg, .slice γ.A2 γ.gs2.length γ.c2] 49))
        rw [← hw5]
        have s2 : Y2 γ g w → Y2 γ g w5 := fun h => h.kp (k5.wide (some g))
        have s3 : Y3 A0 c0 ls γ g w → Y3 A0 c0 ls γ g w5 := fun h => h.kp (k5.wide (some g))
        have s6 : Y6 γ g w → Y6 γ g w5 := fun h => h.kp (k5.wide (some g))
        have s7 : Y7 Ag cg gs γ g w → Y7 Ag cg gs γ g w5 := fun h => h.kp (k5.wide (some g))
        have s10 : Y10 γ g w → Y10 γ g w5 := fun h => h.kp (k5.wide (some g))
        have s11 : Y11 Ap cp ps Ab cb bs γ g w → Y11 Ap cp ps Ab cb bs γ g w5 := fun h => h.kp (k5.wide (some g))
        refine hK _ _ { γ with b2 := w.heap.size } rfl (hB.kpN k5) ⟨hBn, hgb⟩ ?_
        try dsimp only [allP, List.getD_cons_zero, List.getD_cons_succ]
        (repeat' apply And.intro) <;> first | exact rfl | exact trivial | exact id | assumption
      · refine opOk_v hA (fun _ => rfl) (fun _ _ => trivial) ?_ ?_
        · intro n D γ w hn h
          replace hn : n < 15 := hn
          try dsimp only at h
          exact h.mono
        intro n D γ w hB hU K hK
        try dsimp only at hB
        try dsimp only
        have cl := fun i => hB.l.cell i
        clear hB hU
        go_step
        exact hK _ rfl
      · refine opOk_v hA (fun _ => rfl) (fun _ _ => trivial) ?_ ?_
        · intro n D γ w hn h
          replace hn : n < 15 := hn
          try dsimp only at h
          exact h.mono
        intro n D γ w hB hU K hK
        try dsimp only at hB
        try dsimp only
        clear hB hU
        go_step
        exact hK _ rfl
      · refine opOk_l hA (fun _ => rfl) ?_
        intro n D γ w hn hD hB hU K hK
        try dsimp only at hB
        replace hU : (Y2 γ g w) ∧ (Y6 γ g w) := ⟨hU.2.1, hU.2.2.2.1⟩
        replace hn : n < 15 := hn
        try dsimp only
        obtain ⟨k, hk, hR⟩ := hB.ring
        go_step
        refine (landOf_any g nums k _ hR (by omega)).mono ?_
        rintro e w5 ⟨v, k', rfl, ⟨A3, c3, A4, c4, ps2, bs2, rfl, hP, hQ, hbl, hp1, hp16, hpp, hc3, -⟩, hk', hR5, k5⟩
        have s2 : Y2 γ g w → Y2 γ g w5 := fun h => h.kp k5
        have s3 : Y3 A0 c0 ls γ g w → Y3 A0 c0 ls γ g w5 := fun h => h.kp k5
        have s6 : Y6 γ g w → Y6 γ g w5 := fun h => h.kp k5
        have s7 : Y7 Ag cg gs γ g w → Y7 Ag cg gs γ g w5 := fun h => h.kp k5
        have s10 : Y10 γ g w → Y10 γ g w5 := fun h => h.kp k5
        have s11 : Y11 Ap cp ps Ab cb bs γ g w → Y11 Ap cp ps Ab cb bs γ g w5 := fun h => h.kp k5
        refine hK _ _ { γ with A3 := A3, c3 := c3, A4 := A4, c4 := c4, ps2 := ps2, bs2 := bs2 } rfl (hB.kpR k5 (by omega) hR5) ⟨hP, hQ, hp1, hp16, hc3, hbl⟩ ?_
        try dsimp only [allP, List.getD_cons_zero, List.getD_cons_succ]
        (repeat' apply And.intro) <;> first | exact rfl | exact trivial | exact id | assumption
      · refine opOk_l hA (fun _ => rfl) ?_
        intro n D γ w hn hD hB hU K hK
        try dsimp only at hB
        replace hU : (Y2 γ g w) ∧ (Y6 γ g w) ∧ (Y10 γ g w) := ⟨hU.2.1, hU.2.2.2.1, hU.2.2.2.2.2.2.1⟩
        replace hn : n < 15 := hn
        try dsimp only
        go_step
        obtain ⟨w5, hw5⟩ : ∃ w5, w5 = w.alloc (.cells #[.slice Ap ps.length cp, .slice Ab bs.length cb, .slice γ.A3 γ.ps2.length γ.c3, .slice γ.A4 γ.bs2.length γ.c4] 54) := ⟨_, rfl⟩
        have k5 : Kp w.heap.size none w w5 := hw5 ▸ (Kp.refl w.heap.size none w).alloc (Nat.le_refl _) _
        have hBn : Blk w5 w.heap.size 54 #[.slice Ap ps.length cp, .slice Ab bs.length cb, .slice γ.A3 γ.ps2.length γ.c3, .slice γ.A4 γ.bs2.length γ.c4] := hw5 ▸ Blk.new _ _ _
        have hgb : g < w.heap.size := by obtain ⟨q, _, hr⟩ := hB.ring; exact hr.lt
        change K _ (w.alloc (.cells #[.slice Ap ps.length cp, .slice Ab bs.length cb, .slice γ.A3 γ.ps2.length γ.c3, .slice γ.A4 γ.bs2.length γ.c4] 54))
        rw [← hw5]
        have s2 : Y2 γ g w → Y2 γ g w5 := fun h => h.kp (k5.wide (some g))
        have s3 : Y3 A0 c0 ls γ g w → Y3 A0 c0 ls γ g w5 := fun h => h.kp (k5.wide (some g))
        have s6 : Y6 γ g w → Y6 γ g w5 := fun h => h.kp (k5.wide (some g))
        have s7 : Y7 Ag cg gs γ g w → Y7 Ag cg gs γ g w5 := fun h => h.kp (k5.wide (some g))
        have s10 : Y10 γ g w → Y10 γ g w5 := fun h => h.kp (k5.wide (some g))
        have s11 : Y11 Ap cp ps Ab cb bs γ g w → Y11 Ap cp ps Ab cb bs γ g w5 := fun h => h.kp (k5.wide (some g))
        refine hK _ _ { γ with b3 := w.heap.size } rfl (hB.kpN k5) ⟨hBn, hgb⟩ ?_
        try dsimp only [allP, List.getD_cons_zero, List.getD_cons_succ]
        (repeat' apply And.intro) <;> first | exact rfl | exact trivial | exact id | assumption
      · refine opOk_v hA (fun _ => rfl) (fun _ _ => trivial) ?_ ?_
        · intro n D γ w hn h
          replace hn : n < 15 := hn
          try dsimp only at h
          exact h.mono
        intro n D γ w hB hU K hK
        try dsimp only at hB
        try dsimp only
        clear hB hU
        go_step
        exact hK _ rfl
      · refine opOk_v hA (fun _ => rfl) (fun _ _ => trivial) ?_ ?_
        · intro n D γ w hn h
          replace hn : n < 15 := hn
          try dsimp only at h
          exact h.mono
        intro n D γ w hB hU K hK
        try dsimp only at hB
        try dsimp only
        clear hB hU
        go_step
        exact hK _ rfl
      · refine opOk_v hA (fun _ => rfl) (fun _ _ => trivial) ?_ ?_
        · intro n D γ w hn h
          replace hn : n < 15 := hn
          try dsimp only at h
          exact h.mono
        intro n D γ w hB hU K hK
        try dsimp only at hB
        try dsimp only
        clear hB hU
        go_step
        exact hK _ rfl
    case hend4_1 =>
      intro n D γ w hn hD hB hF
      replace hF := fun k (hk : k < 15) => hF k hk
      replace hF := (⟨hF 2 (by decide), hF 3 (by decide), hF 6 (by decide), hF 7 (by decide), hF 10 (by decide), hF 11 (by decide)⟩ : _ ∧ _ ∧ _ ∧ _ ∧ _ ∧ _)
      try dsimp only at hB
      try dsimp only at hF
      replace hn : n ≤ 15 := hn
      try dsimp only
      rename G13 => G
      obtain ⟨⟨k, hk, hR⟩, -, hKK, -⟩ := hB
      obtain ⟨hG2, hG3, hG6, hG7, hG10, hG11⟩ := hF
      have HY : YY A0 c0 ls Ag cg gs Ap cp ps Ab cb bs G g w := ⟨hG2, hG3, hG6, hG7, hG10, hG11⟩
      clear hG2 hG3 hG6 hG7 hG10 hG11 hD
      have hrk : k ≤ 1500 := by omega
      clear hk hn
      have hgw : W.heap.size ≤ g := Nat.le_of_lt hlg
      go_wp2_with fail
      refine wp_region_inv (Γ := H13) [none, none, none, none, none, none, none, none, none, none, none, none, none, none, none, none, none, none, none, some 18, some 19, none, none, none, none, none, none, none, none, none, none, none, none, none, none, none, none, none, none, none, none, none, none, none, none, some 0, some 1, some 2, some 3, some 4, some 5, some 6, some 7, some 8, some 9, some 10, some 11, some 12, some 13, some 14, some 15, some 16, some 17] [[], [], [], [2], [2, 3], [2, 3, 4], [2, 3, 4, 5], [1, 2, 3, 4, 5, 6], [0, 1, 2, 3, 4, 5, 6, 7], [], [], [], [11], [11, 12], [11, 12, 13], [11, 12, 13, 14], [1, 2, 3, 4, 5, 6, 7, 10, 11, 12, 13, 14, 15], [1, 2, 3, 4, 5, 6, 7, 9, 10, 11, 12, 13, 14, 15, 16], [0, 1, 2, 3, 4, 5, 6, 7, 8, 10, 11, 12, 13, 14, 15, 16], [0, 1, 2, 3, 4, 5, 6, 7, 8, 9, 10, 11, 12, 13, 14, 15, 16, 17, 18]] [[1, 2, 3, 4, 5, 6, 7, 9, 10, 11, 12, 13, 14, 15, 16, 17], [0, 2, 3, 4, 5, 6, 9, 10, 11, 12, 13, 14, 15], [0, 1, 9, 10, 11, 12, 13, 14, 15], [0, 1, 2, 9, 10, 11, 12, 13, 14, 15], [0, 1, 2, 3, 9, 10, 11, 12, 13, 14, 15], [0, 1, 2, 3, 4, 9, 10, 11, 12, 13, 14, 15], [0, 1, 2, 3, 4, 5, 9, 10, 11, 12, 13, 14, 15], [0, 1, 2, 3, 4, 5, 6, 9, 10, 11, 12, 13, 14, 15], [0, 1, 2, 3, 4, 5, 6, 7, 9, 10, 11, 12, 13, 14, 15, 16, 17], [0, 1, 2, 3, 4, 5, 6, 7, 8, 10, 11, 12, 13, 14, 15, 16, 18], [0, 1, 2, 3, 4, 5, 6, 7, 8, 9, 11, 12, 13, 14, 15], [0, 1, 2, 3, 4, 5, 6, 7, 8, 9, 10], [0, 1, 2, 3, 4, 5, 6, 7, 8, 9, 10, 11], [0, 1, 2, 3, 4, 5, 6, 7, 8, 9, 10, 11, 12], [0, 1, 2, 3, 4, 5, 6, 7, 8, 9, 10, 11, 12, 13], [0, 1, 2, 3, 4, 5, 6, 7, 8, 9, 10, 11, 12, 13, 14], [0, 1, 2, 3, 4, 5, 6, 7, 8, 9, 10, 11, 12, 13, 14, 15], [0, 1, 2, 3, 4, 5, 6, 7, 8, 9, 10, 11, 12, 13, 14, 15, 16, 18], [0, 1, 2, 3, 4, 5, 6, 7, 8, 9, 10, 11, 12, 13, 14, 15, 16, 17], [0, 1, 2, 3, 4, 5, 6, 7, 8, 9, 10, 11, 12, 13, 14, 15, 16, 17, 18]] (fun γ => [.int .i64 la0, .pointer (some ⟨g, 0, none⟩), .slice (some ⟨G.b1, 0, none⟩) 2 2, .pointer (some ⟨G.b1, 1, none⟩), .slice G.A1 G.l2.length G.c1, .int .i64 G.l2.length, .int .i64 (G.l2.length + 1), .int .i64 γ.x, .slice (some ⟨γ.b4, 0, none⟩) 2 2, .int .i64 at0, .pointer (some ⟨g, 0, none⟩), .slice (some ⟨G.b3, 0, none⟩) 2 2, .pointer (some ⟨G.b3, 2, none⟩), .pointer (some ⟨G.b3, 2, none⟩), .slice G.A3 G.ps2.length G.c3, .int .i64 G.ps2.length, .int .i64 γ.y, .slice (some ⟨γ.b5, 0, none⟩) 2 2, .slice (some ⟨γ.b4, 0, none⟩) 2 2, .slice (some ⟨γ.b5, 0, none⟩) 2 2]) (fun γ => [none, none, none, none, none, none, none, none, none, none, none, none, none, none, none, none, none, none, none, some (.slice (some ⟨γ.b4, 0, none⟩) 2 2), some (.slice (some ⟨γ.b5, 0, none⟩) 2 2), none, none, none, none, none, none, none, none, none, none, none, none, none, none, none, none, none, none, none, none, none, none, none, none, some (.int .i64 la0), some (.pointer (some ⟨g, 0, none⟩)), some (.slice (some ⟨G.b1, 0, none⟩) 2 2), some (.pointer (some ⟨G.b1, 1, none⟩)), some (.slice G.A1 G.l2.length G.c1), some (.int .i64 G.l2.length), some (.int .i64 (G.l2.length + 1)), some (.int .i64 γ.x), some (.slice (some ⟨γ.b4, 0, none⟩) 2 2), some (.int .i64 at0), some (.pointer (some ⟨g, 0, none⟩)), some (.slice (some ⟨G.b3, 0, none⟩) 2 2), some (.pointer (some ⟨G.b3, 2, none⟩)), some (.pointer (some ⟨G.b3, 2, none⟩)), some (.slice G.A3 G.ps2.length G.c3), some (.int .i64 G.ps2.length), some (.int .i64 γ.y), some (.slice (some ⟨γ.b5, 0, none⟩) 2 2)]) ?A5_2 (fun n D γ w => (∃ k, k ≤ 1500 + 100 * n ∧ RingAt w g nums k) ∧ YY A0 c0 ls Ag cg gs Ap cp ps Ab cb bs G g w ∧ Kp W.heap.size none W w) (fun k γ w => match k with | 8 => Blk w γ.b4 3 #[.int .i64 la0, .int .i64 γ.x] ∧ g < γ.b4 | 17 => Blk w γ.b5 3 #[.int .i64 at0, .int .i64 γ.y] ∧ g < γ.b5 | _ => True) ⟨0, 0, 0, 0⟩ (by kernel_rfl) (fun _ => rfl) ?hA5_2 (by kernel_rfl) ?hB05_2 ?hop5_2 ?hend5_2
      case hA5_2 => intro γ; dsimp only [fullV]; rfl
      case hB05_2 =>
        exact ⟨⟨k, by omega, hR.drew⟩, HY.drew, hKK.drew⟩
      case hop5_2 =>
        intro hA
        refine ⟨?_, ?_, ?_, ?_, ?_, ?_, ?_, ?_, ?_, ?_, ?_, ?_, ?_, ?_, ?_, ?_, ?_, ?_, ?_, ?_, trivial⟩
        · refine opOk_v hA (fun _ => rfl) (fun _ _ => trivial) ?_ ?_
          · intro n D γ w hn h
            replace hn : n < 20 := hn
            try dsimp only at h
            obtain ⟨⟨k, hk, h1⟩, h2⟩ := h
            exact ⟨⟨k, by omega, h1⟩, h2⟩
          intro n D γ w hB hU K hK
          try dsimp only at hB
          try dsimp only
          clear hB hU
          go_step
          exact hK _ rfl
        · refine opOk_v hA (fun _ => rfl) (fun _ _ => trivial) ?_ ?_
          · intro n D γ w hn h
            replace hn : n < 20 := hn
            try dsimp only at h
            obtain ⟨⟨k, hk, h1⟩, h2⟩ := h
            exact ⟨⟨k, by omega, h1⟩, h2⟩
          intro n D γ w hB hU K hK
          try dsimp only at hB
          try dsimp only
          clear hB hU
          go_step
          exact hK _ rfl
        · refine opOk_v hA (fun _ => rfl) (fun _ _ => trivial) ?_ ?_
          · intro n D γ w hn h
            replace hn : n < 20 := hn
            try dsimp only at h
            obtain ⟨⟨k, hk, h1⟩, h2⟩ := h
            exact ⟨⟨k, by omega, h1⟩, h2⟩
          intro n D γ w hB hU K hK
          try dsimp only at hB
          try dsimp only
          clear hB hU
          go_step
          exact hK _ rfl
        · refine opOk_v hA (fun _ => rfl) (fun _ _ => trivial) ?_ ?_
          · intro n D γ w hn h
            replace hn : n < 20 := hn
            try dsimp only at h
            obtain ⟨⟨k, hk, h1⟩, h2⟩ := h
            exact ⟨⟨k, by omega, h1⟩, h2⟩
          intro n D γ w hB hU K hK
          try dsimp only at hB
          try dsimp only
          clear hB hU
          go_step
          exact hK _ rfl
        · refine opOk_v hA (fun _ => rfl) (fun _ _ => trivial) ?_ ?_
          · intro n D γ w hn h
            replace hn : n < 20 := hn
            try dsimp only at h
            obtain ⟨⟨k, hk, h1⟩, h2⟩ := h
            exact ⟨⟨k, by omega, h1⟩, h2⟩
          intro n D γ w hB hU K hK
          try dsimp only at hB
          try dsimp only
          have c1 := fun i => hB.2.1.y3.1.cell i
          have c2 := fun i => hB.2.1.y11.1.cell i
          clear hB hU
          go_step
          exact hK _ rfl
        · refine opOk_v hA (fun _ => rfl) (fun _ _ => trivial) ?_ ?_
          · intro n D γ w hn h
            replace hn : n < 20 := hn
            try dsimp only at h
            obtain ⟨⟨k, hk, h1⟩, h2⟩ := h
            exact ⟨⟨k, by omega, h1⟩, h2⟩
          intro n D γ w hB hU K hK
          try dsimp only at hB
          try dsimp only
          clear hB hU
          go_step
          exact hK _ rfl
        · refine opOk_l hA (fun _ => rfl) ?_
          intro n D γ w hn hD hB hU K hK
          try dsimp only at hB
          clear hU
          replace hn : n < 20 := hn
          try dsimp only
          have hq : (G.l2.length : Int) ≤ 6 := by have := hB.2.1.y2.2; omega
          go_step
          refine hK _ _ γ rfl ⟨by obtain ⟨k, hk, h1⟩ := hB.1; exact ⟨k, by omega, h1⟩, hB.2⟩ trivial ?_
          try dsimp only [allP, List.getD_cons_zero, List.getD_cons_succ]
          (repeat' apply And.intro) <;> first | exact rfl | exact trivial | exact id | assumption
        · refine opOk_l hA (fun _ => rfl) ?_
          intro n D γ w hn hD hB hU K hK
          try dsimp only at hB
          clear hU
          replace hn : n < 20 := hn
          try dsimp only
          obtain ⟨⟨k, hk, hR⟩, hY, hKK⟩ := hB
          have hq := hY.y2.2
          go_step
          refine (next_any g nums k _ _ hR (by omega) (by omega) (by omega)).mono ?_
          rintro e w5 ⟨v, rfl, ⟨x, rfl, -, -⟩, hR5, k5⟩
          refine hK _ _ { γ with x := x } rfl ⟨⟨k + 1, by omega, hR5⟩, hY.kp k5, hKK.thenOwn k5 (Nat.le_refl _) hgw⟩ trivial ?_
          try dsimp only [allP, List.getD_cons_zero, List.getD_cons_succ]
          (repeat' apply And.intro) <;> first | exact rfl | exact trivial | exact id | assumption
        · refine opOk_l hA (fun _ => rfl) ?_
          intro n D γ w hn hD hB hU K hK
          try dsimp only at hB
          clear hU
          replace hn : n < 20 := hn
          try dsimp only
          go_step
          obtain ⟨w5, hw5⟩ : ∃ w5, w5 = w.alloc (.cells #[.int .i64 la0, .int .i64 γ.x] 3) := ⟨_, rfl⟩
          have k5 : Kp w.heap.size none w w5 := hw5 ▸ (Kp.refl w.heap.size none w).alloc (Nat.le_refl _) _
          have hBn : Blk w5 w.heap.size 3 #[.int .i64 la0, .int .i64 γ.x] := hw5 ▸ Blk.new _ _ _
          have hgb : g < w.heap.size := by obtain ⟨q, _, hr⟩ := hB.1; exact hr.lt
          change K _ (w.alloc (.cells #[.int .i64 la0, .int .i64 γ.x] 3))
          rw [← hw5]
          have s8 : Blk w γ.b4 3 #[.int .i64 la0, .int .i64 γ.x] ∧ g < γ.b4 → Blk w5 γ.b4 3 #[.int .i64 la0, .int .i64 γ.x] ∧ g < γ.b4 := fun h => ⟨h.1.kpN k5, h.2⟩
          have s17 : Blk w γ.b5 3 #[.int .i64 at0, .int .i64 γ.y] ∧ g < γ.b5 → Blk w5 γ.b5 3 #[.int .i64 at0, .int .i64 γ.y] ∧ g < γ.b5 := fun h => ⟨h.1.kpN k5, h.2⟩
          refine hK _ _ { γ with b4 := w.heap.size } rfl ⟨by obtain ⟨k, hk, h1⟩ := hB.1; exact ⟨k, by omega, h1.kpN k5⟩, hB.2.1.kp (k5.wide (some g)), hB.2.2.thenN k5 (Nat.le_refl _)⟩ ⟨hBn, hgb⟩ ?_
          try dsimp only [allP, List.getD_cons_zero, List.getD_cons_succ]
          (repeat' apply And.intro) <;> first | exact rfl | exact trivial | exact id | assumption
        · refine opOk_v hA (fun _ => rfl) (fun _ _ => trivial) ?_ ?_
          · intro n D γ w hn h
            replace hn : n < 20 := hn
            try dsimp only at h
            obtain ⟨⟨k, hk, h1⟩, h2⟩ := h
            exact ⟨⟨k, by omega, h1⟩, h2⟩
          intro n D γ w hB hU K hK
          try dsimp only at hB
          try dsimp only
          clear hB hU
          go_step
          exact hK _ rfl
        · refine opOk_v hA (fun _ => rfl) (fun _ _ => trivial) ?_ ?_
          · intro n D γ w hn h
            replace hn : n < 20 := hn
            try dsimp only at h
            obtain ⟨⟨k, hk, h1⟩, h2⟩ := h
            exact ⟨⟨k, by omega, h1⟩, h2⟩
          intro n D γ w hB hU K hK
          try dsimp only at hB
          try dsimp only
          clear hB hU
          go_step
          exact hK _ rfl
        · refine opOk_v hA (fun _ => rfl) (fun _ _ => trivial) ?_ ?_
          · intro n D γ w hn h
            replace hn : n < 20 := hn
            try dsimp only at h
            obtain ⟨⟨k, hk, h1⟩, h2⟩ := h
            exact ⟨⟨k, by omega, h1⟩, h2⟩
          intro n D γ w hB hU K hK
          try dsimp only at hB
          try dsimp only
          clear hB hU
          go_step
          exact hK _ rfl
        · refine opOk_v hA (fun _ => rfl) (fun _ _ => trivial) ?_ ?_
          · intro n D γ w hn h
            replace hn : n < 20 := hn
            try dsimp only at h
            obtain ⟨⟨k, hk, h1⟩, h2⟩ := h
            exact ⟨⟨k, by omega, h1⟩, h2⟩
          intro n D γ w hB hU K hK
          try dsimp only at hB
          try dsimp only
          clear hB hU
          go_step
          exact hK _ rfl
        · refine opOk_v hA (fun _ => rfl) (fun _ _ => trivial) ?_ ?_
          · intro n D γ w hn h
            replace hn : n < 20 := hn
            try dsimp only at h
            obtain ⟨⟨k, hk, h1⟩, h2⟩ := h
            exact ⟨⟨k, by omega, h1⟩, h2⟩
          intro n D γ w hB hU K hK
          try dsimp only at hB
          try dsimp only
          clear hB hU
          go_step
          exact hK _ rfl
        · refine opOk_v hA (fun _ => rfl) (fun _ _ => trivial) ?_ ?_
          · intro n D γ w hn h
            replace hn : n < 20 := hn
            try dsimp only at h
            obtain ⟨⟨k, hk, h1⟩, h2⟩ := h
            exact ⟨⟨k, by omega, h1⟩, h2⟩
          intro n D γ w hB hU K hK
          try dsimp only at hB
          try dsimp only
          have c1 := fun i => hB.2.1.y3.1.cell i
          have c2 := fun i => hB.2.1.y11.1.cell i
          clear hB hU
          go_step
          exact hK _ rfl
        · refine opOk_v hA (fun _ => rfl) (fun _ _ => trivial) ?_ ?_
          · intro n D γ w hn h
            replace hn : n < 20 := hn
            try dsimp only at h
            obtain ⟨⟨k, hk, h1⟩, h2⟩ := h
            exact ⟨⟨k, by omega, h1⟩, h2⟩
          intro n D γ w hB hU K hK
          try dsimp only at hB
          try dsimp only
          clear hB hU
          go_step
          exact hK _ rfl
        · refine opOk_l hA (fun _ => rfl) ?_
          intro n D γ w hn hD hB hU K hK
          try dsimp only at hB
          clear hU
          replace hn : n < 20 := hn
          try dsimp only
          obtain ⟨⟨k, hk, hR⟩, hY, hKK⟩ := hB
          have hq := hY.y10.2.2.1
          have hq2 := hY.y10.2.2.2.1
          go_step
          refine (next_any g nums k _ _ hR (by omega) (by omega) (by omega)).mono ?_
          rintro e w5 ⟨v, rfl, ⟨y, rfl, -, -⟩, hR5, k5⟩
          have s8 : Blk w γ.b4 3 #[.int .i64 la0, .int .i64 γ.x] ∧ g < γ.b4 → Blk w5 γ.b4 3 #[.int .i64 la0, .int .i64 γ.x] ∧ g < γ.b4 := fun h => ⟨h.1.kp k5 h.1.lt (sne (Nat.ne_of_gt h.2)), h.2⟩
          refine hK _ _ { γ with y := y } rfl ⟨⟨k + 1, by omega, hR5⟩, hY.kp k5, hKK.thenOwn k5 (Nat.le_refl _) hgw⟩ trivial ?_
          try dsimp only [allP, List.getD_cons_zero, List.getD_cons_succ]
          (repeat' apply And.intro) <;> first | exact rfl | exact trivial | exact id | assumption
        · refine opOk_l hA (fun _ => rfl) ?_
          intro n D γ w hn hD hB hU K hK
          try dsimp only at hB
          clear hU
          replace hn : n < 20 := hn
          try dsimp only
          go_step
          obtain ⟨w5, hw5⟩ : ∃ w5, w5 = w.alloc (.cells #[.int .i64 at0, .int .i64 γ.y] 3) := ⟨_, rfl⟩
          have k5 : Kp w.heap.size none w w5 := hw5 ▸ (Kp.refl w.heap.size none w).alloc (Nat.le_refl _) _
          have hBn : Blk w5 w.heap.size 3 #[.int .i64 at0, .int .i64 γ.y] := hw5 ▸ Blk.new _ _ _
          have hgb : g < w.heap.size := by obtain ⟨q, _, hr⟩ := hB.1; exact hr.lt
          change K _ (w.alloc (.cells #[.int .i64 at0, .int .i64 γ.y] 3))
          rw [← hw5]
          have s8 : Blk w γ.b4 3 #[.int .i64 la0, .int .i64 γ.x] ∧ g < γ.b4 → Blk w5 γ.b4 3 #[.int .i64 la0, .int .i64 γ.x] ∧ g < γ.b4 := fun h => ⟨h.1.kpN k5, h.2⟩
          have s17 : Blk w γ.b5 3 #[.int .i64 at0, .int .i64 γ.y] ∧ g < γ.b5 → Blk w5 γ.b5 3 #[.int .i64 at0, .int .i64 γ.y] ∧ g < γ.b5 := fun h => ⟨h.1.kpN k5, h.2⟩
          refine hK _ _ { γ with b5 := w.heap.size } rfl ⟨by obtain ⟨k, hk, h1⟩ := hB.1; exact ⟨k, by omega, h1.kpN k5⟩, hB.2.1.kp (k5.wide (some g)), hB.2.2.thenN k5 (Nat.le_refl _)⟩ ⟨hBn, hgb⟩ ?_
          try dsimp only [allP, List.getD_cons_zero, List.getD_cons_succ]
          (repeat' apply And.intro) <;> first | exact rfl | exact trivial | exact id | assumption
        · refine opOk_v hA (fun _ => rfl) (fun _ _ => trivial) ?_ ?_
          · intro n D γ w hn h
            replace hn : n < 20 := hn
            try dsimp only at h
            obtain ⟨⟨k, hk, h1⟩, h2⟩ := h
            exact ⟨⟨k, by omega, h1⟩, h2⟩
          intro n D γ w hB hU K hK
          try dsimp only at hB
          try dsimp only
          clear hB hU
          go_step
          exact hK _ rfl
        · refine opOk_v hA (fun _ => rfl) (fun _ _ => trivial) ?_ ?_
          · intro n D γ w hn h
            replace hn : n < 20 := hn
            try dsimp only at h
            obtain ⟨⟨k, hk, h1⟩, h2⟩ := h
            exact ⟨⟨k, by omega, h1⟩, h2⟩
          intro n D γ w hB hU K hK
          try dsimp only at hB
          try dsimp only
          clear hB hU
          go_step
          exact hK _ rfl
      case hend5_2 =>
        intro n D γ w hn hD hB hF
        replace hF := fun k (hk : k < 20) => hF k hk
        replace hF := (⟨hF 8 (by decide), hF 17 (by decide)⟩ : _ ∧ _)
        try dsimp only at hB
        try dsimp only at hF
        replace hn : n ≤ 20 := hn
        try dsimp only
        obtain ⟨-, hY, hKK⟩ := hB
        obtain ⟨⟨B4, -⟩, ⟨B5, -⟩⟩ := hF
        obtain ⟨⟨G2, -⟩, ⟨B1, -⟩, G6, ⟨B2, -⟩, ⟨P3, Q3, -, -, hpc, -⟩, ⟨B3, -⟩⟩ := hY
        obtain ⟨A1, c1, l2, A2, c2, gs2, A3, c3, ps2, A4, c4, bs2, b1, b2, b3⟩ := G
        obtain ⟨x, y, b4, b5⟩ := γ
        dsimp only [Y6] at *
        replace G2 := Rd.free G2
        replace G6 := Rd.free G6
        replace P3 := Rd.free P3
        replace Q3 := Rd.free Q3
        have hA : ∀ i, i < 2 → ∃ (A : Option Addr) (c : Nat) (ll : List Layer), w.cell? ⟨b1, i, none⟩ = some (.slice A ll.length c) ∧ Rd none w 2 encLayer A ll.length ll := fun i hi => by
          rcases (show i = 0 ∨ i = 1 by omega) with rfl | rfl
          · exact ⟨A0, c0, ls, B1.cell 0, hls.kpN hKK⟩
          · exact ⟨A1, c1, l2, B1.cell 1, G2⟩
        have hG : ∀ i, i < 2 → ∃ (A : Option Addr) (c : Nat) (gg : List Grade), w.cell? ⟨b2, i, none⟩ = some (.slice A gg.length c) ∧ Rd none w 2 encGrade A gg.length gg := fun i hi => by
          rcases (show i = 0 ∨ i = 1 by omega) with rfl | rfl
          · exact ⟨Ag, cg, gs, B2.cell 0, hgs.kpN hKK⟩
          · exact ⟨A2, c2, gs2, B2.cell 1, G6⟩
        have hL : ∀ i, i < 2 → ∃ (A : Option Addr) (c : Nat) (pp : List Int) (A' : Option Addr) (c' : Nat) (bb : List Bool), w.cell? ⟨b3, i * 2, none⟩ = some (.slice A pp.length c) ∧ w.cell? ⟨b3, i * 2 + 1, none⟩ = some (.slice A' bb.length c') ∧ Rd none w 1 encI A pp.length pp ∧ Rd none w 1 encB A' bb.length bb ∧ pp.length ≤ c := fun i hi => by
          rcases (show i = 0 ∨ i = 1 by omega) with rfl | rfl
          · exact ⟨Ap, cp, ps, Ab, cb, bs, B3.cell 0, B3.cell 1, hps.kpN hKK, hbs.kpN hKK, hcp⟩
          · exact ⟨A3, c3, ps2, A4, c4, bs2, B3.cell 2, B3.cell 3, P3, Q3, hpc⟩
        have hI : ∀ i, i < 2 → ∃ n : Int, w.cell? ⟨b4, i, none⟩ = some (.int .i64 n) := fun i hi => by
          rcases (show i = 0 ∨ i = 1 by omega) with rfl | rfl
          · exact ⟨_, B4.cell 0⟩
          · exact ⟨_, B4.cell 1⟩
        have hJ : ∀ i, i < 2 → ∃ n : Int, w.cell? ⟨b5, i, none⟩ = some (.int .i64 n) := fun i hi => by
          rcases (show i = 0 ∨ i = 1 by omega) with rfl | rfl
          · exact ⟨_, B5.cell 0⟩
          · exact ⟨_, B5.cell 1⟩
        have l1 := B1.lt
        have l2' := B2.lt
        have l3 := B3.lt
        have l4 := B4.lt
        have l5 := B5.lt
        clear B1 B2 B3 B4 B5 G2 G6 P3 Q3 hls hgs hps hbs h hD hR HY
        go_wp2_with fail
        go_loopw [21] (fun v wr => TwoAt13 w v wr) (fun v _ => 2 - (intOf v).toNat)
        case atStart => exact ⟨0, rfl, by omega, Kp.refl _ _ _⟩
        case round =>
          obtain ⟨i, rfl, hi, KK⟩ := hrel
          by_cases h7 : i < 2
          · obtain ⟨Aa, ca, la, hca, hRa⟩ := hA i h7
            obtain ⟨Af, cf, gg, hcg, hRg⟩ := hG i h7
            obtain ⟨Al, cl, pp, Aw, cw, bb, hcl, hcw, hRl, hRw, hcl2⟩ := hL i h7
            obtain ⟨y9, hci⟩ := hI i h7
            obtain ⟨a9, hcc⟩ := hJ i h7
            have m1 : b1 < w.heap.size := l1
            have m2 : b2 < w.heap.size := l2'
            have m3 : b3 < w.heap.size := l3
            have m4 : b4 < w.heap.size := l4
            have m5 : b5 < w.heap.size := l5
            replace hca := (KK.cell b1 i m1 (by simp)).trans hca
            replace hcg := (KK.cell b2 i m2 (by simp)).trans hcg
            replace hcl := (KK.cell b3 (i * 2) m3 (by simp)).trans hcl
            replace hcw := (KK.cell b3 (i * 2 + 1) m3 (by simp)).trans hcw
            replace hci := (KK.cell b4 i m4 (by simp)).trans hci
            replace hcc := (KK.cell b5 i m5 (by simp)).trans hcc
            replace m1 := Nat.lt_of_lt_of_le m1 KK.size
            replace m2 := Nat.lt_of_lt_of_le m2 KK.size
            replace m3 := Nat.lt_of_lt_of_le m3 KK.size
            replace m4 := Nat.lt_of_lt_of_le m4 KK.size
            replace m5 := Nat.lt_of_lt_of_le m5 KK.size
            replace hRa := hRa.kpN KK
            replace hRg := hRg.kpN KK
            replace hRl := hRl.kpN KK
            replace hRw := hRw.kpN KK
            have h7' : (i : Int) < 2 := by omega
            clear hA hG hL hI hJ
            go_wp2_with fail
            replace hca : wr.drew.cell? _ = _ := hca
            replace hcg : wr.drew.cell? _ = _ := hcg
            replace hcl : wr.drew.cell? _ = _ := hcl
            replace hcw : wr.drew.cell? _ = _ := hcw
            replace hci : wr.drew.cell? _ = _ := hci
            replace hcc : wr.drew.cell? _ = _ := hcc
            replace hRa := hRa.drew
            replace hRg := hRg.drew
            replace hRl := hRl.drew
            replace hRw := hRw.drew
            replace KK := KK.drew
            replace m1 : _ < wr.drew.heap.size := m1
            replace m2 : _ < wr.drew.heap.size := m2
            replace m3 : _ < wr.drew.heap.size := m3
            replace m4 : _ < wr.drew.heap.size := m4
            replace m5 : _ < wr.drew.heap.size := m5
            obtain ⟨S, hS⟩ : ∃ S : Nat → World → Prop, S = fun _ w' => w'.cell? ⟨b1, i, none⟩ = some (.slice Aa la.length ca) ∧ w'.cell? ⟨b2, i, none⟩ = some (.slice Af gg.length cf) ∧ w'.cell? ⟨b3, i * 2, none⟩ = some (.slice Al pp.length cl) ∧ w'.cell? ⟨b3, i * 2 + 1, none⟩ = some (.slice Aw bb.length cw) ∧ w'.cell? ⟨b4, i, none⟩ = some (.int .i64 y9) ∧ w'.cell? ⟨b5, i, none⟩ = some (.int .i64 a9) := ⟨_, rfl⟩
            have hS0 : ∀ w', S 0 w' ↔ (w'.cell? ⟨b1, i, none⟩ = some (.slice Aa la.length ca) ∧ w'.cell? ⟨b2, i, none⟩ = some (.slice Af gg.length cf) ∧ w'.cell? ⟨b3, i * 2, none⟩ = some (.slice Al pp.length cl) ∧ w'.cell? ⟨b3, i * 2 + 1, none⟩ = some (.slice Aw bb.length cw) ∧ w'.cell? ⟨b4, i, none⟩ = some (.int .i64 y9) ∧ w'.cell? ⟨b5, i, none⟩ = some (.int .i64 a9)) := fun w' => by rw [hS]
            clear hS
            have cA : ∀ q : Ev (S 0), q.w.cell? ⟨b1, i, none⟩ = some (.slice Aa la.length ca) := fun q => ((hS0 _).1 q.h).1
            have cB : ∀ q : Ev (S 0), q.w.cell? ⟨b2, i, none⟩ = some (.slice Af gg.length cf) := fun q => ((hS0 _).1 q.h).2.1
            have cC : ∀ q : Ev (S 0), q.w.cell? ⟨b3, i * 2, none⟩ = some (.slice Al pp.length cl) := fun q => ((hS0 _).1 q.h).2.2.1
            have cD : ∀ q : Ev (S 0), q.w.cell? ⟨b3, i * 2 + 1, none⟩ = some (.slice Aw bb.length cw) := fun q => ((hS0 _).1 q.h).2.2.2.1
            have cE : ∀ q : Ev (S 0), q.w.cell? ⟨b4, i, none⟩ = some (.int .i64 y9) := fun q => ((hS0 _).1 q.h).2.2.2.2.1
            have cF : ∀ q : Ev (S 0), q.w.cell? ⟨b5, i, none⟩ = some (.int .i64 a9) := fun q => ((hS0 _).1 q.h).2.2.2.2.2
            have hevT := ev_true
            refine wp_region_ord S [(0, 0), (1, 0), (2, 0), (3, 1), (4, 0), (5, 0), (6, 0), (7, 1), (8, 0), (9, 0), (10, 0), (11, 1), (12, 0), (13, 0), (14, 0), (15, 1), (16, 0), (17, 0), (18, 0), (19, 0), (20, 1), (21, 2), (22, 0), (23, 0), (24, 0), (25, 0), (26, 0)] [] (by kernel_rfl) (by kernel_rfl) ((hS0 _).2 ⟨hca, hcg, hcl, hcw, hci, hcc⟩) ?_
            intro _hev
            iterate 21 (first | (refine wpOrd_v rfl rfl ?_; intro K hK; go_big_quiet_op; go_big_quiet_on) | (refine wpOrd_q rfl rfl ?_; intro K hK; go_big_quiet_op; go_big_quiet_on) | refine wpOrd_s (by decide) rfl rfl ?_)
            refine wpOrd_l rfl rfl ?_; intro K hK
            go_step
            refine (blast_Harms_any Aa ca la Af cf gg Al Aw cl cw pp bb y9 en a9 _ hRa hRg hRl hRw hcl2).mono ?_
            rintro e w9 ⟨⟨v1, n1, rfl, hn1⟩, k9⟩
            replace hca := (k9.cell b1 i m1 (by simp)).trans hca
            replace hcg := (k9.cell b2 i m2 (by simp)).trans hcg
            replace hcl := (k9.cell b3 (i * 2) m3 (by simp)).trans hcl
            replace hcw := (k9.cell b3 (i * 2 + 1) m3 (by simp)).trans hcw
            replace hci := (k9.cell b4 i m4 (by simp)).trans hci
            replace hcc := (k9.cell b5 i m5 (by simp)).trans hcc
            replace m1 := Nat.lt_of_lt_of_le m1 k9.size
            replace m2 := Nat.lt_of_lt_of_le m2 k9.size
            replace m3 := Nat.lt_of_lt_of_le m3 k9.size
            replace m4 := Nat.lt_of_lt_of_le m4 k9.size
            replace m5 := Nat.lt_of_lt_of_le m5 k9.size
            replace hRa := hRa.kpN k9
            replace hRg := hRg.kpN k9
            replace hRl := hRl.kpN k9
            replace hRw := hRw.kpN k9
            replace KK := KK.thenN k9 (Nat.le_refl _)
            refine hK _ _ ((hS0 _).2 ⟨hca, hcg, hcl, hcw, hci, hcc⟩) ?_
            clear hK K k9
            iterate 5 (first | (refine wpOrd_v rfl rfl ?_; intro K hK; go_big_quiet_op; go_big_quiet_on) | (refine wpOrd_q rfl rfl ?_; intro K hK; go_big_quiet_op; go_big_quiet_on) | refine wpOrd_s (by decide) rfl rfl ?_)
            refine wpOrd_nil ?_
            clear hevT _hev
            clear cA cB cC cD cE cF hS0 S
            go_wp2_with fail
            replace hca : w9.drew.cell? _ = _ := hca
            replace hcg : w9.drew.cell? _ = _ := hcg
            replace hcl : w9.drew.cell? _ = _ := hcl
            replace hcw : w9.drew.cell? _ = _ := hcw
            replace hci : w9.drew.cell? _ = _ := hci
            replace hcc : w9.drew.cell? _ = _ := hcc
            replace hRa := hRa.drew
            replace hRg := hRg.drew
            replace hRl := hRl.drew
            replace hRw := hRw.drew
            replace KK := KK.drew
            replace m1 : _ < w9.drew.heap.size := m1
            replace m2 : _ < w9.drew.heap.size := m2
            replace m3 : _ < w9.drew.heap.size := m3
            replace m4 : _ < w9.drew.heap.size := m4
            replace m5 : _ < w9.drew.heap.size := m5
            obtain ⟨S, hS⟩ : ∃ S : Nat → World → Prop, S = fun _ w' => w'.cell? ⟨b1, i, none⟩ = some (.slice Aa la.length ca) ∧ w'.cell? ⟨b2, i, none⟩ = some (.slice Af gg.length cf) ∧ w'.cell? ⟨b3, i * 2, none⟩ = some (.slice Al pp.length cl) ∧ w'.cell? ⟨b3, i * 2 + 1, none⟩ = some (.slice Aw bb.length cw) ∧ w'.cell? ⟨b4, i, none⟩ = some (.int .i64 y9) ∧ w'.cell? ⟨b5, i, none⟩ = some (.int .i64 a9) := ⟨_, rfl⟩
            have hS0 : ∀ w', S 0 w' ↔ (w'.cell? ⟨b1, i, none⟩ = some (.slice Aa la.length ca) ∧ w'.cell? ⟨b2, i, none⟩ = some (.slice Af gg.length cf) ∧ w'.cell? ⟨b3, i * 2, none⟩ = some (.slice Al pp.length cl) ∧ w'.cell? ⟨b3, i * 2 + 1, none⟩ = some (.slice Aw bb.length cw) ∧ w'.cell? ⟨b4, i, none⟩ = some (.int .i64 y9) ∧ w'.cell? ⟨b5, i, none⟩ = some (.int .i64 a9)) := fun w' => by rw [hS]
            clear hS
            have cA : ∀ q : Ev (S 0), q.w.cell? ⟨b1, i, none⟩ = some (.slice Aa la.length ca) := fun q => ((hS0 _).1 q.h).1
            have cB : ∀ q : Ev (S 0), q.w.cell? ⟨b2, i, none⟩ = some (.slice Af gg.length cf) := fun q => ((hS0 _).1 q.h).2.1
            have cC : ∀ q : Ev (S 0), q.w.cell? ⟨b3, i * 2, none⟩ = some (.slice Al pp.length cl) := fun q => ((hS0 _).1 q.h).2.2.1
            have cD : ∀ q : Ev (S 0), q.w.cell? ⟨b3, i * 2 + 1, none⟩ = some (.slice Aw bb.length cw) := fun q => ((hS0 _).1 q.h).2.2.2.1
            have cE : ∀ q : Ev (S 0), q.w.cell? ⟨b4, i, none⟩ = some (.int .i64 y9) := fun q => ((hS0 _).1 q.h).2.2.2.2.1
            have cF : ∀ q : Ev (S 0), q.w.cell? ⟨b5, i, none⟩ = some (.int .i64 a9) := fun q => ((hS0 _).1 q.h).2.2.2.2.2
            have hevT := ev_true
            refine wp_region_ord S [(0, 0), (1, 0), (2, 0), (3, 1), (4, 0), (5, 0), (6, 0), (7, 1), (8, 0), (9, 0), (10, 0), (11, 1), (12, 0), (13, 0), (14, 0), (15, 1), (16, 0), (17, 0), (18, 0), (19, 0), (20, 1), (21, 2), (22, 0), (23, 0), (24, 0), (25, 0), (26, 0)] [] (by kernel_rfl) (by kernel_rfl) ((hS0 _).2 ⟨hca, hcg, hcl, hcw, hci, hcc⟩) ?_
            intro _hev
            iterate 21 (first | (refine wpOrd_v rfl rfl ?_; intro K hK; go_big_quiet_op; go_big_quiet_on) | (refine wpOrd_q rfl rfl ?_; intro K hK; go_big_quiet_op; go_big_quiet_on) | refine wpOrd_s (by decide) rfl rfl ?_)
            refine wpOrd_l rfl rfl ?_; intro K hK
            go_step
            refine (ref_Harms_any Aa ca la Af cf gg Al Aw cl cw pp bb y9 en a9 _ hRa hRg hRl hRw).mono ?_
            rintro e w9 ⟨⟨v2, n2, rfl, hn2⟩, k9⟩
            obtain ⟨e1, e2⟩ := harmsIs_one hn2 hn1
            subst e1 e2
            clear hn1 hn2
            replace hca := (k9.cell b1 i m1 (by simp)).trans hca
            replace hcg := (k9.cell b2 i m2 (by simp)).trans hcg
            replace hcl := (k9.cell b3 (i * 2) m3 (by simp)).trans hcl
            replace hcw := (k9.cell b3 (i * 2 + 1) m3 (by simp)).trans hcw
            replace hci := (k9.cell b4 i m4 (by simp)).trans hci
            replace hcc := (k9.cell b5 i m5 (by simp)).trans hcc
            replace m1 := Nat.lt_of_lt_of_le m1 k9.size
            replace m2 := Nat.lt_of_lt_of_le m2 k9.size
            replace m3 := Nat.lt_of_lt_of_le m3 k9.size
            replace m4 := Nat.lt_of_lt_of_le m4 k9.size
            replace m5 := Nat.lt_of_lt_of_le m5 k9.size
            replace hRa := hRa.kpN k9
            replace hRg := hRg.kpN k9
            replace hRl := hRl.kpN k9
            replace hRw := hRw.kpN k9
            replace KK := KK.thenN k9 (Nat.le_refl _)
            refine hK _ _ ((hS0 _).2 ⟨hca, hcg, hcl, hcw, hci, hcc⟩) ?_
            clear hK K k9
            iterate 5 (first | (refine wpOrd_v rfl rfl ?_; intro K hK; go_big_quiet_op; go_big_quiet_on) | (refine wpOrd_q rfl rfl ?_; intro K hK; go_big_quiet_op; go_big_quiet_on) | refine wpOrd_s (by decide) rfl rfl ?_)
            refine wpOrd_nil ?_
            clear hevT _hev
            clear cA cB cC cD cE cF hS0 S
            go_wp2
            go_roundw
            case rel => exact ⟨i + 1, rfl, by omega, KK⟩
            case measure => simp [intOf]; omega
          · have h7' : ¬ (i : Int) < 2 := by omega
            have hb9 : Bnd wr := (hb.kpN hKK).kpN KK
            go_wp2_with fail
            refine (awake_any _ hb9).mono ?_
            rintro e w11 ⟨rfl, k11⟩
            have K11 := (hKK.thenN KK (Nat.le_refl _)).thenN k11 (Nat.le_refl _)
            go_wp2
            exact bodyPost_ret (v := .bool true) (by simp [results, Tryd.results10, go_sem]) rfl ⟨rfl, K11⟩
end Go.Proofs.YtdiigflbohbndaaDoor
