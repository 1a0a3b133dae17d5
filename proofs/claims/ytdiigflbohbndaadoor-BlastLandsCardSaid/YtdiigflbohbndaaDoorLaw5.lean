/- The statement on lands: its walk. -/
import Derived.Test.YtdiigflbohbndaaDoorLaw1
import Derived.Test.YtdiigflbohbndaaDoorInv
import Derived.Test.YtdiigflbohbndaaDoorRefLand3
namespace Go.Proofs.YtdiigflbohbndaaDoor
open Go.RowKit

theorem RPostB.ex {g : Nat} {nums : List Int} {kmax : Nat} {w w' : World} {V : Value → World → Prop} {e : Ending} (h : RPostB g nums kmax w V e w') : ∃ v k', e = .returned v ∧ V v w' ∧ k' ≤ kmax ∧ RingAt w' g nums k' ∧ Kp w.heap.size (some g) w w' := h
structure G5 where
  A1 : Option Addr
  c1 : Nat
  gs2 : List Grade
  A2 : Option Addr
  c2 : Nat
  ps2 : List Int
  A3 : Option Addr
  c3 : Nat
  bs2 : List Bool
  b1 : Nat
  b2 : Nat
def F3 (A0 : Option Addr) (c0 : Nat) (gs : List Grade) (γ : G5) (g : Nat) (w : World) : Prop := Blk w γ.b1 49 #[.slice A0 gs.length c0, .slice γ.A1 γ.gs2.length γ.c1] ∧ g < γ.b1
def F6 (γ : G5) (g : Nat) (w : World) : Prop := Rd (some g) w 1 encI γ.A2 γ.ps2.length γ.ps2 ∧ Rd (some g) w 1 encB γ.A3 γ.bs2.length γ.bs2 ∧ 1 ≤ γ.ps2.length ∧ γ.ps2.length ≤ 16 ∧ γ.ps2.length ≤ γ.c2 ∧ γ.bs2.length = γ.ps2.length
def F7 (Ap : Option Addr) (cp : Nat) (ps : List Int) (Ab : Option Addr) (cb : Nat) (bs : List Bool) (γ : G5) (g : Nat) (w : World) : Prop := Blk w γ.b2 54 #[.slice Ap ps.length cp, .slice Ab bs.length cb, .slice γ.A2 γ.ps2.length γ.c2, .slice γ.A3 γ.bs2.length γ.c3] ∧ g < γ.b2
def TwoAt (w : World) (v : Value) (wr : World) : Prop := ∃ i : Nat, v = .int .i64 i ∧ i ≤ 2 ∧ Kp w.heap.size none w wr
theorem wave_one {p q : Prop} {n m v : Int} (h : (p ∧ q ∧ n = v) ∨ (¬ (p ∧ q) ∧ n = 0)) (k : (p ∧ q ∧ m = v) ∨ (¬ (p ∧ q) ∧ m = 0)) : n = m := by
  rcases h with ⟨h1, h2, rfl⟩ | ⟨h1, rfl⟩ <;> rcases k with ⟨k1, k2, rfl⟩ | ⟨k1, rfl⟩
  · rfl
  · exact absurd ⟨h1, h2⟩ k1
  · exact absurd ⟨k1, k2⟩ h1
  · rfl
theorem either_one5 {p : Prop} {n m v : Int} (h : (p ∧ n = v) ∨ (¬ p ∧ n = 0)) (k : (p ∧ m = v) ∨ (¬ p ∧ m = 0)) : n = m := by
  rcases h with ⟨h1, rfl⟩ | ⟨h1, rfl⟩ <;> rcases k with ⟨k1, rfl⟩ | ⟨k1, rfl⟩
  · rfl
  · exact absurd h1 k1
  · exact absurd k1 h1
  · rfl
set_option maxRecDepth 100000 in
set_option maxHeartbeats 4000000 in
theorem law_BlastLands_any (A0 : Option Addr) (c0 : Nat) (gs : List Grade) (Ap : Option Addr) (cp : Nat) (ps : List Int) (Ab : Option Addr) (cb : Nat) (bs : List Bool) (en at0 re : Int) (A5 : Option Addr) (c5 : Nat) (nums : List Int) (W : World)
    (hgs : Rd none W 2 encGrade A0 gs.length gs) (hps : Rd none W 1 encI Ap ps.length ps) (hbs : Rd none W 1 encB Ab bs.length bs) (hcp : ps.length ≤ cp) (hen : en < 9223372036854775808)
    (h : Rd none W 1 (fun x => [Value.int .i64 x]) A5 nums.length nums) (hn : nums.length ≤ 17592186044416) (hb : Bnd W) :
    Calls Tryd.prog 7 #[.slice A0 gs.length c0, .agg #[.slice Ap ps.length cp, .slice Ab bs.length cb], .int .i64 en, .int .i64 at0, .int .i64 re, .slice A5 nums.length c5] W fun e W' => e = .returned (.bool true) ∧ Kp W.heap.size none W W' := by
  have K0 := (Kp.refl W.heap.size none W).alloc (Nat.le_refl _) (.cells #[.slice Ap ps.length cp, .slice Ab bs.length cb] 54)
  have LB := Blk.new W 54 #[.slice Ap ps.length cp, .slice Ab bs.length cb]
  generalize hw0 : W.alloc (.cells #[.slice Ap ps.length cp, .slice Ab bs.length cb] 54) = w0 at K0 LB
  go_enter Tryd.func7, Tryd.ntmps7
  have cl := fun i => LB.cell i
  go_wp2_with fail
  clear hw0
  refine (bigGround_any none 0 0 A0 gs.length c0 Ap Ab ps.length cp bs.length cb _).mono ?_
  rintro e w1 ⟨⟨b, rfl, hbig⟩, k1⟩
  have K1 := K0.thenN k1 (Nat.le_refl _)
  replace LB := LB.kpN k1
  clear k1 K0 cl
  cases b
  case true =>
    clear hbig
    go_wp2_with fail
    refine (awake_any _ (hb.kpN K1)).mono ?_
    rintro e w2 ⟨rfl, k2⟩
    have K2 := K1.thenN k2 (Nat.le_refl _)
    go_wp2
    exact bodyPost_ret (v := .bool true) (by simp [results, Tryd.results7, go_sem]) rfl ⟨rfl, K2⟩
  case false =>
    clear hbig
    go_wp2_with fail
    refine (newRing_any A5 c5 nums _ (h.kpN K1) hn).mono ?_
    rintro e w2 ⟨g, rfl, hg, hr, k2⟩
    have K2 := K1.thenN k2 (Nat.le_refl _)
    have hgw : W.heap.size ≤ g := Nat.le_trans K1.size hg
    have hlg : W.heap.size < g := by have := LB.lt; omega
    replace LB := LB.kpN k2
    clear k2 K1
    go_wp2_with fail
    refine wp_region_inv (Γ := G5) [none, none, none, none, none, none, none, none, none, none, none, none, none, none, some 8, some 9, none, none, none, none, none, none, none, none, none, some 0, some 1, some 2, some 3, some 4, some 5, some 6, some 7] [[], [], [1], [0, 1, 2], [], [], [1, 2, 5], [1, 2, 4, 5, 6], [0, 1, 2, 3, 5, 6], [0, 1, 2, 3, 4, 5, 6, 7, 8]] [[1, 2, 4, 5, 6, 7], [0, 4, 5], [0, 1, 4, 5], [0, 1, 2, 4, 5, 6, 7], [0, 1, 2, 3, 5, 6, 8], [0, 1, 2, 3, 4], [0, 1, 2, 3, 4, 5], [0, 1, 2, 3, 4, 5, 6, 8], [0, 1, 2, 3, 4, 5, 6, 7], [0, 1, 2, 3, 4, 5, 6, 7, 8]] (fun γ => [.slice A0 gs.length c0, .pointer (some ⟨g, 0, none⟩), .slice γ.A1 γ.gs2.length γ.c1, .slice (some ⟨γ.b1, 0, none⟩) 2 2, .agg #[.slice Ap ps.length cp, .slice Ab bs.length cb], .pointer (some ⟨g, 0, none⟩), .agg #[.slice γ.A2 γ.ps2.length γ.c2, .slice γ.A3 γ.bs2.length γ.c3], .slice (some ⟨γ.b2, 0, none⟩) 2 2, .slice (some ⟨γ.b1, 0, none⟩) 2 2, .slice (some ⟨γ.b2, 0, none⟩) 2 2]) (fun γ => [none, none, none, none, none, none, none, none, none, none, none, none, none, none, some (.slice (some ⟨γ.b1, 0, none⟩) 2 2), some (.slice (some ⟨γ.b2, 0, none⟩) 2 2), none, none, none, none, none, none, none, none, none, some (.slice A0 gs.length c0), some (.pointer (some ⟨g, 0, none⟩)), some (.slice γ.A1 γ.gs2.length γ.c1), some (.slice (some ⟨γ.b1, 0, none⟩) 2 2), some (.agg #[.slice Ap ps.length cp, .slice Ab bs.length cb]), some (.pointer (some ⟨g, 0, none⟩)), some (.agg #[.slice γ.A2 γ.ps2.length γ.c2, .slice γ.A3 γ.bs2.length γ.c3]), some (.slice (some ⟨γ.b2, 0, none⟩) 2 2)]) ?A (fun n γ w => (∃ k, k ≤ 100 * n ∧ RingAt w g nums k) ∧ Blk w W.heap.size 54 #[.slice Ap ps.length cp, .slice Ab bs.length cb] ∧ Kp W.heap.size none W w) (fun k γ w => match k with | 2 => Rd (some g) w 2 encGrade γ.A1 γ.gs2.length γ.gs2 | 3 => F3 A0 c0 gs γ g w | 6 => F6 γ g w | 7 => F7 Ap cp ps Ab cb bs γ g w | _ => True) ⟨none, 0, [], none, 0, [], none, 0, [], 0, 0⟩ (by kernel_rfl) (fun _ => rfl) ?hA (by kernel_rfl) ?hmono ?hB0 ?hop ?hend
    case hA => intro γ; dsimp only [fullV]; rfl
    case hmono =>
      rintro n γ w ⟨⟨k, hk, h1⟩, h2⟩
      exact ⟨⟨k, by omega, h1⟩, h2⟩
    case hB0 =>
      exact ⟨⟨0, by omega, hr.drew⟩, LB.drew, K2.drew⟩
    case hop =>
      intro hA hmono
      refine ⟨?_, ?_, ?_, ?_, ?_, ?_, ?_, ?_, ?_, ?_, trivial⟩
      · refine opOk_v hA (fun _ => rfl) (fun _ _ => trivial) hmono ?_
        intro n γ w hB hU K hK
        try dsimp only at hB
        try dsimp only
        clear hB hU
        go_step
        exact hK _ rfl
      · refine opOk_v hA (fun _ => rfl) (fun _ _ => trivial) hmono ?_
        intro n γ w hB hU K hK
        try dsimp only at hB
        try dsimp only
        clear hB hU
        go_step
        exact hK _ rfl
      · refine opOk_l hA (fun _ => rfl) ?_
        intro n γ w hn hB hU K hK
        try dsimp only at hB
        try simp only [allP, List.getD_cons_zero, List.getD_cons_succ, and_true] at hU
        replace hn : n < 10 := hn
        try dsimp only
        obtain ⟨⟨k, hk, hR⟩, hL, hKK⟩ := hB
        go_step
        refine (gradesOf_any g nums k _ hR (by omega)).mono ?_
        rintro e w5 ⟨v, k', rfl, ⟨A1, c1, gs2, rfl, hG, hgs2, -, -⟩, hk', hR5, k5⟩
        refine hK _ _ { γ with A1 := A1, c1 := c1, gs2 := gs2 } rfl ⟨⟨k', by omega, hR5⟩, hL.kp k5 hL.lt (sne (by omega)), hKK.thenOwn k5 (Nat.le_refl _) hgw⟩ hG ?_
        dsimp only [allP, List.getD_cons_zero, List.getD_cons_succ]
        (repeat' apply And.intro) <;> first | exact rfl | exact trivial | exact id | assumption
      · refine opOk_l hA (fun _ => rfl) ?_
        intro n γ w hn hB hU K hK
        try dsimp only at hB
        try simp only [allP, List.getD_cons_zero, List.getD_cons_succ, and_true] at hU
        replace hn : n < 10 := hn
        try dsimp only
        obtain ⟨⟨k, hk, hR⟩, hL, hKK⟩ := hB
        go_step
        have K9 := (Kp.refl w.heap.size none w).alloc (Nat.le_refl _) (.cells #[.slice A0 gs.length c0, .slice γ.A1 γ.gs2.length γ.c1] 49)
        have s6 : F6 γ g w → F6 γ g (w.alloc (.cells #[.slice A0 gs.length c0, .slice γ.A1 γ.gs2.length γ.c1] 49)) := fun h => ⟨h.1.kpN K9, h.2.1.kpN K9, h.2.2⟩
        have s7 : F7 Ap cp ps Ab cb bs γ g w → F7 Ap cp ps Ab cb bs γ g (w.alloc (.cells #[.slice A0 gs.length c0, .slice γ.A1 γ.gs2.length γ.c1] 49)) := fun h => ⟨h.1.kpN K9, h.2⟩
        have s2 : Rd (some g) w 2 encGrade γ.A1 γ.gs2.length γ.gs2 → Rd (some g) (w.alloc (.cells #[.slice A0 gs.length c0, .slice γ.A1 γ.gs2.length γ.c1] 49)) 2 encGrade γ.A1 γ.gs2.length γ.gs2 := fun h => h.kpN K9
        refine hK _ _ { γ with b1 := w.heap.size } rfl ⟨⟨k, by omega, hR.kpN K9⟩, hL.kpN K9, hKK.thenN K9 (Nat.le_refl _)⟩ ⟨Blk.new _ _ _, hR.lt⟩ ?_
        dsimp only [allP, List.getD_cons_zero, List.getD_cons_succ]
        (repeat' apply And.intro) <;> first | exact rfl | exact trivial | exact id | assumption
      · refine opOk_v hA (fun _ => rfl) (fun _ _ => trivial) hmono ?_
        intro n γ w hB hU K hK
        try dsimp only at hB
        try dsimp only
        have cl := fun i => hB.2.1.cell i
        clear hB hU
        go_step
        exact hK _ rfl
      · refine opOk_v hA (fun _ => rfl) (fun _ _ => trivial) hmono ?_
        intro n γ w hB hU K hK
        try dsimp only at hB
        try dsimp only
        clear hB hU
        go_step
        exact hK _ rfl
      · refine opOk_l hA (fun _ => rfl) ?_
        intro n γ w hn hB hU K hK
        try dsimp only at hB
        try simp only [allP, List.getD_cons_zero, List.getD_cons_succ, and_true] at hU
        replace hn : n < 10 := hn
        try dsimp only
        obtain ⟨⟨k, hk, hR⟩, hL, hKK⟩ := hB
        go_step
        refine (landOf_any g nums k _ hR (by omega)).mono ?_
        rintro e w5 ⟨v, k', rfl, ⟨A2, c2, A3, c3, ps2, bs2, rfl, hP, hQ, hbl, hp1, hp16, hpp, hc2, -⟩, hk', hR5, k5⟩
        have s2 : Rd (some g) w 2 encGrade γ.A1 γ.gs2.length γ.gs2 → Rd (some g) w5 2 encGrade γ.A1 γ.gs2.length γ.gs2 := fun h => h.kp k5
        have s3 : F3 A0 c0 gs γ g w → F3 A0 c0 gs γ g w5 := fun h => ⟨h.1.kp k5 h.1.lt (sne (by have := h.2; omega)), h.2⟩
        refine hK _ _ { γ with A2 := A2, c2 := c2, A3 := A3, c3 := c3, ps2 := ps2, bs2 := bs2 } rfl ⟨⟨k', by omega, hR5⟩, hL.kp k5 hL.lt (sne (by omega)), hKK.thenOwn k5 (Nat.le_refl _) hgw⟩ ⟨hP, hQ, hp1, hp16, hc2, hbl⟩ ?_
        dsimp only [allP, List.getD_cons_zero, List.getD_cons_succ]
        (repeat' apply And.intro) <;> first | exact rfl | exact trivial | exact id | assumption
      · refine opOk_l hA (fun _ => rfl) ?_
        intro n γ w hn hB hU K hK
        try dsimp only at hB
        try simp only [allP, List.getD_cons_zero, List.getD_cons_succ, and_true] at hU
        replace hn : n < 10 := hn
        try dsimp only
        obtain ⟨⟨k, hk, hR⟩, hL, hKK⟩ := hB
        go_step
        have K9 := (Kp.refl w.heap.size none w).alloc (Nat.le_refl _) (.cells #[.slice Ap ps.length cp, .slice Ab bs.length cb, .slice γ.A2 γ.ps2.length γ.c2, .slice γ.A3 γ.bs2.length γ.c3] 54)
        have s2 : Rd (some g) w 2 encGrade γ.A1 γ.gs2.length γ.gs2 → Rd (some g) (w.alloc (.cells #[.slice Ap ps.length cp, .slice Ab bs.length cb, .slice γ.A2 γ.ps2.length γ.c2, .slice γ.A3 γ.bs2.length γ.c3] 54)) 2 encGrade γ.A1 γ.gs2.length γ.gs2 := fun h => h.kpN K9
        have s3 : F3 A0 c0 gs γ g w → F3 A0 c0 gs γ g (w.alloc (.cells #[.slice Ap ps.length cp, .slice Ab bs.length cb, .slice γ.A2 γ.ps2.length γ.c2, .slice γ.A3 γ.bs2.length γ.c3] 54)) := fun h => ⟨h.1.kpN K9, h.2⟩
        have s6 : F6 γ g w → F6 γ g (w.alloc (.cells #[.slice Ap ps.length cp, .slice Ab bs.length cb, .slice γ.A2 γ.ps2.length γ.c2, .slice γ.A3 γ.bs2.length γ.c3] 54)) := fun h => ⟨h.1.kpN K9, h.2.1.kpN K9, h.2.2⟩
        refine hK _ _ { γ with b2 := w.heap.size } rfl ⟨⟨k, by omega, hR.kpN K9⟩, hL.kpN K9, hKK.thenN K9 (Nat.le_refl _)⟩ ⟨Blk.new _ _ _, hR.lt⟩ ?_
        dsimp only [allP, List.getD_cons_zero, List.getD_cons_succ]
        (repeat' apply And.intro) <;> first | exact rfl | exact trivial | exact id | assumption
      · refine opOk_v hA (fun _ => rfl) (fun _ _ => trivial) hmono ?_
        intro n γ w hB hU K hK
        try dsimp only at hB
        try dsimp only
        clear hB hU
        go_step
        exact hK _ rfl
      · refine opOk_v hA (fun _ => rfl) (fun _ _ => trivial) hmono ?_
        intro n γ w hB hU K hK
        try dsimp only at hB
        try dsimp only
        clear hB hU
        go_step
        exact hK _ rfl
    case hend =>
      intro n γ w hn hB hF
      replace hF := fun k (hk : k < 10) => hF k hk
      replace hF := (⟨hF 2 (by decide), hF 3 (by decide), hF 6 (by decide), hF 7 (by decide)⟩ : _ ∧ _ ∧ _ ∧ _)
      try dsimp only at hB
      try dsimp only at hF
      replace hn : n ≤ 10 := hn
      try dsimp only
      obtain ⟨⟨k, hk, hR⟩, hL, hKK⟩ := hB
      obtain ⟨hG2, hG3, ⟨hP2, hQ2, hp1, hp16, hpc, -⟩, hG7⟩ := hF
      obtain ⟨A1, c1, gs2, A2, c2, ps2, A3, c3, bs2, b1, b2⟩ := γ
      obtain ⟨B1, hb1⟩ := hG3
      obtain ⟨B2, hb2⟩ := hG7
      dsimp only at *
      have cB := fun i => B2.cell i
      have hpp : (0 : Int) < (ps2.length : Int) := by omega
      go_wp2_with fail
      refine (next_any g nums k _ _ hR (by omega) (by omega) (by omega)).mono ?_
      rintro e w5 ⟨v, rfl, ⟨x, rfl, hx0, hx1⟩, hR5, k5⟩
      replace B1 := B1.kp k5 B1.lt (sne (by omega))
      replace B2 := B2.kp k5 B2.lt (sne (by omega))
      replace hG2 := hG2.kp k5
      replace hP2 := hP2.kp k5
      replace hQ2 := hQ2.kp k5
      replace hKK := hKK.thenOwn k5 (Nat.le_refl _) hgw
      clear k5 hR hL cB
      have B3 := Blk.new w5 3 #[.int .i64 at0, .int .i64 x]
      have K3 := (Kp.refl w5.heap.size none w5).alloc (Nat.le_refl _) (.cells #[.int .i64 at0, .int .i64 x] 3)
      obtain ⟨b3, hb3⟩ : ∃ b3, b3 = w5.heap.size := ⟨_, rfl⟩
      have hgb3 : g < b3 := by have := hR5.lt; omega
      replace B1 := B1.kpN K3
      replace B2 := B2.kpN K3
      replace hG2 := hG2.kpN K3
      replace hP2 := hP2.kpN K3
      replace hQ2 := hQ2.kpN K3
      replace hR5 := hR5.kpN K3
      replace hKK := hKK.thenN K3 (Nat.le_refl _)
      go_wp2_with fail
      rw [← hb3] at B3 ⊢
      generalize (w5.alloc (.cells #[.int .i64 at0, .int .i64 x] 3)) = w6 at *
      clear K3 hb3
      refine (range_any g nums (k + 1) 0 9 _ hR5 (by omega) (by omega) (by omega) (by omega) (by omega)).mono ?_
      rintro e w7 ⟨v, rfl, ⟨y, rfl, hy0, hy1⟩, hR7, k7⟩
      replace B1 := B1.kp k7 B1.lt (sne (by omega))
      replace B2 := B2.kp k7 B2.lt (sne (by omega))
      replace B3 := B3.kp k7 B3.lt (sne (by omega))
      replace hG2 := (hG2.kp k7).free
      replace hP2 := (hP2.kp k7).free
      replace hQ2 := (hQ2.kp k7).free
      replace hKK := hKK.thenOwn k7 (Nat.le_refl _) hgw
      clear k7 hR5 hR7 hr
      have B4 := Blk.new w7 2 #[.int .i64 re, .int .i64 y]
      have K4 := (Kp.refl w7.heap.size none w7).alloc (Nat.le_refl _) (.cells #[.int .i64 re, .int .i64 y] 2)
      obtain ⟨b4, hb4⟩ : ∃ b4, b4 = w7.heap.size := ⟨_, rfl⟩
      replace B1 := B1.kpN K4
      replace B2 := B2.kpN K4
      replace B3 := B3.kpN K4
      replace hG2 := hG2.kpN K4
      replace hP2 := hP2.kpN K4
      replace hQ2 := hQ2.kpN K4
      replace hKK := hKK.thenN K4 (Nat.le_refl _)
      clear K4
      go_wp2_with fail
      rw [← hb4] at B4 ⊢
      generalize (w7.alloc (.cells #[.int .i64 re, .int .i64 y] 2)) = wc at *
      clear hb4
      have hG : ∀ i, i < 2 → ∃ (A : Option Addr) (c : Nat) (gg : List Grade), wc.cell? ⟨b1, i, none⟩ = some (.slice A gg.length c) ∧ Rd none wc 2 encGrade A gg.length gg := fun i hi => by
        rcases (show i = 0 ∨ i = 1 by omega) with rfl | rfl
        · exact ⟨A0, c0, gs, B1.cell 0, hgs.kpN hKK⟩
        · exact ⟨A1, c1, gs2, B1.cell 1, hG2⟩
      have hL : ∀ i, i < 2 → ∃ (A : Option Addr) (c : Nat) (pp : List Int) (A' : Option Addr) (c' : Nat) (bb : List Bool), wc.cell? ⟨b2, i * 2, none⟩ = some (.slice A pp.length c) ∧ wc.cell? ⟨b2, i * 2 + 1, none⟩ = some (.slice A' bb.length c') ∧ Rd none wc 1 encI A pp.length pp ∧ Rd none wc 1 encB A' bb.length bb ∧ pp.length ≤ c := fun i hi => by
        rcases (show i = 0 ∨ i = 1 by omega) with rfl | rfl
        · exact ⟨Ap, cp, ps, Ab, cb, bs, B2.cell 0, B2.cell 1, hps.kpN hKK, hbs.kpN hKK, hcp⟩
        · exact ⟨A2, c2, ps2, A3, c3, bs2, B2.cell 2, B2.cell 3, hP2, hQ2, hpc⟩
      have hI : ∀ i, i < 2 → ∃ n : Int, wc.cell? ⟨b3, i, none⟩ = some (.int .i64 n) := fun i hi => by
        rcases (show i = 0 ∨ i = 1 by omega) with rfl | rfl
        · exact ⟨_, B3.cell 0⟩
        · exact ⟨_, B3.cell 1⟩
      have hJ : ∀ i, i < 2 → ∃ n : Int, wc.cell? ⟨b4, i, none⟩ = some (.int .i64 n) := fun i hi => by
        rcases (show i = 0 ∨ i = 1 by omega) with rfl | rfl
        · exact ⟨_, B4.cell 0⟩
        · exact ⟨_, B4.cell 1⟩
      have l1 := B1.lt
      have l2 := B2.lt
      have l3 := B3.lt
      have l4 := B4.lt
      clear B1 B2 B3 B4 hG2 hP2 hQ2 hgs hps hbs h LB K2
      go_wp2_with fail
      go_loopw [18] (fun v wr => TwoAt wc v wr) (fun v _ => 2 - (intOf v).toNat)
      case atStart => exact ⟨0, rfl, by omega, Kp.refl _ _ _⟩
      case round =>
        obtain ⟨i, rfl, hi, KK⟩ := hrel
        by_cases h7 : i < 2
        · obtain ⟨Ag, cg, gg, hcg, hRg⟩ := hG i h7
          obtain ⟨Al, cl, pp, Aw, cw, bb, hcl, hcw, hRl, hRw, hcl2⟩ := hL i h7
          obtain ⟨a9, hca⟩ := hI i h7
          obtain ⟨r9, hcr⟩ := hJ i h7
          replace hcg := (KK.cell b1 i l1 (by simp)).trans hcg
          replace hcl := (KK.cell b2 (i * 2) l2 (by simp)).trans hcl
          replace hcw := (KK.cell b2 (i * 2 + 1) l2 (by simp)).trans hcw
          replace hca := (KK.cell b3 i l3 (by simp)).trans hca
          replace hcr := (KK.cell b4 i l4 (by simp)).trans hcr
          replace hRg := hRg.kpN KK
          replace hRl := hRl.kpN KK
          replace hRw := hRw.kpN KK
          have h7' : (i : Int) < 2 := by omega
          have m1 : b1 < wr.heap.size := Nat.lt_of_lt_of_le l1 KK.size
          have m2 : b2 < wr.heap.size := Nat.lt_of_lt_of_le l2 KK.size
          have m3 : b3 < wr.heap.size := Nat.lt_of_lt_of_le l3 KK.size
          have m4 : b4 < wr.heap.size := Nat.lt_of_lt_of_le l4 KK.size
          clear hG hL hI hJ
          go_wp2_with fail
          replace hcg : wr.drew.cell? _ = _ := hcg
          replace hcl : wr.drew.cell? _ = _ := hcl
          replace hcw : wr.drew.cell? _ = _ := hcw
          replace hca : wr.drew.cell? _ = _ := hca
          replace hcr : wr.drew.cell? _ = _ := hcr
          replace hRg := hRg.drew
          replace hRl := hRl.drew
          replace hRw := hRw.drew
          replace KK := KK.drew
          replace m1 : _ < wr.drew.heap.size := m1
          replace m2 : _ < wr.drew.heap.size := m2
          replace m3 : _ < wr.drew.heap.size := m3
          replace m4 : _ < wr.drew.heap.size := m4
          obtain ⟨S, hS⟩ : ∃ S : Nat → World → Prop, S = fun _ w' => w'.cell? ⟨b1, i, none⟩ = some (.slice Ag gg.length cg) ∧ w'.cell? ⟨b2, i * 2, none⟩ = some (.slice Al pp.length cl) ∧ w'.cell? ⟨b2, i * 2 + 1, none⟩ = some (.slice Aw bb.length cw) := ⟨_, rfl⟩
          have hS0 : ∀ w', S 0 w' ↔ (w'.cell? ⟨b1, i, none⟩ = some (.slice Ag gg.length cg) ∧ w'.cell? ⟨b2, i * 2, none⟩ = some (.slice Al pp.length cl) ∧ w'.cell? ⟨b2, i * 2 + 1, none⟩ = some (.slice Aw bb.length cw)) := fun w' => by rw [hS]
          clear hS
          have cA : ∀ q : Ev (S 0), q.w.cell? ⟨b1, i, none⟩ = some (.slice Ag gg.length cg) := fun q => ((hS0 _).1 q.h).1
          have cB : ∀ q : Ev (S 0), q.w.cell? ⟨b2, i * 2, none⟩ = some (.slice Al pp.length cl) := fun q => ((hS0 _).1 q.h).2.1
          have cC : ∀ q : Ev (S 0), q.w.cell? ⟨b2, i * 2 + 1, none⟩ = some (.slice Aw bb.length cw) := fun q => ((hS0 _).1 q.h).2.2
          have hevT := ev_true
          refine wp_region_ord S [(0, 0), (1, 0), (2, 0), (3, 1), (5, 0), (6, 0), (7, 0), (8, 1), (4, 2), (9, 2), (10, 0), (11, 0), (12, 0), (13, 0), (14, 0), (15, 1), (16, 0), (18, 0), (19, 0), (20, 0), (21, 1), (22, 0), (17, 2), (23, 2), (24, 0), (25, 0), (26, 0), (27, 0), (28, 0), (29, 0), (30, 1), (32, 0), (33, 0), (34, 0), (35, 1), (31, 2), (36, 2), (37, 0), (38, 0)] [] (by kernel_rfl) (by kernel_rfl) ((hS0 _).2 ⟨hcg, hcl, hcw⟩) ?_
          intro _hev
          iterate 8 (first | (refine wpOrd_v rfl rfl ?_; intro K hK; go_big_quiet_op; go_big_quiet_on) | (refine wpOrd_q rfl rfl ?_; intro K hK; go_big_quiet_op; go_big_quiet_on) | refine wpOrd_s (by decide) rfl rfl ?_)
          refine wpOrd_l rfl rfl ?_; intro K hK
          go_step
          refine (blast_CheckGrades_any Ag cg gg _ hRg).mono ?_
          rintro e w9 ⟨⟨n1, rfl, hn1⟩, k9⟩
          replace hcg := (k9.cell b1 i m1 (by simp)).trans hcg
          replace hcl := (k9.cell b2 (i * 2) m2 (by simp)).trans hcl
          replace hcw := (k9.cell b2 (i * 2 + 1) m2 (by simp)).trans hcw
          replace hca := (k9.cell b3 i m3 (by simp)).trans hca
          replace hcr := (k9.cell b4 i m4 (by simp)).trans hcr
          replace m1 := Nat.lt_of_lt_of_le m1 k9.size
          replace m2 := Nat.lt_of_lt_of_le m2 k9.size
          replace m3 := Nat.lt_of_lt_of_le m3 k9.size
          replace m4 := Nat.lt_of_lt_of_le m4 k9.size
          replace hRg := hRg.kpN k9
          replace hRl := hRl.kpN k9
          replace hRw := hRw.kpN k9
          replace KK := KK.thenN k9 (Nat.le_refl _)
          refine hK _ _ ((hS0 _).2 ⟨hcg, hcl, hcw⟩) ?_
          clear hK K k9
          refine wpOrd_l rfl rfl ?_; intro K hK
          go_step
          refine (ref_CheckGrades_any Ag cg gg _ hRg).mono ?_
          rintro e w9 ⟨⟨n2, rfl, hn2⟩, k9⟩
          have e2 := gradesChk_one hn2 hn1
          subst e2
          clear hn1 hn2
          replace hcg := (k9.cell b1 i m1 (by simp)).trans hcg
          replace hcl := (k9.cell b2 (i * 2) m2 (by simp)).trans hcl
          replace hcw := (k9.cell b2 (i * 2 + 1) m2 (by simp)).trans hcw
          replace hca := (k9.cell b3 i m3 (by simp)).trans hca
          replace hcr := (k9.cell b4 i m4 (by simp)).trans hcr
          replace m1 := Nat.lt_of_lt_of_le m1 k9.size
          replace m2 := Nat.lt_of_lt_of_le m2 k9.size
          replace m3 := Nat.lt_of_lt_of_le m3 k9.size
          replace m4 := Nat.lt_of_lt_of_le m4 k9.size
          replace hRg := hRg.kpN k9
          replace hRl := hRl.kpN k9
          replace hRw := hRw.kpN k9
          replace KK := KK.thenN k9 (Nat.le_refl _)
          refine hK _ _ ((hS0 _).2 ⟨hcg, hcl, hcw⟩) ?_
          clear hK K k9
          iterate 12 (first | (refine wpOrd_v rfl rfl ?_; intro K hK; go_big_quiet_op; go_big_quiet_on) | (refine wpOrd_q rfl rfl ?_; intro K hK; go_big_quiet_op; go_big_quiet_on) | refine wpOrd_s (by decide) rfl rfl ?_)
          refine wpOrd_l rfl rfl ?_; intro K hK
          go_step
          refine (blast_Reach_any Ag cg gg en _ hRg).mono ?_
          rintro e w9 ⟨⟨n3, rfl, hn3⟩, k9⟩
          replace hcg := (k9.cell b1 i m1 (by simp)).trans hcg
          replace hcl := (k9.cell b2 (i * 2) m2 (by simp)).trans hcl
          replace hcw := (k9.cell b2 (i * 2 + 1) m2 (by simp)).trans hcw
          replace hca := (k9.cell b3 i m3 (by simp)).trans hca
          replace hcr := (k9.cell b4 i m4 (by simp)).trans hcr
          replace m1 := Nat.lt_of_lt_of_le m1 k9.size
          replace m2 := Nat.lt_of_lt_of_le m2 k9.size
          replace m3 := Nat.lt_of_lt_of_le m3 k9.size
          replace m4 := Nat.lt_of_lt_of_le m4 k9.size
          replace hRg := hRg.kpN k9
          replace hRl := hRl.kpN k9
          replace hRw := hRw.kpN k9
          replace KK := KK.thenN k9 (Nat.le_refl _)
          refine hK _ _ ((hS0 _).2 ⟨hcg, hcl, hcw⟩) ?_
          clear hK K k9
          refine wpOrd_l rfl rfl ?_; intro K hK
          go_step
          refine (ref_Reach_any Ag cg gg en _ hRg).mono ?_
          rintro e w9 ⟨⟨n4, rfl, hn4⟩, k9⟩
          have e4 := either_one5 hn4 hn3
          subst e4
          clear hn3 hn4
          replace hcg := (k9.cell b1 i m1 (by simp)).trans hcg
          replace hcl := (k9.cell b2 (i * 2) m2 (by simp)).trans hcl
          replace hcw := (k9.cell b2 (i * 2 + 1) m2 (by simp)).trans hcw
          replace hca := (k9.cell b3 i m3 (by simp)).trans hca
          replace hcr := (k9.cell b4 i m4 (by simp)).trans hcr
          replace m1 := Nat.lt_of_lt_of_le m1 k9.size
          replace m2 := Nat.lt_of_lt_of_le m2 k9.size
          replace m3 := Nat.lt_of_lt_of_le m3 k9.size
          replace m4 := Nat.lt_of_lt_of_le m4 k9.size
          replace hRg := hRg.kpN k9
          replace hRl := hRl.kpN k9
          replace hRw := hRw.kpN k9
          replace KK := KK.thenN k9 (Nat.le_refl _)
          refine hK _ _ ((hS0 _).2 ⟨hcg, hcl, hcw⟩) ?_
          clear hK K k9
          iterate 11 (first | (refine wpOrd_v rfl rfl ?_; intro K hK; go_big_quiet_op; go_big_quiet_on) | (refine wpOrd_q rfl rfl ?_; intro K hK; go_big_quiet_op; go_big_quiet_on) | refine wpOrd_s (by decide) rfl rfl ?_)
          refine wpOrd_l rfl rfl ?_; intro K hK
          go_step
          refine (blast_CheckLand_any Al Aw cl bb.length cw pp _ hRl).mono ?_
          rintro e w9 ⟨⟨n5, rfl, hn5⟩, k9⟩
          replace hcg := (k9.cell b1 i m1 (by simp)).trans hcg
          replace hcl := (k9.cell b2 (i * 2) m2 (by simp)).trans hcl
          replace hcw := (k9.cell b2 (i * 2 + 1) m2 (by simp)).trans hcw
          replace hca := (k9.cell b3 i m3 (by simp)).trans hca
          replace hcr := (k9.cell b4 i m4 (by simp)).trans hcr
          replace m1 := Nat.lt_of_lt_of_le m1 k9.size
          replace m2 := Nat.lt_of_lt_of_le m2 k9.size
          replace m3 := Nat.lt_of_lt_of_le m3 k9.size
          replace m4 := Nat.lt_of_lt_of_le m4 k9.size
          replace hRg := hRg.kpN k9
          replace hRl := hRl.kpN k9
          replace hRw := hRw.kpN k9
          replace KK := KK.thenN k9 (Nat.le_refl _)
          refine hK _ _ ((hS0 _).2 ⟨hcg, hcl, hcw⟩) ?_
          clear hK K k9
          refine wpOrd_l rfl rfl ?_; intro K hK
          go_step
          refine (ref_CheckLand_any Al Aw cl bb.length cw pp _ hRl).mono ?_
          rintro e w9 ⟨⟨n6, rfl, hn6⟩, k9⟩
          have e6 := landChk_one hn6 hn5
          subst e6
          clear hn5 hn6
          replace hcg := (k9.cell b1 i m1 (by simp)).trans hcg
          replace hcl := (k9.cell b2 (i * 2) m2 (by simp)).trans hcl
          replace hcw := (k9.cell b2 (i * 2 + 1) m2 (by simp)).trans hcw
          replace hca := (k9.cell b3 i m3 (by simp)).trans hca
          replace hcr := (k9.cell b4 i m4 (by simp)).trans hcr
          replace m1 := Nat.lt_of_lt_of_le m1 k9.size
          replace m2 := Nat.lt_of_lt_of_le m2 k9.size
          replace m3 := Nat.lt_of_lt_of_le m3 k9.size
          replace m4 := Nat.lt_of_lt_of_le m4 k9.size
          replace hRg := hRg.kpN k9
          replace hRl := hRl.kpN k9
          replace hRw := hRw.kpN k9
          replace KK := KK.thenN k9 (Nat.le_refl _)
          refine hK _ _ ((hS0 _).2 ⟨hcg, hcl, hcw⟩) ?_
          clear hK K k9
          iterate 2 (first | (refine wpOrd_v rfl rfl ?_; intro K hK; go_big_quiet_op; go_big_quiet_on) | (refine wpOrd_q rfl rfl ?_; intro K hK; go_big_quiet_op; go_big_quiet_on) | refine wpOrd_s (by decide) rfl rfl ?_)
          refine wpOrd_nil ?_
          clear hevT _hev
          clear cA cB cC hS0 S
          go_wp2_with fail
          clear hcg m1 hRg
          replace hcl : w9.drew.cell? _ = _ := hcl
          replace hcw : w9.drew.cell? _ = _ := hcw
          replace hca : w9.drew.cell? _ = _ := hca
          replace hcr : w9.drew.cell? _ = _ := hcr
          replace hRl := hRl.drew
          replace hRw := hRw.drew
          replace KK := KK.drew
          replace m2 : _ < w9.drew.heap.size := m2
          replace m3 : _ < w9.drew.heap.size := m3
          replace m4 : _ < w9.drew.heap.size := m4
          obtain ⟨S, hS⟩ : ∃ S : Nat → World → Prop, S = fun _ w' => w'.cell? ⟨b2, i * 2, none⟩ = some (.slice Al pp.length cl) ∧ w'.cell? ⟨b2, i * 2 + 1, none⟩ = some (.slice Aw bb.length cw) ∧ w'.cell? ⟨b3, i, none⟩ = some (.int .i64 a9) ∧ w'.cell? ⟨b4, i, none⟩ = some (.int .i64 r9) := ⟨_, rfl⟩
          have hS0 : ∀ w', S 0 w' ↔ (w'.cell? ⟨b2, i * 2, none⟩ = some (.slice Al pp.length cl) ∧ w'.cell? ⟨b2, i * 2 + 1, none⟩ = some (.slice Aw bb.length cw) ∧ w'.cell? ⟨b3, i, none⟩ = some (.int .i64 a9) ∧ w'.cell? ⟨b4, i, none⟩ = some (.int .i64 r9)) := fun w' => by rw [hS]
          clear hS
          have cA : ∀ q : Ev (S 0), q.w.cell? ⟨b2, i * 2, none⟩ = some (.slice Al pp.length cl) := fun q => ((hS0 _).1 q.h).1
          have cB : ∀ q : Ev (S 0), q.w.cell? ⟨b2, i * 2 + 1, none⟩ = some (.slice Aw bb.length cw) := fun q => ((hS0 _).1 q.h).2.1
          have cC : ∀ q : Ev (S 0), q.w.cell? ⟨b3, i, none⟩ = some (.int .i64 a9) := fun q => ((hS0 _).1 q.h).2.2.1
          have cD : ∀ q : Ev (S 0), q.w.cell? ⟨b4, i, none⟩ = some (.int .i64 r9) := fun q => ((hS0 _).1 q.h).2.2.2
          have hevT := ev_true
          refine wp_region_ord S [(0, 0), (1, 0), (2, 0), (3, 1), (4, 0), (5, 0), (6, 0), (7, 1), (8, 0), (9, 0), (10, 0), (11, 1), (13, 0), (14, 0), (15, 0), (16, 1), (17, 0), (18, 0), (19, 0), (20, 1), (21, 0), (22, 0), (23, 0), (24, 1), (12, 2), (25, 2), (26, 0), (27, 0), (28, 0), (29, 0), (30, 0), (31, 1), (32, 0), (33, 0), (34, 0), (35, 1), (36, 0), (37, 0), (38, 0), (39, 1), (41, 0), (42, 0), (43, 0), (44, 1), (45, 0), (46, 0), (47, 0), (48, 1), (49, 0), (50, 0), (51, 0), (52, 1), (40, 2), (53, 2), (54, 0), (55, 0)] [] (by kernel_rfl) (by kernel_rfl) ((hS0 _).2 ⟨hcl, hcw, hca, hcr⟩) ?_
          intro _hev
          iterate 24 (first | (refine wpOrd_v rfl rfl ?_; intro K hK; go_big_quiet_op; go_big_quiet_on) | (refine wpOrd_q rfl rfl ?_; intro K hK; go_big_quiet_op; go_big_quiet_on) | refine wpOrd_s (by decide) rfl rfl ?_)
          refine wpOrd_l rfl rfl ?_; intro K hK
          go_step
          refine (blast_Harm_any Al Aw cl bb.length cw pp a9 r9 _ hRl hcl2).mono ?_
          rintro e w9 ⟨⟨n1, rfl, hn1⟩, k9⟩
          replace hcl := (k9.cell b2 (i * 2) m2 (by simp)).trans hcl
          replace hcw := (k9.cell b2 (i * 2 + 1) m2 (by simp)).trans hcw
          replace hca := (k9.cell b3 i m3 (by simp)).trans hca
          replace hcr := (k9.cell b4 i m4 (by simp)).trans hcr
          replace m2 := Nat.lt_of_lt_of_le m2 k9.size
          replace m3 := Nat.lt_of_lt_of_le m3 k9.size
          replace m4 := Nat.lt_of_lt_of_le m4 k9.size
          replace hRl := hRl.kpN k9
          replace hRw := hRw.kpN k9
          replace KK := KK.thenN k9 (Nat.le_refl _)
          refine hK _ _ ((hS0 _).2 ⟨hcl, hcw, hca, hcr⟩) ?_
          clear hK K k9
          refine wpOrd_l rfl rfl ?_; intro K hK
          go_step
          refine (ref_Harm_any Al Aw cl bb.length cw pp a9 r9 _ hRl).mono ?_
          rintro e w9 ⟨⟨n2, rfl, hn2⟩, k9⟩
          have e2 := either_one5 hn2 hn1
          subst e2
          clear hn1 hn2
          replace hcl := (k9.cell b2 (i * 2) m2 (by simp)).trans hcl
          replace hcw := (k9.cell b2 (i * 2 + 1) m2 (by simp)).trans hcw
          replace hca := (k9.cell b3 i m3 (by simp)).trans hca
          replace hcr := (k9.cell b4 i m4 (by simp)).trans hcr
          replace m2 := Nat.lt_of_lt_of_le m2 k9.size
          replace m3 := Nat.lt_of_lt_of_le m3 k9.size
          replace m4 := Nat.lt_of_lt_of_le m4 k9.size
          replace hRl := hRl.kpN k9
          replace hRw := hRw.kpN k9
          replace KK := KK.thenN k9 (Nat.le_refl _)
          refine hK _ _ ((hS0 _).2 ⟨hcl, hcw, hca, hcr⟩) ?_
          clear hK K k9
          iterate 26 (first | (refine wpOrd_v rfl rfl ?_; intro K hK; go_big_quiet_op; go_big_quiet_on) | (refine wpOrd_q rfl rfl ?_; intro K hK; go_big_quiet_op; go_big_quiet_on) | refine wpOrd_s (by decide) rfl rfl ?_)
          refine wpOrd_l rfl rfl ?_; intro K hK
          go_step
          refine (blast_Wave_any Al Aw cl cw pp bb a9 r9 _ hRl hRw hcl2).mono ?_
          rintro e w9 ⟨⟨n3, rfl, hn3⟩, k9⟩
          replace hcl := (k9.cell b2 (i * 2) m2 (by simp)).trans hcl
          replace hcw := (k9.cell b2 (i * 2 + 1) m2 (by simp)).trans hcw
          replace hca := (k9.cell b3 i m3 (by simp)).trans hca
          replace hcr := (k9.cell b4 i m4 (by simp)).trans hcr
          replace m2 := Nat.lt_of_lt_of_le m2 k9.size
          replace m3 := Nat.lt_of_lt_of_le m3 k9.size
          replace m4 := Nat.lt_of_lt_of_le m4 k9.size
          replace hRl := hRl.kpN k9
          replace hRw := hRw.kpN k9
          replace KK := KK.thenN k9 (Nat.le_refl _)
          refine hK _ _ ((hS0 _).2 ⟨hcl, hcw, hca, hcr⟩) ?_
          clear hK K k9
          refine wpOrd_l rfl rfl ?_; intro K hK
          go_step
          refine (ref_Wave_any Al Aw cl cw pp bb a9 r9 _ hRl hRw).mono ?_
          rintro e w9 ⟨⟨n4, rfl, hn4⟩, k9⟩
          have e4 := wave_one hn4 hn3
          subst e4
          clear hn3 hn4
          replace hcl := (k9.cell b2 (i * 2) m2 (by simp)).trans hcl
          replace hcw := (k9.cell b2 (i * 2 + 1) m2 (by simp)).trans hcw
          replace hca := (k9.cell b3 i m3 (by simp)).trans hca
          replace hcr := (k9.cell b4 i m4 (by simp)).trans hcr
          replace m2 := Nat.lt_of_lt_of_le m2 k9.size
          replace m3 := Nat.lt_of_lt_of_le m3 k9.size
          replace m4 := Nat.lt_of_lt_of_le m4 k9.size
          replace hRl := hRl.kpN k9
          replace hRw := hRw.kpN k9
          replace KK := KK.thenN k9 (Nat.le_refl _)
          refine hK _ _ ((hS0 _).2 ⟨hcl, hcw, hca, hcr⟩) ?_
          clear hK K k9
          iterate 2 (first | (refine wpOrd_v rfl rfl ?_; intro K hK; go_big_quiet_op; go_big_quiet_on) | (refine wpOrd_q rfl rfl ?_; intro K hK; go_big_quiet_op; go_big_quiet_on) | refine wpOrd_s (by decide) rfl rfl ?_)
          refine wpOrd_nil ?_
          clear hevT _hev
          clear cA cB cC cD hS0 S
          go_wp2
          go_roundw
          case rel => exact ⟨i + 1, rfl, by omega, KK⟩
          case measure => simp [intOf]; omega
        · have he : i = 2 := by omega
          subst he
          have K3 := hKK.thenN KK (Nat.le_refl _)
          go_wp2_with fail
          refine (blast_Crater_all en hen _).mono ?_
          rintro e w10 ⟨⟨n1, rfl, hn1⟩, k10⟩
          have K10 := K3.thenN k10 (Nat.le_refl _)
          clear k10
          go_wp2_with fail
          refine (ref_Crater_all en hen _).mono ?_
          rintro e w11 ⟨⟨n2, rfl, hn2⟩, k11⟩
          have K11 := K10.thenN k11 (Nat.le_refl _)
          have e2 := craterIs_one hn2 hn1
          subst e2
          clear k11 hn1 hn2
          go_wp2_with fail
          refine (awake_any _ (hb.kpN K11)).mono ?_
          rintro e w12 ⟨rfl, k12⟩
          have K12 := K11.thenN k12 (Nat.le_refl _)
          go_wp2
          exact bodyPost_ret (v := .bool true) (by simp [results, Tryd.results7, go_sem]) rfl ⟨rfl, K12⟩
end Go.Proofs.YtdiigflbohbndaaDoor
