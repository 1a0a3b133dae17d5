/- The statement on a rock of one stone: its walk. -/
import Derived.Test.YtdiigflbohbndaaDoorLaw3
import Derived.Test.YtdiigflbohbndaaDoorSame
import Derived.Test.YtdiigflbohbndaaDoorFill
namespace Go.Proofs.YtdiigflbohbndaaDoor
open Go.RowKit

theorem sole_from (s : Stone) : ∀ (ls : List Layer) (i : Nat) (v : Int), blowsFrom s s ls i v v = [⟨((i + (fallFrom s ls v).1 : Nat) : Int), massOf s.size s.dens * (fallFrom s ls v).2, massOf s.size s.dens * (fallFrom s ls v).2⟩]
  | [], i, v => by simp [blowsFrom, blowAt, fallFrom]
  | x :: xs, i, v => by
    have ih := sole_from s xs (i + 1) (slowedOf s x v)
    unfold blowsFrom heldBy
    rcases hb : burstsAt x.dens v (holdOf s.strong s.spin s.pile) with _ | _
    · rw [fall_go hb]
      simp only [Bool.false_eq_true, if_false, List.nil_append, ih]
      congr 3
      omega
    · rw [fall_burst hb]
      simp [blowAt]
theorem sole_blows (ls : List Layer) (s : Stone) : blowsOf ls (soleRock s) (soleFall s) = [⟨((endsOf ls s).1 : Int), (endsOf ls s).2, (endsOf ls s).2⟩] := by
  have h := sole_from s ls 0 (s.speed * s.speed)
  rw [Nat.zero_add] at h
  exact h
theorem sole_all {s : Stone} (h : StoneOk s) : RockAll (soleRock s) (soleFall s) := by
  obtain ⟨h1, h2, h3, h4, h5, h6, h7⟩ := h
  intro i hi
  unfold rockErr
  rcases i with _ | _ | _ | _ | _ | _ | _ | i
  all_goals first | omega | skip
  all_goals
    simp only [rockSpan, soleRock, soleFall, bLo, bHi]
    rw [if_neg (by omega), if_neg (by omega)]
theorem blows_ok (A : Option Addr) (cap : Nat) (ls : List Layer) (r : Rock) (f : Fall) (w : World) (h : Rd none w 2 encLayer A ls.length ls) (hb : Bnd w) (ha : AirOk ls) (hr : RockAll r f) :
    Calls Tryd.prog 54 #[.slice A ls.length cap, .agg #[.int .i64 r.size.lo, .int .i64 r.size.hi, .int .i64 r.dens.lo, .int .i64 r.dens.hi, .int .i64 r.strong.lo, .int .i64 r.strong.hi, .int .i64 r.spin.lo, .int .i64 r.spin.hi, .int .i64 r.shape.lo, .int .i64 r.shape.hi, .bool r.pile], .agg #[.int .i64 f.speed.lo, .int .i64 f.speed.hi, .int .i64 f.slope.lo, .int .i64 f.slope.hi]] w fun e w' => (∃ A c, e = .returned (.tuple #[.slice A (blowsOf ls r f).length c, .int .i64 0]) ∧ Rd none w' 3 encBlow A (blowsOf ls r f).length (blowsOf ls r f)) ∧ Kp w.heap.size none w w' :=
  (blast_Blows_any A cap ls r f w h hb).mono fun e w' ⟨⟨A, c, bl, n, h1, h2, h3⟩, h4⟩ => by
    rcases h3 with ⟨_, _, rfl, rfl⟩ | ⟨h5, _, h6⟩
    · exact ⟨⟨A, c, h1, h2⟩, h4⟩
    · exfalso
      rcases h6 with h6 | ⟨_, h6⟩
      · exact h5 (airChk_one h6 (.inl ⟨rfl, ha⟩))
      · exact h5 (rockChk_one h6 (.inl ⟨rfl, hr⟩))
def SoleRel (w : World) (r : Rock) (f : Fall) (b1 : Nat) (v6 v7 : Value) (wx : World) : Prop :=
  ∃ (A : Option Addr) (c : Nat) (ls : List Layer) (b : Nat) (s : Stone), v6 = .slice A ls.length c ∧ v7 = .pointer (some ⟨b, 0, none⟩) ∧ Rd none wx 2 encLayer A ls.length ls ∧ ls.length ≤ 6 ∧ (∀ x ∈ ls, LayerOk x) ∧
    b1 + 1 < b ∧ Blk wx b 36 #[.int .i64 s.size, .int .i64 s.dens, .int .i64 s.strong, .int .i64 s.spin, .int .i64 s.shape, .bool s.pile, .int .i64 s.speed, .int .i64 s.slope] ∧ StoneIn s r f ∧ Kp w.heap.size none w wx ∧ (∀ ad, A = some ad → b1 + 1 < ad.block) ∧ Blk wx b1 28 #[.int .i64 r.size.lo, .int .i64 r.size.hi, .int .i64 r.dens.lo, .int .i64 r.dens.hi, .int .i64 r.strong.lo, .int .i64 r.strong.hi, .int .i64 r.spin.lo, .int .i64 r.spin.hi, .int .i64 r.shape.lo, .int .i64 r.shape.hi, .bool r.pile] ∧ Blk wx (b1 + 1) 30 #[.int .i64 f.speed.lo, .int .i64 f.speed.hi, .int .i64 f.slope.lo, .int .i64 f.slope.hi]
set_option maxRecDepth 100000 in
set_option maxHeartbeats 4000000 in
theorem law_BlastSole_any (A : Option Addr) (cap : Nat) (nums : List Int) (w : World) (h : Rd none w 1 (fun x => [Value.int .i64 x]) A nums.length nums) (hn : nums.length ≤ 17592186044416) (hb : Bnd w) :
    Calls Tryd.prog 9 #[.slice A nums.length cap] w fun e w' => e = .returned (.bool true) ∧ Kp w.heap.size none w w' := by
  go_enter Tryd.func9, Tryd.ntmps9
  go_wp2_with fail
  refine (newRing_any A cap nums _ h hn).mono ?_
  rintro e w1 ⟨g, rfl, hg, hr, K1⟩
  go_wp2_with fail
  refine (rockOf_any g nums 0 _ hr (by omega)).mono ?_
  rintro e w2 ⟨v, rfl, ⟨r, f, rfl, hrk, hlow⟩, hr2, k2⟩
  have K2 := K1.thenOwn k2 (Nat.le_refl _) hg
  clear k2 K1 hr h hn
  have hz2 : g < w2.heap.size := hr2.lt
  have hw2 := K2.size
  have KQ := (K2.alloc K2.size (.cells #[.int .i64 r.size.lo, .int .i64 r.size.hi, .int .i64 r.dens.lo, .int .i64 r.dens.hi, .int .i64 r.strong.lo, .int .i64 r.strong.hi, .int .i64 r.spin.lo, .int .i64 r.spin.hi, .int .i64 r.shape.lo, .int .i64 r.shape.hi, .bool r.pile] 28)).alloc (alloc_ge K2.size _) (.cells #[.int .i64 f.speed.lo, .int .i64 f.speed.hi, .int .i64 f.slope.lo, .int .i64 f.slope.hi] 30)
  have HR := (hr2.alloc (.cells #[.int .i64 r.size.lo, .int .i64 r.size.hi, .int .i64 r.dens.lo, .int .i64 r.dens.hi, .int .i64 r.strong.lo, .int .i64 r.strong.hi, .int .i64 r.spin.lo, .int .i64 r.spin.hi, .int .i64 r.shape.lo, .int .i64 r.shape.hi, .bool r.pile] 28)).alloc (.cells #[.int .i64 f.speed.lo, .int .i64 f.speed.hi, .int .i64 f.slope.lo, .int .i64 f.slope.hi] 30)
  have RB := (Blk.new w2 28 #[.int .i64 r.size.lo, .int .i64 r.size.hi, .int .i64 r.dens.lo, .int .i64 r.dens.hi, .int .i64 r.strong.lo, .int .i64 r.strong.hi, .int .i64 r.spin.lo, .int .i64 r.spin.hi, .int .i64 r.shape.lo, .int .i64 r.shape.hi, .bool r.pile]).alloc (.cells #[.int .i64 f.speed.lo, .int .i64 f.speed.hi, .int .i64 f.slope.lo, .int .i64 f.slope.hi] 30)
  have FB := Blk.newAt (w2.alloc (.cells #[.int .i64 r.size.lo, .int .i64 r.size.hi, .int .i64 r.dens.lo, .int .i64 r.dens.hi, .int .i64 r.strong.lo, .int .i64 r.strong.hi, .int .i64 r.spin.lo, .int .i64 r.spin.hi, .int .i64 r.shape.lo, .int .i64 r.shape.hi, .bool r.pile] 28)) 30 #[.int .i64 f.speed.lo, .int .i64 f.speed.hi, .int .i64 f.slope.lo, .int .i64 f.slope.hi] (n := w2.heap.size + 1) (by simp)
  generalize hw3 : (w2.alloc (.cells #[.int .i64 r.size.lo, .int .i64 r.size.hi, .int .i64 r.dens.lo, .int .i64 r.dens.hi, .int .i64 r.strong.lo, .int .i64 r.strong.hi, .int .i64 r.spin.lo, .int .i64 r.spin.hi, .int .i64 r.shape.lo, .int .i64 r.shape.hi, .bool r.pile] 28)).alloc (.cells #[.int .i64 f.speed.lo, .int .i64 f.speed.hi, .int .i64 f.slope.lo, .int .i64 f.slope.hi] 30) = w3 at KQ HR RB FB
  go_upto_region 3 with (fail)
  clear hw3
  go_cut [6, 7] (fun s6 s7 wx => SoleRel w r f w2.heap.size s6 s7 wx)
  case first =>
    have hne0 : some w2.heap.size ≠ some g := sne (by omega)
    have hne1 : some (w2.heap.size + 1) ≠ some g := sne (by omega)
    have hzw : w2.heap.size + 1 < w3.heap.size := FB.lt
    replace RB := RB.drew
    replace FB := FB.drew
    replace KQ := KQ.drew
    replace HR := HR.drew
    obtain ⟨S0, hS⟩ : ∃ S : World → Prop, S = fun w' => Blk w' w2.heap.size 28 #[.int .i64 r.size.lo, .int .i64 r.size.hi, .int .i64 r.dens.lo, .int .i64 r.dens.hi, .int .i64 r.strong.lo, .int .i64 r.strong.hi, .int .i64 r.spin.lo, .int .i64 r.spin.hi, .int .i64 r.shape.lo, .int .i64 r.shape.hi, .bool r.pile] ∧ Blk w' (w2.heap.size + 1) 30 #[.int .i64 f.speed.lo, .int .i64 f.speed.hi, .int .i64 f.slope.lo, .int .i64 f.slope.hi] := ⟨_, rfl⟩
    have hS0 : ∀ w', S0 w' ↔ (Blk w' w2.heap.size 28 #[.int .i64 r.size.lo, .int .i64 r.size.hi, .int .i64 r.dens.lo, .int .i64 r.dens.hi, .int .i64 r.strong.lo, .int .i64 r.strong.hi, .int .i64 r.spin.lo, .int .i64 r.spin.hi, .int .i64 r.shape.lo, .int .i64 r.shape.hi, .bool r.pile] ∧ Blk w' (w2.heap.size + 1) 30 #[.int .i64 f.speed.lo, .int .i64 f.speed.hi, .int .i64 f.slope.lo, .int .i64 f.slope.hi]) := fun w' => by rw [hS]
    clear hS
    have cx := fun (x : Ev S0) i => ((hS0 _).1 x.h).1.cell i
    have cy := fun (x : Ev S0) i => ((hS0 _).1 x.h).2.cell i
    have hevT := ev_true
    refine wp_region_tr S0 (.st 0 0 (.st 2 0 (.st 3 1 (.st 4 1 (.b2 1 (.b2 5 (.st 6 2 (.st 7 0 (.st 8 2 .nil))) 6 (.st 5 2 (.st 7 0 (.st 8 2 .nil)))) 6 (.st 1 2 (.st 5 2 (.st 7 0 (.st 8 2 .nil))))))))) (by kernel_rfl) (by kernel_rfl) ((hS0 _).2 ⟨RB, FB⟩) ?_
    intro _hev
    iterate 4 (first | (refine wpTr_v rfl rfl ?_; intro K hK; go_big_quiet_op; go_big_quiet_on) | (refine wpTr_q rfl rfl ?_; intro K hK; go_big_quiet_op; go_big_quiet_on) | refine wpTr_s rfl rfl ?_)
    refine wpTr_b2 ?_ ?_
    · refine wpOne_l rfl rfl ?_; intro K hK
      go_step
      refine (layersOf_any g nums _ _ HR (by omega)).mono ?_
      rintro e w4 ⟨v, k', rfl, ⟨A1, c1, ls, rfl, hL, hl6, hlo, hge⟩, hk', HR, k4⟩
      replace hge : ∀ ad, A1 = some ad → w2.heap.size + 1 < ad.block := fun ad e => Nat.lt_of_lt_of_le FB.lt (hge ad e)
      replace RB := RB.kp k4 RB.lt hne0
      replace FB := FB.kp k4 FB.lt hne1
      replace KQ := KQ.thenOwn k4 (Nat.le_refl _) hg
      refine hK _ _ ((hS0 _).2 ⟨RB, FB⟩) ?_
      clear hK K k4
      refine wpTr_b2 ?_ ?_
      · refine wpOne_l rfl rfl ?_; intro K hK
        go_step
        refine (stoneOf_any g nums _ r f _ HR (by omega) hrk).mono ?_
        rintro e w5 ⟨v, rfl, ⟨s, rfl, hs0⟩, HR, k5⟩
        replace hL := hL.kp k5
        replace RB := RB.kp k5 RB.lt hne0
        replace FB := FB.kp k5 FB.lt hne1
        replace KQ := KQ.thenOwn k5 (Nat.le_refl _) hg
        refine hK _ _ ((hS0 _).2 ⟨RB, FB⟩) ?_
        clear hK K k5
        refine wpTr_l rfl rfl ?_; intro K hK
        obtain ⟨pb, hpe, PB⟩ := RB.freshAt 36 #[.int .i64 0, .int .i64 0, .int .i64 0, .int .i64 0, .int .i64 0, .bool false, .int .i64 0, .int .i64 0]
        have hpb : w2.heap.size + 1 < pb := by have := FB.lt; omega
        have hLs := hL.below (.cells #[.int .i64 0, .int .i64 0, .int .i64 0, .int .i64 0, .int .i64 0, .bool false, .int .i64 0, .int .i64 0] 36)
        rw [← hpe] at hLs
        go_step
        first | rw [← hpe] | rw [← show pb = w3.heap.size from hpe]
        replace RB := RB.alloc (.cells #[.int .i64 0, .int .i64 0, .int .i64 0, .int .i64 0, .int .i64 0, .bool false, .int .i64 0, .int .i64 0] 36)
        replace FB := FB.alloc (.cells #[.int .i64 0, .int .i64 0, .int .i64 0, .int .i64 0, .int .i64 0, .bool false, .int .i64 0, .int .i64 0] 36)
        replace KQ := KQ.alloc KQ.size (.cells #[.int .i64 0, .int .i64 0, .int .i64 0, .int .i64 0, .int .i64 0, .bool false, .int .i64 0, .int .i64 0] 36)
        replace HR := HR.alloc (.cells #[.int .i64 0, .int .i64 0, .int .i64 0, .int .i64 0, .int .i64 0, .bool false, .int .i64 0, .int .i64 0] 36)
        replace hL := hL.alloc (.cells #[.int .i64 0, .int .i64 0, .int .i64 0, .int .i64 0, .int .i64 0, .bool false, .int .i64 0, .int .i64 0] 36)
        refine hK _ _ ((hS0 _).2 ⟨RB, FB⟩) ?_
        clear hK K hpe
        iterate 1 (first | (refine wpTr_v rfl rfl ?_; intro K hK; go_big_quiet_op; go_big_quiet_on) | (refine wpTr_q rfl rfl ?_; intro K hK; go_big_quiet_op; go_big_quiet_on) | refine wpTr_s rfl rfl ?_)
        refine wpTr_l rfl rfl ?_; intro K hK
        have cP := fun i => PB.cell i
        have fP := fun i => PB.frozen i
        go_step
        replace PB := PB.stone s
        replace hLs := hLs.stone s
        replace RB := RB.farStone s (show w2.heap.size ≠ pb by omega)
        replace FB := FB.farStone s (show w2.heap.size + 1 ≠ pb by omega)
        replace KQ := KQ.stone s (show w.heap.size ≤ pb by omega)
        refine hK _ _ ((hS0 _).2 ⟨RB, FB⟩) ?_
        clear hK K cP fP
        refine wpTr_nil ?_
        clear hevT _hev
        go_wp2_with fail
        go_meet
        case rel => exact ⟨A1, c1, ls, pb, s, rfl, rfl, hLs.free, hl6, hlo, hpb, PB, hs0, KQ, hge, RB, FB⟩
      · refine wpOne_l rfl rfl ?_; intro K hK
        obtain ⟨pb, hpe, PB⟩ := RB.freshAt 36 #[.int .i64 0, .int .i64 0, .int .i64 0, .int .i64 0, .int .i64 0, .bool false, .int .i64 0, .int .i64 0]
        have hpb : w2.heap.size + 1 < pb := by have := FB.lt; omega
        have hLs := hL.below (.cells #[.int .i64 0, .int .i64 0, .int .i64 0, .int .i64 0, .int .i64 0, .bool false, .int .i64 0, .int .i64 0] 36)
        rw [← hpe] at hLs
        go_step
        first | rw [← hpe] | rw [← show pb = w3.heap.size from hpe]
        replace RB := RB.alloc (.cells #[.int .i64 0, .int .i64 0, .int .i64 0, .int .i64 0, .int .i64 0, .bool false, .int .i64 0, .int .i64 0] 36)
        replace FB := FB.alloc (.cells #[.int .i64 0, .int .i64 0, .int .i64 0, .int .i64 0, .int .i64 0, .bool false, .int .i64 0, .int .i64 0] 36)
        replace KQ := KQ.alloc KQ.size (.cells #[.int .i64 0, .int .i64 0, .int .i64 0, .int .i64 0, .int .i64 0, .bool false, .int .i64 0, .int .i64 0] 36)
        replace HR := HR.alloc (.cells #[.int .i64 0, .int .i64 0, .int .i64 0, .int .i64 0, .int .i64 0, .bool false, .int .i64 0, .int .i64 0] 36)
        replace hL := hL.alloc (.cells #[.int .i64 0, .int .i64 0, .int .i64 0, .int .i64 0, .int .i64 0, .bool false, .int .i64 0, .int .i64 0] 36)
        refine hK _ _ ((hS0 _).2 ⟨RB, FB⟩) ?_
        clear hK K hpe
        refine wpTr_l rfl rfl ?_; intro K hK
        go_step
        refine (stoneOf_any g nums _ r f _ HR (by omega) hrk).mono ?_
        rintro e w5 ⟨v, rfl, ⟨s, rfl, hs0⟩, HR, k5⟩
        replace hLs := hLs.kp2 hL k5
        replace hL := hL.kp k5
        replace PB := PB.kp k5 PB.lt (sne (by omega))
        replace RB := RB.kp k5 RB.lt hne0
        replace FB := FB.kp k5 FB.lt hne1
        replace KQ := KQ.thenOwn k5 (Nat.le_refl _) hg
        refine hK _ _ ((hS0 _).2 ⟨RB, FB⟩) ?_
        clear hK K k5
        iterate 1 (first | (refine wpTr_v rfl rfl ?_; intro K hK; go_big_quiet_op; go_big_quiet_on) | (refine wpTr_q rfl rfl ?_; intro K hK; go_big_quiet_op; go_big_quiet_on) | refine wpTr_s rfl rfl ?_)
        refine wpTr_l rfl rfl ?_; intro K hK
        have cP := fun i => PB.cell i
        have fP := fun i => PB.frozen i
        go_step
        replace PB := PB.stone s
        replace hLs := hLs.stone s
        replace RB := RB.farStone s (show w2.heap.size ≠ pb by omega)
        replace FB := FB.farStone s (show w2.heap.size + 1 ≠ pb by omega)
        replace KQ := KQ.stone s (show w.heap.size ≤ pb by omega)
        refine hK _ _ ((hS0 _).2 ⟨RB, FB⟩) ?_
        clear hK K cP fP
        refine wpTr_nil ?_
        clear hevT _hev
        go_wp2_with fail
        go_meet
        case rel => exact ⟨A1, c1, ls, pb, s, rfl, rfl, hLs.free, hl6, hlo, hpb, PB, hs0, KQ, hge, RB, FB⟩
    · refine wpOne_l rfl rfl ?_; intro K hK
      obtain ⟨pb, hpe, PB⟩ := RB.freshAt 36 #[.int .i64 0, .int .i64 0, .int .i64 0, .int .i64 0, .int .i64 0, .bool false, .int .i64 0, .int .i64 0]
      have hpb : w2.heap.size + 1 < pb := by have := FB.lt; omega
      go_step
      first | rw [← hpe] | rw [← show pb = w3.heap.size from hpe]
      replace RB := RB.alloc (.cells #[.int .i64 0, .int .i64 0, .int .i64 0, .int .i64 0, .int .i64 0, .bool false, .int .i64 0, .int .i64 0] 36)
      replace FB := FB.alloc (.cells #[.int .i64 0, .int .i64 0, .int .i64 0, .int .i64 0, .int .i64 0, .bool false, .int .i64 0, .int .i64 0] 36)
      replace KQ := KQ.alloc KQ.size (.cells #[.int .i64 0, .int .i64 0, .int .i64 0, .int .i64 0, .int .i64 0, .bool false, .int .i64 0, .int .i64 0] 36)
      replace HR := HR.alloc (.cells #[.int .i64 0, .int .i64 0, .int .i64 0, .int .i64 0, .int .i64 0, .bool false, .int .i64 0, .int .i64 0] 36)
      refine hK _ _ ((hS0 _).2 ⟨RB, FB⟩) ?_
      clear hK K hpe
      refine wpTr_l rfl rfl ?_; intro K hK
      go_step
      refine (layersOf_any g nums _ _ HR (by omega)).mono ?_
      rintro e w4 ⟨v, k', rfl, ⟨A1, c1, ls, rfl, hL, hl6, hlo, hge⟩, hk', HR, k4⟩
      have hLs := hL.apart pb (fun ad e => Nat.lt_of_lt_of_le PB.lt (hge ad e))
      replace hge : ∀ ad, A1 = some ad → w2.heap.size + 1 < ad.block := fun ad e => Nat.lt_of_lt_of_le FB.lt (hge ad e)
      replace PB := PB.kp k4 PB.lt (sne (by omega))
      replace RB := RB.kp k4 RB.lt hne0
      replace FB := FB.kp k4 FB.lt hne1
      replace KQ := KQ.thenOwn k4 (Nat.le_refl _) hg
      refine hK _ _ ((hS0 _).2 ⟨RB, FB⟩) ?_
      clear hK K k4
      refine wpTr_l rfl rfl ?_; intro K hK
      go_step
      refine (stoneOf_any g nums _ r f _ HR (by omega) hrk).mono ?_
      rintro e w5 ⟨v, rfl, ⟨s, rfl, hs0⟩, HR, k5⟩
      replace hLs := hLs.kp2 hL k5
      replace hL := hL.kp k5
      replace PB := PB.kp k5 PB.lt (sne (by omega))
      replace RB := RB.kp k5 RB.lt hne0
      replace FB := FB.kp k5 FB.lt hne1
      replace KQ := KQ.thenOwn k5 (Nat.le_refl _) hg
      refine hK _ _ ((hS0 _).2 ⟨RB, FB⟩) ?_
      clear hK K k5
      iterate 1 (first | (refine wpTr_v rfl rfl ?_; intro K hK; go_big_quiet_op; go_big_quiet_on) | (refine wpTr_q rfl rfl ?_; intro K hK; go_big_quiet_op; go_big_quiet_on) | refine wpTr_s rfl rfl ?_)
      refine wpTr_l rfl rfl ?_; intro K hK
      have cP := fun i => PB.cell i
      have fP := fun i => PB.frozen i
      go_step
      replace PB := PB.stone s
      replace hLs := hLs.stone s
      replace RB := RB.farStone s (show w2.heap.size ≠ pb by omega)
      replace FB := FB.farStone s (show w2.heap.size + 1 ≠ pb by omega)
      replace KQ := KQ.stone s (show w.heap.size ≤ pb by omega)
      refine hK _ _ ((hS0 _).2 ⟨RB, FB⟩) ?_
      clear hK K cP fP
      refine wpTr_nil ?_
      clear hevT _hev
      go_wp2_with fail
      go_meet
      case rel => exact ⟨A1, c1, ls, pb, s, rfl, rfl, hLs.free, hl6, hlo, hpb, PB, hs0, KQ, hge, RB, FB⟩
  case rest =>
    obtain ⟨A1, c1, ls, b, s, rfl, rfl, hL, hl6, hlo, hbw, PB, hs0, KC, hge, RC, FC⟩ := hcut
    have hs := stoneOk_of_in hs0 hrk
    have hair : AirOk ls := ⟨by omega, fun i hi => by
      obtain ⟨h1, h2, h3, h4⟩ := hlo ls[i] (List.getElem_mem hi)
      exact ⟨⟨h1, by omega⟩, h3, h4⟩⟩
    have hall := Lib.hid (sole_all hs)
    have hsb := Lib.hid (sole_blows ls s)
    replace hs := Lib.hid hs
    replace hair := Lib.hid hair
    clear KQ HR RB FB hrk hlow hr2 hz2 hs0 hlo
    obtain ⟨b1, hb1⟩ : ∃ b1, b1 = w2.heap.size := ⟨_, rfl⟩
    rw [← hb1] at RC FC hge hbw hw2 ⊢
    clear hb1
    obtain ⟨k1, hk1⟩ : ∃ k, k = soleRock s := ⟨_, rfl⟩
    obtain ⟨f1, hf1⟩ : ∃ k, k = soleFall s := ⟨_, rfl⟩
    rw [← hk1, ← hf1] at hall hsb
    replace hk1 := Lib.hid hk1
    replace hf1 := Lib.hid hf1
    have cP := fun i => PB.cell i
    go_wp2_with fail
    refine (soleRock_any s _).mono ?_
    rintro e w4 ⟨rfl, k4⟩
    rw [← hk1.out, ← hf1.out]
    clear cP
    replace PB := PB.kpN k4
    replace RC := RC.kpN k4
    replace FC := FC.kpN k4
    replace hL := hL.kpN k4
    replace KC := KC.thenN k4 (Nat.le_refl _)
    clear k4
    have cR := fun i => RC.cell i
    have fR := fun i => RC.frozen i
    have cF := fun i => FC.cell i
    have fF := fun i => FC.frozen i
    go_wp2_with fail
    obtain ⟨w5, hw5⟩ : ∃ w5, w5 = fillAt (fillAt w4 b1 0 [.int .i64 k1.size.lo, .int .i64 k1.size.hi, .int .i64 k1.dens.lo, .int .i64 k1.dens.hi, .int .i64 k1.strong.lo, .int .i64 k1.strong.hi, .int .i64 k1.spin.lo, .int .i64 k1.spin.hi, .int .i64 k1.shape.lo, .int .i64 k1.shape.hi, .bool k1.pile]) (b1 + 1) 0 [.int .i64 f1.speed.lo, .int .i64 f1.speed.hi, .int .i64 f1.slope.lo, .int .i64 f1.slope.hi] := ⟨_, rfl⟩
    have RC5 : Blk w5 b1 28 #[.int .i64 k1.size.lo, .int .i64 k1.size.hi, .int .i64 k1.dens.lo, .int .i64 k1.dens.hi, .int .i64 k1.strong.lo, .int .i64 k1.strong.hi, .int .i64 k1.spin.lo, .int .i64 k1.spin.hi, .int .i64 k1.shape.lo, .int .i64 k1.shape.hi, .bool k1.pile] := hw5 ▸ Blk.fillFar (Blk.fill11 (.int .i64 k1.size.lo) (.int .i64 k1.size.hi) (.int .i64 k1.dens.lo) (.int .i64 k1.dens.hi) (.int .i64 k1.strong.lo) (.int .i64 k1.strong.hi) (.int .i64 k1.spin.lo) (.int .i64 k1.spin.hi) (.int .i64 k1.shape.lo) (.int .i64 k1.shape.hi) (.bool k1.pile) RC) (by omega) _ _
    have FC5 : Blk w5 (b1 + 1) 30 #[.int .i64 f1.speed.lo, .int .i64 f1.speed.hi, .int .i64 f1.slope.lo, .int .i64 f1.slope.hi] := hw5 ▸ Blk.fill4 (.int .i64 f1.speed.lo) (.int .i64 f1.speed.hi) (.int .i64 f1.slope.lo) (.int .i64 f1.slope.hi) (Blk.fillFar FC (by omega) _ _)
    have PB5 : Blk w5 b 36 #[.int .i64 s.size, .int .i64 s.dens, .int .i64 s.strong, .int .i64 s.spin, .int .i64 s.shape, .bool s.pile, .int .i64 s.speed, .int .i64 s.slope] := hw5 ▸ Blk.fillFar (Blk.fillFar PB (by omega) _ _) (by omega) _ _
    have hL5 : Rd none w5 2 encLayer A1 ls.length ls := by
      rw [hw5]
      have h1 := (Rd.fill (hL.apart b1 fun ad e => by have := hge ad e; omega) [.int .i64 k1.size.lo, .int .i64 k1.size.hi, .int .i64 k1.dens.lo, .int .i64 k1.dens.hi, .int .i64 k1.strong.lo, .int .i64 k1.strong.hi, .int .i64 k1.spin.lo, .int .i64 k1.spin.hi, .int .i64 k1.shape.lo, .int .i64 k1.shape.hi, .bool k1.pile] 0).free
      exact (Rd.fill (h1.apart (b1 + 1) fun ad e => hge ad e) [.int .i64 f1.speed.lo, .int .i64 f1.speed.hi, .int .i64 f1.slope.lo, .int .i64 f1.slope.hi] 0).free
    have KC5 : Kp w.heap.size none w w5 := hw5 ▸ Kp.fill (Kp.fill KC (by omega) _ _) (by omega) _ _
    simp only [fillAt, Nat.zero_add, Nat.reduceAdd] at hw5
    rw [← hw5]
    clear hw5 RC FC PB hL KC cR fR cF fF
    refine (blows_ok A1 c1 ls k1 f1 _ hL5 (hb.kpN KC5) hair.out hall.out).mono ?_
    rintro e w6 ⟨⟨A6, c6, rfl, hB6⟩, k6⟩
    rw [hsb.out] at hB6 ⊢
    obtain ⟨L, hL⟩ : ∃ L, L = ((endsOf ls s).1 : Int) := ⟨_, rfl⟩
    obtain ⟨E, hE⟩ : ∃ E, E = (endsOf ls s).2 := ⟨_, rfl⟩
    rw [← hL, ← hE] at hB6 ⊢
    have K6 := KC5.thenN k6 (Nat.le_refl _)
    have PB6 := PB5.kpN k6
    have hL6 := hL5.kpN k6
    clear k6 PB5 hL5 KC5 RC5 FC5 hsb hall
    have cP := fun i => PB6.cell i
    go_wp2_with fail
    refine (ends_ok A1 c1 ls s _ hL6 (hb.kpN K6) hair.out hs.out).mono ?_
    rintro e w7 ⟨rfl, k7⟩
    rw [← hL, ← hE]
    replace hB6 := hB6.kpN k7
    have K7 := K6.thenN k7 (Nat.le_refl _)
    replace hL := Lib.hid hL
    replace hE := Lib.hid hE
    clear k7 K6 PB6 hL6 cP
    go_wp2_with fail
    refine (of_any E E _).mono ?_
    rintro e w8 ⟨rfl, k8⟩
    replace hB6 := hB6.kpN k8
    have K8 := K7.thenN k8 (Nat.le_refl _)
    clear k8 K7
    have NB := Blk.new w8 83 #[.int .i64 L, .int .i64 E, .int .i64 E]
    have k9 := (Kp.refl w8.heap.size none w8).alloc (Nat.le_refl _) (.cells #[.int .i64 L, .int .i64 E, .int .i64 E] 83)
    replace hB6 := hB6.kpN k9
    have K9 := K8.thenN k9 (Nat.le_refl _)
    have R9 : Rd none _ 3 encBlow (some ⟨w8.heap.size, 0, none⟩) 1 [⟨L, E, E⟩] := Rd.of_blk (sz := 3) (enc := encBlow) [⟨L, E, E⟩] (fun _ => rfl) rfl NB none (by simp)
    clear k9 K8
    go_wp2_with fail
    refine (kit_SameBlows_any A6 (some ⟨w8.heap.size, 0, none⟩) c6 1 [⟨L, E, E⟩] [⟨L, E, E⟩] _ hB6 R9 (by simp)).mono ?_
    rintro e w10 ⟨⟨b9, rfl, hbb⟩, k10⟩
    obtain rfl : b9 = true := hbb.2 rfl
    have K10 := K9.thenN k10 (Nat.le_refl _)
    clear k10 K9 hB6 R9 NB hbb
    go_wp2_with fail
    refine (awake_any _ (hb.kpN K10)).mono ?_
    rintro e w11 ⟨rfl, k11⟩
    have K11 := K10.thenN k11 (Nat.le_refl _)
    go_wp2
    exact bodyPost_ret (v := .bool true) (by simp [results, Tryd.results9, go_sem]) rfl ⟨rfl, K11⟩
end Go.Proofs.YtdiigflbohbndaaDoor
