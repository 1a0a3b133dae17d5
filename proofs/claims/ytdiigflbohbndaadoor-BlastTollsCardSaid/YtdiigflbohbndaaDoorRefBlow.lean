/- The reference: a stone slowed, where it ends. -/
import Derived.Test.YtdiigflbohbndaaDoorBlow1
import Derived.Test.YtdiigflbohbndaaDoorRefRock3
import Derived.Deep.DeepCutAuto
namespace Go.Proofs.YtdiigflbohbndaaDoor
open Go.RowKit

theorem less_comm (s : Stone) (x : Layer) (v : Int) : v * (x.dens * wayOf x.thick s.slope * s.shape) / (s.dens * s.size * 1000) = lessOf s x v := by
  unfold lessOf
  congr 1
  rw [Int.mul_assoc x.dens, ← Int.mul_assoc v, Int.mul_comm v x.dens]
set_option maxHeartbeats 1000000 in
theorem ref_slowed_any (s : Stone) (v : Int) (x : Layer) (w : World) (hs : StoneOk s) (hx : LayOk x) (hv : 0 ≤ v ∧ v ≤ 64000000) :
    Calls Tryd.prog 98 #[.int .i64 v, .agg #[.int .i64 x.thick, .int .i64 x.dens], .int .i64 s.shape, .int .i64 s.slope, .int .i64 s.dens, .int .i64 s.size] w fun e w' => e = .returned (.int .i64 (slowedOf s x v)) ∧ Kp w.heap.size none w w' := by
  have K0 := (Kp.refl w.heap.size none w).alloc (Nat.le_refl _) (.cells #[.int .i64 x.thick, .int .i64 x.dens] 43)
  have B0 := Blk.new w 43 #[.int .i64 x.thick, .int .i64 x.dens]
  have st' := Lib.hid (step_ok hs hx hv)
  have hs' := Lib.hid hs
  have hx' := Lib.hid hx
  have hv' := Lib.hid hv
  obtain ⟨wy, hwy⟩ : ∃ wy, wy = wayOf x.thick s.slope := ⟨_, rfl⟩
  have ewy : wrap64 ((wrap64 (wrap64 (wrap64 (x.thick * 1000) + s.slope) - 1)).tdiv s.slope) = wy := by
    have h1 := st'.out.t
    have h2 := hs.slope
    have h4 := hx.1
    have h3 : wrap64 (wrap64 (wrap64 (x.thick * 1000) + s.slope) - 1) = x.thick * 1000 + s.slope - 1 := by unfold wrap64; omega
    rw [h3, Int.tdiv_eq_ediv_of_nonneg h1.1, hwy]
    exact wrap64_of st'.out.way.1 (by have := st'.out.way.2; unfold wayOf at this; omega)
  replace hwy := Lib.hid hwy
  replace ewy := Lib.hid ewy
  have hsl : 1 ≤ s.slope := hs.slope.1
  clear hs hx hv
  go_enter Tryd.func98, Tryd.ntmps98
  have cB := fun i => B0.cell i
  go_wp2_with fail
  rw [ewy.out]
  clear ewy cB
  obtain ⟨m1, hm1⟩ : ∃ m, m = x.dens * wy := ⟨_, rfl⟩
  obtain ⟨m, hm⟩ : ∃ m, m = m1 * s.shape := ⟨_, rfl⟩
  obtain ⟨d, hd⟩ : ∃ d, d = s.dens * s.size := ⟨_, rfl⟩
  obtain ⟨c, hc⟩ : ∃ c, c = d * 1000 := ⟨_, rfl⟩
  have bm1 : 0 ≤ m1 ∧ m1 ≤ 1001000000 := by
    have h1 := mul_in hx'.out.2.1 hx'.out.2.2 st'.out.way.1 st'.out.way.2
    rw [hm1, hwy.out]; exact ⟨h1.1, by omega⟩
  have bm : 0 ≤ m ∧ m ≤ 2002000000000 := by
    have h1 := mul_in bm1.1 bm1.2 (show 0 ≤ s.shape by have := hs'.out.shape; omega) hs'.out.shape.2
    rw [hm]; exact ⟨h1.1, by omega⟩
  have bd : 1 ≤ d ∧ d ≤ 9000000 := by rw [hd]; exact ⟨st'.out.d1, st'.out.ds.2⟩
  have hls : v * m / c = lessOf s x v := by rw [hm, hm1, hc, hd, hwy.out]; exact less_comm s x v
  have bl := st'.out.less
  rw [← hls] at bl
  rw [← hm1, ← hd, wrap64_of bm1.1 (by omega), ← hm, wrap64_of bm.1 (by omega), wrap64_of (show 0 ≤ d by omega) (by omega), ← hc, wrap64_of (show 0 ≤ c by omega) (by omega)]
  have hv2 := hv'.out
  refine (ref_MulDiv_int v m c ⟨hv2.1, by omega⟩ ⟨bm.1, by omega⟩ (by omega) (by omega) _).mono ?_
  rintro e w2 ⟨⟨u, rfl⟩, k2⟩
  have K2 := K0.thenN k2 (by simp)
  rw [hls]
  have b3 := st'.out.less
  have ewq : max 0 (wrap64 (v - lessOf s x v)) = slowedOf s x v := by
    rw [show wrap64 (v - lessOf s x v) = v - lessOf s x v from by unfold wrap64; omega]
    rfl
  replace ewq := Lib.hid ewq
  clear hm1 hm hd hc bm1 bm bd bl hls k2 B0 K0 b3 hv2
  generalize lessOf s x v = q at ewq
  go_wp2
  rw [ewq.out]
  exact bodyPost_ret (v := .int .i64 (slowedOf s x v)) (by simp [results, Tryd.results98, go_sem]) rfl ⟨rfl, K2⟩
theorem endsChk_one {ls : List Layer} {s : Stone} {n e x n' e' x' : Int} (h : EndsChk ls s n e x) (k : EndsChk ls s n' e' x') : n = n' ∧ e = e' ∧ x = x' := by
  rcases h with ⟨ha, hs, rfl, rfl, rfl⟩ | ⟨hno, rfl, rfl, h⟩ <;> rcases k with ⟨ka, ks, rfl, rfl, rfl⟩ | ⟨kno, rfl, rfl, k⟩
  · exact ⟨rfl, rfl, rfl⟩
  · exact absurd ⟨ha, hs⟩ kno
  · exact absurd ⟨ka, ks⟩ hno
  · refine ⟨rfl, ?_, rfl⟩
    rcases h with ⟨h0, h⟩ | ⟨ha, h⟩ <;> rcases k with ⟨k0, k⟩ | ⟨ka, k⟩
    · exact airChk_one h k
    · exact absurd (airChk_one h (.inl ⟨rfl, ka⟩)) h0
    · exact absurd (airChk_one k (.inl ⟨rfl, ha⟩)) k0
    · exact stoneChk_one h k
def RefEndAt (ls : List Layer) (s : Stone) (w : World) (vw vi : Value) (wr : World) : Prop :=
  ∃ (i : Nat) (v : Int), vi = .int .i64 i ∧ vw = .int .i64 v ∧ i ≤ ls.length ∧ Vok v ∧ fallFrom s ls (s.speed * s.speed) = (i + (fallFrom s (ls.drop i) v).1, (fallFrom s (ls.drop i) v).2) ∧ Blk wr w.heap.size 36 #[.int .i64 s.size, .int .i64 s.dens, .int .i64 s.strong, .int .i64 s.spin, .int .i64 s.shape, .bool s.pile, .int .i64 s.speed, .int .i64 s.slope] ∧ Kp w.heap.size none w wr
set_option maxRecDepth 100000 in
set_option maxHeartbeats 2000000 in
theorem ref_Ends_any (A : Option Addr) (cap : Nat) (ls : List Layer) (s : Stone) (w : World) (h : Rd none w 2 encLayer A ls.length ls) :
    Calls Tryd.prog 53 #[.slice A ls.length cap, .agg #[.int .i64 s.size, .int .i64 s.dens, .int .i64 s.strong, .int .i64 s.spin, .int .i64 s.shape, .bool s.pile, .int .i64 s.speed, .int .i64 s.slope]] w fun e w' => (∃ n x y, e = .returned (.tuple #[.int .i64 n, .int .i64 x, .int .i64 y]) ∧ EndsChk ls s n y x) ∧ Kp w.heap.size none w w' := by
  have K0 := (Kp.refl w.heap.size none w).alloc (Nat.le_refl _) (.cells #[.int .i64 s.size, .int .i64 s.dens, .int .i64 s.strong, .int .i64 s.spin, .int .i64 s.shape, .bool s.pile, .int .i64 s.speed, .int .i64 s.slope] 36)
  have B0 := Blk.new w 36 #[.int .i64 s.size, .int .i64 s.dens, .int .i64 s.strong, .int .i64 s.spin, .int .i64 s.shape, .bool s.pile, .int .i64 s.speed, .int .i64 s.slope]
  go_enter Tryd.func53, Tryd.ntmps53
  go_wp2_with fail
  refine (ref_CheckAir_any A cap ls _ (h.kpN K0)).mono ?_
  rintro e w1 ⟨⟨n, rfl, hn⟩, k1⟩
  have B1 := B0.kp k1 B0.lt (by simp)
  have K1 := K0.then_ k1 (by simp)
  have c1 := fun i => B1.cell i
  clear k1 B0 K0
  by_cases hn0 : n = 0
  · subst hn0
    have ha : AirOk ls := by
      rcases hn with ⟨_, h⟩ | ⟨h, _⟩ | ⟨h, _⟩
      · exact h
      · cases h
      · cases h
    clear hn
    replace ha := Lib.hid ha
    go_wp2_with fail
    refine (ref_CheckStone_any s _).mono ?_
    rintro e w2 ⟨⟨n, rfl, hn⟩, k2⟩
    have B2 := B1.kp k2 B1.lt (by simp)
    have K2 := K1.then_ k2 (by simp)
    have c2 := fun i => B2.cell i
    clear k2 B1 K1 c1
    rcases hn with ⟨rfl, hs⟩ | ⟨rfl, hs⟩
    · have hv0 := vok_sq hs
      have ewv := Lib.hid (wrap64_of hv0.1 (by have := hv0.2; omega))
      replace hs := Lib.hid hs
      replace hv0 := Lib.hid hv0
      go_wp2_with fail
      rw [ewv.out]
      clear ewv c2
      go_loopw [9, 10] (fun vw vi wr => RefEndAt ls s w vw vi wr) (fun _ v _ => ls.length - (intOf v).toNat)
      case atStart => exact ⟨0, _, rfl, rfl, Nat.zero_le _, hv0.out, by rw [List.drop_zero, Nat.zero_add], B2, K2⟩
      case round =>
        obtain ⟨i, v, rfl, rfl, hi, hv, hf, BB, KK⟩ := hrel
        have cB := fun i => BB.cell i
        by_cases h7 : i < ls.length
        · obtain ⟨b, o, rfl, hbl, -, hc⟩ := (h.kpN KK).at_ (by omega)
          have c0 : wr.cell? ⟨b, o + i * 2, none⟩ = some (.int .i64 ls[i].thick) := hc i h7 0 _ rfl
          have c1 : wr.cell? ⟨b, o + i * 2 + 1, none⟩ = some (.int .i64 ls[i].dens) := hc i h7 1 _ rfl
          have hi' : (i : Int) < (ls.length : Int) := by omega
          have hlen : (ls.length : Int) ≤ 32 := by have := ha.out.1; omega
          have hx := Lib.hid (ha.out.2 i h7)
          rw [List.drop_eq_getElem_cons h7] at hf
          generalize ls[i] = x at c0 c1 hx hf
          clear hc
          have hst := step_ok hs.out hx.out hv
          obtain ⟨p, hp⟩ : ∃ p, p = x.dens * v := ⟨_, rfl⟩
          have bp := hst.p
          rw [← hp] at bp
          have ewp : wrap64 (x.dens * v) = p := by rw [← hp]; exact wrap64_of bp.1 (by omega)
          have hbu : burstsAt x.dens v (holdOf s.strong s.spin s.pile) = (decide (holdOf s.strong s.spin s.pile ≤ p) && decide (0 < p)) := by rw [hp]; rfl
          replace hv := Lib.hid hv
          replace hst := Lib.hid hst
          replace hp := Lib.hid hp
          replace ewp := Lib.hid ewp
          replace hf := Lib.hid hf
          replace h7 := Lib.hid h7
          replace h := Lib.hid h
          replace hbu := Lib.hid hbu
          go_upto_region 12 with (fail)
          rw [ewp.out]
          clear ewp
          rcases (show 0 < p ∨ ¬ 0 < p by omega) with hp0 | hp0
          · go_wp2_with fail
            refine (ref_holds_any s.strong s.spin s.pile hs.out.strong hs.out.spin _).mono ?_
            rintro e w4 ⟨rfl, k4⟩
            replace BB := BB.kpN k4
            replace KK := KK.thenN k4 (Nat.le_refl _)
            replace c0 := (k4.cell b _ hbl (by simp)).trans c0
            replace c1 := (k4.cell b _ hbl (by simp)).trans c1
            replace cB := fun i => BB.cell i
            replace hbl := Nat.lt_of_lt_of_le hbl k4.size
            clear k4
            obtain ⟨hh, hhe⟩ : ∃ hh, hh = holdOf s.strong s.spin s.pile := ⟨_, rfl⟩
            rw [← hhe]
            rw [← hhe] at hbu
            replace hhe := Lib.hid hhe
            rcases (show hh ≤ p ∨ ¬ hh ≤ p by omega) with hp1 | hp1
            · have hbt : burstsAt x.dens v (holdOf s.strong s.spin s.pile) = true := by rw [← hhe.out, hbu.out]; simp [hp0, hp1]
              have hfin : EndsChk ls s i 0 (massOf s.size s.dens * v) := by
                have hf := hf.out
                rw [fall_burst hbt, Nat.add_zero] at hf
                exact .inl ⟨ha.out, hs.out, by unfold endsOf; rw [hf], by unfold endsOf; rw [hf], rfl⟩
              replace hfin := Lib.hid hfin
              clear hf hbt
              go_wp2_with fail
              refine (ref_mass_any s.size s.dens hs.out.size hs.out.dens _).mono ?_
              rintro e w5 ⟨rfl, k5⟩
              have K5 := KK.thenN k5 (Nat.le_refl _)
              have ew5 := Lib.hid (wrap64_of (energy_in hs.out hv.out).1 (by have := (energy_in hs.out hv.out).2; omega))
              clear k5
              go_wp2
              rw [ew5.out]
              exact bodyPost_ret (v := .tuple #[.int .i64 i, .int .i64 (massOf s.size s.dens * v), .int .i64 0]) (by simp [results, Tryd.results53, go_sem]) rfl ⟨⟨i, massOf s.size s.dens * v, 0, rfl, hfin.out⟩, K5⟩
            · have hbt : burstsAt x.dens v (holdOf s.strong s.spin s.pile) = false := by rw [← hhe.out, hbu.out]; simp [hp1]
              have hf4 : fallFrom s ls (s.speed * s.speed) = (i + 1 + (fallFrom s (ls.drop (i + 1)) (slowedOf s x v)).1, (fallFrom s (ls.drop (i + 1)) (slowedOf s x v)).2) := by
                rw [hf.out, fall_go hbt, Nat.add_comm _ 1, ← Nat.add_assoc]
              replace hf4 := Lib.hid hf4
              have hv4 := Lib.hid (show Vok (slowedOf s x v) from slowed_bd hst.out hv.out)
              clear hf hbt
              go_wp2_with fail
              replace BB := BB.drew
              replace KK := KK.drew
              replace c0 : w4.drew.cell? _ = _ := c0
              replace c1 : w4.drew.cell? _ = _ := c1
              obtain ⟨S, hS⟩ : ∃ S : Nat → World → Prop, S = fun _ w' => Blk w' w.heap.size 36 #[.int .i64 s.size, .int .i64 s.dens, .int .i64 s.strong, .int .i64 s.spin, .int .i64 s.shape, .bool s.pile, .int .i64 s.speed, .int .i64 s.slope] ∧ w'.cell? ⟨b, o + i * 2, none⟩ = some (.int .i64 x.thick) ∧ w'.cell? ⟨b, o + i * 2 + 1, none⟩ = some (.int .i64 x.dens) := ⟨_, rfl⟩
              have hS0 : ∀ w', S 0 w' ↔ (Blk w' w.heap.size 36 #[.int .i64 s.size, .int .i64 s.dens, .int .i64 s.strong, .int .i64 s.spin, .int .i64 s.shape, .bool s.pile, .int .i64 s.speed, .int .i64 s.slope] ∧ w'.cell? ⟨b, o + i * 2, none⟩ = some (.int .i64 x.thick) ∧ w'.cell? ⟨b, o + i * 2 + 1, none⟩ = some (.int .i64 x.dens)) := fun w' => by rw [hS]
              clear hS
              have cx := fun (q : Ev (S 0)) i => ((hS0 _).1 q.h).1.cell i
              have cy := fun (q : Ev (S 0)) => ((hS0 _).1 q.h).2.1
              have cz := fun (q : Ev (S 0)) => ((hS0 _).1 q.h).2.2
              have hevT := ev_true
              refine wp_region_ord S [(0, 0), (1, 0), (2, 0), (3, 0), (4, 1), (5, 0), (6, 1), (7, 0), (8, 1), (9, 0), (10, 1), (11, 0), (12, 1), (13, 2), (14, 0)] [] (by kernel_rfl) (by kernel_rfl) ((hS0 _).2 ⟨BB, c0, c1⟩) ?_
              intro _hev
              iterate 13 (first | (refine wpOrd_v rfl rfl ?_; intro K hK; go_big_quiet_op; go_big_quiet_on) | (refine wpOrd_q rfl rfl ?_; intro K hK; go_big_quiet_op; go_big_quiet_on) | refine wpOrd_s (by decide) rfl rfl ?_)
              refine wpOrd_l rfl rfl ?_; intro K hK
              go_step
              refine (ref_slowed_any s v x _ hs.out hx.out hv.out).mono ?_
              rintro e w6 ⟨rfl, k6⟩
              have BB6 := BB.kpN k6
              have KK6 := KK.thenN k6 (Nat.le_refl _)
              refine hK _ _ ((hS0 _).2 ⟨BB6, (k6.cell b _ hbl (by simp)).trans c0, (k6.cell b _ hbl (by simp)).trans c1⟩) ?_
              clear hK K k6
              iterate 1 (first | (refine wpOrd_v rfl rfl ?_; intro K hK; go_big_quiet_op; go_big_quiet_on) | (refine wpOrd_q rfl rfl ?_; intro K hK; go_big_quiet_op; go_big_quiet_on) | refine wpOrd_s (by decide) rfl rfl ?_)
              refine wpOrd_nil ?_
              clear hevT _hev
              clear cx cy cz hS0 S c0 c1 cB BB KK
              go_wp2
              go_roundw
              case rel => exact ⟨i + 1, _, rfl, rfl, h7.out, hv4.out, hf4.out, BB6, KK6⟩
              case measure => have := h7.out; simp [intOf]; omega
          · have hbt : burstsAt x.dens v (holdOf s.strong s.spin s.pile) = false := by rw [hbu.out]; simp [hp0]
            have hf4 : fallFrom s ls (s.speed * s.speed) = (i + 1 + (fallFrom s (ls.drop (i + 1)) (slowedOf s x v)).1, (fallFrom s (ls.drop (i + 1)) (slowedOf s x v)).2) := by
              rw [hf.out, fall_go hbt, Nat.add_comm _ 1, ← Nat.add_assoc]
            replace hf4 := Lib.hid hf4
            have hv4 := Lib.hid (show Vok (slowedOf s x v) from slowed_bd hst.out hv.out)
            clear hf hbt
            go_wp2_with fail
            replace BB := BB.drew
            replace KK := KK.drew
            replace c0 : wr.drew.cell? _ = _ := c0
            replace c1 : wr.drew.cell? _ = _ := c1
            obtain ⟨S, hS⟩ : ∃ S : Nat → World → Prop, S = fun _ w' => Blk w' w.heap.size 36 #[.int .i64 s.size, .int .i64 s.dens, .int .i64 s.strong, .int .i64 s.spin, .int .i64 s.shape, .bool s.pile, .int .i64 s.speed, .int .i64 s.slope] ∧ w'.cell? ⟨b, o + i * 2, none⟩ = some (.int .i64 x.thick) ∧ w'.cell? ⟨b, o + i * 2 + 1, none⟩ = some (.int .i64 x.dens) := ⟨_, rfl⟩
            have hS0 : ∀ w', S 0 w' ↔ (Blk w' w.heap.size 36 #[.int .i64 s.size, .int .i64 s.dens, .int .i64 s.strong, .int .i64 s.spin, .int .i64 s.shape, .bool s.pile, .int .i64 s.speed, .int .i64 s.slope] ∧ w'.cell? ⟨b, o + i * 2, none⟩ = some (.int .i64 x.thick) ∧ w'.cell? ⟨b, o + i * 2 + 1, none⟩ = some (.int .i64 x.dens)) := fun w' => by rw [hS]
            clear hS
            have cx := fun (q : Ev (S 0)) i => ((hS0 _).1 q.h).1.cell i
            have cy := fun (q : Ev (S 0)) => ((hS0 _).1 q.h).2.1
            have cz := fun (q : Ev (S 0)) => ((hS0 _).1 q.h).2.2
            have hevT := ev_true
            refine wp_region_ord S [(0, 0), (1, 0), (2, 0), (3, 0), (4, 1), (5, 0), (6, 1), (7, 0), (8, 1), (9, 0), (10, 1), (11, 0), (12, 1), (13, 2), (14, 0)] [] (by kernel_rfl) (by kernel_rfl) ((hS0 _).2 ⟨BB, c0, c1⟩) ?_
            intro _hev
            iterate 13 (first | (refine wpOrd_v rfl rfl ?_; intro K hK; go_big_quiet_op; go_big_quiet_on) | (refine wpOrd_q rfl rfl ?_; intro K hK; go_big_quiet_op; go_big_quiet_on) | refine wpOrd_s (by decide) rfl rfl ?_)
            refine wpOrd_l rfl rfl ?_; intro K hK
            go_step
            refine (ref_slowed_any s v x _ hs.out hx.out hv.out).mono ?_
            rintro e w6 ⟨rfl, k6⟩
            have BB6 := BB.kpN k6
            have KK6 := KK.thenN k6 (Nat.le_refl _)
            refine hK _ _ ((hS0 _).2 ⟨BB6, (k6.cell b _ hbl (by simp)).trans c0, (k6.cell b _ hbl (by simp)).trans c1⟩) ?_
            clear hK K k6
            iterate 1 (first | (refine wpOrd_v rfl rfl ?_; intro K hK; go_big_quiet_op; go_big_quiet_on) | (refine wpOrd_q rfl rfl ?_; intro K hK; go_big_quiet_op; go_big_quiet_on) | refine wpOrd_s (by decide) rfl rfl ?_)
            refine wpOrd_nil ?_
            clear hevT _hev
            clear cx cy cz hS0 S c0 c1 cB BB KK
            go_wp2
            go_roundw
            case rel => exact ⟨i + 1, _, rfl, rfl, h7.out, hv4.out, hf4.out, BB6, KK6⟩
            case measure => have := h7.out; simp [intOf]; omega
        · have he : i = ls.length := by omega
          have hi' : ¬ (i : Int) < (ls.length : Int) := by omega
          have hfin : EndsChk ls s i 0 (massOf s.size s.dens * v) := by
            rw [he, List.drop_length, fall_nil, Nat.add_zero, ← he] at hf
            exact .inl ⟨ha.out, hs.out, by unfold endsOf; rw [hf], by unfold endsOf; rw [hf], rfl⟩
          subst he
          replace hfin := Lib.hid hfin
          have ew5 := Lib.hid (wrap64_of (energy_in hs.out hv).1 (by have := (energy_in hs.out hv).2; omega))
          clear hf h7 hi hv
          go_wp2_with fail
          refine (ref_mass_any s.size s.dens hs.out.size hs.out.dens _).mono ?_
          rintro e w5 ⟨rfl, k5⟩
          have K5 := KK.thenN k5 (Nat.le_refl _)
          clear k5
          go_wp2
          rw [ew5.out]
          exact bodyPost_ret (v := .tuple #[.int .i64 ls.length, .int .i64 (massOf s.size s.dens * v), .int .i64 0]) (by simp [results, Tryd.results53, go_sem]) rfl ⟨⟨ls.length, massOf s.size s.dens * v, 0, rfl, hfin.out⟩, K5⟩
    · have hc : EndsChk ls s 0 2 0 := .inr ⟨fun k => hs k.2, rfl, rfl, .inr ⟨ha.out, .inr ⟨rfl, hs⟩⟩⟩
      replace hc := Lib.hid hc
      go_wp2
      exact bodyPost_ret (v := .tuple #[.int .i64 0, .int .i64 0, .int .i64 2]) (by simp [results, Tryd.results53, go_sem]) rfl ⟨⟨0, 0, 2, rfl, hc.out⟩, K2⟩
  · have hc : EndsChk ls s 0 n 0 := by
      have hno : ¬ AirOk ls := fun h => hn0 (airChk_one hn (.inl ⟨rfl, h⟩))
      exact .inr ⟨fun k => hno k.1, rfl, rfl, .inl ⟨hn0, hn⟩⟩
    replace hc := Lib.hid hc
    clear hn
    go_wp2
    exact bodyPost_ret (v := .tuple #[.int .i64 0, .int .i64 0, .int .i64 n]) (by simp [results, Tryd.results53, go_sem]) rfl ⟨⟨0, 0, n, rfl, hc.out⟩, K1⟩
end Go.Proofs.YtdiigflbohbndaaDoor
