/- Where a stone ends. -/
import Derived.Test.YtdiigflbohbndaaDoorFall
namespace Go.Proofs.YtdiigflbohbndaaDoor
open Go.RowKit

/-- From a layer on: how many layers it goes through, and what is left of w. -/
def fallFrom (s : Stone) : List Layer → Int → Nat × Int
  | [], v => (0, v)
  | x :: xs, v => if burstsAt x.dens v (holdOf s.strong s.spin s.pile) then (0, v) else ((fallFrom s xs (slowedOf s x v)).1 + 1, (fallFrom s xs (slowedOf s x v)).2)
theorem fall_nil (s : Stone) (v : Int) : fallFrom s [] v = (0, v) := rfl
theorem fall_burst {s : Stone} {x : Layer} {xs : List Layer} {v : Int} (h : burstsAt x.dens v (holdOf s.strong s.spin s.pile) = true) : fallFrom s (x :: xs) v = (0, v) := by
  unfold fallFrom; rw [if_pos h]
theorem fall_go {s : Stone} {x : Layer} {xs : List Layer} {v : Int} (h : burstsAt x.dens v (holdOf s.strong s.spin s.pile) = false) :
    fallFrom s (x :: xs) v = ((fallFrom s xs (slowedOf s x v)).1 + 1, (fallFrom s xs (slowedOf s x v)).2) := by
  conv => lhs; unfold fallFrom
  rw [if_neg (by rw [h]; simp)]
def Vok (v : Int) : Prop := 0 ≤ v ∧ v ≤ 64000000
theorem vok_sq {s : Stone} (h : StoneOk s) : Vok (s.speed * s.speed) := by
  obtain ⟨h1, h2⟩ := mul_in (show 0 ≤ s.speed by have := h.speed; omega) h.speed.2 (show 0 ≤ s.speed by have := h.speed; omega) h.speed.2
  exact ⟨h1, by omega⟩
/-- What a stone does: its layer and its energy. -/
def endsOf (ls : List Layer) (s : Stone) : Nat × Int := ((fallFrom s ls (s.speed * s.speed)).1, massOf s.size s.dens * (fallFrom s ls (s.speed * s.speed)).2)
def EndAt (ls : List Layer) (s : Stone) (g i : Nat) (v : Int) (W wr : World) : Prop :=
  i ≤ ls.length ∧ Vok v ∧ fallFrom s ls (s.speed * s.speed) = (i + (fallFrom s (ls.drop i) v).1, (fallFrom s (ls.drop i) v).2) ∧ Blk wr g 110 (fallCells s v) ∧ Kp W.heap.size none W wr
theorem energy_in {s : Stone} (h : StoneOk s) {v : Int} (hv : Vok v) : 0 ≤ massOf s.size s.dens * v ∧ massOf s.size s.dens * v ≤ 576000000000000000 := by
  have m := (mass_val h.size h.dens).2
  obtain ⟨h1, h2⟩ := mul_in m.1 m.2 hv.1 hv.2
  exact ⟨h1, by omega⟩
def EndsChk (ls : List Layer) (s : Stone) (n e x : Int) : Prop :=
  (AirOk ls ∧ StoneOk s ∧ n = (endsOf ls s).1 ∧ x = (endsOf ls s).2 ∧ e = 0) ∨ (¬ (AirOk ls ∧ StoneOk s) ∧ n = 0 ∧ x = 0 ∧ ((e ≠ 0 ∧ AirChk ls e) ∨ (AirOk ls ∧ StoneChk s e)))

def EndL (ls : List Layer) (s : Stone) (g : Nat) (W : World) (vi : Value) (wr : World) : Prop :=
  ∃ (i : Nat) (v : Int), vi = .int .i64 i ∧ Blk wr W.heap.size 36 #[.int .i64 s.size, .int .i64 s.dens, .int .i64 s.strong, .int .i64 s.spin, .int .i64 s.shape, .bool s.pile, .int .i64 s.speed, .int .i64 s.slope] ∧ EndAt ls s g i v W wr
set_option maxRecDepth 100000 in
set_option maxHeartbeats 1000000 in
theorem blast_Ends_any (A : Option Addr) (cap : Nat) (ls : List Layer) (s : Stone) (w : World) (h : Rd none w 2 encLayer A ls.length ls) (hb : Bnd w) :
    Calls Tryd.prog 20 #[.slice A ls.length cap, .agg #[.int .i64 s.size, .int .i64 s.dens, .int .i64 s.strong, .int .i64 s.spin, .int .i64 s.shape, .bool s.pile, .int .i64 s.speed, .int .i64 s.slope]] w fun e w' => (∃ n x y, e = .returned (.tuple #[.int .i64 n, .int .i64 x, .int .i64 y]) ∧ EndsChk ls s n y x) ∧ Kp w.heap.size none w w' := by
  have K0 := (Kp.refl w.heap.size none w).alloc (Nat.le_refl _) (.cells #[.int .i64 s.size, .int .i64 s.dens, .int .i64 s.strong, .int .i64 s.spin, .int .i64 s.shape, .bool s.pile, .int .i64 s.speed, .int .i64 s.slope] 36)
  have B0 := Blk.new w 36 #[.int .i64 s.size, .int .i64 s.dens, .int .i64 s.strong, .int .i64 s.spin, .int .i64 s.shape, .bool s.pile, .int .i64 s.speed, .int .i64 s.slope]
  go_enter Tryd.func20, Tryd.ntmps20
  go_wp2_with fail
  refine (blast_CheckAir_any A cap ls _ (h.kpN K0)).mono ?_
  rintro e w1 ⟨⟨n, rfl, hn⟩, k1⟩
  have B1 := B0.kp k1 B0.lt (by simp)
  have K1 := K0.then_ k1 (by simp)
  have c1 := fun i => B1.cell i
  clear k1 B0 K0
  by_cases hn0 : n = 0
  · subst hn0
    have ha : AirOk ls := by
      rcases hn with ⟨_, h⟩ | ⟨h, _⟩ | ⟨h, _⟩
      · exact h
      · cases h
      · cases h
    clear hn
    replace ha := Lib.hid ha
    go_wp2_with fail
    refine (blast_CheckStone_any s _ (hb.kpN K1)).mono ?_
    rintro e w2 ⟨⟨n, rfl, hn⟩, k2⟩
    have B2 := B1.kp k2 B1.lt (by simp)
    have K2 := K1.then_ k2 (by simp)
    have c2 := fun i => B2.cell i
    clear k2 B1 K1 c1
    rcases hn with ⟨rfl, hs⟩ | ⟨rfl, hs⟩
    · replace hs := Lib.hid hs
      go_wp2_with fail
      refine (blast_drop_any s hs.out.speed _).mono ?_
      rintro e w3 ⟨g, rfl, hg, F3, k3⟩
      have B3 := B2.kp k3 B2.lt (by simp)
      have K3 := K2.then_ k3 (by simp)
      have hgw : w.heap.size < g := Nat.lt_of_lt_of_le B2.lt hg
      clear k3 B2 K2 c2
      go_wp2_with fail
      go_loopw [4] (fun v wr => EndL ls s g w v wr) (fun v _ => ls.length - (intOf v).toNat)
      case atStart => exact ⟨0, s.speed * s.speed, rfl, B3, ⟨Nat.zero_le _, vok_sq hs.out, by rw [List.drop_zero, Nat.zero_add], F3, K3⟩⟩
      case round =>
        obtain ⟨i, v, rfl, BB, hi, hv, hf, FF, KK⟩ := hrel
        replace hv := Lib.hid hv
        have hz : w.heap.size + 1 ≤ wr.heap.size := BB.lt
        have hgr : g < wr.heap.size := FF.lt
        by_cases h7 : i < ls.length
        · obtain ⟨b, o, rfl, hbl, -, hc⟩ := (h.kpN KK).at_ (by omega)
          have c0 : wr.cell? ⟨b, o + i * 2, none⟩ = some (.int .i64 ls[i].thick) := hc i h7 0 _ rfl
          have c1 : wr.cell? ⟨b, o + i * 2 + 1, none⟩ = some (.int .i64 ls[i].dens) := hc i h7 1 _ rfl
          have hi' : (i : Int) < (ls.length : Int) := by omega
          have hlen : (ls.length : Int) ≤ 32 := by have := ha.out.1; omega
          have hx := Lib.hid (ha.out.2 i h7)
          rw [List.drop_eq_getElem_cons h7] at hf
          generalize ls[i] = x at c0 c1 hx hf
          clear hc
          replace hf := Lib.hid hf
          replace h7 := Lib.hid h7
          replace h := Lib.hid h
          go_wp2_with fail
          refine (blast_goes_any g s v x _ FF hs.out hx.out hv.out).mono ?_
          rintro e w4 ⟨rfl, F4, k4⟩
          have B4 := BB.kp k4 BB.lt (sne (by omega))
          have K4 := KK.thenOwn k4 (Nat.le_refl _) (Nat.le_of_lt hgw)
          clear k4 BB FF KK c0 c1
          cases hbt : burstsAt x.dens v (holdOf s.strong s.spin s.pile)
          · have ea : afterOf s x v = slowedOf s x v := by unfold afterOf; rw [if_neg (by rw [hbt]; simp)]
            rw [ea] at F4
            have hv4 : Vok (slowedOf s x v) := slowed_bd (step_ok hs.out hx.out hv.out) hv.out
            have hf4 : fallFrom s ls (s.speed * s.speed) = (i + 1 + (fallFrom s (ls.drop (i + 1)) (slowedOf s x v)).1, (fallFrom s (ls.drop (i + 1)) (slowedOf s x v)).2) := by
              rw [hf.out, fall_go hbt, Nat.add_comm _ 1, ← Nat.add_assoc]
            replace hf4 := Lib.hid hf4
            clear hf hbt
            go_wp2
            go_roundw
            case rel => exact ⟨i + 1, slowedOf s x v, rfl, B4, h7.out, hv4, hf4.out, F4, K4⟩
            case measure => have := h7.out; simp [intOf]; omega
          · have ea : afterOf s x v = v := by unfold afterOf; rw [if_pos hbt]
            rw [ea] at F4
            have hfin : EndsChk ls s i 0 (massOf s.size s.dens * v) := by
              have hf := hf.out
              rw [fall_burst hbt, Nat.add_zero] at hf
              exact .inl ⟨ha.out, hs.out, by unfold endsOf; rw [hf], by unfold endsOf; rw [hf], rfl⟩
            replace hfin := Lib.hid hfin
            clear hf hbt
            have cB := fun i => B4.cell i
            have cF := fun i => F4.cell i
            go_wp2_with fail
            clear cB cF
            obtain ⟨S, hS⟩ : ∃ S : Nat → World → Prop, S = fun _ w' => Blk w' w.heap.size 36 #[.int .i64 s.size, .int .i64 s.dens, .int .i64 s.strong, .int .i64 s.spin, .int .i64 s.shape, .bool s.pile, .int .i64 s.speed, .int .i64 s.slope] ∧ Blk w' g 110 #[.int .i64 s.size, .int .i64 s.dens, .int .i64 s.strong, .int .i64 s.spin, .int .i64 s.shape, .bool s.pile, .int .i64 s.speed, .int .i64 s.slope, .int .i64 v] := ⟨_, rfl⟩
            have hS0 : ∀ w', S 0 w' ↔ (Blk w' w.heap.size 36 #[.int .i64 s.size, .int .i64 s.dens, .int .i64 s.strong, .int .i64 s.spin, .int .i64 s.shape, .bool s.pile, .int .i64 s.speed, .int .i64 s.slope] ∧ Blk w' g 110 #[.int .i64 s.size, .int .i64 s.dens, .int .i64 s.strong, .int .i64 s.spin, .int .i64 s.shape, .bool s.pile, .int .i64 s.speed, .int .i64 s.slope, .int .i64 v]) := fun w' => by rw [hS]
            clear hS
            have cx := fun (x : Ev (S 0)) i => ((hS0 _).1 x.h).1.cell i
            have cy := fun (x : Ev (S 0)) i => ((hS0 _).1 x.h).2.cell i
            have hevT := ev_true
            refine wp_region_ord S [(0, 0), (1, 1), (3, 0), (4, 0), (5, 0), (6, 1), (2, 2), (7, 0), (8, 0), (9, 0), (10, 0)] [] (by kernel_rfl) (by kernel_rfl) ((hS0 _).2 ⟨B4, F4⟩) ?_
            intro _hev
            iterate 6 (first | (refine wpOrd_v rfl rfl ?_; intro K hK; go_big_quiet_op; go_big_quiet_on) | (refine wpOrd_q rfl rfl ?_; intro K hK; go_big_quiet_op; go_big_quiet_on) | refine wpOrd_s (by decide) rfl rfl ?_)
            refine wpOrd_l rfl rfl ?_; intro K hK
            go_step
            refine (blast_mass_any s hs.out _).mono ?_
            rintro e w9 ⟨rfl, k9⟩
            have B9 := B4.drew.kp k9 B4.drew.lt (by simp)
            have F9 := F4.drew.kp k9 F4.drew.lt (by simp)
            have K9 := K4.drew.thenN k9 (Nat.le_refl _)
            refine hK _ _ ((hS0 _).2 ⟨B9, F9⟩) ?_
            clear hK K k9
            iterate 4 (first | (refine wpOrd_v rfl rfl ?_; intro K hK; go_big_quiet_op; go_big_quiet_on) | (refine wpOrd_q rfl rfl ?_; intro K hK; go_big_quiet_op; go_big_quiet_on) | refine wpOrd_s (by decide) rfl rfl ?_)
            refine wpOrd_nil ?_
            clear hevT _hev
            rw [wrap64_of (energy_in hs.out hv.out).1 (by have := (energy_in hs.out hv.out).2; omega)]
            clear cx cy
            go_wp2
            exact bodyPost_ret (v := .tuple #[.int .i64 i, .int .i64 (massOf s.size s.dens * v), .int .i64 0]) (by simp [results, Tryd.results20, go_sem]) rfl ⟨⟨i, massOf s.size s.dens * v, 0, rfl, hfin.out⟩, K9⟩
        · have he : i = ls.length := by omega
          have hi' : ¬ (i : Int) < (ls.length : Int) := by omega
          have hfin : EndsChk ls s i 0 (massOf s.size s.dens * v) := by
            rw [he, List.drop_length, fall_nil, Nat.add_zero, ← he] at hf
            exact .inl ⟨ha.out, hs.out, by unfold endsOf; rw [hf], by unfold endsOf; rw [hf], rfl⟩
          replace hfin := Lib.hid hfin
          clear hf h7 hi he
          have cB := fun i => BB.cell i
          have cF := fun i => FF.cell i
          go_wp2_with fail
          clear cB cF
          obtain ⟨S, hS⟩ : ∃ S : Nat → World → Prop, S = fun _ w' => Blk w' w.heap.size 36 #[.int .i64 s.size, .int .i64 s.dens, .int .i64 s.strong, .int .i64 s.spin, .int .i64 s.shape, .bool s.pile, .int .i64 s.speed, .int .i64 s.slope] ∧ Blk w' g 110 #[.int .i64 s.size, .int .i64 s.dens, .int .i64 s.strong, .int .i64 s.spin, .int .i64 s.shape, .bool s.pile, .int .i64 s.speed, .int .i64 s.slope, .int .i64 v] := ⟨_, rfl⟩
          have hS0 : ∀ w', S 0 w' ↔ (Blk w' w.heap.size 36 #[.int .i64 s.size, .int .i64 s.dens, .int .i64 s.strong, .int .i64 s.spin, .int .i64 s.shape, .bool s.pile, .int .i64 s.speed, .int .i64 s.slope] ∧ Blk w' g 110 #[.int .i64 s.size, .int .i64 s.dens, .int .i64 s.strong, .int .i64 s.spin, .int .i64 s.shape, .bool s.pile, .int .i64 s.speed, .int .i64 s.slope, .int .i64 v]) := fun w' => by rw [hS]
          clear hS
          have cx := fun (x : Ev (S 0)) i => ((hS0 _).1 x.h).1.cell i
          have cy := fun (x : Ev (S 0)) i => ((hS0 _).1 x.h).2.cell i
          have hevT := ev_true
          refine wp_region_ord S [(0, 0), (1, 1), (3, 0), (4, 0), (5, 0), (6, 1), (2, 2), (7, 0), (8, 0), (9, 0), (10, 0)] [] (by kernel_rfl) (by kernel_rfl) ((hS0 _).2 ⟨BB, FF⟩) ?_
          intro _hev
          iterate 6 (first | (refine wpOrd_v rfl rfl ?_; intro K hK; go_big_quiet_op; go_big_quiet_on) | (refine wpOrd_q rfl rfl ?_; intro K hK; go_big_quiet_op; go_big_quiet_on) | refine wpOrd_s (by decide) rfl rfl ?_)
          refine wpOrd_l rfl rfl ?_; intro K hK
          go_step
          refine (blast_mass_any s hs.out _).mono ?_
          rintro e w9 ⟨rfl, k9⟩
          have B9 := BB.drew.kp k9 BB.drew.lt (by simp)
          have F9 := FF.drew.kp k9 FF.drew.lt (by simp)
          have K9 := KK.drew.thenN k9 (Nat.le_refl _)
          refine hK _ _ ((hS0 _).2 ⟨B9, F9⟩) ?_
          clear hK K k9
          iterate 4 (first | (refine wpOrd_v rfl rfl ?_; intro K hK; go_big_quiet_op; go_big_quiet_on) | (refine wpOrd_q rfl rfl ?_; intro K hK; go_big_quiet_op; go_big_quiet_on) | refine wpOrd_s (by decide) rfl rfl ?_)
          refine wpOrd_nil ?_
          clear hevT _hev
          rw [wrap64_of (energy_in hs.out hv.out).1 (by have := (energy_in hs.out hv.out).2; omega)]
          clear cx cy
          go_wp2
          exact bodyPost_ret (v := .tuple #[.int .i64 i, .int .i64 (massOf s.size s.dens * v), .int .i64 0]) (by simp [results, Tryd.results20, go_sem]) rfl ⟨⟨i, massOf s.size s.dens * v, 0, rfl, hfin.out⟩, K9⟩
    · have hc : EndsChk ls s 0 2 0 := .inr ⟨fun k => hs k.2, rfl, rfl, .inr ⟨ha.out, .inr ⟨rfl, hs⟩⟩⟩
      replace hc := Lib.hid hc
      go_wp2
      exact bodyPost_ret (v := .tuple #[.int .i64 0, .int .i64 0, .int .i64 2]) (by simp [results, Tryd.results20, go_sem]) rfl ⟨⟨0, 0, 2, rfl, hc.out⟩, K2⟩
  · have hc : EndsChk ls s 0 n 0 := by
      have hno : ¬ AirOk ls := fun h => hn0 (airChk_one hn (.inl ⟨rfl, h⟩))
      exact .inr ⟨fun k => hno k.1, rfl, rfl, .inl ⟨hn0, hn⟩⟩
    replace hc := Lib.hid hc
    clear hn
    go_wp2
    exact bodyPost_ret (v := .tuple #[.int .i64 0, .int .i64 0, .int .i64 n]) (by simp [results, Tryd.results20, go_sem]) rfl ⟨⟨0, 0, n, rfl, hc.out⟩, K1⟩
end Go.Proofs.YtdiigflbohbndaaDoor
