/- The harm of a blow in a layer: the reference's. -/
import Derived.Test.YtdiigflbohbndaaDoorRefLand3
import Derived.Test.YtdiigflbohbndaaDoorRefRock3
import Derived.Test.YtdiigflbohbndaaDoorHarm
namespace Go.Proofs.YtdiigflbohbndaaDoor
open Go.RowKit

set_option maxRecDepth 100000 in
set_option maxHeartbeats 1000000 in
theorem ref_both_any (Ag : Option Addr) (cg : Nat) (gs : List Grade) (A A' : Option Addr) (c m c' : Nat) (ps : List Int) (w : World) (hg : Rd none w 2 encGrade Ag gs.length gs) (h : Rd none w 1 encI A ps.length ps) :
    Calls Tryd.prog 104 #[.slice Ag gs.length cg, .agg #[.slice A ps.length c, .slice A' m c']] w fun e w' => (∃ n, e = .returned (.int .i64 n) ∧ GroundChk gs ps m n) ∧ Kp w.heap.size none w w' := by
  have K0 := (Kp.refl w.heap.size none w).alloc (Nat.le_refl _) (.cells #[.slice A ps.length c, .slice A' m c'] 54)
  have B0 := Blk.new w 54 #[.slice A ps.length c, .slice A' m c']
  go_enter Tryd.func104, Tryd.ntmps104
  go_wp2_with fail
  refine (ref_CheckGrades_any Ag cg gs _ (hg.kpN K0)).mono ?_
  rintro e w1 ⟨⟨n, rfl, hn⟩, k1⟩
  have K1 := K0.thenN k1 (Nat.le_refl _)
  have B1 := B0.kpN k1
  have cB := fun i => B1.cell i
  clear k1 B0 K0 hg
  by_cases hn0 : n = 0
  · subst hn0
    replace hn := Lib.hid hn
    go_wp2_with fail
    refine (ref_CheckLand_any A A' c m c' ps _ (h.kpN K1)).mono ?_
    rintro e w2 ⟨⟨n, rfl, hl⟩, k2⟩
    have K2 := K1.thenN k2 (Nat.le_refl _)
    replace hl := Lib.hid hl
    clear k2 h B1 cB K1
    go_wp2
    exact bodyPost_ret (by simp [results, Tryd.results104, go_sem]) rfl ⟨⟨n, rfl, .inr ⟨hn.out, hl.out⟩⟩, K2⟩
  · have hx := Lib.hid (show GroundChk gs ps m n from .inl ⟨hn0, hn⟩)
    clear hn h
    go_wp2
    exact bodyPost_ret (by simp [results, Tryd.results104, go_sem]) rfl ⟨⟨n, rfl, hx.out⟩, K1⟩
set_option maxRecDepth 100000 in
set_option maxHeartbeats 1000000 in
theorem ref_harms_any (Ag : Option Addr) (cg : Nat) (gs : List Grade) (A A' : Option Addr) (c c' : Nat) (ps : List Int) (bs : List Bool) (n a : Nat) (layer en : Int) (w : World) (hg : Rd none w 2 encGrade Ag gs.length gs) (h : Rd none w 1 encI A ps.length ps) (hb : Rd none w 1 encB A' bs.length bs)
    (hgk : GradesChk gs 0) (hok : LandOk ps bs.length) (ha : a < ps.length) (hn : n ≤ 33) (hy : 0 ≤ layer ∧ layer ≤ n) :
    Calls Tryd.prog 105 #[.int .i64 n, .slice Ag gs.length cg, .agg #[.slice A ps.length c, .slice A' bs.length c'], .int .i64 layer, .int .i64 en, .int .i64 a] w fun e w' => e = .returned (.int .i64 (harmsOf n gs ps bs layer en a)) ∧ Kp w.heap.size none w w' := by
  have hgl := (grades_len hgk).2
  obtain ⟨R, hR⟩ : ∃ R : Nat, reachOf en gs 0 = R := ⟨_, (Int.toNat_of_nonneg (reach_bd en hgk).1).symm⟩
  have hRb : (R : Int) ≤ 400 := hR ▸ (reach_bd en hgk).2
  have hRn : R ≤ 400 := by omega
  obtain ⟨V, hV⟩ : ∃ V, V = harmsOf n gs ps bs layer en a := ⟨_, rfl⟩
  rw [← hV]
  unfold harmsOf at hV
  rw [hR] at hV
  have hal : a < bs.length := by rw [hok.m]; exact ha
  have hai : (a : Int) < (bs.length : Int) := by omega
  have hbl : (bs.length : Int) ≤ 400 := by have := hok.m; have := hok.l4; omega
  have hq2 : bs[a]? = some bs[a] := List.getElem?_eq_getElem hal
  have K0 := (Kp.refl w.heap.size none w).alloc (Nat.le_refl _) (.cells #[.slice A ps.length c, .slice A' bs.length c'] 54)
  have B0 := Blk.new w 54 #[.slice A ps.length c, .slice A' bs.length c']
  have hg0 := hg.kpN K0
  replace hR := Lib.hid hR
  replace hok := Lib.hid hok
  replace hgk := Lib.hid hgk
  replace hV := Lib.hid hV
  replace hq2 := Lib.hid hq2
  go_enter Tryd.func105, Tryd.ntmps105
  go_wp2_with fail
  refine (ref_reach_any Ag cg gs en _ hg0 hgk.out).mono ?_
  rintro e w1 ⟨rfl, k1⟩
  rw [hR.out]
  have K1 := K0.thenN k1 (Nat.le_refl _)
  have B1 := B0.kpN k1
  have h1 := h.kpN K1
  have hb1 := hb.kpN K1
  clear k1 B0 K0 hg0 hg h hb
  have cB := fun i => B1.cell i
  obtain ⟨hy0, hy1⟩ := hy
  by_cases hlt : layer < (n : Int)
  · obtain ⟨F, hF⟩ : ∃ F : Nat, max 0 ((R : Int) - ((n : Int) - layer)) = F := ⟨_, (Int.toNat_of_nonneg (by omega)).symm⟩
    have hF4 : F ≤ 400 := by omega
    obtain rfl : V = harmOf ps a F := by rw [hV.out, if_pos hlt, hF, show (min (F : Int) 400).toNat = F by omega]
    have hnn : (n : Int) ≤ 33 := by omega
    go_wp2_with fail
    refine (ref_harm_any A A' c bs.length c' ps a F _ h1 hok.out.l4 hok.out.p ha hF4).mono ?_
    rintro e w2 ⟨rfl, k2⟩
    have K2 := K1.thenN k2 (Nat.le_refl _)
    go_wp2
    exact bodyPost_ret (v := .int .i64 (harmOf ps a F)) (by simp [results, Tryd.results105, go_sem]) rfl ⟨rfl, K2⟩
  · obtain ⟨b, o, rfl, hlt', -, hcl⟩ := hb1.at_ (by omega)
    have c0 : w1.cell? ⟨b, o + a, none⟩ = some (.bool bs[a]) := Rd.cell1 (fun _ => rfl) hcl a hal
    have hV2 := hV.out
    rw [if_neg hlt, hq2.out, show (min (R : Int) 400).toNat = R by omega] at hV2
    replace hq2 := hq2.out
    clear hV hcl hlt'
    generalize bs[a] = q at c0 hV2 hq2
    replace hq2 := Lib.hid hq2
    cases q
    · obtain rfl : V = harmOf ps a R := hV2
      go_wp2_with fail
      refine (ref_harm_any A (some ⟨b, o, none⟩) c bs.length c' ps a R _ h1 hok.out.l4 hok.out.p ha hRn).mono ?_
      rintro e w2 ⟨rfl, k2⟩
      have K2 := K1.thenN k2 (Nat.le_refl _)
      go_wp2
      exact bodyPost_ret (v := .int .i64 (harmOf ps a R)) (by simp [results, Tryd.results105, go_sem]) rfl ⟨rfl, K2⟩
    · obtain rfl : V = waveOf ps bs a R := hV2
      go_wp2_with fail
      refine (ref_wave_any A (some ⟨b, o, none⟩) c c' ps bs a R _ h1 hb1 hok.out ha hRn hq2.out).mono ?_
      rintro e w2 ⟨rfl, k2⟩
      have K2 := K1.thenN k2 (Nat.le_refl _)
      go_wp2
      exact bodyPost_ret (v := .int .i64 (waveOf ps bs a R)) (by simp [results, Tryd.results105, go_sem]) rfl ⟨rfl, K2⟩
set_option maxRecDepth 100000 in
set_option maxHeartbeats 1000000 in
theorem ref_Harms_any (Aa : Option Addr) (ca : Nat) (ls : List Layer) (Ag : Option Addr) (cg : Nat) (gs : List Grade) (A A' : Option Addr) (c c' : Nat) (ps : List Int) (bs : List Bool) (layer en a : Int) (w : World)
    (hl : Rd none w 2 encLayer Aa ls.length ls) (hg : Rd none w 2 encGrade Ag gs.length gs) (h : Rd none w 1 encI A ps.length ps) (hb : Rd none w 1 encB A' bs.length bs) :
    Calls Tryd.prog 60 #[.slice Aa ls.length ca, .slice Ag gs.length cg, .agg #[.slice A ps.length c, .slice A' bs.length c'], .int .i64 layer, .int .i64 en, .int .i64 a] w
      fun e w' => (∃ v n, e = .returned (.tuple #[.int .i64 v, .int .i64 n]) ∧ HarmsIs ls gs ps bs layer en a v n) ∧ Kp w.heap.size none w w' := by
  have K0 := (Kp.refl w.heap.size none w).alloc (Nat.le_refl _) (.cells #[.slice A ps.length c, .slice A' bs.length c'] 54)
  have B0 := Blk.new w 54 #[.slice A ps.length c, .slice A' bs.length c']
  go_enter Tryd.func60, Tryd.ntmps60
  go_wp2_with fail
  refine (ref_CheckAir_any Aa ca ls _ (hl.kpN K0)).mono ?_
  rintro e w1 ⟨⟨n, rfl, hn⟩, k1⟩
  have K1 := K0.thenN k1 (Nat.le_refl _)
  have B1 := B0.kpN k1
  clear k1 K0 B0 hl
  by_cases hn0 : n = 0
  case neg =>
    have hx := Lib.hid (show HarmsIs ls gs ps bs layer en a 0 n from .inl ⟨hn0, rfl, hn⟩)
    clear hn hg h hb B1
    go_wp2
    exact bodyPost_ret (v := .tuple #[.int .i64 0, .int .i64 n]) (by simp [results, Tryd.results60, go_sem]) rfl ⟨⟨0, n, rfl, hx.out⟩, K1⟩
  subst hn0
  have hll := (air_len hn).1
  replace hn := Lib.hid hn
  have cB := fun i => B1.cell i
  go_wp2_with fail
  refine (ref_both_any Ag cg gs A A' c bs.length c' ps _ (hg.kpN K1) (h.kpN K1)).mono ?_
  rintro e w2 ⟨⟨n, rfl, hgk⟩, k2⟩
  have K2 := K1.thenN k2 (Nat.le_refl _)
  replace B1 := B1.kpN k2
  clear k2 K1 cB
  have cB := fun i => B1.cell i
  by_cases hn0 : n = 0
  case neg =>
    have hx := Lib.hid (show HarmsIs ls gs ps bs layer en a 0 n from .inr (.inl ⟨hn.out, hn0, rfl, hgk⟩))
    clear hgk hg h hb B1
    go_wp2
    exact bodyPost_ret (v := .tuple #[.int .i64 0, .int .i64 n]) (by simp [results, Tryd.results60, go_sem]) rfl ⟨⟨0, n, rfl, hx.out⟩, K2⟩
  subst hn0
  replace hgk := Lib.hid hgk
  have hok := Lib.hid (ground_ok hgk.out)
  have hpl := hok.out.2.l4
  by_cases hy : 0 ≤ layer ∧ layer ≤ (ls.length : Int)
  case neg =>
    have hx := Lib.hid (show HarmsIs ls gs ps bs layer en a 0 2 from .inr (.inr ⟨hn.out, hgk.out, .inl ⟨hy, rfl, rfl⟩⟩))
    clear hg h hb B1
    by_cases hy0 : layer < 0
    · clear hy
      go_wp2
      exact bodyPost_ret (v := .tuple #[.int .i64 0, .int .i64 2]) (by simp [results, Tryd.results60, go_sem]) rfl ⟨⟨0, 2, rfl, hx.out⟩, K2⟩
    · have hy1 : (ls.length : Int) < layer := by omega
      clear hy
      go_wp2
      exact bodyPost_ret (v := .tuple #[.int .i64 0, .int .i64 2]) (by simp [results, Tryd.results60, go_sem]) rfl ⟨⟨0, 2, rfl, hx.out⟩, K2⟩
  obtain ⟨hy0, hy1⟩ := hy
  have hy2 : ¬ layer < 0 := by omega
  have hy3 : ¬ (ls.length : Int) < layer := by omega
  go_wp2_with fail
  refine (ref_right_any A A' c bs.length c' ps a _ (h.kpN K2)).mono ?_
  rintro e w3 ⟨⟨b, rfl, hbb⟩, k3⟩
  have K3 := K2.thenN k3 (Nat.le_refl _)
  replace B1 := B1.kpN k3
  clear k3 K2 cB
  have cB := fun i => B1.cell i
  cases b
  case false =>
    have hz : ¬ (0 ≤ a ∧ a < (ps.length : Int)) := fun k => by have := hbb.2 ⟨hok.out.2, k.1, k.2⟩; cases this
    have hx := Lib.hid (show HarmsIs ls gs ps bs layer en a 0 7 from .inr (.inr ⟨hn.out, hgk.out, .inr ⟨⟨hy0, hy1⟩, .inl ⟨hz, rfl, rfl⟩⟩⟩))
    clear hg h hb hz hbb
    go_wp2
    exact bodyPost_ret (v := .tuple #[.int .i64 0, .int .i64 7]) (by simp [results, Tryd.results60, go_sem]) rfl ⟨⟨0, 7, rfl, hx.out⟩, K3⟩
  case true =>
    obtain ⟨-, hz0, hz1⟩ := hbb.1 rfl
    obtain ⟨a, rfl⟩ := Int.eq_ofNat_of_zero_le hz0
    have hal : a < ps.length := by omega
    have hx : HarmsIs ls gs ps bs layer en a (harmsOf ls.length gs ps bs layer en a) 0 := .inr (.inr ⟨hn.out, hgk.out, .inr ⟨⟨hy0, hy1⟩, .inr ⟨⟨hz0, hz1⟩, by rw [Int.toNat_natCast], rfl⟩⟩⟩)
    replace hx := Lib.hid hx
    have hg3 := hg.kpN K3
    have h3 := h.kpN K3
    have hb3 := hb.kpN K3
    clear hg h hb hbb
    go_wp2_with fail
    refine (ref_harms_any Ag cg gs A A' c c' ps bs ls.length a layer en _ hg3 h3 hb3 hok.out.1 hok.out.2 hal (by omega) ⟨hy0, hy1⟩).mono ?_
    rintro e w4 ⟨rfl, k4⟩
    have K4 := K3.thenN k4 (Nat.le_refl _)
    clear k4 K3 hg3 h3 hb3
    go_wp2
    exact bodyPost_ret (v := .tuple #[.int .i64 (harmsOf ls.length gs ps bs layer en a), .int .i64 0]) (by simp [results, Tryd.results60, go_sem]) rfl ⟨⟨_, 0, rfl, hx.out⟩, K4⟩
end Go.Proofs.YtdiigflbohbndaaDoor
