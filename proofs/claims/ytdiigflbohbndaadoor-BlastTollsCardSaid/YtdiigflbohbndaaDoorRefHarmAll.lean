/- The harm of a blow in a layer: the reference's. The toll of a stretch, in the reference: the walk. Toll and Worst of the reference. -/
import Derived.Test.YtdiigflbohbndaaDoorRefLand3
import Derived.Test.YtdiigflbohbndaaDoorRefRock3
import Derived.Test.YtdiigflbohbndaaDoorHarmAll
import Derived.Test.YtdiigflbohbndaaDoorRefBlow2
namespace Go.Proofs.YtdiigflbohbndaaDoor
open Go.RowKit

set_option maxRecDepth 100000 in
set_option maxHeartbeats 1000000 in
theorem ref_both_any (Ag : Option Addr) (cg : Nat) (gs : List Grade) (A A' : Option Addr) (c m c' : Nat) (ps : List Int) (w : World) (hg : Rd none w 2 encGrade Ag gs.length gs) (h : Rd none w 1 encI A ps.length ps) :
    Calls Tryd.prog 104 #[.slice Ag gs.length cg, .agg #[.slice A ps.length c, .slice A' m c']] w fun e w' => (∃ n, e = .returned (.int .i64 n) ∧ GroundChk gs ps m n) ∧ Kp w.heap.size none w w' := by
  have K0 := (Kp.refl w.heap.size none w).alloc (Nat.le_refl _) (.cells #[.slice A ps.length c, .slice A' m c'] 54)
  have B0 := Blk.new w 54 #[.slice A ps.length c, .slice A' m c']
  go_enter Tryd.func104, Tryd.ntmps104
  go_wp2_with fail
  refine (ref_CheckGrades_any Ag cg gs _ (hg.kpN K0)).mono ?_
  rintro e w1 ⟨⟨n, rfl, hn⟩, k1⟩
  have K1 := K0.thenN k1 (Nat.le_refl _)
  have B1 := B0.kpN k1
  have cB := fun i => B1.cell i
  clear k1 B0 K0 hg
  by_cases hn0 : n = 0
  · subst hn0
    replace hn := Lib.hid hn
    go_wp2_with fail
    refine (ref_CheckLand_any A A' c m c' ps _ (h.kpN K1)).mono ?_
    rintro e w2 ⟨⟨n, rfl, hl⟩, k2⟩
    have K2 := K1.thenN k2 (Nat.le_refl _)
    replace hl := Lib.hid hl
    clear k2 h B1 cB K1
    go_wp2
    exact bodyPost_ret (by simp [results, Tryd.results104, go_sem]) rfl ⟨⟨n, rfl, .inr ⟨hn.out, hl.out⟩⟩, K2⟩
  · have hx := Lib.hid (show GroundChk gs ps m n from .inl ⟨hn0, hn⟩)
    clear hn h
    go_wp2
    exact bodyPost_ret (by simp [results, Tryd.results104, go_sem]) rfl ⟨⟨n, rfl, hx.out⟩, K1⟩
set_option maxRecDepth 100000 in
set_option maxHeartbeats 1000000 in
theorem ref_harms_any (Ag : Option Addr) (cg : Nat) (gs : List Grade) (A A' : Option Addr) (c c' : Nat) (ps : List Int) (bs : List Bool) (n a : Nat) (layer en : Int) (w : World) (hg : Rd none w 2 encGrade Ag gs.length gs) (h : Rd none w 1 encI A ps.length ps) (hb : Rd none w 1 encB A' bs.length bs)
    (hgk : GradesChk gs 0) (hok : LandOk ps bs.length) (ha : a < ps.length) (hn : n ≤ 33) (hy : 0 ≤ layer ∧ layer ≤ n) :
    Calls Tryd.prog 105 #[.int .i64 n, .slice Ag gs.length cg, .agg #[.slice A ps.length c, .slice A' bs.length c'], .int .i64 layer, .int .i64 en, .int .i64 a] w fun e w' => e = .returned (.int .i64 (harmsOf n gs ps bs layer en a)) ∧ Kp w.heap.size none w w' := by
  have hgl := (grades_len hgk).2
  obtain ⟨R, hR⟩ : ∃ R : Nat, reachOf en gs 0 = R := ⟨_, (Int.toNat_of_nonneg (reach_bd en hgk).1).symm⟩
  have hRb : (R : Int) ≤ 400 := hR ▸ (reach_bd en hgk).2
  have hRn : R ≤ 400 := by omega
  obtain ⟨V, hV⟩ : ∃ V, V = harmsOf n gs ps bs layer en a := ⟨_, rfl⟩
  rw [← hV]
  unfold harmsOf at hV
  rw [hR] at hV
  have hal : a < bs.length := by rw [hok.m]; exact ha
  have hai : (a : Int) < (bs.length : Int) := by omega
  have hbl : (bs.length : Int) ≤ 400 := by have := hok.m; have := hok.l4; omega
  have hq2 : bs[a]? = some bs[a] := List.getElem?_eq_getElem hal
  have K0 := (Kp.refl w.heap.size none w).alloc (Nat.le_refl _) (.cells #[.slice A ps.length c, .slice A' bs.length c'] 54)
  have B0 := Blk.new w 54 #[.slice A ps.length c, .slice A' bs.length c']
  have hg0 := hg.kpN K0
  replace hR := Lib.hid hR
  replace hok := Lib.hid hok
  replace hgk := Lib.hid hgk
  replace hV := Lib.hid hV
  replace hq2 := Lib.hid hq2
  go_enter Tryd.func105, Tryd.ntmps105
  go_wp2_with fail
  refine (ref_reach_any Ag cg gs en _ hg0 hgk.out).mono ?_
  rintro e w1 ⟨rfl, k1⟩
  rw [hR.out]
  have K1 := K0.thenN k1 (Nat.le_refl _)
  have B1 := B0.kpN k1
  have h1 := h.kpN K1
  have hb1 := hb.kpN K1
  clear k1 B0 K0 hg0 hg h hb
  have cB := fun i => B1.cell i
  obtain ⟨hy0, hy1⟩ := hy
  by_cases hlt : layer < (n : Int)
  · obtain ⟨F, hF⟩ : ∃ F : Nat, max 0 ((R : Int) - ((n : Int) - layer)) = F := ⟨_, (Int.toNat_of_nonneg (by omega)).symm⟩
    have hF4 : F ≤ 400 := by omega
    obtain rfl : V = harmOf ps a F := by rw [hV.out, if_pos hlt, hF, show (min (F : Int) 400).toNat = F by omega]
    have hnn : (n : Int) ≤ 33 := by omega
    go_wp2_with fail
    refine (ref_harm_any A A' c bs.length c' ps a F _ h1 hok.out.l4 hok.out.p ha hF4).mono ?_
    rintro e w2 ⟨rfl, k2⟩
    have K2 := K1.thenN k2 (Nat.le_refl _)
    go_wp2
    exact bodyPost_ret (v := .int .i64 (harmOf ps a F)) (by simp [results, Tryd.results105, go_sem]) rfl ⟨rfl, K2⟩
  · obtain ⟨b, o, rfl, hlt', -, hcl⟩ := hb1.at_ (by omega)
    have c0 : w1.cell? ⟨b, o + a, none⟩ = some (.bool bs[a]) := Rd.cell1 (fun _ => rfl) hcl a hal
    have hV2 := hV.out
    rw [if_neg hlt, hq2.out, show (min (R : Int) 400).toNat = R by omega] at hV2
    replace hq2 := hq2.out
    clear hV hcl hlt'
    generalize bs[a] = q at c0 hV2 hq2
    replace hq2 := Lib.hid hq2
    cases q
    · obtain rfl : V = harmOf ps a R := hV2
      go_wp2_with fail
      refine (ref_harm_any A (some ⟨b, o, none⟩) c bs.length c' ps a R _ h1 hok.out.l4 hok.out.p ha hRn).mono ?_
      rintro e w2 ⟨rfl, k2⟩
      have K2 := K1.thenN k2 (Nat.le_refl _)
      go_wp2
      exact bodyPost_ret (v := .int .i64 (harmOf ps a R)) (by simp [results, Tryd.results105, go_sem]) rfl ⟨rfl, K2⟩
    · obtain rfl : V = waveOf ps bs a R := hV2
      go_wp2_with fail
      refine (ref_wave_any A (some ⟨b, o, none⟩) c c' ps bs a R _ h1 hb1 hok.out ha hRn hq2.out).mono ?_
      rintro e w2 ⟨rfl, k2⟩
      have K2 := K1.thenN k2 (Nat.le_refl _)
      go_wp2
      exact bodyPost_ret (v := .int .i64 (waveOf ps bs a R)) (by simp [results, Tryd.results105, go_sem]) rfl ⟨rfl, K2⟩
set_option maxRecDepth 100000 in
set_option maxHeartbeats 1000000 in
theorem ref_Harms_any (Aa : Option Addr) (ca : Nat) (ls : List Layer) (Ag : Option Addr) (cg : Nat) (gs : List Grade) (A A' : Option Addr) (c c' : Nat) (ps : List Int) (bs : List Bool) (layer en a : Int) (w : World)
    (hl : Rd none w 2 encLayer Aa ls.length ls) (hg : Rd none w 2 encGrade Ag gs.length gs) (h : Rd none w 1 encI A ps.length ps) (hb : Rd none w 1 encB A' bs.length bs) :
    Calls Tryd.prog 60 #[.slice Aa ls.length ca, .slice Ag gs.length cg, .agg #[.slice A ps.length c, .slice A' bs.length c'], .int .i64 layer, .int .i64 en, .int .i64 a] w
      fun e w' => (∃ v n, e = .returned (.tuple #[.int .i64 v, .int .i64 n]) ∧ HarmsIs ls gs ps bs layer en a v n) ∧ Kp w.heap.size none w w' := by
  have K0 := (Kp.refl w.heap.size none w).alloc (Nat.le_refl _) (.cells #[.slice A ps.length c, .slice A' bs.length c'] 54)
  have B0 := Blk.new w 54 #[.slice A ps.length c, .slice A' bs.length c']
  go_enter Tryd.func60, Tryd.ntmps60
  go_wp2_with fail
  refine (ref_CheckAir_any Aa ca ls _ (hl.kpN K0)).mono ?_
  rintro e w1 ⟨⟨n, rfl, hn⟩, k1⟩
  have K1 := K0.thenN k1 (Nat.le_refl _)
  have B1 := B0.kpN k1
  clear k1 K0 B0 hl
  by_cases hn0 : n = 0
  case neg =>
    have hx := Lib.hid (show HarmsIs ls gs ps bs layer en a 0 n from .inl ⟨hn0, rfl, hn⟩)
    clear hn hg h hb B1
    go_wp2
    exact bodyPost_ret (v := .tuple #[.int .i64 0, .int .i64 n]) (by simp [results, Tryd.results60, go_sem]) rfl ⟨⟨0, n, rfl, hx.out⟩, K1⟩
  subst hn0
  have hll := (air_len hn).1
  replace hn := Lib.hid hn
  have cB := fun i => B1.cell i
  go_wp2_with fail
  refine (ref_both_any Ag cg gs A A' c bs.length c' ps _ (hg.kpN K1) (h.kpN K1)).mono ?_
  rintro e w2 ⟨⟨n, rfl, hgk⟩, k2⟩
  have K2 := K1.thenN k2 (Nat.le_refl _)
  replace B1 := B1.kpN k2
  clear k2 K1 cB
  have cB := fun i => B1.cell i
  by_cases hn0 : n = 0
  case neg =>
    have hx := Lib.hid (show HarmsIs ls gs ps bs layer en a 0 n from .inr (.inl ⟨hn.out, hn0, rfl, hgk⟩))
    clear hgk hg h hb B1
    go_wp2
    exact bodyPost_ret (v := .tuple #[.int .i64 0, .int .i64 n]) (by simp [results, Tryd.results60, go_sem]) rfl ⟨⟨0, n, rfl, hx.out⟩, K2⟩
  subst hn0
  replace hgk := Lib.hid hgk
  have hok := Lib.hid (ground_ok hgk.out)
  have hpl := hok.out.2.l4
  by_cases hy : 0 ≤ layer ∧ layer ≤ (ls.length : Int)
  case neg =>
    have hx := Lib.hid (show HarmsIs ls gs ps bs layer en a 0 2 from .inr (.inr ⟨hn.out, hgk.out, .inl ⟨hy, rfl, rfl⟩⟩))
    clear hg h hb B1
    by_cases hy0 : layer < 0
    · clear hy
      go_wp2
      exact bodyPost_ret (v := .tuple #[.int .i64 0, .int .i64 2]) (by simp [results, Tryd.results60, go_sem]) rfl ⟨⟨0, 2, rfl, hx.out⟩, K2⟩
    · have hy1 : (ls.length : Int) < layer := by omega
      clear hy
      go_wp2
      exact bodyPost_ret (v := .tuple #[.int .i64 0, .int .i64 2]) (by simp [results, Tryd.results60, go_sem]) rfl ⟨⟨0, 2, rfl, hx.out⟩, K2⟩
  obtain ⟨hy0, hy1⟩ := hy
  have hy2 : ¬ layer < 0 := by omega
  have hy3 : ¬ (ls.length : Int) < layer := by omega
  go_wp2_with fail
  refine (ref_right_any A A' c bs.length c' ps a _ (h.kpN K2)).mono ?_
  rintro e w3 ⟨⟨b, rfl, hbb⟩, k3⟩
  have K3 := K2.thenN k3 (Nat.le_refl _)
  replace B1 := B1.kpN k3
  clear k3 K2 cB
  have cB := fun i => B1.cell i
  cases b
  case false =>
    have hz : ¬ (0 ≤ a ∧ a < (ps.length : Int)) := fun k => by have := hbb.2 ⟨hok.out.2, k.1, k.2⟩; cases this
    have hx := Lib.hid (show HarmsIs ls gs ps bs layer en a 0 7 from .inr (.inr ⟨hn.out, hgk.out, .inr ⟨⟨hy0, hy1⟩, .inl ⟨hz, rfl, rfl⟩⟩⟩))
    clear hg h hb hz hbb
    go_wp2
    exact bodyPost_ret (v := .tuple #[.int .i64 0, .int .i64 7]) (by simp [results, Tryd.results60, go_sem]) rfl ⟨⟨0, 7, rfl, hx.out⟩, K3⟩
  case true =>
    obtain ⟨-, hz0, hz1⟩ := hbb.1 rfl
    obtain ⟨a, rfl⟩ := Int.eq_ofNat_of_zero_le hz0
    have hal : a < ps.length := by omega
    have hx : HarmsIs ls gs ps bs layer en a (harmsOf ls.length gs ps bs layer en a) 0 := .inr (.inr ⟨hn.out, hgk.out, .inr ⟨⟨hy0, hy1⟩, .inr ⟨⟨hz0, hz1⟩, by rw [Int.toNat_natCast], rfl⟩⟩⟩)
    replace hx := Lib.hid hx
    have hg3 := hg.kpN K3
    have h3 := h.kpN K3
    have hb3 := hb.kpN K3
    clear hg h hb hbb
    go_wp2_with fail
    refine (ref_harms_any Ag cg gs A A' c c' ps bs ls.length a layer en _ hg3 h3 hb3 hok.out.1 hok.out.2 hal (by omega) ⟨hy0, hy1⟩).mono ?_
    rintro e w4 ⟨rfl, k4⟩
    have K4 := K3.thenN k4 (Nat.le_refl _)
    clear k4 K3 hg3 h3 hb3
    go_wp2
    exact bodyPost_ret (v := .tuple #[.int .i64 (harmsOf ls.length gs ps bs layer en a), .int .i64 0]) (by simp [results, Tryd.results60, go_sem]) rfl ⟨⟨_, 0, rfl, hx.out⟩, K4⟩
end Go.Proofs.YtdiigflbohbndaaDoor
namespace Go.Proofs.YtdiigflbohbndaaDoor
open Go.RowKit

/-- The reference's state beside the plain one. -/
def RS (q : Bool) (lo hi : Int) (wo fr : Nat) (s : TS) : Prop := (q = true ∧ lo = 0 ∧ hi = 0 ∧ wo = fr ∧ s = ⟨-1, -1, fr⟩) ∨ (q = false ∧ lo = s.lo ∧ hi = s.hi ∧ wo = s.wo ∧ 0 ≤ s.lo)
def RTolR (H : Int → Int → Nat → Int) (bl : List Blow) (fr fi bt : Nat) (w0 : World) (v21 v22 v23 : Value) (wr : World) : Prop :=
  ∃ (a : Nat) (q : Bool) (lo hi : Int) (wo : Nat) (s : TS), v23 = .int .i64 a ∧ fr ≤ a ∧ a ≤ fi + 1 ∧ v21 = .int .i64 wo ∧ v22 = .bool q ∧ RS q lo hi wo fr s ∧ (fr < a → q = false) ∧ tollOf H bl fr fi = tRun H bl (fi + 1 - a) a s ∧ Blk wr bt 26 #[.int .i64 lo, .int .i64 hi] ∧ Kp w0.heap.size (some bt) w0 wr
def RTolI (H : Int → Int → Nat → Int) (bl : List Blow) (fr fi bt a : Nat) (w1 : World) (v21 v22 v24 : Value) (wr : World) : Prop :=
  ∃ (j : Nat) (q : Bool) (lo hi : Int) (wo : Nat) (s : TS), v24 = .int .i64 j ∧ j ≤ bl.length ∧ v21 = .int .i64 wo ∧ v22 = .bool q ∧ RS q lo hi wo fr s ∧ (0 < j → q = false) ∧ tollOf H bl fr fi = tRun H bl (fi + 1 - (a + 1)) (a + 1) (tCell H a (bl.drop j) s) ∧ Blk wr bt 26 #[.int .i64 lo, .int .i64 hi] ∧ Kp w1.heap.size (some bt) w1 wr
set_option maxRecDepth 100000 in
set_option maxHeartbeats 4000000 in
theorem ref_toll_any (Aa : Option Addr) (ca : Nat) (ls : List Layer) (Ag : Option Addr) (cg : Nat) (gs : List Grade) (A A' : Option Addr) (c c' : Nat) (ps : List Int) (bs : List Bool) (r : Rock) (f : Fall) (fr fi : Int) (w : World)
    (hl : Rd none w 2 encLayer Aa ls.length ls) (hg : Rd none w 2 encGrade Ag gs.length gs) (h : Rd none w 1 encI A ps.length ps) (hb : Rd none w 1 encB A' bs.length bs) :
    Calls Tryd.prog 108 #[.slice Aa ls.length ca, .slice Ag gs.length cg, .agg #[.slice A ps.length c, .slice A' bs.length c'], .agg #[.int .i64 r.size.lo, .int .i64 r.size.hi, .int .i64 r.dens.lo, .int .i64 r.dens.hi, .int .i64 r.strong.lo, .int .i64 r.strong.hi, .int .i64 r.spin.lo, .int .i64 r.spin.hi, .int .i64 r.shape.lo, .int .i64 r.shape.hi, .bool r.pile], .agg #[.int .i64 f.speed.lo, .int .i64 f.speed.hi, .int .i64 f.slope.lo, .int .i64 f.slope.hi], .int .i64 fr, .int .i64 fi] w
      fun e w' => (∃ lo hi wo n, e = .returned (.tuple #[.agg #[.int .i64 lo, .int .i64 hi], .int .i64 wo, .int .i64 n]) ∧ TollIs ls gs ps bs r f fr fi lo hi wo n) ∧ Kp w.heap.size none w w' := by
  obtain ⟨N, hN⟩ : ∃ N, N = w.heap.size := ⟨_, rfl⟩
  have K0 := ((((Kp.refl w.heap.size none w).alloc (Nat.le_refl _) (.cells #[.slice A ps.length c, .slice A' bs.length c'] 54)).alloc (by simp) (.cells #[.int .i64 r.size.lo, .int .i64 r.size.hi, .int .i64 r.dens.lo, .int .i64 r.dens.hi, .int .i64 r.strong.lo, .int .i64 r.strong.hi, .int .i64 r.spin.lo, .int .i64 r.spin.hi, .int .i64 r.shape.lo, .int .i64 r.shape.hi, .bool r.pile] 28)).alloc (by simp; omega) (.cells #[.int .i64 f.speed.lo, .int .i64 f.speed.hi, .int .i64 f.slope.lo, .int .i64 f.slope.hi] 30)).alloc (by simp; omega) (.cells #[.int .i64 0, .int .i64 0] 26)
  have LB := (((Blk.newAt w 54 #[.slice A ps.length c, .slice A' bs.length c'] hN).alloc (.cells #[.int .i64 r.size.lo, .int .i64 r.size.hi, .int .i64 r.dens.lo, .int .i64 r.dens.hi, .int .i64 r.strong.lo, .int .i64 r.strong.hi, .int .i64 r.spin.lo, .int .i64 r.spin.hi, .int .i64 r.shape.lo, .int .i64 r.shape.hi, .bool r.pile] 28)).alloc (.cells #[.int .i64 f.speed.lo, .int .i64 f.speed.hi, .int .i64 f.slope.lo, .int .i64 f.slope.hi] 30)).alloc (.cells #[.int .i64 0, .int .i64 0] 26)
  have RB := ((Blk.newAt (w.alloc (.cells #[.slice A ps.length c, .slice A' bs.length c'] 54)) 28 #[.int .i64 r.size.lo, .int .i64 r.size.hi, .int .i64 r.dens.lo, .int .i64 r.dens.hi, .int .i64 r.strong.lo, .int .i64 r.strong.hi, .int .i64 r.spin.lo, .int .i64 r.spin.hi, .int .i64 r.shape.lo, .int .i64 r.shape.hi, .bool r.pile] (n := N + 1) (by simp [hN])).alloc (.cells #[.int .i64 f.speed.lo, .int .i64 f.speed.hi, .int .i64 f.slope.lo, .int .i64 f.slope.hi] 30)).alloc (.cells #[.int .i64 0, .int .i64 0] 26)
  have FB := (Blk.newAt ((w.alloc (.cells #[.slice A ps.length c, .slice A' bs.length c'] 54)).alloc (.cells #[.int .i64 r.size.lo, .int .i64 r.size.hi, .int .i64 r.dens.lo, .int .i64 r.dens.hi, .int .i64 r.strong.lo, .int .i64 r.strong.hi, .int .i64 r.spin.lo, .int .i64 r.spin.hi, .int .i64 r.shape.lo, .int .i64 r.shape.hi, .bool r.pile] 28)) 30 #[.int .i64 f.speed.lo, .int .i64 f.speed.hi, .int .i64 f.slope.lo, .int .i64 f.slope.hi] (n := N + 1 + 1) (by simp [hN])).alloc (.cells #[.int .i64 0, .int .i64 0] 26)
  have TB := Blk.newAt (((w.alloc (.cells #[.slice A ps.length c, .slice A' bs.length c'] 54)).alloc (.cells #[.int .i64 r.size.lo, .int .i64 r.size.hi, .int .i64 r.dens.lo, .int .i64 r.dens.hi, .int .i64 r.strong.lo, .int .i64 r.strong.hi, .int .i64 r.spin.lo, .int .i64 r.spin.hi, .int .i64 r.shape.lo, .int .i64 r.shape.hi, .bool r.pile] 28)).alloc (.cells #[.int .i64 f.speed.lo, .int .i64 f.speed.hi, .int .i64 f.slope.lo, .int .i64 f.slope.hi] 30)) 26 #[.int .i64 0, .int .i64 0] (n := N + 1 + 1 + 1) (by simp [hN])
  go_enter Tryd.func108, Tryd.ntmps108
  go_wp2_with fail
  rw [← hN] at K0 ⊢
  generalize (((w.alloc (.cells #[.slice A ps.length c, .slice A' bs.length c'] 54)).alloc (.cells #[.int .i64 r.size.lo, .int .i64 r.size.hi, .int .i64 r.dens.lo, .int .i64 r.dens.hi, .int .i64 r.strong.lo, .int .i64 r.strong.hi, .int .i64 r.spin.lo, .int .i64 r.spin.hi, .int .i64 r.shape.lo, .int .i64 r.shape.hi, .bool r.pile] 28)).alloc (.cells #[.int .i64 f.speed.lo, .int .i64 f.speed.hi, .int .i64 f.slope.lo, .int .i64 f.slope.hi] 30)).alloc (.cells #[.int .i64 0, .int .i64 0] 26) = w0 at *
  subst hN
  refine (ref_Blows_any Aa ca ls r f _ (hl.kpN K0)).mono ?_
  rintro e w1 ⟨⟨A9, c9, bl, n, rfl, hRb, hn⟩, k1⟩
  have K1 := K0.thenN k1 (Nat.le_refl _)
  replace LB := LB.kpN k1
  replace TB := TB.kpN k1
  clear k1 K0 RB FB hl
  have cT := fun i => TB.cell i
  have fT := fun i => TB.frozen i
  by_cases hn0 : n = 0
  case neg =>
    have hbl := blows_err hn0 hn
    have hx := Lib.hid (show TollIs ls gs ps bs r f fr fi 0 0 0 n from .inl ⟨hn0, ⟨rfl, rfl, rfl⟩, hbl ▸ hn⟩)
    clear hn hg h hb LB hbl hRb
    go_wp2
    exact bodyPost_ret (v := .tuple #[.agg #[.int .i64 0, .int .i64 0], .int .i64 0, .int .i64 n]) (by simp [results, Tryd.results108, go_sem, cT]) rfl ⟨⟨0, 0, 0, n, rfl, hx.out⟩, (K1.setNew (p := ⟨w.heap.size + 1 + 1 + 1, 0, none⟩) (show w.heap.size ≤ w.heap.size + 1 + 1 + 1 by omega) _).setNew (p := ⟨w.heap.size + 1 + 1 + 1, 1, none⟩) (show w.heap.size ≤ w.heap.size + 1 + 1 + 1 by omega) _⟩
  subst hn0
  obtain ⟨hair, hrock, hbl⟩ := blows_zero hn
  have hll := hair.1
  rw [hbl] at hn
  have hlay : ∀ x ∈ bl, 0 ≤ x.layer ∧ x.layer ≤ (ls.length : Int) := fun x hx => by
    have := blows_from (weakS r f) (strongS r f) ls 0 _ _ x (hbl ▸ hx)
    omega
  have hblen : bl.length ≤ 33 := by
    have := blowsFrom_len (weakS r f) (strongS r f) ls 0 (f.speed.lo * f.speed.lo) (f.speed.hi * f.speed.hi)
    rw [hbl]; unfold blowsOf; omega
  have hbpos : 0 < bl.length := by
    rw [hbl]
    refine blowsOf_some (fun x hx => ?_) (rockOk_of_all hrock)
    obtain ⟨i, hi, rfl⟩ := List.getElem_of_mem hx
    exact hair.2 i hi
  replace hn := Lib.hid hn
  replace hlay := Lib.hid hlay
  replace hbl := Lib.hid hbl
  clear hair hrock
  have cL := fun i => LB.cell i
  go_wp2_with fail
  refine (ref_both_any Ag cg gs A A' c bs.length c' ps _ (hg.kpN K1) (h.kpN K1)).mono ?_
  rintro e w2 ⟨⟨n, rfl, hgk⟩, k2⟩
  have K2 := K1.thenN k2 (Nat.le_refl _)
  replace LB := LB.kpN k2
  replace TB := TB.kpN k2
  replace hRb := hRb.kpN k2
  clear k2 K1 cT fT cL
  have cT := fun i => TB.cell i
  have fT := fun i => TB.frozen i
  have K1 := K2
  by_cases hn0 : n = 0
  case neg =>
    have hx := Lib.hid (show TollIs ls gs ps bs r f fr fi 0 0 0 n from .inr (.inl ⟨hn.out, hn0, ⟨rfl, rfl, rfl⟩, hgk⟩))
    clear hgk hg h hb LB hRb
    go_wp2
    exact bodyPost_ret (v := .tuple #[.agg #[.int .i64 0, .int .i64 0], .int .i64 0, .int .i64 n]) (by simp [results, Tryd.results108, go_sem, cT]) rfl ⟨⟨0, 0, 0, n, rfl, hx.out⟩, (K1.setNew (p := ⟨w.heap.size + 1 + 1 + 1, 0, none⟩) (show w.heap.size ≤ w.heap.size + 1 + 1 + 1 by omega) _).setNew (p := ⟨w.heap.size + 1 + 1 + 1, 1, none⟩) (show w.heap.size ≤ w.heap.size + 1 + 1 + 1 by omega) _⟩
  subst hn0
  replace hgk := Lib.hid hgk
  have hok := Lib.hid (ground_ok hgk.out)
  have hpl := hok.out.2.l4
  have cL := fun i => LB.cell i
  go_wp2_with fail
  refine (ref_right_any A A' c bs.length c' ps fr _ (h.kpN K2)).mono ?_
  rintro e w3 ⟨⟨b, rfl, hbb⟩, k3⟩
  replace K2 := K2.thenN k3 (Nat.le_refl _)
  replace LB := LB.kpN k3
  replace TB := TB.kpN k3
  replace hRb := hRb.kpN k3
  clear k3 K1 cT fT cL
  have cT := fun i => TB.cell i
  have fT := fun i => TB.frozen i
  have cL := fun i => LB.cell i
  have K1 := K2
  cases b
  case false =>
    have hf : ¬ (0 ≤ fr ∧ fr < (ps.length : Int) ∧ 0 ≤ fi ∧ fi < (ps.length : Int)) := fun k => by have := hbb.2 ⟨hok.out.2, k.1, k.2.1⟩; cases this
    have hx := Lib.hid (show TollIs ls gs ps bs r f fr fi 0 0 0 7 from .inr (.inr ⟨hn.out, hgk.out, .inl ⟨hf, ⟨rfl, rfl, rfl⟩, rfl⟩⟩))
    clear hg h hb hRb hf hbb
    go_wp2
    exact bodyPost_ret (v := .tuple #[.agg #[.int .i64 0, .int .i64 0], .int .i64 0, .int .i64 7]) (by simp [results, Tryd.results108, go_sem, cT]) rfl ⟨⟨0, 0, 0, 7, rfl, hx.out⟩, (K1.setNew (p := ⟨w.heap.size + 1 + 1 + 1, 0, none⟩) (show w.heap.size ≤ w.heap.size + 1 + 1 + 1 by omega) _).setNew (p := ⟨w.heap.size + 1 + 1 + 1, 1, none⟩) (show w.heap.size ≤ w.heap.size + 1 + 1 + 1 by omega) _⟩
  obtain ⟨-, f1, f2⟩ := hbb.1 rfl
  clear hbb
  go_wp2_with fail
  refine (ref_right_any A A' c bs.length c' ps fi _ (h.kpN K2)).mono ?_
  rintro e w4 ⟨⟨b, rfl, hbb⟩, k4⟩
  replace K2 := K2.thenN k4 (Nat.le_refl _)
  replace LB := LB.kpN k4
  replace TB := TB.kpN k4
  replace hRb := hRb.kpN k4
  clear k4 K1 cT fT cL
  have cT := fun i => TB.cell i
  have fT := fun i => TB.frozen i
  have cL := fun i => LB.cell i
  have K1 := K2
  cases b
  case false =>
    have hf : ¬ (0 ≤ fr ∧ fr < (ps.length : Int) ∧ 0 ≤ fi ∧ fi < (ps.length : Int)) := fun k => by have := hbb.2 ⟨hok.out.2, k.2.2.1, k.2.2.2⟩; cases this
    have hx := Lib.hid (show TollIs ls gs ps bs r f fr fi 0 0 0 7 from .inr (.inr ⟨hn.out, hgk.out, .inl ⟨hf, ⟨rfl, rfl, rfl⟩, rfl⟩⟩))
    clear hg h hb hRb hf hbb
    go_wp2
    exact bodyPost_ret (v := .tuple #[.agg #[.int .i64 0, .int .i64 0], .int .i64 0, .int .i64 7]) (by simp [results, Tryd.results108, go_sem, cT]) rfl ⟨⟨0, 0, 0, 7, rfl, hx.out⟩, (K1.setNew (p := ⟨w.heap.size + 1 + 1 + 1, 0, none⟩) (show w.heap.size ≤ w.heap.size + 1 + 1 + 1 by omega) _).setNew (p := ⟨w.heap.size + 1 + 1 + 1, 1, none⟩) (show w.heap.size ≤ w.heap.size + 1 + 1 + 1 by omega) _⟩
  obtain ⟨-, f3, f4⟩ := hbb.1 rfl
  clear hbb
  by_cases q5 : fi < fr
  · have hx := Lib.hid (show TollIs ls gs ps bs r f fr fi 0 0 0 11 from .inr (.inr ⟨hn.out, hgk.out, .inr ⟨⟨f1, f2, f3, f4⟩, .inl ⟨q5, ⟨rfl, rfl, rfl⟩, rfl⟩⟩⟩))
    clear hg h hb hRb
    go_wp2
    exact bodyPost_ret (v := .tuple #[.agg #[.int .i64 0, .int .i64 0], .int .i64 0, .int .i64 11]) (by simp [results, Tryd.results108, go_sem, cT]) rfl ⟨⟨0, 0, 0, 11, rfl, hx.out⟩, (K1.setNew (p := ⟨w.heap.size + 1 + 1 + 1, 0, none⟩) (show w.heap.size ≤ w.heap.size + 1 + 1 + 1 by omega) _).setNew (p := ⟨w.heap.size + 1 + 1 + 1, 1, none⟩) (show w.heap.size ≤ w.heap.size + 1 + 1 + 1 by omega) _⟩
  obtain ⟨fr, rfl⟩ := Int.eq_ofNat_of_zero_le f1
  obtain ⟨fi, rfl⟩ := Int.eq_ofNat_of_zero_le f3
  have hx : ∀ s : TS, tollOf (harmsOf ls.length gs ps bs) bl fr fi = s → TollIs ls gs ps bs r f fr fi s.lo s.hi s.wo 0 := fun s hs => by
    subst hs
    rw [hbl.out]
    exact .inr (.inr ⟨hn.out, hgk.out, .inr ⟨⟨f1, f2, f3, f4⟩, .inr ⟨by omega, ⟨by rw [Int.toNat_natCast, Int.toNat_natCast], by rw [Int.toNat_natCast, Int.toNat_natCast], by rw [Int.toNat_natCast, Int.toNat_natCast]⟩, rfl⟩⟩⟩)
  replace hx := Lib.hid hx
  have hg2 := (hg.kpN K2).under (.cells #[.int .i64 0, .int .i64 0] 26)
  have h2 := (h.kpN K2).under (.cells #[.int .i64 0, .int .i64 0] 26)
  have hb2 := (hb.kpN K2).under (.cells #[.int .i64 0, .int .i64 0] 26)
  have hRb2 := hRb.under (.cells #[.int .i64 0, .int .i64 0] 26)
  have hLlt := LB.lt
  have hTlt := TB.lt
  replace LB := LB.alloc (.cells #[.int .i64 0, .int .i64 0] 26)
  replace TB := TB.alloc (.cells #[.int .i64 0, .int .i64 0] 26)
  have SB := Blk.new w4 26 #[.int .i64 0, .int .i64 0]
  replace K2 := K2.alloc K2.size (.cells #[.int .i64 0, .int .i64 0] 26)
  clear hg h hb hRb K1
  go_wp2_with fail
  obtain ⟨bt, hbt⟩ : ∃ bt, bt = w4.heap.size := ⟨_, rfl⟩
  rw [← hbt] at hg2 h2 hb2 hRb2 SB ⊢
  have hbt3 : w.heap.size + 1 + 1 + 1 < bt := by omega
  generalize w4.alloc (.cells #[.int .i64 0, .int .i64 0] 26) = w5 at *
  clear hbt cT fT cL hLlt hTlt
  have hfrfi : fr ≤ fi := by omega
  have hfip : fi < ps.length := by omega
  go_loopw [21, 22, 23] (fun v21 v22 v23 wr => RTolR (harmsOf ls.length gs ps bs) bl fr fi bt w5 v21 v22 v23 wr) (fun _ _ v _ => fi + 1 - (intOf v).toNat)
  case atStart => exact ⟨fr, true, 0, 0, fr, ⟨-1, -1, fr⟩, rfl, Nat.le_refl _, by omega, rfl, rfl, .inl ⟨rfl, rfl, rfl, rfl, rfl⟩, fun h => absurd h (Nat.lt_irrefl _), rfl, SB, Kp.refl _ _ _⟩
  case round =>
    obtain ⟨a, q, lo, hi, wo, s, rfl, ha1, ha2, rfl, rfl, hRS, hqa, htol, SA, KK⟩ := hrel
    replace htol := Lib.hid htol
    replace hRS := Lib.hid hRS
    have LA := LB.kp KK LB.lt (sne (by omega))
    have TA := TB.kp KK TB.lt (sne (by omega))
    have cL := fun i => LA.cell i
    have cT := fun i => TA.cell i
    have fT := fun i => TA.frozen i
    by_cases h7 : a ≤ fi
    · have h7' : (a : Int) ≤ (fi : Int) := by omega
      have hal : a < ps.length := by omega
      have hg3 := hg2.kp KK
      have h3 := h2.kp KK
      have hb3 := hb2.kp KK
      have hRb3 := hRb2.kp KK
      clear hg2 h2 hb2 hRb2 LB TB SB hqa
      go_wp2_with fail
      go_loopw [21, 22, 24] (fun v21 v22 v24 wx => RTolI (harmsOf ls.length gs ps bs) bl fr fi bt a wr v21 v22 v24 wx) (fun _ _ v _ => bl.length - (intOf v).toNat)
      case atStart => exact ⟨0, q, lo, hi, wo, s, rfl, by omega, rfl, rfl, hRS.out, fun h => absurd h (Nat.lt_irrefl _), by rw [htol.out, tRun_succ _ _ _ _ h7]; rfl, SA, Kp.refl _ _ _⟩
      case round =>
        clear SA htol hRS
        obtain ⟨j, q, lo, hi, wo, s, rfl, hj, rfl, rfl, hRS, hqj, htol, SA, KI⟩ := hrel
        replace hRS := Lib.hid hRS
        by_cases h8 : j < bl.length
        · obtain ⟨b, o, rfl, hbl2, -, hcc⟩ := (hRb3.kp KI).at_ (by omega)
          have c0 : wr.cell? ⟨b, o + j * 3, none⟩ = some (.int .i64 bl[j].layer) := hcc j h8 0 _ rfl
          have c1 : wr.cell? ⟨b, o + j * 3 + 1, none⟩ = some (.int .i64 bl[j].lo) := hcc j h8 1 _ rfl
          have c2 : wr.cell? ⟨b, o + j * 3 + 2, none⟩ = some (.int .i64 bl[j].hi) := hcc j h8 2 _ rfl
          rw [List.drop_eq_getElem_cons h8, tCell_cons] at htol
          have hxl := hlay.out bl[j] (List.getElem_mem h8)
          generalize bl[j] = x at c0 c1 c2 htol hxl
          obtain ⟨x1, x2, x3⟩ := x
          dsimp only at c0 c1 c2 htol hxl
          obtain ⟨hxl0, hxl1⟩ := hxl
          obtain ⟨L, hL⟩ : ∃ L, L = harmsOf ls.length gs ps bs x1 x2 a := ⟨_, rfl⟩
          obtain ⟨U, hU⟩ : ∃ U, U = harmsOf ls.length gs ps bs x1 x3 a := ⟨_, rfl⟩
          have hL0 : 0 ≤ L := hL ▸ harmsOf_nonneg hok.out.2 hal
          have hU0 : 0 ≤ U := hU ▸ harmsOf_nonneg hok.out.2 hal
          rw [← hL, ← hU] at htol
          replace hL := Lib.hid hL
          replace hU := Lib.hid hU
          have hg4 := (hg3.kp KI).free
          have h4 := (h3.kp KI).free
          have hb4 := (hb3.kp KI).free
          have LX := LA.kp KI LA.lt (sne (by omega))
          have h8' : (j : Int) < (bl.length : Int) := by omega
          have hbl33 : (bl.length : Int) ≤ 33 := by omega
          clear hcc hRb3 hg3 h3 hb3 cL cT fT hqj
          replace htol := Lib.hid htol
          go_wp2_with fail
          replace LX := LX.drew
          replace c0 : wr.drew.cell? _ = _ := c0
          replace c1 : wr.drew.cell? _ = _ := c1
          replace c2 : wr.drew.cell? _ = _ := c2
          replace SA := SA.drew
          replace hg4 := hg4.drew
          replace h4 := h4.drew
          replace hb4 := hb4.drew
          replace KI := KI.drew
          replace hbl2 : b < wr.drew.heap.size := hbl2
          obtain ⟨S, hS⟩ : ∃ S : Nat → World → Prop, S = fun _ w' => Blk w' w.heap.size 54 #[.slice A ps.length c, .slice A' bs.length c'] ∧ w'.cell? ⟨b, o + j * 3, none⟩ = some (.int .i64 x1) ∧ w'.cell? ⟨b, o + j * 3 + 1, none⟩ = some (.int .i64 x2) ∧ w'.cell? ⟨b, o + j * 3 + 2, none⟩ = some (.int .i64 x3) := ⟨_, rfl⟩
          have hS0 : ∀ w', S 0 w' ↔ (Blk w' w.heap.size 54 #[.slice A ps.length c, .slice A' bs.length c'] ∧ w'.cell? ⟨b, o + j * 3, none⟩ = some (.int .i64 x1) ∧ w'.cell? ⟨b, o + j * 3 + 1, none⟩ = some (.int .i64 x2) ∧ w'.cell? ⟨b, o + j * 3 + 2, none⟩ = some (.int .i64 x3)) := fun w' => by rw [hS]
          clear hS
          have cA := fun (q : Ev (S 0)) i => ((hS0 _).1 q.h).1.cell i
          have cB : ∀ q : Ev (S 0), q.w.cell? ⟨b, o + j * 3, none⟩ = some (.int .i64 x1) := fun q => ((hS0 _).1 q.h).2.1
          have cC : ∀ q : Ev (S 0), q.w.cell? ⟨b, o + j * 3 + 1, none⟩ = some (.int .i64 x2) := fun q => ((hS0 _).1 q.h).2.2.1
          have cD : ∀ q : Ev (S 0), q.w.cell? ⟨b, o + j * 3 + 2, none⟩ = some (.int .i64 x3) := fun q => ((hS0 _).1 q.h).2.2.2
          have hevT := ev_true
          refine wp_region_ord S [(0, 0), (1, 0), (2, 0), (3, 1), (4, 0), (5, 0), (6, 0), (7, 0), (8, 1), (9, 0), (10, 0), (11, 0), (12, 0), (13, 0), (14, 1), (15, 0), (16, 2), (17, 0)] [] (by kernel_rfl) (by kernel_rfl) ((hS0 _).2 ⟨LX, c0, c1, c2⟩) ?_
          intro _hev
          iterate 16 (first | (refine wpOrd_v rfl rfl ?_; intro K hK; go_big_quiet_op; go_big_quiet_on) | (refine wpOrd_q rfl rfl ?_; intro K hK; go_big_quiet_op; go_big_quiet_on) | refine wpOrd_s (by decide) rfl rfl ?_)
          refine wpOrd_l rfl rfl ?_; intro K hK
          go_step
          refine (ref_harms_any Ag cg gs A A' c c' ps bs ls.length a x1 x2 _ hg4 h4 hb4 hok.out.1 hok.out.2 hal (by omega) ⟨hxl0, hxl1⟩).mono ?_
          rintro e w7 ⟨rfl, k7⟩
          rw [← hL.out]
          replace LX := LX.kpN k7
          replace c0 := (k7.cell b _ hbl2 (by simp)).trans c0
          replace c1 := (k7.cell b _ hbl2 (by simp)).trans c1
          replace c2 := (k7.cell b _ hbl2 (by simp)).trans c2
          replace SA := SA.kpN k7
          replace hg4 := hg4.kpN k7
          replace h4 := h4.kpN k7
          replace hb4 := hb4.kpN k7
          replace KI := KI.thenN k7 (Nat.le_refl _)
          replace hbl2 := Nat.lt_of_lt_of_le hbl2 k7.size
          refine hK _ _ ((hS0 _).2 ⟨LX, c0, c1, c2⟩) ?_
          clear hK K k7
          iterate 1 (first | (refine wpOrd_v rfl rfl ?_; intro K hK; go_big_quiet_op; go_big_quiet_on) | (refine wpOrd_q rfl rfl ?_; intro K hK; go_big_quiet_op; go_big_quiet_on) | refine wpOrd_s (by decide) rfl rfl ?_)
          refine wpOrd_nil ?_
          clear hevT _hev
          clear cA cB cC cD hS0 S
          go_wp2_with fail
          replace LX := LX.drew
          replace c0 : w7.drew.cell? _ = _ := c0
          replace c1 : w7.drew.cell? _ = _ := c1
          replace c2 : w7.drew.cell? _ = _ := c2
          replace SA := SA.drew
          replace hg4 := hg4.drew
          replace h4 := h4.drew
          replace hb4 := hb4.drew
          replace KI := KI.drew
          replace hbl2 : b < w7.drew.heap.size := hbl2
          obtain ⟨S, hS⟩ : ∃ S : Nat → World → Prop, S = fun _ w' => Blk w' w.heap.size 54 #[.slice A ps.length c, .slice A' bs.length c'] ∧ w'.cell? ⟨b, o + j * 3, none⟩ = some (.int .i64 x1) ∧ w'.cell? ⟨b, o + j * 3 + 1, none⟩ = some (.int .i64 x2) ∧ w'.cell? ⟨b, o + j * 3 + 2, none⟩ = some (.int .i64 x3) := ⟨_, rfl⟩
          have hS0 : ∀ w', S 0 w' ↔ (Blk w' w.heap.size 54 #[.slice A ps.length c, .slice A' bs.length c'] ∧ w'.cell? ⟨b, o + j * 3, none⟩ = some (.int .i64 x1) ∧ w'.cell? ⟨b, o + j * 3 + 1, none⟩ = some (.int .i64 x2) ∧ w'.cell? ⟨b, o + j * 3 + 2, none⟩ = some (.int .i64 x3)) := fun w' => by rw [hS]
          clear hS
          have cA := fun (q : Ev (S 0)) i => ((hS0 _).1 q.h).1.cell i
          have cB : ∀ q : Ev (S 0), q.w.cell? ⟨b, o + j * 3, none⟩ = some (.int .i64 x1) := fun q => ((hS0 _).1 q.h).2.1
          have cC : ∀ q : Ev (S 0), q.w.cell? ⟨b, o + j * 3 + 1, none⟩ = some (.int .i64 x2) := fun q => ((hS0 _).1 q.h).2.2.1
          have cD : ∀ q : Ev (S 0), q.w.cell? ⟨b, o + j * 3 + 2, none⟩ = some (.int .i64 x3) := fun q => ((hS0 _).1 q.h).2.2.2
          have hevT := ev_true
          refine wp_region_ord S [(0, 0), (1, 0), (2, 0), (3, 1), (4, 0), (5, 0), (6, 0), (7, 0), (8, 1), (9, 0), (10, 0), (11, 0), (12, 0), (13, 0), (14, 1), (15, 0), (16, 2), (17, 0)] [] (by kernel_rfl) (by kernel_rfl) ((hS0 _).2 ⟨LX, c0, c1, c2⟩) ?_
          intro _hev
          iterate 16 (first | (refine wpOrd_v rfl rfl ?_; intro K hK; go_big_quiet_op; go_big_quiet_on) | (refine wpOrd_q rfl rfl ?_; intro K hK; go_big_quiet_op; go_big_quiet_on) | refine wpOrd_s (by decide) rfl rfl ?_)
          refine wpOrd_l rfl rfl ?_; intro K hK
          go_step
          refine (ref_harms_any Ag cg gs A A' c c' ps bs ls.length a x1 x3 _ hg4 h4 hb4 hok.out.1 hok.out.2 hal (by omega) ⟨hxl0, hxl1⟩).mono ?_
          rintro e w7 ⟨rfl, k7⟩
          rw [← hU.out]
          replace LX := LX.kpN k7
          replace c0 := (k7.cell b _ hbl2 (by simp)).trans c0
          replace c1 := (k7.cell b _ hbl2 (by simp)).trans c1
          replace c2 := (k7.cell b _ hbl2 (by simp)).trans c2
          replace SA := SA.kpN k7
          replace hg4 := hg4.kpN k7
          replace h4 := h4.kpN k7
          replace hb4 := hb4.kpN k7
          replace KI := KI.thenN k7 (Nat.le_refl _)
          replace hbl2 := Nat.lt_of_lt_of_le hbl2 k7.size
          refine hK _ _ ((hS0 _).2 ⟨LX, c0, c1, c2⟩) ?_
          clear hK K k7
          iterate 1 (first | (refine wpOrd_v rfl rfl ?_; intro K hK; go_big_quiet_op; go_big_quiet_on) | (refine wpOrd_q rfl rfl ?_; intro K hK; go_big_quiet_op; go_big_quiet_on) | refine wpOrd_s (by decide) rfl rfl ?_)
          refine wpOrd_nil ?_
          clear hevT _hev
          clear cA cB cC cD hS0 S
          clear hg4 h4 hb4 LX c0 c1 c2 hL hU
          have cS := fun i => SA.cell i
          have fS := fun i => SA.frozen i
          have hRS' := hRS.out
          replace htol := htol.out
          clear hRS
          rcases hRS' with ⟨rfl, rfl, rfl, rfl, rfl⟩ | ⟨rfl, rfl, rfl, rfl, hlo⟩
          · replace htol := Lib.hid htol
            have p3 : (-1 : Int) < U := by omega
            have hst : tStep a L U ⟨-1, -1, wo⟩ = ⟨L, U, a⟩ := by
              unfold tStep
              rw [(if_pos (.inl (show (-1 : Int) < 0 by decide))), (if_pos p3), (if_pos p3)]
            have ht2 := htol.out
            rw [hst] at ht2
            replace ht2 := Lib.hid ht2
            clear htol hst
            go_wp2
            go_roundw
            case rel => exact ⟨j + 1, false, L, U, a, ⟨L, U, a⟩, rfl, by omega, rfl, rfl, .inr ⟨rfl, rfl, rfl, rfl, by omega⟩, fun _ => rfl, ht2.out, (SA.set_ 0 (.int .i64 L)).set_ 1 (.int .i64 U), (KI.setRow (p := ⟨bt, 0, none⟩) rfl (.int .i64 L)).setRow (p := ⟨bt, 1, none⟩) rfl (.int .i64 U)⟩
            case measure => simp [intOf]; omega
          · replace htol := Lib.hid htol
            have p1 : ¬ s.lo < 0 := by omega
            by_cases p2 : L < s.lo
            · by_cases p3 : s.hi < U
              ·
                have hst : tStep a L U s = ⟨L, U, a⟩ := by
                  unfold tStep
                  rw [(if_pos (.inr p2)), (if_pos p3), (if_pos p3)]
                have ht2 := htol.out
                rw [hst] at ht2
                replace ht2 := Lib.hid ht2
                clear htol hst
                go_wp2
                go_roundw
                case rel => exact ⟨j + 1, false, L, U, a, ⟨L, U, a⟩, rfl, by omega, rfl, rfl, .inr ⟨rfl, rfl, rfl, rfl, by omega⟩, fun _ => rfl, ht2.out, (SA.set_ 0 (.int .i64 L)).set_ 1 (.int .i64 U), (KI.setRow (p := ⟨bt, 0, none⟩) rfl (.int .i64 L)).setRow (p := ⟨bt, 1, none⟩) rfl (.int .i64 U)⟩
                case measure => simp [intOf]; omega
              ·
                have hst : tStep a L U s = ⟨L, s.hi, s.wo⟩ := by
                  unfold tStep
                  rw [(if_pos (.inr p2)), (if_neg p3), (if_neg p3)]
                have ht2 := htol.out
                rw [hst] at ht2
                replace ht2 := Lib.hid ht2
                clear htol hst
                go_wp2
                go_roundw
                case rel => exact ⟨j + 1, false, L, s.hi, s.wo, ⟨L, s.hi, s.wo⟩, rfl, by omega, rfl, rfl, .inr ⟨rfl, rfl, rfl, rfl, by omega⟩, fun _ => rfl, ht2.out, SA.set_ 0 (.int .i64 L), KI.setRow (p := ⟨bt, 0, none⟩) rfl (.int .i64 L)⟩
                case measure => simp [intOf]; omega
            · by_cases p3 : s.hi < U
              ·
                have hst : tStep a L U s = ⟨s.lo, U, a⟩ := by
                  unfold tStep
                  rw [(if_neg (fun h => h.elim p1 p2)), (if_pos p3), (if_pos p3)]
                have ht2 := htol.out
                rw [hst] at ht2
                replace ht2 := Lib.hid ht2
                clear htol hst
                go_wp2
                go_roundw
                case rel => exact ⟨j + 1, false, s.lo, U, a, ⟨s.lo, U, a⟩, rfl, by omega, rfl, rfl, .inr ⟨rfl, rfl, rfl, rfl, by omega⟩, fun _ => rfl, ht2.out, SA.set_ 1 (.int .i64 U), KI.setRow (p := ⟨bt, 1, none⟩) rfl (.int .i64 U)⟩
                case measure => simp [intOf]; omega
              ·
                have hst : tStep a L U s = ⟨s.lo, s.hi, s.wo⟩ := by
                  unfold tStep
                  rw [(if_neg (fun h => h.elim p1 p2)), (if_neg p3), (if_neg p3)]
                have ht2 := htol.out
                rw [hst] at ht2
                replace ht2 := Lib.hid ht2
                clear htol hst
                go_wp2
                go_roundw
                case rel => exact ⟨j + 1, false, s.lo, s.hi, s.wo, ⟨s.lo, s.hi, s.wo⟩, rfl, by omega, rfl, rfl, .inr ⟨rfl, rfl, rfl, rfl, by omega⟩, fun _ => rfl, ht2.out, SA, KI⟩
                case measure => simp [intOf]; omega
        · obtain rfl : j = bl.length := by omega
          have h8' : ¬ (bl.length : Int) < (bl.length : Int) := by omega
          rw [List.drop_length] at htol
          replace htol := Lib.hid htol
          have KW := KK.then_ KI (Nat.le_refl _)
          obtain rfl := hqj hbpos
          clear h8
          go_wp2
          go_roundw
          case rel => exact ⟨a + 1, false, lo, hi, wo, s, rfl, by omega, by omega, rfl, rfl, hRS.out, fun _ => rfl, htol.out, SA, KW⟩
          case measure => simp [intOf]; omega
    · have h7' : ¬ (a : Int) ≤ (fi : Int) := by omega
      obtain rfl : a = fi + 1 := by omega
      have hq := hqa (by omega)
      have hRS' := hRS.out
      clear hRS hqa
      rcases hRS' with ⟨rfl, _⟩ | ⟨rfl, rfl, rfl, rfl, hlo⟩
      · cases hq
      have hfin := hx.out s (by rw [htol.out, Nat.sub_self]; rfl)
      replace hfin := Lib.hid hfin
      have cS := fun i => SA.cell i
      have KE := ((K2.thenOwn KK (Nat.le_refl _) (show w.heap.size ≤ bt by omega)).setNew (p := ⟨w.heap.size + 1 + 1 + 1, 0, none⟩) (show w.heap.size ≤ w.heap.size + 1 + 1 + 1 by omega) (.int .i64 s.lo)).setNew (p := ⟨w.heap.size + 1 + 1 + 1, 1, none⟩) (show w.heap.size ≤ w.heap.size + 1 + 1 + 1 by omega) (.int .i64 s.hi)
      go_wp2
      exact bodyPost_ret (v := .tuple #[.agg #[.int .i64 s.lo, .int .i64 s.hi], .int .i64 s.wo, .int .i64 0]) (by simp [results, Tryd.results108, go_sem, cT]) rfl ⟨⟨s.lo, s.hi, s.wo, 0, rfl, hfin.out⟩, KE⟩
end Go.Proofs.YtdiigflbohbndaaDoor
namespace Go.Proofs.YtdiigflbohbndaaDoor
open Go.RowKit

theorem tollIs_wo {ls : List Layer} {gs : List Grade} {ps : List Int} {bs : List Bool} {r : Rock} {f : Fall} {fr fi lo hi wo n : Int} (h : TollIs ls gs ps bs r f fr fi lo hi wo n) (hn : n ≠ 0) : wo = 0 := by
  rcases h with ⟨_, h, _⟩ | ⟨_, _, h, _⟩ | ⟨_, _, ⟨_, h, _⟩ | ⟨_, ⟨_, h, _⟩ | ⟨_, _, h⟩⟩⟩
  · exact h.2.2
  · exact h.2.2
  · exact h.2.2
  · exact h.2.2
  · exact absurd h hn
set_option maxRecDepth 100000 in
set_option maxHeartbeats 1000000 in
theorem ref_Toll_any (Aa : Option Addr) (ca : Nat) (ls : List Layer) (Ag : Option Addr) (cg : Nat) (gs : List Grade) (A A' : Option Addr) (c c' : Nat) (ps : List Int) (bs : List Bool) (r : Rock) (f : Fall) (fr fi : Int) (w : World)
    (hl : Rd none w 2 encLayer Aa ls.length ls) (hg : Rd none w 2 encGrade Ag gs.length gs) (h : Rd none w 1 encI A ps.length ps) (hb : Rd none w 1 encB A' bs.length bs) :
    Calls Tryd.prog 64 #[.slice Aa ls.length ca, .slice Ag gs.length cg, .agg #[.slice A ps.length c, .slice A' bs.length c'], .agg #[.int .i64 r.size.lo, .int .i64 r.size.hi, .int .i64 r.dens.lo, .int .i64 r.dens.hi, .int .i64 r.strong.lo, .int .i64 r.strong.hi, .int .i64 r.spin.lo, .int .i64 r.spin.hi, .int .i64 r.shape.lo, .int .i64 r.shape.hi, .bool r.pile], .agg #[.int .i64 f.speed.lo, .int .i64 f.speed.hi, .int .i64 f.slope.lo, .int .i64 f.slope.hi], .int .i64 fr, .int .i64 fi] w
      fun e w' => (∃ lo hi wo n, e = .returned (.tuple #[.agg #[.int .i64 lo, .int .i64 hi], .int .i64 n]) ∧ TollIs ls gs ps bs r f fr fi lo hi wo n) ∧ Kp w.heap.size none w w' := by
  obtain ⟨N, hN⟩ : ∃ N, N = w.heap.size := ⟨_, rfl⟩
  have K0 := (((((Kp.refl w.heap.size none w).alloc (Nat.le_refl _) (.cells #[.slice A ps.length c, .slice A' bs.length c'] 54)).alloc (by simp) (.cells #[.int .i64 r.size.lo, .int .i64 r.size.hi, .int .i64 r.dens.lo, .int .i64 r.dens.hi, .int .i64 r.strong.lo, .int .i64 r.strong.hi, .int .i64 r.spin.lo, .int .i64 r.spin.hi, .int .i64 r.shape.lo, .int .i64 r.shape.hi, .bool r.pile] 28)).alloc (by simp; omega) (.cells #[.int .i64 f.speed.lo, .int .i64 f.speed.hi, .int .i64 f.slope.lo, .int .i64 f.slope.hi] 30)).alloc (by simp; omega) (.cells #[.int .i64 0, .int .i64 0] 26))
  have LB := ((((Blk.newAt w 54 #[.slice A ps.length c, .slice A' bs.length c'] hN).alloc (.cells #[.int .i64 r.size.lo, .int .i64 r.size.hi, .int .i64 r.dens.lo, .int .i64 r.dens.hi, .int .i64 r.strong.lo, .int .i64 r.strong.hi, .int .i64 r.spin.lo, .int .i64 r.spin.hi, .int .i64 r.shape.lo, .int .i64 r.shape.hi, .bool r.pile] 28)).alloc (.cells #[.int .i64 f.speed.lo, .int .i64 f.speed.hi, .int .i64 f.slope.lo, .int .i64 f.slope.hi] 30)).alloc (.cells #[.int .i64 0, .int .i64 0] 26))
  have RB := (((Blk.newAt (w.alloc (.cells #[.slice A ps.length c, .slice A' bs.length c'] 54)) 28 #[.int .i64 r.size.lo, .int .i64 r.size.hi, .int .i64 r.dens.lo, .int .i64 r.dens.hi, .int .i64 r.strong.lo, .int .i64 r.strong.hi, .int .i64 r.spin.lo, .int .i64 r.spin.hi, .int .i64 r.shape.lo, .int .i64 r.shape.hi, .bool r.pile] (n := N + 1) (by simp [hN])).alloc (.cells #[.int .i64 f.speed.lo, .int .i64 f.speed.hi, .int .i64 f.slope.lo, .int .i64 f.slope.hi] 30)).alloc (.cells #[.int .i64 0, .int .i64 0] 26))
  have FB := ((Blk.newAt ((w.alloc (.cells #[.slice A ps.length c, .slice A' bs.length c'] 54)).alloc (.cells #[.int .i64 r.size.lo, .int .i64 r.size.hi, .int .i64 r.dens.lo, .int .i64 r.dens.hi, .int .i64 r.strong.lo, .int .i64 r.strong.hi, .int .i64 r.spin.lo, .int .i64 r.spin.hi, .int .i64 r.shape.lo, .int .i64 r.shape.hi, .bool r.pile] 28)) 30 #[.int .i64 f.speed.lo, .int .i64 f.speed.hi, .int .i64 f.slope.lo, .int .i64 f.slope.hi] (n := N + 1 + 1) (by simp [hN])).alloc (.cells #[.int .i64 0, .int .i64 0] 26))
  have TB := (Blk.newAt (((w.alloc (.cells #[.slice A ps.length c, .slice A' bs.length c'] 54)).alloc (.cells #[.int .i64 r.size.lo, .int .i64 r.size.hi, .int .i64 r.dens.lo, .int .i64 r.dens.hi, .int .i64 r.strong.lo, .int .i64 r.strong.hi, .int .i64 r.spin.lo, .int .i64 r.spin.hi, .int .i64 r.shape.lo, .int .i64 r.shape.hi, .bool r.pile] 28)).alloc (.cells #[.int .i64 f.speed.lo, .int .i64 f.speed.hi, .int .i64 f.slope.lo, .int .i64 f.slope.hi] 30)) 26 #[.int .i64 0, .int .i64 0] (n := N + 1 + 1 + 1) (by simp [hN]))
  have cL := fun i => LB.cell i
  have cR := fun i => RB.cell i
  have cF := fun i => FB.cell i
  go_enter Tryd.func64, Tryd.ntmps64
  go_wp2_with fail
  rw [← hN] at K0 ⊢
  generalize ((((w.alloc (.cells #[.slice A ps.length c, .slice A' bs.length c'] 54)).alloc (.cells #[.int .i64 r.size.lo, .int .i64 r.size.hi, .int .i64 r.dens.lo, .int .i64 r.dens.hi, .int .i64 r.strong.lo, .int .i64 r.strong.hi, .int .i64 r.spin.lo, .int .i64 r.spin.hi, .int .i64 r.shape.lo, .int .i64 r.shape.hi, .bool r.pile] 28)).alloc (.cells #[.int .i64 f.speed.lo, .int .i64 f.speed.hi, .int .i64 f.slope.lo, .int .i64 f.slope.hi] 30)).alloc (.cells #[.int .i64 0, .int .i64 0] 26)) = w0 at *
  subst hN
  refine (ref_toll_any Aa ca ls Ag cg gs A A' c c' ps bs r f fr fi _ (hl.kpN K0) (hg.kpN K0) (h.kpN K0) (hb.kpN K0)).mono ?_
  rintro e w1 ⟨⟨lo, hi, wo, n, rfl, ht⟩, k1⟩
  have K1 := K0.thenN k1 (Nat.le_refl _)
  replace TB := TB.kpN k1
  clear k1 K0 LB RB FB hl hg h hb cL cR cF
  replace ht := Lib.hid ht
  have SB := Blk.new w1 26 #[.int .i64 lo, .int .i64 hi]
  replace TB := TB.alloc (.cells #[.int .i64 lo, .int .i64 hi] 26)
  replace K1 := K1.alloc K1.size (.cells #[.int .i64 lo, .int .i64 hi] 26)
  have cS := fun i => SB.cell i
  have cT := fun i => TB.cell i
  have fT := fun i => TB.frozen i
  have hne : w.heap.size + 1 + 1 + 1 < (w1.alloc (.cells #[.int .i64 lo, .int .i64 hi] 26)).heap.size := TB.lt
  have KE := (K1.setNew (p := ⟨w.heap.size + 1 + 1 + 1, 0, none⟩) (show w.heap.size ≤ w.heap.size + 1 + 1 + 1 by omega) (.int .i64 lo)).setNew (p := ⟨w.heap.size + 1 + 1 + 1, 1, none⟩) (show w.heap.size ≤ w.heap.size + 1 + 1 + 1 by omega) (.int .i64 hi)
  go_wp2
  exact bodyPost_ret (v := .tuple #[.agg #[.int .i64 lo, .int .i64 hi], .int .i64 n]) (by simp [results, Tryd.results64, go_sem, cT]) rfl ⟨⟨lo, hi, wo, n, rfl, ht.out⟩, KE⟩
set_option maxRecDepth 100000 in
set_option maxHeartbeats 1000000 in
theorem ref_Worst_any (Aa : Option Addr) (ca : Nat) (ls : List Layer) (Ag : Option Addr) (cg : Nat) (gs : List Grade) (A A' : Option Addr) (c c' : Nat) (ps : List Int) (bs : List Bool) (r : Rock) (f : Fall) (fr fi : Int) (w : World)
    (hl : Rd none w 2 encLayer Aa ls.length ls) (hg : Rd none w 2 encGrade Ag gs.length gs) (h : Rd none w 1 encI A ps.length ps) (hb : Rd none w 1 encB A' bs.length bs) :
    Calls Tryd.prog 66 #[.slice Aa ls.length ca, .slice Ag gs.length cg, .agg #[.slice A ps.length c, .slice A' bs.length c'], .agg #[.int .i64 r.size.lo, .int .i64 r.size.hi, .int .i64 r.dens.lo, .int .i64 r.dens.hi, .int .i64 r.strong.lo, .int .i64 r.strong.hi, .int .i64 r.spin.lo, .int .i64 r.spin.hi, .int .i64 r.shape.lo, .int .i64 r.shape.hi, .bool r.pile], .agg #[.int .i64 f.speed.lo, .int .i64 f.speed.hi, .int .i64 f.slope.lo, .int .i64 f.slope.hi], .int .i64 fr, .int .i64 fi] w
      fun e w' => (∃ lo hi wo n, e = .returned (.tuple #[.int .i64 wo, .int .i64 n]) ∧ TollIs ls gs ps bs r f fr fi lo hi wo n) ∧ Kp w.heap.size none w w' := by
  obtain ⟨N, hN⟩ : ∃ N, N = w.heap.size := ⟨_, rfl⟩
  have K0 := ((((Kp.refl w.heap.size none w).alloc (Nat.le_refl _) (.cells #[.slice A ps.length c, .slice A' bs.length c'] 54)).alloc (by simp) (.cells #[.int .i64 r.size.lo, .int .i64 r.size.hi, .int .i64 r.dens.lo, .int .i64 r.dens.hi, .int .i64 r.strong.lo, .int .i64 r.strong.hi, .int .i64 r.spin.lo, .int .i64 r.spin.hi, .int .i64 r.shape.lo, .int .i64 r.shape.hi, .bool r.pile] 28)).alloc (by simp; omega) (.cells #[.int .i64 f.speed.lo, .int .i64 f.speed.hi, .int .i64 f.slope.lo, .int .i64 f.slope.hi] 30))
  have LB := (((Blk.newAt w 54 #[.slice A ps.length c, .slice A' bs.length c'] hN).alloc (.cells #[.int .i64 r.size.lo, .int .i64 r.size.hi, .int .i64 r.dens.lo, .int .i64 r.dens.hi, .int .i64 r.strong.lo, .int .i64 r.strong.hi, .int .i64 r.spin.lo, .int .i64 r.spin.hi, .int .i64 r.shape.lo, .int .i64 r.shape.hi, .bool r.pile] 28)).alloc (.cells #[.int .i64 f.speed.lo, .int .i64 f.speed.hi, .int .i64 f.slope.lo, .int .i64 f.slope.hi] 30))
  have RB := ((Blk.newAt (w.alloc (.cells #[.slice A ps.length c, .slice A' bs.length c'] 54)) 28 #[.int .i64 r.size.lo, .int .i64 r.size.hi, .int .i64 r.dens.lo, .int .i64 r.dens.hi, .int .i64 r.strong.lo, .int .i64 r.strong.hi, .int .i64 r.spin.lo, .int .i64 r.spin.hi, .int .i64 r.shape.lo, .int .i64 r.shape.hi, .bool r.pile] (n := N + 1) (by simp [hN])).alloc (.cells #[.int .i64 f.speed.lo, .int .i64 f.speed.hi, .int .i64 f.slope.lo, .int .i64 f.slope.hi] 30))
  have FB := (Blk.newAt ((w.alloc (.cells #[.slice A ps.length c, .slice A' bs.length c'] 54)).alloc (.cells #[.int .i64 r.size.lo, .int .i64 r.size.hi, .int .i64 r.dens.lo, .int .i64 r.dens.hi, .int .i64 r.strong.lo, .int .i64 r.strong.hi, .int .i64 r.spin.lo, .int .i64 r.spin.hi, .int .i64 r.shape.lo, .int .i64 r.shape.hi, .bool r.pile] 28)) 30 #[.int .i64 f.speed.lo, .int .i64 f.speed.hi, .int .i64 f.slope.lo, .int .i64 f.slope.hi] (n := N + 1 + 1) (by simp [hN]))
  have cL := fun i => LB.cell i
  have cR := fun i => RB.cell i
  have cF := fun i => FB.cell i
  go_enter Tryd.func66, Tryd.ntmps66
  go_wp2_with fail
  rw [← hN] at K0 ⊢
  generalize (((w.alloc (.cells #[.slice A ps.length c, .slice A' bs.length c'] 54)).alloc (.cells #[.int .i64 r.size.lo, .int .i64 r.size.hi, .int .i64 r.dens.lo, .int .i64 r.dens.hi, .int .i64 r.strong.lo, .int .i64 r.strong.hi, .int .i64 r.spin.lo, .int .i64 r.spin.hi, .int .i64 r.shape.lo, .int .i64 r.shape.hi, .bool r.pile] 28)).alloc (.cells #[.int .i64 f.speed.lo, .int .i64 f.speed.hi, .int .i64 f.slope.lo, .int .i64 f.slope.hi] 30)) = w0 at *
  subst hN
  refine (ref_toll_any Aa ca ls Ag cg gs A A' c c' ps bs r f fr fi _ (hl.kpN K0) (hg.kpN K0) (h.kpN K0) (hb.kpN K0)).mono ?_
  rintro e w1 ⟨⟨lo, hi, wo, n, rfl, ht⟩, k1⟩
  have K1 := K0.thenN k1 (Nat.le_refl _)
  clear k1 K0 LB RB FB hl hg h hb cL cR cF
  replace K1 := K1.alloc K1.size (.cells #[.int .i64 lo, .int .i64 hi] 26)
  by_cases hn0 : n = 0
  · subst hn0
    replace ht := Lib.hid ht
    go_wp2
    exact bodyPost_ret (v := .tuple #[.int .i64 wo, .int .i64 0]) (by simp [results, Tryd.results66, go_sem]) rfl ⟨⟨lo, hi, wo, 0, rfl, ht.out⟩, K1⟩
  · have hz := tollIs_wo ht hn0
    subst hz
    replace ht := Lib.hid ht
    go_wp2
    exact bodyPost_ret (v := .tuple #[.int .i64 0, .int .i64 n]) (by simp [results, Tryd.results66, go_sem]) rfl ⟨⟨lo, hi, 0, n, rfl, ht.out⟩, K1⟩
end Go.Proofs.YtdiigflbohbndaaDoor
