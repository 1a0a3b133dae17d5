/- The reference: wave, Harm, Wave; craters of any number. -/
import Derived.Test.YtdiigflbohbndaaDoorRefLand2
namespace Go.Proofs.YtdiigflbohbndaaDoor
open Go.RowKit

/-- The outer loop: the sides that are done. -/
def RefWaveAt (ps : List Int) (bs : List Bool) (a F : Nat) (w : World) (vs vk : Value) (wr : World) : Prop :=
  ∃ (k : Nat) (s : Int), vk = .int .i64 k ∧ vs = .int .i64 s ∧ Kp w.heap.size none w wr ∧
    ((k = 0 ∧ s = pre ps (a + 1) - pre ps a) ∨ (k = 1 ∧ s = pre ps (a + 1) - pre ps (runDown bs F a)) ∨ (k = 2 ∧ s = pre ps (runUp bs F a + 1) - pre ps (runDown bs F a)))
/-- The inner loops. -/
def WaveDn (ps : List Int) (bs : List Bool) (a F : Nat) (w : World) (vs vr vn : Value) (wr : World) : Prop :=
  ∃ (e j : Nat) (q : Bool), vn = .int .i64 (j + 1) ∧ vr = .bool q ∧ bs[e]? = some q ∧ e + j = a ∧ j ≤ F ∧ runDown bs F a = runDown bs (F - j) e ∧ vs = .int .i64 (pre ps (a + 1) - pre ps e) ∧ Kp w.heap.size none w wr
def WaveUp (ps : List Int) (bs : List Bool) (a F d : Nat) (w : World) (vs vr vn : Value) (wr : World) : Prop :=
  ∃ (e j : Nat) (q : Bool), vn = .int .i64 (j + 1) ∧ vr = .bool q ∧ bs[e]? = some q ∧ e = a + j ∧ j ≤ F ∧ runUp bs F a = runUp bs (F - j) e ∧ vs = .int .i64 (pre ps (e + 1) - pre ps d) ∧ Kp w.heap.size none w wr
set_option maxRecDepth 100000 in
set_option maxHeartbeats 2000000 in
theorem ref_wave_any (A A' : Option Addr) (c c' : Nat) (ps : List Int) (bs : List Bool) (a F : Nat) (w : World) (h : Rd none w 1 encI A ps.length ps) (hb : Rd none w 1 encB A' bs.length bs) (hok : LandOk ps bs.length)
    (ha : a < ps.length) (hF : F ≤ 400) (hw : bs[a]? = some true) :
    Calls Tryd.prog 96 #[.agg #[.slice A ps.length c, .slice A' bs.length c'], .int .i64 a, .int .i64 F] w fun e w' => e = .returned (.int .i64 (waveOf ps bs a F)) ∧ Kp w.heap.size none w w' := by
  have K0 := (Kp.refl w.heap.size none w).alloc (Nat.le_refl _) (.cells #[.slice A ps.length c, .slice A' bs.length c'] 54)
  have B0 := Blk.new w 54 #[.slice A ps.length c, .slice A' bs.length c']
  generalize hw0 : w.alloc (.cells #[.slice A ps.length c, .slice A' bs.length c'] 54) = w0 at B0 K0
  have K1 := K0.alloc (Nat.le_trans (Nat.le_refl _) K0.size) (.cells #[.int .i64 (-1), .int .i64 1] 3)
  have B1 := B0.alloc (.cells #[.int .i64 (-1), .int .i64 1] 3)
  have C1 := Blk.new w0 3 #[.int .i64 (-1), .int .i64 1]
  obtain ⟨sb, hsb⟩ : ∃ sb, sb = w0.heap.size := ⟨_, rfl⟩
  rw [← hsb] at C1
  have cB := fun i => B0.cell i
  obtain ⟨bp, op, rfl, hbp, -, hcp⟩ := (h.kpN K0).at_ (by omega)
  have c0 : w0.cell? ⟨bp, op + a, none⟩ = some (.int .i64 ps[a]) := Rd.cell1 (fun _ => rfl) hcp a ha
  have hpa := pre_succ ps a ha
  have hpa2 : ps[a] = pre ps (a + 1) - pre ps a := by omega
  have hla : (a : Int) < (ps.length : Int) := by omega
  have hl4 := hok.l4
  have hl4' : (ps.length : Int) ≤ 400 := by omega
  generalize ps[a] = pa at c0 hpa2
  have hpb := pre_bd ps hok.l4 hok.p
  have hm := hok.m
  have hp0 := hok.p
  replace hpa2 := Lib.hid hpa2
  replace hpb := Lib.hid hpb
  replace hm := Lib.hid hm
  replace hok := Lib.hid hok
  replace hp0 := Lib.hid hp0
  replace hb := Lib.hid hb
  replace h := Lib.hid h
  replace hw := Lib.hid hw
  clear hpa hcp
  go_enter Tryd.func96, Tryd.ntmps96
  go_wp2_with fail
  first | rw [← hsb] | skip
  generalize hw1 : w0.alloc (.cells #[.int .i64 (-1), .int .i64 1] 3) = w1 at K1 B1 C1
  try rw [hw1]
  clear hw0 hw1 cB c0 hsb B0 K0 hbp
  go_loopw [7, 20] (fun vs vk wr => RefWaveAt ps bs a F w1 vs vk wr) (fun _ vk _ => 2 - (intOf vk).toNat)
  case atStart => exact ⟨0, _, rfl, rfl, Kp.refl _ _ _, .inl ⟨rfl, hpa2.out⟩⟩
  case round =>
    obtain ⟨k, s, rfl, rfl, KK, hs⟩ := hrel
    have C2 := C1.kpN KK
    have cC := fun i => C2.cell i
    have hd := runDown_le bs F a
    rcases hs with ⟨rfl, rfl⟩ | ⟨rfl, rfl⟩ | ⟨rfl, rfl⟩
    · go_wp2_with fail
      clear cC
      go_loopw [7, 10, 11] (fun vs vr vn wx => WaveDn ps bs a F wr vs vr vn wx) (fun _ _ vn _ => F + 1 - (intOf vn).toNat)
      case atStart => exact ⟨a, 0, true, rfl, rfl, hw.out, rfl, Nat.zero_le _, rfl, rfl, Kp.refl _ _ _⟩
      case round =>
        obtain ⟨e, j, q, rfl, rfl, hq, hej, hjF, hrun, rfl, KX⟩ := hrel
        have KA := KK.thenN KX (Nat.le_refl _)
        have BX := B1.kpN KA
        have cB := fun i => BX.cell i
        have hF' : (F : Int) ≤ 400 := by omega
        by_cases hn : j < F
        · have hn' : (j : Int) + 1 ≤ (F : Int) := by omega
          cases q
          · have hst := Lib.hid (show runDown bs F a = e by rw [hrun]; exact runDown_stop bs _ _ (fun k => by rw [hq] at k; cases k.1))
            clear hq hrun hej
            go_wp2
            go_roundw
            case rel => exact ⟨1, _, rfl, rfl, KA, .inr (.inl ⟨rfl, by rw [hst.out]⟩)⟩
            case measure => simp [intOf]
          · by_cases he0 : e = 0
            case pos =>
              have hst := Lib.hid (show runDown bs F a = e by rw [hrun]; exact runDown_stop bs _ _ (fun k => by omega))
              have hneg : (a : Int) + -((j : Int) + 1) < 0 := by omega
              have hneg2 : (a : Int) + -1 * ((j : Int) + 1) < 0 := by omega
              clear hq hrun hej
              go_wp2
              go_roundw
              case rel => exact ⟨1, _, rfl, rfl, KA, .inr (.inl ⟨rfl, by rw [hst.out]⟩)⟩
              case measure => simp [intOf]
            case neg =>
              obtain ⟨e', hee⟩ : ∃ e', e = e' + 1 := ⟨e - 1, by omega⟩
              have hst := Lib.hid (show runDown bs F a = runDown bs (F - (j + 1)) e' by rw [hrun, hee, runDown_go bs _ _ (by omega) ⟨hee ▸ hq, by omega⟩]; congr 1)
              have hidx : (a : Int) + -((j : Int) + 1) = (e' : Int) := by omega
              have hidx2 : (a : Int) + -1 * ((j : Int) + 1) = (e' : Int) := by omega
              have heb : e' < bs.length := by have := hm.out; omega
              have hel : e' < ps.length := by have := hm.out; omega
              have hel' : (e' : Int) < (ps.length : Int) := by omega
              have heb' : (e' : Int) < (bs.length : Int) := by omega
              have he4 : (e' : Int) < 400 := by omega
              obtain ⟨bq, oq, e1, hbq, -, hcq⟩ := (h.out.kpN (K1.thenN KA (by have := K1.size; omega))).at_ (by omega)
              injection e1 with e1; injection e1 with e1 e2
              subst e1 e2
              have c1 : wr.cell? ⟨bp, op + e', none⟩ = some (.int .i64 ps[e']) := Rd.cell1 (fun _ => rfl) hcq e' hel
              obtain ⟨bw, ow, ew, hbw, -, hcw⟩ := (hb.out.kpN (K1.thenN KA (by have := K1.size; omega))).at_ (by omega)
              have c2 : wr.cell? ⟨bw, ow + e', none⟩ = some (.bool bs[e']) := Rd.cell1 (fun _ => rfl) hcw e' heb
              have hqe : bs[e']? = some bs[e'] := List.getElem?_eq_getElem heb
              have p1 := pre_succ ps e' hel
              have p2 := hpb.out (e' + 1)
              have p3 := hpb.out e'
              have p4 := hpb.out (a + 1)
              have hwr : wrap64 ((pre ps (a + 1) - pre ps e) + ps[e']) = pre ps (a + 1) - pre ps e' := by
                rw [hee]; unfold wrap64; omega
              obtain ⟨S, hS⟩ : ∃ S, S = pre ps (a + 1) - pre ps e := ⟨_, rfl⟩
              obtain ⟨T, hT⟩ : ∃ T, T = pre ps (a + 1) - pre ps e' := ⟨_, rfl⟩
              rw [← hS]
              rw [← hS, ← hT] at hwr
              generalize ps[e'] = x at c1 hwr
              generalize bs[e'] = q at c2 hqe
              subst ew
              have hej' : e' + (j + 1) = a := by omega
              replace hT := Lib.hid hT
              replace hqe := Lib.hid hqe
              replace hwr := Lib.hid hwr
              replace hej' := Lib.hid hej'
              replace hn := Lib.hid hn
              clear hcq hcw p1 p2 p3 p4 hS hrun hq he0 hee hej heb hel hd
              replace hwr := hwr.out
              go_wp2
              go_roundw
              case rel => exact ⟨_, _, _, ⟨e', j + 1, q, rfl, rfl, hqe.out, hej'.out, hn.out, hst.out, rfl, KX⟩, by rw [hT.out], rfl, rfl⟩
              case measure => have := hn.out; simp [intOf]; omega
        · have hst := Lib.hid (show runDown bs F a = e by rw [hrun, show F - j = 0 by omega]; rfl)
          have hn' : ¬ (j : Int) + 1 ≤ (F : Int) := by omega
          clear hq hrun hej
          go_wp2
          go_roundw
          case rel => exact ⟨1, _, rfl, rfl, KA, .inr (.inl ⟨rfl, by rw [hst.out]⟩)⟩
          case measure => simp [intOf]
    · go_wp2_with fail
      clear cC
      go_loopw [7, 10, 11] (fun vs vr vn wx => WaveUp ps bs a F (runDown bs F a) wr vs vr vn wx) (fun _ _ vn _ => F + 1 - (intOf vn).toNat)
      case atStart => exact ⟨a, 0, true, rfl, rfl, hw.out, rfl, Nat.zero_le _, rfl, rfl, Kp.refl _ _ _⟩
      case round =>
        obtain ⟨e, j, q, rfl, rfl, hq, hej, hjF, hrun, rfl, KX⟩ := hrel
        have KA := KK.thenN KX (Nat.le_refl _)
        have BX := B1.kpN KA
        have cB := fun i => BX.cell i
        have hF' : (F : Int) ≤ 400 := by omega
        by_cases hn : j < F
        · have hn' : (j : Int) + 1 ≤ (F : Int) := by omega
          cases q
          · have hst := Lib.hid (show runUp bs F a = e by rw [hrun]; exact runUp_stop bs _ _ (fun k => by rw [hq] at k; cases k.1))
            clear hq hrun hej
            go_wp2
            go_roundw
            case rel => exact ⟨2, _, rfl, rfl, KA, .inr (.inr ⟨rfl, by rw [hst.out]⟩)⟩
            case measure => simp [intOf]
          · by_cases he0 : e + 1 < bs.length
            case neg =>
              have hst := Lib.hid (show runUp bs F a = e by rw [hrun]; exact runUp_stop bs _ _ (fun k => he0 k.2))
              have hneg : (ps.length : Int) ≤ (a : Int) + ((j : Int) + 1) := by have := hm.out; omega
              have hneg2 : ¬ (a : Int) + ((j : Int) + 1) < (ps.length : Int) := by omega
              have hneg3 : ¬ (a : Int) + ((j : Int) + 1) < 0 := by omega
              clear hq hrun hej
              go_wp2
              go_roundw
              case rel => exact ⟨2, _, rfl, rfl, KA, .inr (.inr ⟨rfl, by rw [hst.out]⟩)⟩
              case measure => simp [intOf]
            case pos =>
              obtain ⟨e', hee⟩ : ∃ e', e' = e + 1 := ⟨_, rfl⟩
              have hst := Lib.hid (show runUp bs F a = runUp bs (F - (j + 1)) e' by rw [hrun, hee, runUp_go bs _ _ (by omega) ⟨hq, he0⟩]; congr 1)
              have hidx : (a : Int) + ((j : Int) + 1) = (e' : Int) := by omega
              have heb : e' < bs.length := by have := hm.out; omega
              have hel : e' < ps.length := by have := hm.out; omega
              have hel' : (e' : Int) < (ps.length : Int) := by omega
              have heb' : (e' : Int) < (bs.length : Int) := by omega
              have he4 : (e' : Int) < 400 := by omega
              obtain ⟨bq, oq, e1, hbq, -, hcq⟩ := (h.out.kpN (K1.thenN KA (by have := K1.size; omega))).at_ (by omega)
              injection e1 with e1; injection e1 with e1 e2
              subst e1 e2
              have c1 : wr.cell? ⟨bp, op + e', none⟩ = some (.int .i64 ps[e']) := Rd.cell1 (fun _ => rfl) hcq e' hel
              obtain ⟨bw, ow, ew, hbw, -, hcw⟩ := (hb.out.kpN (K1.thenN KA (by have := K1.size; omega))).at_ (by omega)
              have c2 : wr.cell? ⟨bw, ow + e', none⟩ = some (.bool bs[e']) := Rd.cell1 (fun _ => rfl) hcw e' heb
              have hqe : bs[e']? = some bs[e'] := List.getElem?_eq_getElem heb
              have p1 := pre_succ ps e' hel
              have p2 := hpb.out (e' + 1)
              have p3 := hpb.out e'
              have p4 := hpb.out (a + 1)
              have p5 := hpb.out (runDown bs F a)
              have hwr : wrap64 ((pre ps (e + 1) - pre ps (runDown bs F a)) + ps[e']) = pre ps (e' + 1) - pre ps (runDown bs F a) := by
                rw [← hee]; unfold wrap64; omega
              obtain ⟨S, hS⟩ : ∃ S, S = pre ps (e + 1) - pre ps (runDown bs F a) := ⟨_, rfl⟩
              obtain ⟨T, hT⟩ : ∃ T, T = pre ps (e' + 1) - pre ps (runDown bs F a) := ⟨_, rfl⟩
              rw [← hS]
              rw [← hS, ← hT] at hwr
              generalize ps[e'] = x at c1 hwr
              generalize bs[e'] = q at c2 hqe
              subst ew
              have hej' : e' = a + (j + 1) := by omega
              replace hT := Lib.hid hT
              replace hqe := Lib.hid hqe
              replace hwr := Lib.hid hwr
              replace hej' := Lib.hid hej'
              replace hn := Lib.hid hn
              clear hcq hcw p1 p2 p3 p4 p5 hS hrun hq he0 hee hej heb hel hd
              replace hwr := hwr.out
              go_wp2
              go_roundw
              case rel => exact ⟨_, _, _, ⟨e', j + 1, q, rfl, rfl, hqe.out, hej'.out, hn.out, hst.out, rfl, KX⟩, by rw [hT.out], rfl, rfl⟩
              case measure => have := hn.out; simp [intOf]; omega
        · have hst := Lib.hid (show runUp bs F a = e by rw [hrun, show F - j = 0 by omega]; rfl)
          have hn' : ¬ (j : Int) + 1 ≤ (F : Int) := by omega
          clear hq hrun hej
          go_wp2
          go_roundw
          case rel => exact ⟨2, _, rfl, rfl, KA, .inr (.inr ⟨rfl, by rw [hst.out]⟩)⟩
          case measure => simp [intOf]
    · have hout := Lib.hid (show pre ps (runUp bs F a + 1) - pre ps (runDown bs F a) = waveOf ps bs a F by
        have hu := runUp_le bs F a (by have := hm.out; omega)
        unfold waveOf
        rw [people_pre ps _ _ (by omega)])
      have KF := K1.thenN KK (by have := K1.size; omega)
      generalize pre ps (runUp bs F a + 1) - pre ps (runDown bs F a) = s at hout
      go_wp2
      exact bodyPost_ret (v := .int .i64 s) (by simp [results, Tryd.results96, go_sem]) rfl ⟨by rw [hout.out], KF⟩
set_option maxHeartbeats 400000 in
theorem ref_Harm_any (A A' : Option Addr) (c m c' : Nat) (ps : List Int) (a r : Int) (w : World) (h : Rd none w 1 encI A ps.length ps) :
    Calls Tryd.prog 50 #[.agg #[.slice A ps.length c, .slice A' m c'], .int .i64 a, .int .i64 r] w fun e w' => (∃ v, e = .returned (.int .i64 v) ∧ ((There ps m a r ∧ v = harmOf ps a.toNat (min r 400).toNat) ∨ (¬ There ps m a r ∧ v = 0))) ∧ Kp w.heap.size none w w' := by
  have K0 := (Kp.refl w.heap.size none w).alloc (Nat.le_refl _) (.cells #[.slice A ps.length c, .slice A' m c'] 54)
  have B0 := Blk.new w 54 #[.slice A ps.length c, .slice A' m c']
  have h0 := h.kpN K0
  go_enter Tryd.func50, Tryd.ntmps50
  go_wp2_with fail
  refine (ref_right_any A A' c m c' ps a _ h0).mono ?_
  rintro e w1 ⟨⟨b, rfl, hb⟩, k1⟩
  have K1 := K0.then_ k1 (by simp)
  have B1 := B0.kp k1 B0.lt (by simp)
  have cB := fun i => B1.cell i
  have h1 := h0.kpN k1
  clear k1 B0 K0 h h0
  cases b
  · have hT := Lib.hid (show ¬ There ps m a r from fun k => Bool.noConfusion (hb.2 ⟨k.1, k.2.1, k.2.2.1⟩))
    clear hb h1
    go_wp2
    exact bodyPost_ret (by simp [results, Tryd.results50, go_sem]) rfl ⟨⟨0, rfl, .inr ⟨hT.out, rfl⟩⟩, K1⟩
  · have hR := hb.1 rfl
    obtain ⟨a, rfl⟩ := Int.eq_ofNat_of_zero_le hR.2.1
    have hal : a < ps.length := by have := hR.2.2; omega
    replace hR := Lib.hid hR
    clear hb
    by_cases hr : r < 0
    · have hT := Lib.hid (show ¬ There ps m a r from fun k => by have := k.2.2.2; omega)
      go_wp2
      exact bodyPost_ret (by simp [results, Tryd.results50, go_sem]) rfl ⟨⟨0, rfl, .inr ⟨hT.out, rfl⟩⟩, K1⟩
    · have hT := Lib.hid (show There ps m a r from ⟨hR.out.1, hR.out.2.1, hR.out.2.2, by omega⟩)
      obtain ⟨F, hF⟩ : ∃ F : Nat, F = (min r 400).toNat := ⟨_, rfl⟩
      have hFi : min r 400 = (F : Int) := by omega
      have hF4 : F ≤ 400 := by omega
      replace hF := Lib.hid hF
      go_wp2_with fail
      refine (ref_harm_any A A' c m c' ps a F _ h1 hR.out.1.l4 hR.out.1.p hal hF4).mono ?_
      rintro e w2 ⟨rfl, k2⟩
      have K2 := K1.then_ k2 (by simp)
      clear k2 h1 B1 cB
      go_wp2
      exact bodyPost_ret (v := .int .i64 (harmOf ps a F)) (by simp [results, Tryd.results50, go_sem]) rfl ⟨⟨_, rfl, .inl ⟨hT.out, by rw [Int.toNat_natCast, hF.out]⟩⟩, K2⟩
set_option maxHeartbeats 1000000 in
theorem ref_Wave_any (A A' : Option Addr) (c c' : Nat) (ps : List Int) (bs : List Bool) (a r : Int) (w : World) (h : Rd none w 1 encI A ps.length ps) (hbs : Rd none w 1 encB A' bs.length bs) :
    Calls Tryd.prog 51 #[.agg #[.slice A ps.length c, .slice A' bs.length c'], .int .i64 a, .int .i64 r] w fun e w' => (∃ v, e = .returned (.int .i64 v) ∧ ((There ps bs.length a r ∧ bs[a.toNat]? = some true ∧ v = waveOf ps bs a.toNat (min r 400).toNat) ∨ (¬ (There ps bs.length a r ∧ bs[a.toNat]? = some true) ∧ v = 0))) ∧ Kp w.heap.size none w w' := by
  have K0 := (Kp.refl w.heap.size none w).alloc (Nat.le_refl _) (.cells #[.slice A ps.length c, .slice A' bs.length c'] 54)
  have B0 := Blk.new w 54 #[.slice A ps.length c, .slice A' bs.length c']
  have h0 := h.kpN K0
  have g0 := hbs.kpN K0
  go_enter Tryd.func51, Tryd.ntmps51
  go_wp2_with fail
  refine (ref_right_any A A' c bs.length c' ps a _ h0).mono ?_
  rintro e w1 ⟨⟨b, rfl, hb⟩, k1⟩
  have K1 := K0.then_ k1 (by simp)
  have B1 := B0.kp k1 B0.lt (by simp)
  have cB := fun i => B1.cell i
  have h1 := h0.kpN k1
  have g1 := g0.kpN k1
  clear k1 B0 K0 h h0 hbs g0
  cases b
  · have hT := Lib.hid (show ¬ There ps bs.length a r from fun k => Bool.noConfusion (hb.2 ⟨k.1, k.2.1, k.2.2.1⟩))
    clear hb h1 g1
    go_wp2
    exact bodyPost_ret (v := .int .i64 0) (by simp [results, Tryd.results51, go_sem]) rfl ⟨⟨0, rfl, .inr ⟨fun k => hT.out k.1, rfl⟩⟩, K1⟩
  · have hR := hb.1 rfl
    obtain ⟨a, rfl⟩ := Int.eq_ofNat_of_zero_le hR.2.1
    have hal : a < ps.length := by have := hR.2.2; omega
    have hbl : a < bs.length := by rw [hR.1.m]; exact hal
    replace hR := Lib.hid hR
    clear hb
    by_cases hr : r < 0
    · have hT := Lib.hid (show ¬ There ps bs.length a r from fun k => by have := k.2.2.2; omega)
      clear h1 g1
      go_wp2
      exact bodyPost_ret (v := .int .i64 0) (by simp [results, Tryd.results51, go_sem]) rfl ⟨⟨0, rfl, .inr ⟨fun k => hT.out k.1, rfl⟩⟩, K1⟩
    · have hT := Lib.hid (show There ps bs.length a r from ⟨hR.out.1, hR.out.2.1, hR.out.2.2, by omega⟩)
      obtain ⟨b, o, rfl, hlt, -, hcl⟩ := g1.at_ (by omega)
      have c0 : w1.cell? ⟨b, o + a, none⟩ = some (.bool bs[a]) := Rd.cell1 (fun _ => rfl) hcl a hbl
      have hq2 : bs[a]? = some bs[a] := List.getElem?_eq_getElem hbl
      have hbi : (a : Int) < (bs.length : Int) := by omega
      have hR4 : (bs.length : Int) ≤ 400 := by have := hR.out.1.l4; have := hR.out.1.m; omega
      clear hcl hlt
      replace g1 := Lib.hid g1
      replace h1 := Lib.hid h1
      generalize bs[a] = q at c0 hq2
      cases q
      · have hF := Lib.hid (show ¬ (There ps bs.length a r ∧ bs[a]? = some true) from fun k => by rw [hq2] at k; cases k.2)
        clear hq2
        go_wp2
        exact bodyPost_ret (v := .int .i64 0) (by simp [results, Tryd.results51, go_sem]) rfl ⟨⟨0, rfl, .inr ⟨hF.out, rfl⟩⟩, K1⟩
      · replace hq2 := Lib.hid hq2
        obtain ⟨F, hF⟩ : ∃ F : Nat, F = (min r 400).toNat := ⟨_, rfl⟩
        have hFi : min r 400 = (F : Int) := by omega
        have hF4 : F ≤ 400 := by omega
        replace hF := Lib.hid hF
        go_wp2_with fail
        refine (ref_wave_any A (some ⟨b, o, none⟩) c c' ps bs a F _ h1.out g1.out hR.out.1 hal hF4 hq2.out).mono ?_
        rintro e w2 ⟨rfl, k2⟩
        have K2 := K1.then_ k2 (by simp)
        clear k2 h1 g1 B1 cB c0
        go_wp2
        exact bodyPost_ret (v := .int .i64 (waveOf ps bs a F)) (by simp [results, Tryd.results51, go_sem]) rfl ⟨⟨_, rfl, .inl ⟨hT.out, hq2.out, by rw [Int.toNat_natCast, hF.out]⟩⟩, K2⟩
set_option maxHeartbeats 400000 in
/-- The crater of any number. -/
theorem span_Root_neg (n : Int) (hn : n < 0) (w : World) : Calls Tryd.prog 79 #[.int .i64 n] w fun e w' => e = .returned (.int .i64 (-1)) ∧ Kp w.heap.size none w w' := by
  go_enter Tryd.func79, Tryd.ntmps79
  go_wp2
  exact bodyPost_ret (by simp [results, Tryd.results79, go_sem]) rfl ⟨rfl, Kp.refl _ _ _⟩
def CraterIs (n r : Int) : Prop := (n < 0 ∧ r = 0) ∨ ∃ m k : Nat, n = m ∧ r = k ∧ IsCrater m k
theorem craterIs_one {n r s : Int} (h : CraterIs n r) (k : CraterIs n s) : r = s := by
  rcases h with ⟨h1, rfl⟩ | ⟨m, i, h1, rfl, h2⟩ <;> rcases k with ⟨k1, rfl⟩ | ⟨m', j, k1, rfl, k2⟩
  · rfl
  · omega
  · omega
  · have : m = m' := by omega
    subst this
    rw [crater_one h2 k2]
set_option maxHeartbeats 400000 in
theorem blast_Crater_all (n : Int) (hn : n < 9223372036854775808) (w : World) : Calls Tryd.prog 24 #[.int .i64 n] w fun e w' => (∃ r, e = .returned (.int .i64 r) ∧ CraterIs n r) ∧ Kp w.heap.size none w w' := by
  by_cases h0 : n < 0
  · go_enter Tryd.func24, Tryd.ntmps24
    go_wp2_with fail
    refine (span_Root_neg n h0 _).mono ?_
    rintro e w1 ⟨rfl, k1⟩
    go_wp2_with fail
    refine (span_Root_any 0 (by omega) _).mono ?_
    rintro e w2 ⟨⟨r, rfl, hr⟩, k2⟩
    have hr0 : r = 0 := by
      have := isRoot_le hr; omega
    subst hr0
    have K := k1.then_ k2 (Nat.le_refl _)
    clear hr
    go_wp2_with fail
    exact bodyPost_ret (v := .int .i64 0) (by simp [results, Tryd.results24, go_sem]) rfl ⟨⟨0, rfl, .inl ⟨h0, rfl⟩⟩, K⟩
  · obtain ⟨m, rfl⟩ := Int.eq_ofNat_of_zero_le (by omega : 0 ≤ n)
    refine (blast_Crater_any m (by omega) w).mono ?_
    rintro e w1 ⟨⟨r, rfl, hr⟩, k1⟩
    exact ⟨⟨_, rfl, .inr ⟨m, r, rfl, rfl, hr⟩⟩, k1⟩
set_option maxHeartbeats 400000 in
theorem ref_Crater_all (n : Int) (hn : n < 9223372036854775808) (w : World) : Calls Tryd.prog 52 #[.int .i64 n] w fun e w' => (∃ r, e = .returned (.int .i64 r) ∧ CraterIs n r) ∧ Kp w.heap.size none w w' := by
  by_cases h0 : n < 0
  · go_enter Tryd.func52, Tryd.ntmps52
    go_wp2
    exact bodyPost_ret (v := .int .i64 0) (by simp [results, Tryd.results52, go_sem]) rfl ⟨⟨0, rfl, .inl ⟨h0, rfl⟩⟩, Kp.refl _ _ _⟩
  · obtain ⟨m, rfl⟩ := Int.eq_ofNat_of_zero_le (by omega : 0 ≤ n)
    refine (ref_Crater_any m (by omega) w).mono ?_
    rintro e w1 ⟨⟨r, rfl, hr⟩, k1⟩
    exact ⟨⟨_, rfl, .inr ⟨m, r, rfl, rfl, hr⟩⟩, k1⟩
set_option maxHeartbeats 400000 in
theorem bigGround_any (A0 : Option Addr) (n0 c0 : Nat) (A1 : Option Addr) (n1 c1 : Nat) (A A' : Option Addr) (n c m c' : Nat) (w : World) :
    Calls Tryd.prog 42 #[.slice A0 n0 c0, .slice A1 n1 c1, .agg #[.slice A n c, .slice A' m c']] w fun e w' => (∃ b, e = .returned (.bool b) ∧ (b = false → n0 ≤ 40 ∧ n1 ≤ 40 ∧ n ≤ 410 ∧ m ≤ 410)) ∧ Kp w.heap.size none w w' := by
  have K0 := (Kp.refl w.heap.size none w).alloc (Nat.le_refl _) (.cells #[.slice A n c, .slice A' m c'] 54)
  go_enter Tryd.func42, Tryd.ntmps42
  by_cases g0 : (40 : Int) < (n0 : Int)
  · go_wp2
    exact bodyPost_ret (v := .bool true) (by simp [results, Tryd.results42, go_sem]) rfl (by first | exact ⟨.inr rfl, K0⟩ | exact ⟨⟨true, rfl, fun k => by cases k⟩, K0⟩)
  · by_cases g1 : (40 : Int) < (n1 : Int)
    · go_wp2
      exact bodyPost_ret (v := .bool true) (by simp [results, Tryd.results42, go_sem]) rfl (by first | exact ⟨.inr rfl, K0⟩ | exact ⟨⟨true, rfl, fun k => by cases k⟩, K0⟩)
    · by_cases g2 : (410 : Int) < (n : Int)
      · go_wp2
        exact bodyPost_ret (v := .bool true) (by simp [results, Tryd.results42, go_sem]) rfl (by first | exact ⟨.inr rfl, K0⟩ | exact ⟨⟨true, rfl, fun k => by cases k⟩, K0⟩)
      · by_cases g3 : (410 : Int) < (m : Int)
        · go_wp2
          exact bodyPost_ret (v := .bool true) (by simp [results, Tryd.results42, go_sem]) rfl (by first | exact ⟨.inr rfl, K0⟩ | exact ⟨⟨true, rfl, fun k => by cases k⟩, K0⟩)
        · have hq := Lib.hid (show n0 ≤ 40 ∧ n1 ≤ 40 ∧ n ≤ 410 ∧ m ≤ 410 by omega)
          go_wp2
          exact bodyPost_ret (v := .bool false) (by simp [results, Tryd.results42, go_sem]) rfl (by first | exact ⟨.inl ⟨rfl, hq.out⟩, K0⟩ | exact ⟨⟨false, rfl, fun _ => hq.out⟩, K0⟩)
end Go.Proofs.YtdiigflbohbndaaDoor
