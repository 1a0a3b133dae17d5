/- Whom a blow and a wave harm. -/
import Derived.Test.YtdiigflbohbndaaDoorGround2
namespace Go.Proofs.YtdiigflbohbndaaDoor
open Go.RowKit

def There (ps : List Int) (m : Nat) (a r : Int) : Prop := LandOk ps m ∧ 0 ≤ a ∧ a < ps.length ∧ 0 ≤ r
set_option maxRecDepth 100000 in
set_option maxHeartbeats 400000 in
theorem blast_there_any (A A' : Option Addr) (c m c' : Nat) (ps : List Int) (a r : Int) (w : World) (h : Rd none w 1 encI A ps.length ps) :
    Calls Tryd.prog 80 #[.agg #[.slice A ps.length c, .slice A' m c'], .int .i64 a, .int .i64 r] w fun e w' => (∃ b, e = .returned (.bool b) ∧ (b = true ↔ There ps m a r)) ∧ Kp w.heap.size none w w' := by
  have K0 := (Kp.refl w.heap.size none w).alloc (Nat.le_refl _) (.cells #[.slice A ps.length c, .slice A' m c'] 54)
  have B0 := Blk.new w 54 #[.slice A ps.length c, .slice A' m c']
  go_enter Tryd.func80, Tryd.ntmps80
  go_wp2_with fail
  refine (blast_CheckLand_any A A' c m c' ps _ (h.kpN K0)).mono ?_
  rintro e w1 ⟨⟨n, rfl, hn⟩, k1⟩
  have K1 := K0.then_ k1 (by simp)
  have B1 := B0.kp k1 B0.lt (by simp)
  have cB := fun i => B1.cell i
  clear k1 B0 K0 h
  by_cases hn0 : n = 0
  · subst hn0
    have hok : LandOk ps m := by
      rcases hn with ⟨h1, h2⟩ | ⟨h1, h2⟩ | ⟨h1, h2⟩ | ⟨h1, h2, ⟨h3, h4⟩ | ⟨h3, h5, h4⟩⟩
      · exact h2
      · omega
      · omega
      · omega
      · omega
    replace hok := Lib.hid hok
    clear hn
    by_cases ha : 0 ≤ a
    · by_cases hal : a < (ps.length : Int)
      · by_cases hr : 0 ≤ r
        · have hT := Lib.hid (show There ps m a r from ⟨hok.out, ha, hal, hr⟩)
          go_wp2
          exact bodyPost_ret (v := .bool true) (by simp [results, Tryd.results80, go_sem] <;> omega) rfl ⟨⟨true, rfl, fun _ => hT.out, fun _ => rfl⟩, K1⟩
        · have hT := Lib.hid (show ¬ There ps m a r from fun k => hr k.2.2.2)
          go_wp2
          first | exact bodyPost_ret (v := .bool false) (by simp [results, Tryd.results80, go_sem] <;> omega) rfl ⟨⟨false, rfl, fun k => Bool.noConfusion k, fun k => absurd k hT.out⟩, K1⟩ | exact bodyPost_ret (v := .bool false) (by simp [results, Tryd.results80, go_sem] <;> omega) rfl ⟨.inl ⟨rfl, hT.out⟩, K1⟩
      · have hT := Lib.hid (show ¬ There ps m a r from fun k => hal k.2.2.1)
        go_wp2
        first | exact bodyPost_ret (v := .bool false) (by simp [results, Tryd.results80, go_sem] <;> omega) rfl ⟨⟨false, rfl, fun k => Bool.noConfusion k, fun k => absurd k hT.out⟩, K1⟩ | exact bodyPost_ret (v := .bool false) (by simp [results, Tryd.results80, go_sem] <;> omega) rfl ⟨.inl ⟨rfl, hT.out⟩, K1⟩
    · have hT := Lib.hid (show ¬ There ps m a r from fun k => ha k.2.1)
      go_wp2
      first | exact bodyPost_ret (v := .bool false) (by simp [results, Tryd.results80, go_sem] <;> omega) rfl ⟨⟨false, rfl, fun k => Bool.noConfusion k, fun k => absurd k hT.out⟩, K1⟩ | exact bodyPost_ret (v := .bool false) (by simp [results, Tryd.results80, go_sem] <;> omega) rfl ⟨.inl ⟨rfl, hT.out⟩, K1⟩
  · have hT := Lib.hid (show ¬ There ps m a r from fun k => hn0 (landChk_one hn (.inl ⟨rfl, k.1⟩)))
    clear hn
    go_wp2
    first | exact bodyPost_ret (v := .bool false) (by simp [results, Tryd.results80, go_sem] <;> omega) rfl ⟨⟨false, rfl, fun k => Bool.noConfusion k, fun k => absurd k hT.out⟩, K1⟩ | exact bodyPost_ret (v := .bool false) (by simp [results, Tryd.results80, go_sem] <;> omega) rfl ⟨.inl ⟨rfl, hT.out⟩, K1⟩
set_option maxHeartbeats 400000 in
theorem blast_Harm_any (A A' : Option Addr) (c m c' : Nat) (ps : List Int) (a r : Int) (w : World) (h : Rd none w 1 encI A ps.length ps) (hc : ps.length ≤ c) :
    Calls Tryd.prog 28 #[.agg #[.slice A ps.length c, .slice A' m c'], .int .i64 a, .int .i64 r] w fun e w' => (∃ v, e = .returned (.int .i64 v) ∧ ((There ps m a r ∧ v = harmOf ps a.toNat (min r 400).toNat) ∨ (¬ There ps m a r ∧ v = 0))) ∧ Kp w.heap.size none w w' := by
  have K0 := (Kp.refl w.heap.size none w).alloc (Nat.le_refl _) (.cells #[.slice A ps.length c, .slice A' m c'] 54)
  have B0 := Blk.new w 54 #[.slice A ps.length c, .slice A' m c']
  have h0 := h.kpN K0
  go_enter Tryd.func28, Tryd.ntmps28
  go_wp2_with fail
  refine (blast_there_any A A' c m c' ps a r _ h0).mono ?_
  rintro e w1 ⟨⟨b, rfl, hb⟩, k1⟩
  have K1 := K0.then_ k1 (by simp)
  have B1 := B0.kp k1 B0.lt (by simp)
  have cB := fun i => B1.cell i
  have h1 := h0.kpN k1
  clear k1 B0 K0 h h0
  cases b
  · have hT := Lib.hid (show ¬ There ps m a r from fun k => Bool.noConfusion (hb.2 k))
    clear hb h1
    go_wp2
    exact bodyPost_ret (by simp [results, Tryd.results28, go_sem]) rfl ⟨⟨0, rfl, .inr ⟨hT.out, rfl⟩⟩, K1⟩
  · have hT := hb.1 rfl
    obtain ⟨a, rfl⟩ := Int.eq_ofNat_of_zero_le hT.2.1
    have hal : a < ps.length := by have := hT.2.2.1; omega
    replace hT := Lib.hid hT
    clear hb
    go_wp2_with fail
    refine (blast_harm_any A A' c m c' ps a r _ h1 hT.out.1.l4 hc hT.out.1.p hal hT.out.2.2.2).mono ?_
    rintro e w2 ⟨rfl, k2⟩
    have K2 := K1.then_ k2 (by simp)
    clear k2 h1 B1 cB
    go_wp2
    exact bodyPost_ret (v := .int .i64 (harmOf ps a (min r 400).toNat)) (by simp [results, Tryd.results28, go_sem]) rfl ⟨⟨_, rfl, .inl ⟨hT.out, by rw [Int.toNat_natCast]⟩⟩, K2⟩

/-! ### Waves -/
/-- How far a wave runs, at most F cells, upwards and downwards. -/
def runUp (bs : List Bool) : Nat → Nat → Nat
  | 0, e => e
  | F + 1, e => if bs[e]? = some true ∧ e + 1 < bs.length then runUp bs F (e + 1) else e
def runDown (bs : List Bool) : Nat → Nat → Nat
  | 0, e => e
  | F + 1, e => if bs[e]? = some true ∧ 1 ≤ e then runDown bs F (e - 1) else e
theorem runUp_le (bs : List Bool) : ∀ F e, e < bs.length → e ≤ runUp bs F e ∧ runUp bs F e < bs.length
  | 0, e, h => ⟨Nat.le_refl _, h⟩
  | F + 1, e, h => by
    unfold runUp
    split
    · rename_i hh
      have := runUp_le bs F (e + 1) hh.2
      omega
    · exact ⟨Nat.le_refl _, h⟩
theorem runDown_le (bs : List Bool) : ∀ F e, runDown bs F e ≤ e
  | 0, e => Nat.le_refl _
  | F + 1, e => by
    unfold runDown
    split
    · have := runDown_le bs F (e - 1)
      omega
    · exact Nat.le_refl _
theorem runUp_stop (bs : List Bool) (F e : Nat) (h : ¬ (bs[e]? = some true ∧ e + 1 < bs.length)) : runUp bs F e = e := by
  cases F
  · rfl
  · unfold runUp; rw [if_neg h]
theorem runDown_stop (bs : List Bool) (F e : Nat) (h : ¬ (bs[e]? = some true ∧ 1 ≤ e)) : runDown bs F e = e := by
  cases F
  · rfl
  · unfold runDown; rw [if_neg h]
theorem runUp_go (bs : List Bool) (F e : Nat) (hF : 0 < F) (h : bs[e]? = some true ∧ e + 1 < bs.length) : runUp bs F e = runUp bs (F - 1) (e + 1) := by
  obtain ⟨F, rfl⟩ : ∃ G, F = G + 1 := ⟨F - 1, by omega⟩
  conv => lhs; unfold runUp
  rw [if_pos h]; rfl
theorem runDown_go (bs : List Bool) (F e : Nat) (hF : 0 < F) (h : bs[e]? = some true ∧ 1 ≤ e) : runDown bs F e = runDown bs (F - 1) (e - 1) := by
  obtain ⟨F, rfl⟩ : ∃ G, F = G + 1 := ⟨F - 1, by omega⟩
  conv => lhs; unfold runDown
  rw [if_pos h]; rfl
def RunRel (run : Nat → Nat → Nat) (a F : Nat) (L : Nat) (W : World) (ve vn : Value) (wr : World) : Prop :=
  ∃ e n : Nat, ve = .int .i64 e ∧ vn = .int .i64 n ∧ n ≤ F ∧ e < L ∧ run F a = run (F - n) e ∧ Kp W.heap.size none W wr
set_option maxRecDepth 100000 in
set_option maxHeartbeats 1000000 in
theorem blast_runUp_any (A A' : Option Addr) (c c' m : Nat) (bs : List Bool) (a F pa pf pl : Nat) (w : World) (h : Rd none w 1 encB A' bs.length bs)
    (ba : Blk w pa 3 #[.int .i64 a]) (bf : Blk w pf 3 #[.int .i64 F]) (bl : Blk w pl 54 #[.slice A m c, .slice A' bs.length c']) (ha : a < bs.length) (hF : F ≤ 400) (hl : bs.length ≤ 400) :
    Calls Tryd.prog 113 #[.int .i64 1, .pointer (some ⟨pa, 0, none⟩), .pointer (some ⟨pf, 0, none⟩), .pointer (some ⟨pl, 0, none⟩)] w fun e w' => e = .returned (.int .i64 (runUp bs F a : Nat)) ∧ Kp w.heap.size none w w' := by
  have ca := ba.cell 0
  go_enter Tryd.func113, Tryd.ntmps113
  go_wp2_with fail
  go_loopw [6, 7] (fun ve vn wr => RunRel (runUp bs) a F bs.length w ve vn wr) (fun _ vn _ => F - (intOf vn).toNat)
  case atStart => exact ⟨a, 0, rfl, rfl, by omega, ha, rfl, Kp.refl _ _ _⟩
  case round =>
    obtain ⟨e, n, rfl, rfl, hn, he, hr, KK⟩ := hrel
    have cf := (bf.kpN KK).cell 0
    have cl := fun i => (bl.kpN KK).cell i
    have g4 : (F : Int) ≤ 400 := by omega
    by_cases hnF : n < F
    · obtain ⟨b, o, rfl, hbl, -, hc⟩ := (h.kpN KK).at_ (by omega)
      have c0 : wr.cell? ⟨b, o + e, none⟩ = some (.bool bs[e]) := Rd.cell1 (fun _ => rfl) hc e he
      have g1 : (n : Int) < (F : Int) := by omega
      have g2 : (e : Int) < (bs.length : Int) := by omega
      have g3 : (bs.length : Int) ≤ 400 := by omega
      have hq : bs[e]? = some bs[e] := List.getElem?_eq_getElem he
      clear hc hbl
      replace h := Lib.hid h
      generalize bs[e] = q at c0 hq
      cases q
      · have hst := Lib.hid (show runUp bs F a = e by rw [hr]; exact runUp_stop bs _ _ (fun k => by rw [hq] at k; cases k.1))
        clear hq hr
        go_wp2
        exact bodyPost_ret (v := .int .i64 e) (by simp [results, Tryd.results113, go_sem]) rfl ⟨by rw [hst.out], KK⟩
      · replace hq := Lib.hid hq
        replace hr := Lib.hid hr
        go_wp2_with fail
        refine (blast_within_any _ _ _ _).mono ?_
        rintro x w2 ⟨rfl, k2⟩
        have K2 := KK.then_ k2 (Nat.le_refl _)
        clear k2
        by_cases hcm : e + 1 < bs.length
        · have hbt : btw ((e : Int) + 1) 0 ((bs.length : Int) - 1) = true := (btw_true _ _ _).2 (by omega)
          have hst := Lib.hid (show runUp bs F a = runUp bs (F - (n + 1)) (e + 1) by rw [hr.out, runUp_go bs _ _ (by omega) ⟨hq.out, hcm⟩]; congr 1)
          have hci := Lib.hid (show ((e : Int) + 1) = ((e + 1 : Nat) : Int) by omega)
          clear hq hr
          rw [hbt]
          dsimp only
          go_wp2
          go_roundw
          case rel => exact ⟨e + 1, n + 1, by first | rfl | rw [hci.out], rfl, by omega, by omega, hst.out, K2⟩
          case measure => simp [intOf]; omega
        · have hbt : btw ((e : Int) + 1) 0 ((bs.length : Int) - 1) = false := by
            rw [Bool.eq_false_iff]; intro k; have := (btw_true _ _ _).1 k; omega
          have hst := Lib.hid (show runUp bs F a = e by rw [hr.out]; exact runUp_stop bs _ _ (fun k => hcm k.2))
          clear hq hr
          rw [hbt]
          dsimp only
          go_wp2
          exact bodyPost_ret (v := .int .i64 e) (by simp [results, Tryd.results113, go_sem]) rfl ⟨by rw [hst.out], K2⟩
    · have hst := Lib.hid (show runUp bs F a = e by rw [hr, show F - n = 0 from by omega]; rfl)
      have g1 : ¬ (n : Int) < (F : Int) := by omega
      clear hr h
      go_wp2
      exact bodyPost_ret (v := .int .i64 e) (by simp [results, Tryd.results113, go_sem]) rfl ⟨by rw [hst.out], KK⟩
set_option maxRecDepth 100000 in
set_option maxHeartbeats 1000000 in
theorem blast_runDown_any (A A' : Option Addr) (c c' m : Nat) (bs : List Bool) (a F pa pf pl : Nat) (w : World) (h : Rd none w 1 encB A' bs.length bs)
    (ba : Blk w pa 3 #[.int .i64 a]) (bf : Blk w pf 3 #[.int .i64 F]) (bl : Blk w pl 54 #[.slice A m c, .slice A' bs.length c']) (ha : a < bs.length) (hF : F ≤ 400) (hl : bs.length ≤ 400) :
    Calls Tryd.prog 113 #[.int .i64 (-1), .pointer (some ⟨pa, 0, none⟩), .pointer (some ⟨pf, 0, none⟩), .pointer (some ⟨pl, 0, none⟩)] w fun e w' => e = .returned (.int .i64 (runDown bs F a : Nat)) ∧ Kp w.heap.size none w w' := by
  have ca := ba.cell 0
  go_enter Tryd.func113, Tryd.ntmps113
  go_wp2_with fail
  go_loopw [6, 7] (fun ve vn wr => RunRel (runDown bs) a F bs.length w ve vn wr) (fun _ vn _ => F - (intOf vn).toNat)
  case atStart => exact ⟨a, 0, rfl, rfl, by omega, ha, rfl, Kp.refl _ _ _⟩
  case round =>
    obtain ⟨e, n, rfl, rfl, hn, he, hr, KK⟩ := hrel
    have cf := (bf.kpN KK).cell 0
    have cl := fun i => (bl.kpN KK).cell i
    have g4 : (F : Int) ≤ 400 := by omega
    by_cases hnF : n < F
    · obtain ⟨b, o, rfl, hbl, -, hc⟩ := (h.kpN KK).at_ (by omega)
      have c0 : wr.cell? ⟨b, o + e, none⟩ = some (.bool bs[e]) := Rd.cell1 (fun _ => rfl) hc e he
      have g1 : (n : Int) < (F : Int) := by omega
      have g2 : (e : Int) < (bs.length : Int) := by omega
      have g3 : (bs.length : Int) ≤ 400 := by omega
      have hq : bs[e]? = some bs[e] := List.getElem?_eq_getElem he
      clear hc hbl
      replace h := Lib.hid h
      generalize bs[e] = q at c0 hq
      cases q
      · have hst := Lib.hid (show runDown bs F a = e by rw [hr]; exact runDown_stop bs _ _ (fun k => by rw [hq] at k; cases k.1))
        clear hq hr
        go_wp2
        exact bodyPost_ret (v := .int .i64 e) (by simp [results, Tryd.results113, go_sem]) rfl ⟨by rw [hst.out], KK⟩
      · replace hq := Lib.hid hq
        replace hr := Lib.hid hr
        go_wp2_with fail
        refine (blast_within_any _ _ _ _).mono ?_
        rintro x w2 ⟨rfl, k2⟩
        have K2 := KK.then_ k2 (Nat.le_refl _)
        clear k2
        by_cases hcm : 1 ≤ e
        · have hbt : btw ((e : Int) + -1) 0 ((bs.length : Int) - 1) = true := (btw_true _ _ _).2 (by omega)
          have hst := Lib.hid (show runDown bs F a = runDown bs (F - (n + 1)) (e - 1) by rw [hr.out, runDown_go bs _ _ (by omega) ⟨hq.out, hcm⟩]; congr 1)
          have hci := Lib.hid (show ((e : Int) + -1) = ((e - 1 : Nat) : Int) by omega)
          clear hq hr
          rw [hbt]
          dsimp only
          go_wp2
          go_roundw
          case rel => exact ⟨e - 1, n + 1, by first | rfl | rw [hci.out], rfl, by omega, by omega, hst.out, K2⟩
          case measure => simp [intOf]; omega
        · have hbt : btw ((e : Int) + -1) 0 ((bs.length : Int) - 1) = false := by
            rw [Bool.eq_false_iff]; intro k; have := (btw_true _ _ _).1 k; omega
          have hst := Lib.hid (show runDown bs F a = e by rw [hr.out]; exact runDown_stop bs _ _ (fun k => hcm k.2))
          clear hq hr
          rw [hbt]
          dsimp only
          go_wp2
          exact bodyPost_ret (v := .int .i64 e) (by simp [results, Tryd.results113, go_sem]) rfl ⟨by rw [hst.out], K2⟩
    · have hst := Lib.hid (show runDown bs F a = e by rw [hr, show F - n = 0 from by omega]; rfl)
      have g1 : ¬ (n : Int) < (F : Int) := by omega
      clear hr h
      go_wp2
      exact bodyPost_ret (v := .int .i64 e) (by simp [results, Tryd.results113, go_sem]) rfl ⟨by rw [hst.out], KK⟩
/-- Whom a wave harms. -/
def waveOf (ps : List Int) (bs : List Bool) (a F : Nat) : Int := peopleOf ps (runDown bs F a) (runUp bs F a)
set_option maxRecDepth 100000 in
set_option maxHeartbeats 1000000 in
theorem blast_wave_any (A A' : Option Addr) (c c' : Nat) (ps : List Int) (bs : List Bool) (a : Nat) (r : Int) (w : World) (h : Rd none w 1 encI A ps.length ps) (hb : Rd none w 1 encB A' bs.length bs) (hok : LandOk ps bs.length) (hc : ps.length ≤ c)
    (ha : a < ps.length) (hr : 0 ≤ r) :
    Calls Tryd.prog 82 #[.agg #[.slice A ps.length c, .slice A' bs.length c'], .int .i64 a, .int .i64 r] w fun e w' => e = .returned (.int .i64 (waveOf ps bs a (min r 400).toNat)) ∧ Kp w.heap.size none w w' := by
  obtain ⟨F, hF⟩ : ∃ F : Nat, F = (min r 400).toNat := ⟨_, rfl⟩
  have hFi : min r 400 = (F : Int) := by omega
  have hF4 : F ≤ 400 := by omega
  have L0 := Blk.new w 54 #[.slice A ps.length c, .slice A' bs.length c']
  have K0 := (Kp.refl w.heap.size none w).alloc (Nat.le_refl _) (.cells #[.slice A ps.length c, .slice A' bs.length c'] 54)
  generalize hw0 : w.alloc (.cells #[.slice A ps.length c, .slice A' bs.length c'] 54) = w0 at L0 K0
  have z0 : w0.heap.size = w.heap.size + 1 := by rw [← hw0]; simp
  have L1 := L0.alloc (.cells #[.int .i64 a] 3)
  have A1 := Blk.newAt w0 3 #[.int .i64 a] z0.symm
  have K1 := K0.alloc (by omega) (.cells #[.int .i64 a] 3)
  generalize hw1 : w0.alloc (.cells #[.int .i64 a] 3) = w1 at L1 A1 K1
  have z1 : w1.heap.size = w.heap.size + 2 := by rw [← hw1]; simp [z0]
  have L2 := L1.alloc (.cells #[.int .i64 F] 3)
  have A2 := A1.alloc (.cells #[.int .i64 F] 3)
  have F2 := Blk.newAt w1 3 #[.int .i64 F] z1.symm
  have K2 := K1.alloc (by omega) (.cells #[.int .i64 F] 3)
  rw [← hF]
  replace h := Lib.hid h
  replace hb := Lib.hid hb
  replace hok := Lib.hid hok
  replace hF := Lib.hid hF
  go_enter Tryd.func82, Tryd.ntmps82
  go_wp2_with fail
  clear hw0 hw1 K0 K1 L0 L1 A1
  generalize w1.alloc (.cells #[.int .i64 F] 3) = w2 at *
  obtain ⟨S, hS⟩ : ∃ S : Nat → World → Prop, S = fun _ w' => Blk w' w.heap.size 54 #[.slice A ps.length c, .slice A' bs.length c'] := ⟨_, rfl⟩
  have hS0 : ∀ w', S 0 w' ↔ (Blk w' w.heap.size 54 #[.slice A ps.length c, .slice A' bs.length c']) := fun w' => by rw [hS]
  clear hS
  have cx := fun (x : Ev (S 0)) i => ((hS0 _).1 x.h).cell i
  have hal : a < bs.length := by rw [hok.out.m]; exact ha
  have hbl : bs.length ≤ 400 := by rw [hok.out.m]; exact hok.out.l4
  replace L2 := L2.drew
  replace A2 := A2.drew
  replace F2 := F2.drew
  replace K2 := K2.drew
  have h2 := Lib.hid (h.out.kpN K2)
  have hb2 := Lib.hid (hb.out.kpN K2)
  have hevT := ev_true
  refine wp_region_ord S [(0, 1), (1, 0), (3, 0), (2, 2), (4, 2), (5, 2), (6, 0)] [] (by kernel_rfl) (by kernel_rfl) ((hS0 _).2 L2) ?_
  intro _hev
  iterate 3 (first | (refine wpOrd_v rfl rfl ?_; intro K hK; go_big_quiet_op; go_big_quiet_on) | (refine wpOrd_q rfl rfl ?_; intro K hK; go_big_quiet_op; go_big_quiet_on) | refine wpOrd_s (by decide) rfl rfl ?_)
  refine wpOrd_l rfl rfl ?_; intro K hK
  go_step
  refine (blast_runDown_any A A' c c' ps.length bs a F _ _ _ _ hb2.out A2 F2 L2 hal hF4 hbl).mono ?_
  rintro e w3 ⟨rfl, k3⟩
  have L3 := L2.kp k3 L2.lt (by simp)
  have A3 := A2.kp k3 A2.lt (by simp)
  have F3 := F2.kp k3 F2.lt (by simp)
  have K3 := K2.then_ k3 (by simp)
  have h3 := Lib.hid (h2.out.kpN k3)
  have hb3 := Lib.hid (hb2.out.kpN k3)
  refine hK _ _ ((hS0 _).2 L3) ?_
  clear hK K k3 L2 A2 F2 K2 h2 hb2
  refine wpOrd_l rfl rfl ?_; intro K hK
  go_step
  refine (blast_runUp_any A A' c c' ps.length bs a F _ _ _ _ hb3.out A3 F3 L3 hal hF4 hbl).mono ?_
  rintro e w4 ⟨rfl, k4⟩
  have L4 := L3.kp k4 L3.lt (by simp)
  have K4 := K3.then_ k4 (by simp)
  have h4 := Lib.hid (h3.out.kpN k4)
  refine hK _ _ ((hS0 _).2 L4) ?_
  clear hK K k4 L3 A3 F3 K3 h3 hb3
  refine wpOrd_l rfl rfl ?_; intro K hK
  go_step
  have u1 := runUp_le bs F a hal
  have u2 := runDown_le bs F a
  refine (blast_people_any A A' c bs.length c' ps (runDown bs F a) (runUp bs F a) _ h4.out hok.out.l4 hc hok.out.p (by omega) (by rw [← hok.out.m]; exact u1.2)).mono ?_
  rintro e w5 ⟨rfl, k5⟩
  have L5 := L4.kp k5 L4.lt (by simp)
  have K5 := K4.then_ k5 (by simp)
  refine hK _ _ ((hS0 _).2 L5) ?_
  clear hK K k5 L4 K4 h4
  iterate 1 (first | (refine wpOrd_v rfl rfl ?_; intro K hK; go_big_quiet_op; go_big_quiet_on) | (refine wpOrd_q rfl rfl ?_; intro K hK; go_big_quiet_op; go_big_quiet_on) | refine wpOrd_s (by decide) rfl rfl ?_)
  refine wpOrd_nil ?_
  clear hevT _hev
  go_wp2
  exact bodyPost_ret (by simp [results, Tryd.results82, go_sem]; rfl) rfl ⟨rfl, K5⟩
set_option maxHeartbeats 400000 in
theorem blast_Wave_any (A A' : Option Addr) (c c' : Nat) (ps : List Int) (bs : List Bool) (a r : Int) (w : World) (h : Rd none w 1 encI A ps.length ps) (hb : Rd none w 1 encB A' bs.length bs) (hc : ps.length ≤ c) :
    Calls Tryd.prog 29 #[.agg #[.slice A ps.length c, .slice A' bs.length c'], .int .i64 a, .int .i64 r] w fun e w' => (∃ v, e = .returned (.int .i64 v) ∧
      ((There ps bs.length a r ∧ bs[a.toNat]? = some true ∧ v = waveOf ps bs a.toNat (min r 400).toNat) ∨ (¬ (There ps bs.length a r ∧ bs[a.toNat]? = some true) ∧ v = 0))) ∧ Kp w.heap.size none w w' := by
  have K0 := (Kp.refl w.heap.size none w).alloc (Nat.le_refl _) (.cells #[.slice A ps.length c, .slice A' bs.length c'] 54)
  have B0 := Blk.new w 54 #[.slice A ps.length c, .slice A' bs.length c']
  have h0 := h.kpN K0
  have hb0 := hb.kpN K0
  go_enter Tryd.func29, Tryd.ntmps29
  go_wp2_with fail
  refine (blast_there_any A A' c bs.length c' ps a r _ h0).mono ?_
  rintro e w1 ⟨⟨q, rfl, hq⟩, k1⟩
  have K1 := K0.then_ k1 (by simp)
  have B1 := B0.kp k1 B0.lt (by simp)
  have cB := fun i => B1.cell i
  have h1 := h0.kpN k1
  have hb1 := hb0.kpN k1
  clear k1 B0 K0 h h0 hb hb0
  cases q
  · have hT := Lib.hid (show ¬ There ps bs.length a r from fun k => Bool.noConfusion (hq.2 k))
    clear hq h1 hb1
    go_wp2
    exact bodyPost_ret (v := .int .i64 0) (by simp [results, Tryd.results29, go_sem]) rfl ⟨⟨0, rfl, .inr ⟨fun k => hT.out k.1, rfl⟩⟩, K1⟩
  · have hT := hq.1 rfl
    obtain ⟨a, rfl⟩ := Int.eq_ofNat_of_zero_le hT.2.1
    have hal : a < ps.length := by have := hT.2.2.1; omega
    have hbl : a < bs.length := by rw [hT.1.m]; exact hal
    obtain ⟨b, o, rfl, hlt, -, hcl⟩ := hb1.at_ (by omega)
    have c0 : w1.cell? ⟨b, o + a, none⟩ = some (.bool bs[a]) := Rd.cell1 (fun _ => rfl) hcl a hbl
    have hq2 : bs[a]? = some bs[a] := List.getElem?_eq_getElem hbl
    have hbi : (a : Int) < (bs.length : Int) := by omega
    clear hq hcl hlt
    replace hT := Lib.hid hT
    replace hb1 := Lib.hid hb1
    replace h1 := Lib.hid h1
    generalize bs[a] = q at c0 hq2
    cases q
    · have hF := Lib.hid (show ¬ (There ps bs.length a r ∧ bs[a]? = some true) from fun k => by rw [hq2] at k; cases k.2)
      clear hq2
      go_wp2
      exact bodyPost_ret (v := .int .i64 0) (by simp [results, Tryd.results29, go_sem]) rfl ⟨⟨0, rfl, .inr ⟨hF.out, rfl⟩⟩, K1⟩
    · replace hq2 := Lib.hid hq2
      go_wp2_with fail
      refine (blast_wave_any A (some ⟨b, o, none⟩) c c' ps bs a r _ h1.out hb1.out hT.out.1 hc hal hT.out.2.2.2).mono ?_
      rintro e w2 ⟨rfl, k2⟩
      have K2 := K1.then_ k2 (by simp)
      clear k2 h1 hb1 B1 cB c0
      go_wp2
      exact bodyPost_ret (v := .int .i64 (waveOf ps bs a (min r 400).toNat)) (by simp [results, Tryd.results29, go_sem]) rfl ⟨⟨_, rfl, .inl ⟨hT.out, hq2.out, rfl⟩⟩, K2⟩
end Go.Proofs.YtdiigflbohbndaaDoor
