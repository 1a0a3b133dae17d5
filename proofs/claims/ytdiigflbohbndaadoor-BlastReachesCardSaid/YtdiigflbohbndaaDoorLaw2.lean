/- The statement on reaches: its walk. -/
import Derived.Test.YtdiigflbohbndaaDoorLaw1
import Derived.Test.YtdiigflbohbndaaDoorPlain1
namespace Go.Proofs.YtdiigflbohbndaaDoor
open Go.RowKit

theorem harm_ok (A A' : Option Addr) (c m c' : Nat) (ps : List Int) (a r : Nat) (w : World) (h : Rd none w 1 encI A ps.length ps) (hc : ps.length ≤ c) (hok : LandOk ps m) (ha : a < ps.length) (hr : r ≤ 400) :
    Calls Tryd.prog 28 #[.agg #[.slice A ps.length c, .slice A' m c'], .int .i64 a, .int .i64 r] w fun e w' => e = .returned (.int .i64 (harmOf ps a r)) ∧ Kp w.heap.size none w w' :=
  (blast_Harm_any A A' c m c' ps a r w h hc).mono fun e w' ⟨⟨v, h1, h2⟩, h3⟩ => by
    refine ⟨?_, h3⟩
    rcases h2 with ⟨_, rfl⟩ | ⟨h4, _⟩
    · rw [h1, Int.toNat_natCast, show (min (r : Int) 400).toNat = r by omega]
    · exact absurd ⟨hok, by omega, by omega, by omega⟩ h4
def waveIf (ps : List Int) (bs : List Bool) (a r : Nat) : Int := if bs[a]? = some true then waveOf ps bs a r else 0
theorem wave_ok (A A' : Option Addr) (c c' : Nat) (ps : List Int) (bs : List Bool) (a r : Nat) (w : World) (h : Rd none w 1 encI A ps.length ps) (hb : Rd none w 1 encB A' bs.length bs) (hc : ps.length ≤ c) (hok : LandOk ps bs.length) (ha : a < ps.length) (hr : r ≤ 400) :
    Calls Tryd.prog 29 #[.agg #[.slice A ps.length c, .slice A' bs.length c'], .int .i64 a, .int .i64 r] w fun e w' => e = .returned (.int .i64 (waveIf ps bs a r)) ∧ Kp w.heap.size none w w' :=
  (blast_Wave_any A A' c c' ps bs a r w h hb hc).mono fun e w' ⟨⟨v, h1, h2⟩, h3⟩ => by
    refine ⟨?_, h3⟩
    have hT : There ps bs.length a r := ⟨hok, by omega, by omega, by omega⟩
    unfold waveIf
    rcases h2 with ⟨_, h5, rfl⟩ | ⟨h4, rfl⟩
    · rw [Int.toNat_natCast] at h5
      rw [h1, if_pos h5, Int.toNat_natCast, show (min (r : Int) 400).toNat = r by omega]
    · rw [Int.toNat_natCast] at h4
      rw [h1, if_neg (fun k => h4 ⟨hT, k⟩)]
theorem grades_chk {gs : List Grade} (h : GradesOk gs) : GradesChk gs 0 := by
  refine .inr (.inr ⟨h.ne, h.le, .inl ⟨rfl, fun i hi => ?_⟩⟩)
  have h1 := h.rng gs[i] (List.getElem_mem hi)
  unfold gradeErr
  rw [if_neg (fun k => k ⟨(btw_true _ _ _).2 ⟨h1.1, h1.2.1⟩, (btw_true _ _ _).2 h1.2.2⟩), if_neg]
  rintro k
  rcases Nat.eq_zero_or_pos i with h0 | h0
  · subst h0
    simp only [Nat.lt_irrefl, dif_neg, not_false_eq_true] at k
    omega
  · rw [dif_pos h0, dif_pos h0] at k
    have := List.pairwise_iff_getElem.1 h.inc (i - 1) i (by omega) hi (by omega)
    omega
theorem reach_ok (A : Option Addr) (cap : Nat) (gs : List Grade) (en : Int) (w : World) (h : Rd none w 2 encGrade A gs.length gs) (hg : GradesOk gs) :
    Calls Tryd.prog 30 #[.slice A gs.length cap, .int .i64 en] w fun e w' => e = .returned (.int .i64 (reachOf en gs 0)) ∧ Kp w.heap.size none w w' :=
  (blast_Reach_any A cap gs en w h).mono fun e w' ⟨⟨v, h1, h2⟩, h3⟩ => by
    refine ⟨?_, h3⟩
    rcases h2 with ⟨_, rfl⟩ | ⟨h4, _⟩
    · exact h1
    · exact absurd (grades_chk hg) h4
theorem emod_nat (n : Int) (m : Nat) (hm : 0 < m) : ∃ k : Nat, n % (m : Int) = k ∧ k < m := by
  obtain ⟨k, hk⟩ := Int.eq_ofNat_of_zero_le (Int.emod_nonneg n (show (m : Int) ≠ 0 by omega))
  have := Int.emod_lt_of_pos n (show (0 : Int) < (m : Int) by omega)
  exact ⟨k, hk, by omega⟩
theorem more_val {m E : Nat} (hm : m < 5) (hE : E < 576460752303423488) : ∃ M X : Nat, wrap64 ((m : Int) * (E : Int)) = (M : Int) ∧ wrap64 ((M : Int) + 1) = ((M + 1 : Nat) : Int) ∧
    ((M + 1 : Nat) : Int) % 576460752303423488 = (X : Int) ∧ wrap64 ((E : Int) + (X : Int)) = ((E + X : Nat) : Int) := by
  have hMb : m * E ≤ 4 * E := Nat.mul_le_mul_right E (by omega)
  have e : (m : Int) * (E : Int) = ((m * E : Nat) : Int) := by push_cast; rfl
  generalize m * E = M at hMb e
  obtain ⟨X, hX, hXb⟩ := emod_nat ((M + 1 : Nat) : Int) 576460752303423488 (by omega)
  have e2 : wrap64 ((M : Int) + 1) = ((M + 1 : Nat) : Int) := by unfold wrap64; push_cast; omega
  have e3 : wrap64 ((E : Int) + (X : Int)) = ((E + X : Nat) : Int) := by unfold wrap64; push_cast; omega
  exact ⟨M, X, by rw [e]; unfold wrap64; omega, e2, hX, e3⟩
/-- What the statement compares. -/
structure Reached (ps : List Int) (bs : List Bool) (a r m : Nat) : Prop where
  own : ∀ h : a < ps.length, ps[a] ≤ harmOf ps a r
  more : harmOf ps a r ≤ harmOf ps a (r + m)
  wave : waveIf ps bs a r ≤ waveIf ps bs a (r + m)
  less : waveIf ps bs a r ≤ harmOf ps a r
  sum : harmOf ps a (r + m) ≤ ps.sum
theorem reached {ps : List Int} {bs : List Bool} (h : LandOk ps bs.length) {a : Nat} (ha : a < ps.length) (r m : Nat) : Reached ps bs a r m := by
  have hn : NonNeg ps := h.p
  refine ⟨fun h' => harm_own hn h' r, harm_mono hn ha (by omega), ?_, ?_, harm_sum hn ha _⟩
  · unfold waveIf
    split
    · exact wave_mono hn h.m ha (by omega)
    · exact Int.le_refl _
  · unfold waveIf
    split
    · exact wave_harm hn h.m ha r
    · have h1 := harm_own hn ha r
      have h2 := (hn ps[a] (List.getElem_mem ha)).1
      omega
set_option maxRecDepth 100000 in
set_option maxHeartbeats 2000000 in
theorem law_BlastReaches_any (A : Option Addr) (cap : Nat) (nums : List Int) (at0 re0 mo0 en0 : Int) (w : World) (h : Rd none w 1 (fun x => [Value.int .i64 x]) A nums.length nums) (hn : nums.length ≤ 17592186044416) (hb : Bnd w) :
    Calls Tryd.prog 5 #[.slice A nums.length cap, .int .i64 at0, .int .i64 re0, .int .i64 mo0, .int .i64 en0] w fun e w' => e = .returned (.bool true) ∧ Kp w.heap.size none w w' := by
  go_enter Tryd.func5, Tryd.ntmps5
  go_wp2_with fail
  refine (newRing_any A cap nums _ h hn).mono ?_
  rintro e w1 ⟨g, rfl, hg, hr, K1⟩
  go_wp2_with fail
  refine (gradesOf_any g nums 0 _ hr (by omega)).mono ?_
  rintro e w2 ⟨v, k, rfl, ⟨A1, c1, gs, rfl, hG, hgs, -⟩, hk, hr2, k2⟩
  have K2 := K1.thenOwn k2 (Nat.le_refl _) hg
  clear k2 K1 hr h hn
  go_wp2_with fail
  refine (landOf_any g nums k _ hr2 (by omega)).mono ?_
  rintro e w3 ⟨v, k', rfl, ⟨A2, c2, A3, c3, ps, bs, rfl, hP, hB, hbl, hp1, hp16, hpp, hc2, -⟩, -, hr3, k3⟩
  have hG3 := (hG.kp k3).free
  have K3 := K2.thenOwn k3 (Nat.le_refl _) hg
  replace hP := hP.free
  replace hB := hB.free
  have hok : LandOk ps bs.length := ⟨hp1, by omega, hbl, fun x hx => by have := hpp x hx; omega⟩
  have L4 := Blk.new w3 54 #[.slice A2 ps.length c2, .slice A3 bs.length c3]
  have K4 := K3.alloc K3.size (.cells #[.slice A2 ps.length c2, .slice A3 bs.length c3] 54)
  have hG4 := hG3.alloc (.cells #[.slice A2 ps.length c2, .slice A3 bs.length c3] 54)
  have hP4 := hP.alloc (.cells #[.slice A2 ps.length c2, .slice A3 bs.length c3] 54)
  have hB4 := hB.alloc (.cells #[.slice A2 ps.length c2, .slice A3 bs.length c3] 54)
  clear k3 K2 K3 hr2 hr3 hG hG3 hP hB hk hpp hbl
  generalize hw4 : w3.alloc (.cells #[.slice A2 ps.length c2, .slice A3 bs.length c3] 54) = w4 at L4 K4 hG4 hP4 hB4
  have hz4 : w.heap.size ≤ w4.heap.size := K4.size
  replace hgs := Lib.hid hgs
  replace hok := Lib.hid hok
  replace hc2 := Lib.hid hc2
  replace hG4 := Lib.hid hG4
  replace hP4 := Lib.hid hP4
  replace hB4 := Lib.hid hB4
  have c4 := fun i => L4.cell i
  go_wp2_with fail
  clear hw4
  refine (kit_Mod_any at0 ps.length (by omega) _).mono ?_
  rintro e w5 ⟨rfl, k5⟩
  obtain ⟨a, ha, hap⟩ := emod_nat at0 ps.length (by omega)
  rw [ha]
  have K5 := K4.thenN k5 (Nat.le_refl _)
  have L5 := L4.kpN k5
  have hG5 := Lib.hid (hG4.out.kpN k5)
  have hP5 := Lib.hid (hP4.out.kpN k5)
  have hB5 := Lib.hid (hB4.out.kpN k5)
  clear k5 K4 L4 hG4 hP4 hB4 c4 ha
  go_wp2_with fail
  refine (kit_Mod64_any re0 20 (by omega) _).mono ?_
  rintro e w6 ⟨rfl, k6⟩
  obtain ⟨r, hr, hrb⟩ := emod_nat re0 20 (by omega)
  rw [show re0 % 20 = (r : Int) from hr]
  have K6 := K5.thenN k6 (Nat.le_refl _)
  have L6 := L5.kpN k6
  have hG6 := Lib.hid (hG5.out.kpN k6)
  have hP6 := Lib.hid (hP5.out.kpN k6)
  have hB6 := Lib.hid (hB5.out.kpN k6)
  clear k6 K5 L5 hG5 hP5 hB5 hr
  go_wp2_with fail
  refine (kit_Mod64_any mo0 5 (by omega) _).mono ?_
  rintro e w7 ⟨rfl, k7⟩
  obtain ⟨m, hm, hmb⟩ := emod_nat mo0 5 (by omega)
  rw [show mo0 % 5 = (m : Int) from hm]
  have K7 := K6.thenN k7 (Nat.le_refl _)
  have L7 := L6.kpN k7
  have hG7 := Lib.hid (hG6.out.kpN k7)
  have hP7 := Lib.hid (hP6.out.kpN k7)
  have hB7 := Lib.hid (hB6.out.kpN k7)
  clear k7 K6 L6 hG6 hP6 hB6 hm
  go_wp2_with fail
  refine (kit_Mod64_any en0 576460752303423488 (by omega) _).mono ?_
  rintro e w8 ⟨rfl, k8⟩
  obtain ⟨E, hE, hEb⟩ := emod_nat en0 576460752303423488 (by omega)
  rw [show en0 % 576460752303423488 = (E : Int) from hE]
  have K8 := K7.thenN k8 (Nat.le_refl _)
  have L8 := L7.kpN k8
  have hG8 := Lib.hid (hG7.out.kpN k8)
  have hP8 := Lib.hid (hP7.out.kpN k8)
  have hB8 := Lib.hid (hB7.out.kpN k8)
  clear k8 K7 L7 hG7 hP7 hB7 hE
  replace hEb := Lib.hid hEb
  have c8 := fun i => L8.cell i
  go_wp2_with fail
  go_loopw [14, 15] (fun vo vi wr => SumAt ps w8 vo vi wr) (fun _ vi _ => ps.length - (intOf vi).toNat)
  case atStart => exact ⟨0, rfl, by omega, rfl, Kp.refl _ _ _⟩
  case round =>
    obtain ⟨i, rfl, hi, rfl, KK⟩ := hrel
    have L9 := L8.kpN KK
    have c9 := fun i => L9.cell i
    clear c8
    by_cases h7 : i < ps.length
    · obtain ⟨b, o, rfl, hbl, -, hc⟩ := (hP8.out.kpN KK).at_ (by omega)
      have c0 : wr.cell? ⟨b, o + i, none⟩ = some (.int .i64 ps[i]) := Rd.cell1 (fun _ => rfl) hc i h7
      have hi' : (i : Int) < (ps.length : Int) := by omega
      have hlen : (ps.length : Int) ≤ 400 := by omega
      have hs := Lib.hid (sum_take_succ ps i h7)
      have b1 := sum_bd (ps.take i) fun y hy => hok.out.p y (List.mem_of_mem_take hy)
      have b2 := hok.out.p ps[i] (List.getElem_mem h7)
      have b3 : (ps.take i).length ≤ 400 := by rw [List.length_take]; omega
      have hw : wrap64 ((ps.take i).sum + ps[i]) = (ps.take (i + 1)).sum := by
        rw [hs.out]; unfold wrap64; omega
      replace hw := Lib.hid hw
      generalize ps[i] = x at c0 hw
      generalize (ps.take i).sum = y at hw
      clear hc hs b1 b2 b3 hi
      replace h7 := Lib.hid h7
      go_wp2
      go_roundw
      case rel => exact ⟨i + 1, rfl, h7.out, by rw [hw.out], KK⟩
      case measure => have := h7.out; simp [intOf]; omega
    · have he : i = ps.length := by omega
      have hi' : ¬ (i : Int) < (ps.length : Int) := by omega
      have hts : (ps.take i).sum = ps.sum := by rw [he, List.take_length]
      rw [hts]
      have K9 := K8.thenN KK (Nat.le_refl _)
      have hG9 := Lib.hid (hG8.out.kpN KK)
      have hP9 := Lib.hid (hP8.out.kpN KK)
      have hB9 := Lib.hid (hB8.out.kpN KK)
      clear hts KK K8 L8 hG8 hP8 hB8 he
      go_wp2_with fail
      obtain ⟨S, hS⟩ : ∃ S : Nat → World → Prop, S = fun _ w' => Blk w' w3.heap.size 54 #[.slice A2 ps.length c2, .slice A3 bs.length c3] := ⟨_, rfl⟩
      have hS0 : ∀ w', S 0 w' ↔ (Blk w' w3.heap.size 54 #[.slice A2 ps.length c2, .slice A3 bs.length c3]) := fun w' => by rw [hS]
      clear hS
      have cx := fun (x : Ev (S 0)) i => ((hS0 _).1 x.h).cell i
      clear c9
      replace L9 := L9.drew
      replace K9 := K9.drew
      replace hG9 := Lib.hid (hG9.out.drew)
      replace hP9 := Lib.hid (hP9.out.drew)
      replace hB9 := Lib.hid (hB9.out.drew)
      have erm : wrap64 ((r : Int) + (m : Int)) = ((r + m : Nat) : Int) := by unfold wrap64; push_cast; omega
      replace erm := Lib.hid erm
      have hz3 : w3.heap.size < wr.heap.size := L9.lt
      have hevT := ev_true
      refine wp_region_ord S [(0, 1), (1, 0), (2, 0), (4, 1), (5, 0), (6, 0), (7, 0), (8, 0), (10, 1), (11, 0), (12, 0), (14, 1), (15, 0), (16, 0), (17, 0), (18, 0), (3, 2), (9, 2), (13, 2), (19, 2), (20, 0), (21, 0), (22, 0), (23, 0)] [] (by kernel_rfl) (by kernel_rfl) ((hS0 _).2 L9) ?_
      intro _hev
      iterate 16 (first | (refine wpOrd_v rfl rfl ?_; intro K hK; go_big_quiet_op; go_big_quiet_on) | (refine wpOrd_q rfl rfl ?_; intro K hK; go_big_quiet_op; go_big_quiet_on) | refine wpOrd_s (by decide) rfl rfl ?_)
      refine wpOrd_l rfl rfl ?_; intro K hK
      go_step
      
      refine (harm_ok A2 A3 c2 bs.length c3 ps a r _ hP9.out hc2.out hok.out hap (by omega)).mono ?_
      rintro e w10 ⟨rfl, k10⟩
      replace L9 := L9.kpN k10
      replace K9 := K9.thenN k10 (Nat.le_refl _)
      replace hG9 := Lib.hid (hG9.out.kpN k10)
      replace hP9 := Lib.hid (hP9.out.kpN k10)
      replace hB9 := Lib.hid (hB9.out.kpN k10)
      refine hK _ _ ((hS0 _).2 L9) ?_
      clear hK K k10
      refine wpOrd_l rfl rfl ?_; intro K hK
      go_step
      first | rw [erm.out] | rw [show (r : Int) + (m : Int) = ((r + m : Nat) : Int) from by push_cast; rfl]
      refine (harm_ok A2 A3 c2 bs.length c3 ps a (r + m) _ hP9.out hc2.out hok.out hap (by omega)).mono ?_
      rintro e w10 ⟨rfl, k10⟩
      replace L9 := L9.kpN k10
      replace K9 := K9.thenN k10 (Nat.le_refl _)
      replace hG9 := Lib.hid (hG9.out.kpN k10)
      replace hP9 := Lib.hid (hP9.out.kpN k10)
      replace hB9 := Lib.hid (hB9.out.kpN k10)
      refine hK _ _ ((hS0 _).2 L9) ?_
      clear hK K k10
      refine wpOrd_l rfl rfl ?_; intro K hK
      go_step
      
      refine (wave_ok A2 A3 c2 c3 ps bs a r _ hP9.out hB9.out hc2.out hok.out hap (by omega)).mono ?_
      rintro e w10 ⟨rfl, k10⟩
      replace L9 := L9.kpN k10
      replace K9 := K9.thenN k10 (Nat.le_refl _)
      replace hG9 := Lib.hid (hG9.out.kpN k10)
      replace hP9 := Lib.hid (hP9.out.kpN k10)
      replace hB9 := Lib.hid (hB9.out.kpN k10)
      refine hK _ _ ((hS0 _).2 L9) ?_
      clear hK K k10
      refine wpOrd_l rfl rfl ?_; intro K hK
      go_step
      first | rw [erm.out] | rw [show (r : Int) + (m : Int) = ((r + m : Nat) : Int) from by push_cast; rfl]
      refine (wave_ok A2 A3 c2 c3 ps bs a (r + m) _ hP9.out hB9.out hc2.out hok.out hap (by omega)).mono ?_
      rintro e w10 ⟨rfl, k10⟩
      replace L9 := L9.kpN k10
      replace K9 := K9.thenN k10 (Nat.le_refl _)
      replace hG9 := Lib.hid (hG9.out.kpN k10)
      replace hP9 := Lib.hid (hP9.out.kpN k10)
      replace hB9 := Lib.hid (hB9.out.kpN k10)
      refine hK _ _ ((hS0 _).2 L9) ?_
      clear hK K k10
      iterate 4 (first | (refine wpOrd_v rfl rfl ?_; intro K hK; go_big_quiet_op; go_big_quiet_on) | (refine wpOrd_q rfl rfl ?_; intro K hK; go_big_quiet_op; go_big_quiet_on) | refine wpOrd_s (by decide) rfl rfl ?_)
      refine wpOrd_nil ?_
      clear hevT _hev
      clear cx
      have c9 := fun i => L9.cell i
      obtain ⟨q1, q2, q3, q4, q5⟩ := reached hok.out hap r m
      have hf := harm_all hap hok.out.l4
      have hq1 := q1 hap
      have hq6 : waveIf ps bs a r ≤ 0 ∨ bs[a]? = some true := by
        unfold waveIf
        split
        · rename_i h; exact .inr h
        · exact .inl (Int.le_refl _)
      replace hf := Lib.hid hf
      replace hq6 := Lib.hid hq6
      clear q1
      generalize harmOf ps a r = vA at hq1 q2 q4 ⊢
      generalize harmOf ps a (r + m) = vB at q2 q5 ⊢
      generalize waveIf ps bs a r = vC at q3 q4 hq6 ⊢
      generalize waveIf ps bs a (r + m) = vD at q3 ⊢
      obtain ⟨b, o, rfl, hbl, -, hc⟩ := hP9.out.at_ (by omega)
      have c0 := Rd.cell1 (f := fun x => Value.int .i64 x) (fun _ => rfl) hc a hap
      generalize ps[a] = x at hq1 c0
      replace hG9 := Lib.hid (hG9)
      replace hbl := Lib.hid hbl
      clear hc S hS0
      obtain ⟨M, X, e1, e2, hX, e3⟩ := more_val hmb hEb.out
      replace e1 := Lib.hid e1
      replace e2 := Lib.hid e2
      replace e3 := Lib.hid e3
      replace hX := Lib.hid hX
      have hre := reach_mono (show (E : Int) ≤ ((E + X : Nat) : Int) by push_cast; omega) gs 0 (fun x hx => (hgs.out.rng x hx).2.2.1) hgs.out.inc
      have hsum := q5
      rcases (show vC ≤ 0 ∨ ¬ vC ≤ 0 by omega) with h0 | h0
      · clear hq6
        go_wp2_with fail
        clear c0 hq1 q2 q3 q4 q5 h7 hi' c9
        refine (reach_ok A1 c1 gs E _ hG9.out hgs.out).mono ?_
        rintro e w11 ⟨rfl, k11⟩
        have L11 := L9.kpN k11
        have K11 := K9.thenN k11 (Nat.le_refl _)
        have hG11 := Lib.hid (hG9.out.kpN k11)
        have hP11 := Lib.hid (hP9.out.kpN k11)
        clear k11
        go_wp2_with fail
        rw [e1.out, e2.out]
        refine (kit_Mod64_any ((M + 1 : Nat) : Int) 576460752303423488 (by omega) _).mono ?_
        rintro e w12 ⟨rfl, k12⟩
        rw [show ((M + 1 : Nat) : Int) % 576460752303423488 = (X : Int) from hX.out]
        have L12 := L11.kpN k12
        have K12 := K11.thenN k12 (Nat.le_refl _)
        have hG12 := Lib.hid (hG11.out.kpN k12)
        have hP12 := Lib.hid (hP11.out.kpN k12)
        clear k12 L11 K11 hG11 hP11
        go_wp2_with fail
        rw [e3.out]
        refine (reach_ok A1 c1 gs _ _ hG12.out hgs.out).mono ?_
        rintro e w13 ⟨rfl, k13⟩
        have L13 := L12.kpN k13
        have K13 := K12.thenN k13 (Nat.le_refl _)
        have hP13 := Lib.hid (hP12.out.kpN k13)
        clear k13 L12 K12 hG12 hP12
        generalize reachOf (E : Int) gs 0 = v1 at hre ⊢
        generalize reachOf ((E + X : Nat) : Int) gs 0 = v2 at hre ⊢
        have c13 := fun i => L13.cell i
        go_wp2_with fail
        refine (harm_ok _ _ c2 bs.length c3 ps a 400 _ hP13.out hc2.out hok.out hap (by omega)).mono ?_
        rintro e w14 ⟨rfl, k14⟩
        rw [hf.out]
        have K14 := K13.thenN k14 (Nat.le_refl _)
        clear k14 L13 K13 hP13 c13
        go_wp2_with fail
        refine (awake_any _ (hb.kpN K14)).mono ?_
        rintro e w15 ⟨rfl, k15⟩
        have K15 := K14.thenN k15 (Nat.le_refl _)
        clear k15 K14
        go_wp2
        exact bodyPost_ret (v := .bool true) (by simp [results, Tryd.results5, go_sem]) rfl ⟨rfl, K15⟩
      · have hbt : bs[a]? = some true := by
          rcases hq6.out with h | h
          · exact absurd h h0
          · exact h
        have hal : a < bs.length := by rw [hok.out.m]; exact hap
        have hali : (a : Int) < (bs.length : Int) := by omega
        have hpos : 0 < vC := by omega
        obtain ⟨b2, o2, rfl, hbl2, -, hc2'⟩ := hB9.out.at_ (by omega)
        have c02 := Rd.cell1 (f := fun x => Value.bool x) (fun _ => rfl) hc2' a hal
        rw [List.getElem?_eq_getElem hal] at hbt
        injection hbt with hbt
        rw [hbt] at c02
        replace hbl2 := Lib.hid hbl2
        clear hq6 hc2' hbt h0
        go_wp2_with fail
        clear c0 hq1 q2 q3 q4 q5 h7 hi' c9
        refine (reach_ok A1 c1 gs E _ hG9.out hgs.out).mono ?_
        rintro e w11 ⟨rfl, k11⟩
        have L11 := L9.kpN k11
        have K11 := K9.thenN k11 (Nat.le_refl _)
        have hG11 := Lib.hid (hG9.out.kpN k11)
        have hP11 := Lib.hid (hP9.out.kpN k11)
        clear k11
        go_wp2_with fail
        rw [e1.out, e2.out]
        refine (kit_Mod64_any ((M + 1 : Nat) : Int) 576460752303423488 (by omega) _).mono ?_
        rintro e w12 ⟨rfl, k12⟩
        rw [show ((M + 1 : Nat) : Int) % 576460752303423488 = (X : Int) from hX.out]
        have L12 := L11.kpN k12
        have K12 := K11.thenN k12 (Nat.le_refl _)
        have hG12 := Lib.hid (hG11.out.kpN k12)
        have hP12 := Lib.hid (hP11.out.kpN k12)
        clear k12 L11 K11 hG11 hP11
        go_wp2_with fail
        rw [e3.out]
        refine (reach_ok A1 c1 gs _ _ hG12.out hgs.out).mono ?_
        rintro e w13 ⟨rfl, k13⟩
        have L13 := L12.kpN k13
        have K13 := K12.thenN k13 (Nat.le_refl _)
        have hP13 := Lib.hid (hP12.out.kpN k13)
        clear k13 L12 K12 hG12 hP12
        generalize reachOf (E : Int) gs 0 = v1 at hre ⊢
        generalize reachOf ((E + X : Nat) : Int) gs 0 = v2 at hre ⊢
        have c13 := fun i => L13.cell i
        go_wp2_with fail
        refine (harm_ok _ _ c2 bs.length c3 ps a 400 _ hP13.out hc2.out hok.out hap (by omega)).mono ?_
        rintro e w14 ⟨rfl, k14⟩
        rw [hf.out]
        have K14 := K13.thenN k14 (Nat.le_refl _)
        clear k14 L13 K13 hP13 c13
        go_wp2_with fail
        refine (awake_any _ (hb.kpN K14)).mono ?_
        rintro e w15 ⟨rfl, k15⟩
        have K15 := K14.thenN k15 (Nat.le_refl _)
        clear k15 K14
        go_wp2
        exact bodyPost_ret (v := .bool true) (by simp [results, Tryd.results5, go_sem]) rfl ⟨rfl, K15⟩
end Go.Proofs.YtdiigflbohbndaaDoor
