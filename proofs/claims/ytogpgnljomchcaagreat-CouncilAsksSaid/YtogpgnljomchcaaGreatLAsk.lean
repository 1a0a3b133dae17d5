/- CouncilAsks: the walk. -/
import Derived.Test.YtogpgnljomchcaaGreatAskAll
import Derived.Test.YtogpgnljomchcaaGreatOpAll
import Derived.Test.YtogpgnljomchcaaGreatLg
import Derived.Test.YtogpgnljomchcaaGreatWhyAll
import Derived.Test.YtogpgnljomchcaaGreatAn
import Derived.Test.YtogpgnljomchcaaGreatRp
import Derived.Test.YtogpgnljomchcaaGreatOf
import Derived.Test.YtogpgnljomchcaaGreatSameAll
import Derived.Test.YtogpgnljomchcaaGreatSr
import Derived.Test.YtogpgnljomchcaaGreatTree
import Derived.Deep.DeepCutAuto
import Derived.Deep.CutBlock
namespace Go.Proofs.YtogpgnljomchcaaGreat
open Go.RowKit

theorem long_no2 {c : Council} {n : Nat} (h : longB c n = false) : c.members.length ≤ 70 ∧ c.laws.length ≤ 20 ∧ c.levels.length ≤ 12 ∧ (n ≤ 200 ∨ n = 2001) := by
  unfold longB at h
  have := of_decide_eq_false h
  omega
theorem of_same {l : Ledger} {t : Int} {k : Known} {b : Bool} (h : OfIs l t k b) : k = knD l.facts t ∧ b = (l.facts.find? fun k => k.target == t).isSome := by
  unfold OfIs knownOf at h
  unfold knD
  rcases h with ⟨h1, h2⟩ | ⟨h1, h2, h3⟩
  · rw [h1]; exact ⟨rfl, h2⟩
  · rw [h1]; exact ⟨h3, h2⟩
set_option maxRecDepth 20000 in
set_option maxHeartbeats 8000000 in
theorem law_CouncilAsks_any (V0 : CV) (c : Council) (A1 : Option Addr) (cap1 : Nat) (l : List CItem) (tick target act motion : Int) (L : LV) (y : Ledger) (A : Option Addr) (cap : Nat) (nums : List Int) (W : World) (hC0 : CAt0 W V0 c) (hl0 : Rd none W 9 encItem A1 l.length l ∧ l.length ≤ cap1) (hL0 : LAt W.heap.size W L y) (h : Rd none W 1 (fun x => [Value.int .i64 x]) A nums.length nums) (hn : nums.length ≤ 17592186044416) :
    Calls Tryz.prog 4 #[.agg #[.slice V0.am c.members.length V0.cm, .slice V0.al c.laws.length V0.cl, .slice V0.av c.levels.length V0.cv], .slice A1 l.length cap1, .int .i64 tick, .int .i64 target, .int .i64 act, .int .i64 motion, .agg #[.int .i64 y.items, .slice L.fa y.facts.length L.fc, .slice L.ma y.motions.length L.mc, .slice L.sa y.sent.length L.sc], .slice A nums.length cap] W fun e w' => e = .returned (.bool true) ∧ Kp W.heap.size none W w' := by
  have B8 := (Blk.new W 28 #[.slice V0.am c.members.length V0.cm, .slice V0.al c.laws.length V0.cl, .slice V0.av c.levels.length V0.cv]).alloc (.cells #[.int .i64 y.items, .slice L.fa y.facts.length L.fc, .slice L.ma y.motions.length L.mc, .slice L.sa y.sent.length L.sc] 41)
  have B14 := Blk.newAt (W.alloc (.cells #[.slice V0.am c.members.length V0.cm, .slice V0.al c.laws.length V0.cl, .slice V0.av c.levels.length V0.cv] 28)) 41 #[.int .i64 y.items, .slice L.fa y.facts.length L.fc, .slice L.ma y.motions.length L.mc, .slice L.sa y.sent.length L.sc] (n := W.heap.size + 1) (by simp)
  have K0 := Kp.new2 W (.cells #[.slice V0.am c.members.length V0.cm, .slice V0.al c.laws.length V0.cl, .slice V0.av c.levels.length V0.cv] 28) (.cells #[.int .i64 y.items, .slice L.fa y.facts.length L.fc, .slice L.ma y.motions.length L.mc, .slice L.sa y.sent.length L.sc] 41)
  have h1 := h.kpN K0
  clear h
  go_enter Tryz.func4, Tryz.ntmps4
  go_upto_region 1 with (fail)
  obtain ⟨b8, hb8⟩ : ∃ q, q = W.heap.size := ⟨_, rfl⟩
  rw [← hb8] at B8 B14
  rw [← hb8]
  have hb8w : W.heap.size ≤ b8 := by omega
  change Code.wp _ _ _ _ ((W.alloc (.cells #[.slice V0.am c.members.length V0.cm, .slice V0.al c.laws.length V0.cl, .slice V0.av c.levels.length V0.cv] 28)).alloc (.cells #[.int .i64 y.items, .slice L.fa y.facts.length L.fc, .slice L.ma y.motions.length L.mc, .slice L.sa y.sent.length L.sc] 41))
  generalize (W.alloc (.cells #[.slice V0.am c.members.length V0.cm, .slice V0.al c.laws.length V0.cl, .slice V0.av c.levels.length V0.cv] 28)).alloc (.cells #[.int .i64 y.items, .slice L.fa y.facts.length L.fc, .slice L.ma y.motions.length L.mc, .slice L.sa y.sent.length L.sc] 41) = w1 at B8 B14 K0 h1 ⊢
  replace hb8 := Lib.hid hb8
  have c8 := fun i => B8.cell i
  have c14 := fun i => B14.cell i
  go_wp2_with fail
  refine (long_any V0 c A1 l.length cap1 _).mono ?_
  rintro e w2 ⟨rfl, k2⟩
  replace B8 := B8.kpN k2
  replace B14 := B14.kpN k2
  replace h1 := h1.kpN k2
  replace K0 := K0.thenN k2 (Nat.le_refl _)
  clear k2 c8 c14
  have c14 := fun i => B14.cell i
  cases hlong : longB c l.length with
  | true =>
    go_wp2_with fail
    refine (awake_any _).mono ?_
    rintro e w3 ⟨rfl, k3⟩
    have K9 := K0.thenN k3 (Nat.le_refl _)
    clear K0 k3 B8 B14 h1
    go_wp2
    go_ret
    exact ⟨rfl, K9⟩
  | false =>
  obtain ⟨n1, n2, n3, n4⟩ := long_no2 hlong
  have hca : CAt W.heap.size w2 V0 c := ((hC0.cat (by omega) (by omega) (by omega)).kp K0)
  have hra : Lo W.heap.size w2 9 encItem A1 l.length l := (Lo.of hl0.1).kp K0
  have hly : LAt W.heap.size w2 L y := hL0.kp K0
  have hlc := hl0.2
  clear hlong hC0 hl0 hL0 n1 n2 n3
  replace hca := Lib.hid hca
  replace hra := Lib.hid hra
  replace hly := Lib.hid hly
  replace n4 := Lib.hid (show l.length ≤ 1000000 by omega)
  by_cases f1 : 20 < y.facts.length
  · have f1' : 20 < (y.facts.length : Int) := by omega
    go_wp2_with fail
    refine (awake_any _).mono ?_
    rintro e w3 ⟨rfl, k3⟩
    have K9 := K0.thenN k3 (Nat.le_refl _)
    clear K0 k3 B8 B14 h1
    go_wp2
    go_ret
    exact ⟨rfl, K9⟩
  have f1' : ¬ 20 < (y.facts.length : Int) := by omega
  by_cases f2 : 20 < y.motions.length
  · have f2' : 20 < (y.motions.length : Int) := by omega
    go_wp2_with fail
    refine (awake_any _).mono ?_
    rintro e w3 ⟨rfl, k3⟩
    have K9 := K0.thenN k3 (Nat.le_refl _)
    clear K0 k3 B8 B14 h1
    go_wp2
    go_ret
    exact ⟨rfl, K9⟩
  have f2' : ¬ 20 < (y.motions.length : Int) := by omega
  by_cases f3 : 20 < y.sent.length
  · have f3' : 20 < (y.sent.length : Int) := by omega
    go_wp2_with fail
    refine (awake_any _).mono ?_
    rintro e w3 ⟨rfl, k3⟩
    have K9 := K0.thenN k3 (Nat.le_refl _)
    clear K0 k3 B8 B14 h1
    go_wp2
    go_ret
    exact ⟨rfl, K9⟩
  have f3' : ¬ 20 < (y.sent.length : Int) := by omega
  clear f1 f2 f3
  go_upto_region 3 with (fail)
  clear f1' f2' f3' c14
  go_wp2_with fail
  refine (newRing_any A cap nums _ h1 hn).mono ?_
  rintro e w3 ⟨g, rfl, hg, hr, k3⟩
  have hgW : W.heap.size ≤ g := Nat.le_trans K0.size hg
  have hb8g : b8 + 1 < g := by have := B14.lt; omega
  replace B8 := B8.kpN k3
  replace B14 := B14.kpN k3
  replace hca := Lib.hid (hca.out.kp (k3.mono K0.size))
  replace hra := Lib.hid (hra.out.kp (k3.mono K0.size))
  replace hly := Lib.hid (hly.out.kp (k3.mono K0.size))
  replace K0 := K0.thenN k3 (Nat.le_refl _)
  clear k3 h1
  go_wp2_with fail
  refine (councilOf_any g nums 0 _ hr (by omega)).mono ?_
  rintro e w4 ⟨V, own, k', rfl, hok, hco, hk', hr4, k4, hf⟩
  have hg1 := hr.lt
  have hfar : CFar V (g + 1) := ⟨fun ad e => by have := hf.1 ad e; omega, fun ad e => by have := hf.2.1 ad e; omega, fun ad e => by have := hf.2.2 ad e; omega⟩
  have kb4 : Kp W.heap.size none w3 w4 := ⟨k4.os, k4.tape, k4.output, k4.size, fun i hi _ => k4.block i (by have := K0.size; omega) (fun e => by injection e with e; omega)⟩
  replace B8 := B8.kp k4 B8.lt (sne (by omega))
  replace B14 := B14.kp k4 B14.lt (sne (by omega))
  replace hca := Lib.hid (hca.out.kp kb4)
  replace hra := Lib.hid (hra.out.kp kb4)
  replace hly := Lib.hid (hly.out.kp kb4)
  replace K0 := K0.trans kb4
  clear k4 kb4 hr hf hg
  have hg5 := hr4.lt
  have kk := Kp.new w4 (.cells #[.slice V.am own.members.length V.cm, .slice V.al own.laws.length V.cl, .slice V.av own.levels.length V.cv] 28)
  have B18 := Blk.new w4 28 #[.slice V.am own.members.length V.cm, .slice V.al own.laws.length V.cl, .slice V.av own.levels.length V.cv]
  replace B8 := B8.kpN kk
  replace B14 := B14.kpN kk
  replace hca := Lib.hid (hca.out.kp (kk.mono K0.size))
  replace hra := Lib.hid (hra.out.kp (kk.mono K0.size))
  replace hly := Lib.hid (hly.out.kp (kk.mono K0.size))
  replace hco := hco.next kk
  replace hr4 := hr4.kpN kk
  replace K0 := K0.thenN kk (Nat.le_refl _)
  clear kk
  replace hr4 := Lib.hid hr4
  replace hco := Lib.hid hco
  go_upto_region 5 with (fail)
  obtain ⟨b18, hb18⟩ : ∃ q, q = w4.heap.size := ⟨_, rfl⟩
  rw [← hb18] at B18 hg5
  rw [← hb18]
  change Code.wp _ _ _ _ (w4.alloc (.cells #[.slice V.am own.members.length V.cm, .slice V.al own.laws.length V.cl, .slice V.av own.levels.length V.cv] 28))
  generalize w4.alloc (.cells #[.slice V.am own.members.length V.cm, .slice V.al own.laws.length V.cl, .slice V.av own.levels.length V.cv] 28) = w5 at B8 B14 B18 hca hra hly hco hr4 K0 ⊢
  clear hb18
  have c18 := fun i => B18.cell i
  go_wp2_with fail
  refine (itemsOf_any g nums k' V own 14 _ hr4.out (by omega) hco.out hfar hok (by omega)).mono ?_
  rintro e wb ⟨A2, cap2, its, x0, k2, rfl, hl14, hD, hrd, hlf, hk2, hr6, k6, hcap, hcap0⟩
  have hgs : g < w5.heap.size := hr4.out.lt
  have kb6 : Kp W.heap.size none w5 wb := ⟨k6.os, k6.tape, k6.output, k6.size, fun i hi _ => k6.block i (by have := K0.size; omega) (fun e => by injection e with e; omega)⟩
  replace B8 := B8.kp k6 B8.lt (sne (by omega))
  replace B14 := B14.kp k6 B14.lt (sne (by omega))
  replace B18 := B18.kp k6 B18.lt (sne (by omega))
  replace hca := Lib.hid (hca.out.kp kb6)
  replace hra := Lib.hid (hra.out.kp kb6)
  replace hly := Lib.hid (hly.out.kp kb6)
  have hco6 := Lib.hid ((hco.out.turnB k6 hfar (by omega)).wide k6.size)
  have hri : ∀ ad, A2 = some ad → ad.block ≠ g := fun ad e => by have := hlf ad e; omega
  replace hri := Lib.hid hri
  replace K0 := K0.trans kb6
  clear hco hr4 k6 kb6 hlf c18 hD hcap0
  have hgb : g < wb.heap.size := hr6.lt
  replace hrd := Lib.hid hrd
  have h18g : b18 ≠ g := by omega
  replace hcap := Lib.hid hcap
  replace hlc := Lib.hid hlc
  have hkb : k2 ≤ 900000 := by omega
  clear hk2 hk'
  go_upto_region 6 with (fail)
  have hr7 := hr6.drew
  go_cut [20, 21, 22, 23] (fun s2 s5 s9 s13 wx => ∃ (b2 b5 b9 b13 k3 : Nat) (xt xm : Int), s2 = .slice (some ⟨b2, 0, none⟩) 2 2 ∧ s5 = .slice (some ⟨b5, 0, none⟩) 2 2 ∧ s9 = .slice (some ⟨b9, 0, none⟩) 2 2 ∧ s13 = .slice (some ⟨b13, 0, none⟩) 2 2 ∧ Kp wb.heap.size (some g) wb wx ∧ RingAt wx g nums k3 ∧ k3 ≤ k2 + 2 ∧
      (Blk wx b2 28 #[.slice V0.am c.members.length V0.cm, .slice V0.al c.laws.length V0.cl, .slice V0.av c.levels.length V0.cv, .slice V.am own.members.length V.cm, .slice V.al own.laws.length V.cl, .slice V.av own.levels.length V.cv] ∧ wb.heap.size ≤ b2) ∧ (Blk wx b5 29 #[.slice A1 l.length cap1, .slice A2 its.length cap2] ∧ wb.heap.size ≤ b5) ∧ (Blk wx b9 2 #[.int .i64 tick, .int .i64 xt] ∧ wb.heap.size ≤ b9) ∧ (Blk wx b13 3 #[.int .i64 motion, .int .i64 xm] ∧ wb.heap.size ≤ b13))
  case first =>
    refine wp_region_inv (Γ := GA) [none, none, none, none, none, none, none, none, none, none, none, none, none, none, none, none, none, none, none, none, some 14, some 15, some 16, some 17, none, none, none, none, none, none, none, none, none, none, none, none, none, none, none, none, none, none, none, none, none, none, none, none, none, none, none, none, none, none, none, none, none, none, none, none, none, none, none, none, none, none, none, none, none, none, none, none, none, none, none, some 0, some 1, some 2, some 3, some 4, some 5, some 6, some 7, some 8, some 9, some 10, some 11, some 12, some 13] [[], [], [0, 1], [], [], [3, 4], [], [], [7], [6, 7, 8], [], [], [7, 8, 11], [7, 8, 10, 11, 12], [0, 1, 2, 7, 8, 11, 12], [0, 1, 2, 3, 4, 5, 7, 8, 11, 12, 14], [0, 1, 2, 3, 4, 5, 6, 7, 8, 9, 11, 12, 14, 15], [0, 1, 2, 3, 4, 5, 6, 7, 8, 9, 10, 11, 12, 13, 14, 15, 16]] [[1, 3, 4, 5, 6, 7, 8, 9, 10, 11, 12, 13], [0, 3, 4, 5, 6, 7, 8, 9, 10, 11, 12, 13], [0, 1, 3, 4, 5, 6, 7, 8, 9, 10, 11, 12, 13], [0, 1, 2, 4, 6, 7, 8, 9, 10, 11, 12, 13, 14], [0, 1, 2, 3, 6, 7, 8, 9, 10, 11, 12, 13, 14], [0, 1, 2, 3, 4, 6, 7, 8, 9, 10, 11, 12, 13, 14], [0, 1, 2, 3, 4, 5, 7, 8, 10, 11, 12, 13, 14, 15], [0, 1, 2, 3, 4, 5, 6, 10, 11], [0, 1, 2, 3, 4, 5, 6, 7, 10, 11], [0, 1, 2, 3, 4, 5, 6, 7, 8, 10, 11, 12, 13, 14, 15], [0, 1, 2, 3, 4, 5, 6, 7, 8, 9, 11, 12, 14, 15, 16], [0, 1, 2, 3, 4, 5, 6, 7, 8, 9, 10], [0, 1, 2, 3, 4, 5, 6, 7, 8, 9, 10, 11], [0, 1, 2, 3, 4, 5, 6, 7, 8, 9, 10, 11, 12, 14, 15, 16], [0, 1, 2, 3, 4, 5, 6, 7, 8, 9, 10, 11, 12, 13], [0, 1, 2, 3, 4, 5, 6, 7, 8, 9, 10, 11, 12, 13, 14], [0, 1, 2, 3, 4, 5, 6, 7, 8, 9, 10, 11, 12, 13, 14, 15], [0, 1, 2, 3, 4, 5, 6, 7, 8, 9, 10, 11, 12, 13, 14, 15, 16]] (fun γ => [.agg #[.slice V0.am c.members.length V0.cm, .slice V0.al c.laws.length V0.cl, .slice V0.av c.levels.length V0.cv], .agg #[.slice V.am own.members.length V.cm, .slice V.al own.laws.length V.cl, .slice V.av own.levels.length V.cv], .slice (some ⟨γ.b2, 0, none⟩) 2 2, .slice A1 l.length cap1, .slice A2 its.length cap2, .slice (some ⟨γ.b5, 0, none⟩) 2 2, .int .i64 tick, .pointer (some ⟨g, 0, none⟩), .int .i64 γ.xt, .slice (some ⟨γ.b9, 0, none⟩) 2 2, .int .i64 motion, .pointer (some ⟨g, 0, none⟩), .int .i64 γ.xm, .slice (some ⟨γ.b13, 0, none⟩) 2 2, .slice (some ⟨γ.b2, 0, none⟩) 2 2, .slice (some ⟨γ.b5, 0, none⟩) 2 2, .slice (some ⟨γ.b9, 0, none⟩) 2 2, .slice (some ⟨γ.b13, 0, none⟩) 2 2]) (fun γ => [none, none, none, none, none, none, none, none, none, none, none, none, none, none, none, none, none, none, none, none, some (.slice (some ⟨γ.b2, 0, none⟩) 2 2), some (.slice (some ⟨γ.b5, 0, none⟩) 2 2), some (.slice (some ⟨γ.b9, 0, none⟩) 2 2), some (.slice (some ⟨γ.b13, 0, none⟩) 2 2), none, none, none, none, none, none, none, none, none, none, none, none, none, none, none, none, none, none, none, none, none, none, none, none, none, none, none, none, none, none, none, none, none, none, none, none, none, none, none, none, none, none, none, none, none, none, none, none, none, none, none, some (.agg #[.slice V0.am c.members.length V0.cm, .slice V0.al c.laws.length V0.cl, .slice V0.av c.levels.length V0.cv]), some (.agg #[.slice V.am own.members.length V.cm, .slice V.al own.laws.length V.cl, .slice V.av own.levels.length V.cv]), some (.slice (some ⟨γ.b2, 0, none⟩) 2 2), some (.slice A1 l.length cap1), some (.slice A2 its.length cap2), some (.slice (some ⟨γ.b5, 0, none⟩) 2 2), some (.int .i64 tick), some (.pointer (some ⟨g, 0, none⟩)), some (.int .i64 γ.xt), some (.slice (some ⟨γ.b9, 0, none⟩) 2 2), some (.int .i64 motion), some (.pointer (some ⟨g, 0, none⟩)), some (.int .i64 γ.xm), some (.slice (some ⟨γ.b13, 0, none⟩) 2 2)]) ?A6_1 (fun n D γ w => LAsk wb g nums k2 #[.slice V0.am c.members.length V0.cm, .slice V0.al c.laws.length V0.cl, .slice V0.av c.levels.length V0.cv, .slice V.am own.members.length V.cm, .slice V.al own.laws.length V.cl, .slice V.av own.levels.length V.cv] #[.slice A1 l.length cap1, .slice A2 its.length cap2] tick motion D γ w) (fun k γ w => match k with | 2 => γ.d2 = true | 5 => γ.d5 = true | 8 => γ.d8 = true | 9 => γ.d9 = true | 12 => γ.d12 = true | 13 => γ.d13 = true | _ => True) ⟨0, 0, 0, 0, k2, 0, 0, false, false, false, false, false, false⟩ (by kernel_rfl) (fun _ => rfl) ?hA6_1 (by kernel_rfl) ?hB06_1 ?hop6_1 ?hend6_1
    case hA6_1 => intro γ; dsimp only [fullV]; rfl
    case hB06_1 =>
      exact LAsk.start (Kp.refl _ _ _).drew hr7 hgb
    case hop6_1 =>
      intro hA
      refine ⟨?_, ?_, ?_, ?_, ?_, ?_, ?_, ?_, ?_, ?_, ?_, ?_, ?_, ?_, ?_, ?_, ?_, ?_, trivial⟩
      · refine opOk_v hA (fun _ => rfl) (fun _ _ => trivial) ?_ ?_
        · intro n D γ w hn h
          replace hn : n < 18 := hn
          try dsimp only at h
          exact { h with f2 := h.f2, f5 := h.f5, f8 := h.f8, f9 := h.f9, f12 := h.f12, f13 := h.f13 }
        intro n D γ w hB hU K hK
        try dsimp only at hB
        try dsimp only
        have cc := fun i => (B8.kp hB.kp B8.lt (sne (by omega))).cell i
        have ci := fun i => (B18.kp hB.kp B18.lt (sne h18g)).cell i
        clear hB hU
        go_step
        exact hK _ rfl
      · refine opOk_v hA (fun _ => rfl) (fun _ _ => trivial) ?_ ?_
        · intro n D γ w hn h
          replace hn : n < 18 := hn
          try dsimp only at h
          exact { h with f2 := h.f2, f5 := h.f5, f8 := h.f8, f9 := h.f9, f12 := h.f12, f13 := h.f13 }
        intro n D γ w hB hU K hK
        try dsimp only at hB
        try dsimp only
        have cc := fun i => (B8.kp hB.kp B8.lt (sne (by omega))).cell i
        have ci := fun i => (B18.kp hB.kp B18.lt (sne h18g)).cell i
        clear hB hU
        go_step
        exact hK _ rfl
      · refine opOk_l hA (fun _ => rfl) ?_
        intro n D γ w hn hD hB hU K hK
        try dsimp only at hB
        clear hU
        replace hn : n < 18 := hn
        try dsimp only
        go_step
        refine hK _ _ { γ with b2 := w.heap.size, d2 := true } rfl (hB.op2 hD rfl) rfl ?_
        try dsimp only [allP, List.getD_cons_zero, List.getD_cons_succ]
        (repeat' apply And.intro) <;> first | exact rfl | exact trivial | exact id | assumption
      · refine opOk_v hA (fun _ => rfl) (fun _ _ => trivial) ?_ ?_
        · intro n D γ w hn h
          replace hn : n < 18 := hn
          try dsimp only at h
          exact { h with f2 := h.f2, f5 := h.f5, f8 := h.f8, f9 := h.f9, f12 := h.f12, f13 := h.f13 }
        intro n D γ w hB hU K hK
        try dsimp only at hB
        try dsimp only
        clear hB hU
        go_step
        exact hK _ rfl
      · refine opOk_v hA (fun _ => rfl) (fun _ _ => trivial) ?_ ?_
        · intro n D γ w hn h
          replace hn : n < 18 := hn
          try dsimp only at h
          exact { h with f2 := h.f2, f5 := h.f5, f8 := h.f8, f9 := h.f9, f12 := h.f12, f13 := h.f13 }
        intro n D γ w hB hU K hK
        try dsimp only at hB
        try dsimp only
        clear hB hU
        go_step
        exact hK _ rfl
      · refine opOk_l hA (fun _ => rfl) ?_
        intro n D γ w hn hD hB hU K hK
        try dsimp only at hB
        clear hU
        replace hn : n < 18 := hn
        try dsimp only
        go_step
        refine hK _ _ { γ with b5 := w.heap.size, d5 := true } rfl (hB.op5 hD rfl) rfl ?_
        try dsimp only [allP, List.getD_cons_zero, List.getD_cons_succ]
        (repeat' apply And.intro) <;> first | exact rfl | exact trivial | exact id | assumption
      · refine opOk_v hA (fun _ => rfl) (fun _ _ => trivial) ?_ ?_
        · intro n D γ w hn h
          replace hn : n < 18 := hn
          try dsimp only at h
          exact { h with f2 := h.f2, f5 := h.f5, f8 := h.f8, f9 := h.f9, f12 := h.f12, f13 := h.f13 }
        intro n D γ w hB hU K hK
        try dsimp only at hB
        try dsimp only
        clear hB hU
        go_step
        exact hK _ rfl
      · refine opOk_v hA (fun _ => rfl) (fun _ _ => trivial) ?_ ?_
        · intro n D γ w hn h
          replace hn : n < 18 := hn
          try dsimp only at h
          exact { h with f2 := h.f2, f5 := h.f5, f8 := h.f8, f9 := h.f9, f12 := h.f12, f13 := h.f13 }
        intro n D γ w hB hU K hK
        try dsimp only at hB
        try dsimp only
        clear hB hU
        go_step
        exact hK _ rfl
      · refine opOk_l hA (fun _ => rfl) ?_
        intro n D γ w hn hD hB hU K hK
        try dsimp only at hB
        clear hU
        replace hn : n < 18 := hn
        try dsimp only
        go_step
        refine (range_any g nums γ.k 0 20 _ hB.ring (by have := hB.k2; omega) (by omega) (by omega) (by omega) (by omega)).mono ?_
        rintro e w7 ⟨v, rfl, ⟨x, rfl, -, -⟩, r7, q7⟩
        refine hK _ _ { γ with k := γ.k + 1, xt := x, d8 := true } rfl (hB.op8 hD r7 q7) rfl ?_
        try dsimp only [allP, List.getD_cons_zero, List.getD_cons_succ]
        (repeat' apply And.intro) <;> first | exact rfl | exact trivial | exact id | assumption
      · refine opOk_l hA (fun _ => rfl) ?_
        intro n D γ w hn hD hB hU K hK
        try dsimp only at hB
        replace hU : (γ.d8 = true) := hU.2.2.1
        replace hn : n < 18 := hn
        try dsimp only
        go_step
        refine hK _ _ { γ with b9 := w.heap.size, d9 := true } rfl (hB.op9 hD hU rfl) rfl ?_
        try dsimp only [allP, List.getD_cons_zero, List.getD_cons_succ]
        (repeat' apply And.intro) <;> first | exact rfl | exact trivial | exact id | assumption
      · refine opOk_v hA (fun _ => rfl) (fun _ _ => trivial) ?_ ?_
        · intro n D γ w hn h
          replace hn : n < 18 := hn
          try dsimp only at h
          exact { h with f2 := h.f2, f5 := h.f5, f8 := h.f8, f9 := h.f9, f12 := h.f12, f13 := h.f13 }
        intro n D γ w hB hU K hK
        try dsimp only at hB
        try dsimp only
        clear hB hU
        go_step
        exact hK _ rfl
      · refine opOk_v hA (fun _ => rfl) (fun _ _ => trivial) ?_ ?_
        · intro n D γ w hn h
          replace hn : n < 18 := hn
          try dsimp only at h
          exact { h with f2 := h.f2, f5 := h.f5, f8 := h.f8, f9 := h.f9, f12 := h.f12, f13 := h.f13 }
        intro n D γ w hB hU K hK
        try dsimp only at hB
        try dsimp only
        clear hB hU
        go_step
        exact hK _ rfl
      · refine opOk_l hA (fun _ => rfl) ?_
        intro n D γ w hn hD hB hU K hK
        try dsimp only at hB
        replace hU : (γ.d8 = true) := hU.2.1
        replace hn : n < 18 := hn
        try dsimp only
        go_step
        refine (next_any g nums γ.k 4 _ hB.ring (by have := hB.k2; omega) (by omega) (by omega)).mono ?_
        rintro e w7 ⟨v, rfl, ⟨x, rfl, -, -⟩, r7, q7⟩
        refine hK _ _ { γ with k := γ.k + 1, xm := x, d12 := true } rfl (hB.op12 hD hU r7 q7) rfl ?_
        try dsimp only [allP, List.getD_cons_zero, List.getD_cons_succ]
        (repeat' apply And.intro) <;> first | exact rfl | exact trivial | exact id | assumption
      · refine opOk_l hA (fun _ => rfl) ?_
        intro n D γ w hn hD hB hU K hK
        try dsimp only at hB
        replace hU : (γ.d8 = true) ∧ (γ.d12 = true) := ⟨hU.2.1, hU.2.2.2.2.1⟩
        replace hn : n < 18 := hn
        try dsimp only
        obtain ⟨h8, h12⟩ := hU
        go_step
        refine hK _ _ { γ with b13 := w.heap.size, d13 := true } rfl (hB.op13 hD h12 rfl) rfl ?_
        try dsimp only [allP, List.getD_cons_zero, List.getD_cons_succ]
        (repeat' apply And.intro) <;> first | exact rfl | exact trivial | exact id | assumption
      · refine opOk_v hA (fun _ => rfl) (fun _ _ => trivial) ?_ ?_
        · intro n D γ w hn h
          replace hn : n < 18 := hn
          try dsimp only at h
          exact { h with f2 := h.f2, f5 := h.f5, f8 := h.f8, f9 := h.f9, f12 := h.f12, f13 := h.f13 }
        intro n D γ w hB hU K hK
        try dsimp only at hB
        try dsimp only
        clear hB hU
        go_step
        exact hK _ rfl
      · refine opOk_v hA (fun _ => rfl) (fun _ _ => trivial) ?_ ?_
        · intro n D γ w hn h
          replace hn : n < 18 := hn
          try dsimp only at h
          exact { h with f2 := h.f2, f5 := h.f5, f8 := h.f8, f9 := h.f9, f12 := h.f12, f13 := h.f13 }
        intro n D γ w hB hU K hK
        try dsimp only at hB
        try dsimp only
        clear hB hU
        go_step
        exact hK _ rfl
      · refine opOk_v hA (fun _ => rfl) (fun _ _ => trivial) ?_ ?_
        · intro n D γ w hn h
          replace hn : n < 18 := hn
          try dsimp only at h
          exact { h with f2 := h.f2, f5 := h.f5, f8 := h.f8, f9 := h.f9, f12 := h.f12, f13 := h.f13 }
        intro n D γ w hB hU K hK
        try dsimp only at hB
        try dsimp only
        clear hB hU
        go_step
        exact hK _ rfl
      · refine opOk_v hA (fun _ => rfl) (fun _ _ => trivial) ?_ ?_
        · intro n D γ w hn h
          replace hn : n < 18 := hn
          try dsimp only at h
          exact { h with f2 := h.f2, f5 := h.f5, f8 := h.f8, f9 := h.f9, f12 := h.f12, f13 := h.f13 }
        intro n D γ w hB hU K hK
        try dsimp only at hB
        try dsimp only
        clear hB hU
        go_step
        exact hK _ rfl
    case hend6_1 =>
      intro n D γ w hn hD hB hF
      replace hF := fun k (hk : k < 18) => hF k hk
      replace hF := (⟨hF 2 (by decide), hF 5 (by decide), hF 8 (by decide), hF 9 (by decide), hF 12 (by decide), hF 13 (by decide)⟩ : _ ∧ _ ∧ _ ∧ _ ∧ _ ∧ _)
      try dsimp only at hB
      try dsimp only at hF
      replace hn : n ≤ 18 := hn
      try dsimp only
      obtain ⟨h2, h5, h8, h9, h12, h13⟩ := hF
      go_wp2_with fail
      go_meet
      case rel => exact ⟨γ.b2, γ.b5, γ.b9, γ.b13, γ.k, γ.xt, γ.xm, rfl, rfl, rfl, rfl, hB.kp, hB.ring, hB.k2, hB.r2 h2, hB.r5 h5, hB.r9 h9, hB.r13 h13⟩
  case rest =>
  rename World => w
  obtain ⟨b2, b5, b9, b13, k3, xt, xm, rfl, rfl, rfl, rfl, kq, ring, kk2, ⟨r2, l2⟩, ⟨r5, l5⟩, ⟨r9, l9⟩, ⟨r13, l13⟩⟩ := hcut
  have kW : Kp W.heap.size none wb w := ⟨kq.os, kq.tape, kq.output, kq.size, fun i hi _ => kq.block i (by have := K0.size; omega) (fun e => by injection e with e; omega)⟩
  have h14 := B14.kp kq B14.lt (sne (by omega))
  have h14l := B14.lt
  have hsz := kq.size
  have st : AkS W w.heap.size g (b8 + 1) b2 b5 b9 b13 V A2 l its cap1 cap2 :=
    ⟨by have := K0.size; omega, hgW, ⟨by omega, by omega⟩, ⟨r2.lt, by omega⟩, ⟨r5.lt, by omega⟩, ⟨r9.lt, by omega⟩, ⟨r13.lt, by omega⟩, hfar, hri.out, n4.out, by omega, hlc.out, hcap.out⟩
  have hfar2 := hfar
  have kh := Kp.new w (.cells #[.int .i64 (⟨0,y,zeroLedger⟩:House).tick, .int .i64 (⟨0,y,zeroLedger⟩:House).real.items, .slice (⟨L,noLV⟩:HV).r.fa (⟨0,y,zeroLedger⟩:House).real.facts.length (⟨L,noLV⟩:HV).r.fc, .slice (⟨L,noLV⟩:HV).r.ma (⟨0,y,zeroLedger⟩:House).real.motions.length (⟨L,noLV⟩:HV).r.mc, .slice (⟨L,noLV⟩:HV).r.sa (⟨0,y,zeroLedger⟩:House).real.sent.length (⟨L,noLV⟩:HV).r.sc, .int .i64 (⟨0,y,zeroLedger⟩:House).drill.items, .slice (⟨L,noLV⟩:HV).d.fa (⟨0,y,zeroLedger⟩:House).drill.facts.length (⟨L,noLV⟩:HV).d.fc, .slice (⟨L,noLV⟩:HV).d.ma (⟨0,y,zeroLedger⟩:House).drill.motions.length (⟨L,noLV⟩:HV).d.mc, .slice (⟨L,noLV⟩:HV).d.sa (⟨0,y,zeroLedger⟩:House).drill.sent.length (⟨L,noLV⟩:HV).d.sc] 43)
  have U : AK W w.heap.size (b8 + 1) b2 b5 b9 b13 V0 V c own A1 A2 cap1 cap2 l its tick xt motion xm L y w :=
    ⟨K0.trans kW, Nat.le_refl _, h14, r2, r5, r9, r13, hca.out.kp kW, hra.out.kp kW, hly.out.kp kW, (hco6.out.turnB kq hfar (by omega)).wide kq.size, ((Lo.of hrd.out.free).turnB kq hri.out).wide kq.size⟩
  have HB := Blk.new w 43 #[.int .i64 (⟨0,y,zeroLedger⟩:House).tick, .int .i64 (⟨0,y,zeroLedger⟩:House).real.items, .slice (⟨L,noLV⟩:HV).r.fa (⟨0,y,zeroLedger⟩:House).real.facts.length (⟨L,noLV⟩:HV).r.fc, .slice (⟨L,noLV⟩:HV).r.ma (⟨0,y,zeroLedger⟩:House).real.motions.length (⟨L,noLV⟩:HV).r.mc, .slice (⟨L,noLV⟩:HV).r.sa (⟨0,y,zeroLedger⟩:House).real.sent.length (⟨L,noLV⟩:HV).r.sc, .int .i64 (⟨0,y,zeroLedger⟩:House).drill.items, .slice (⟨L,noLV⟩:HV).d.fa (⟨0,y,zeroLedger⟩:House).drill.facts.length (⟨L,noLV⟩:HV).d.fc, .slice (⟨L,noLV⟩:HV).d.ma (⟨0,y,zeroLedger⟩:House).drill.motions.length (⟨L,noLV⟩:HV).d.mc, .slice (⟨L,noLV⟩:HV).d.sa (⟨0,y,zeroLedger⟩:House).drill.sent.length (⟨L,noLV⟩:HV).d.sc]
  have HS9 : SAt w.heap.size w ⟨L, noLV⟩ ⟨0, y, zeroLedger⟩ := ⟨(hly.out.kp kW).wide (by have := K0.size; omega), LAt.none _ _⟩
  replace HS9 := HS9.next kh
  replace U := U.kpN st kh
  replace ring := ring.kpN kh
  have hgw : g < w.heap.size := by omega
  clear kh hca hra hly hco6 hrd r2 r5 r9 r13 l2 l5 l9 l13 kW B8 B14 B18 hri K0 hr6 hr7 h18g hb8g hb8w hgb hgs hg5 hg1 hlc hcap n4 hok hfar hfar2 h14l
  have c14 := fun i => h14.cell i
  replace U := Lib.hid U
  replace HS9 := Lib.hid HS9
  replace ring := Lib.hid ring
  replace st := Lib.hid st
  go_upto_region 8 with (fail)
  clear c14 h14
  obtain ⟨b24, hb24⟩ : ∃ q, q = w.heap.size := ⟨_, rfl⟩
  rw [← hb24] at U HB st hgw
  rw [← hb24]
  change Code.wp _ _ _ _ (w.alloc (.cells #[.int .i64 (⟨0,y,zeroLedger⟩:House).tick, .int .i64 (⟨0,y,zeroLedger⟩:House).real.items, .slice (⟨L,noLV⟩:HV).r.fa (⟨0,y,zeroLedger⟩:House).real.facts.length (⟨L,noLV⟩:HV).r.fc, .slice (⟨L,noLV⟩:HV).r.ma (⟨0,y,zeroLedger⟩:House).real.motions.length (⟨L,noLV⟩:HV).r.mc, .slice (⟨L,noLV⟩:HV).r.sa (⟨0,y,zeroLedger⟩:House).real.sent.length (⟨L,noLV⟩:HV).r.sc, .int .i64 (⟨0,y,zeroLedger⟩:House).drill.items, .slice (⟨L,noLV⟩:HV).d.fa (⟨0,y,zeroLedger⟩:House).drill.facts.length (⟨L,noLV⟩:HV).d.fc, .slice (⟨L,noLV⟩:HV).d.ma (⟨0,y,zeroLedger⟩:House).drill.motions.length (⟨L,noLV⟩:HV).d.mc, .slice (⟨L,noLV⟩:HV).d.sa (⟨0,y,zeroLedger⟩:House).drill.sent.length (⟨L,noLV⟩:HV).d.sc] 43))
  generalize w.alloc (.cells #[.int .i64 (⟨0,y,zeroLedger⟩:House).tick, .int .i64 (⟨0,y,zeroLedger⟩:House).real.items, .slice (⟨L,noLV⟩:HV).r.fa (⟨0,y,zeroLedger⟩:House).real.facts.length (⟨L,noLV⟩:HV).r.fc, .slice (⟨L,noLV⟩:HV).r.ma (⟨0,y,zeroLedger⟩:House).real.motions.length (⟨L,noLV⟩:HV).r.mc, .slice (⟨L,noLV⟩:HV).r.sa (⟨0,y,zeroLedger⟩:House).real.sent.length (⟨L,noLV⟩:HV).r.sc, .int .i64 (⟨0,y,zeroLedger⟩:House).drill.items, .slice (⟨L,noLV⟩:HV).d.fa (⟨0,y,zeroLedger⟩:House).drill.facts.length (⟨L,noLV⟩:HV).d.fc, .slice (⟨L,noLV⟩:HV).d.ma (⟨0,y,zeroLedger⟩:House).drill.motions.length (⟨L,noLV⟩:HV).d.mc, .slice (⟨L,noLV⟩:HV).d.sa (⟨0,y,zeroLedger⟩:House).drill.sent.length (⟨L,noLV⟩:HV).d.sc] 43) = w1 at U HB HS9 ring ⊢
  obtain ⟨XH, hXH⟩ : ∃ q, q = (⟨L, noLV⟩ : HV) := ⟨_, rfl⟩
  obtain ⟨xh, hxh⟩ : ∃ q, q = (⟨0, y, zeroLedger⟩ : House) := ⟨_, rfl⟩
  have HB2 : Blk w1 b24 43 #[.int .i64 xh.tick, .int .i64 xh.real.items, .slice XH.r.fa xh.real.facts.length XH.r.fc, .slice XH.r.ma xh.real.motions.length XH.r.mc, .slice XH.r.sa xh.real.sent.length XH.r.sc, .int .i64 xh.drill.items, .slice XH.d.fa xh.drill.facts.length XH.d.fc, .slice XH.d.ma xh.drill.motions.length XH.d.mc, .slice XH.d.sa xh.drill.sent.length XH.d.sc] := by subst hXH hxh; exact HB
  rw [← hXH, ← hxh] at HS9
  clear hb24 HB hXH hxh kq hsz
  obtain ⟨P, hP⟩ : ∃ P : World → Prop, P = AK W b24 (b8 + 1) b2 b5 b9 b13 V0 V c own A1 A2 cap1 cap2 l its tick xt motion xm L y := ⟨_, rfl⟩
  have hPk : ∀ w1 w2, P w1 → Kp b24 (some g) w1 w2 → P w2 := fun w1 w2 h q => by subst hP; exact h.keep st.out q
  have hPs : ∀ w1, P w1 → b24 ≤ w1.heap.size := fun w1 h => by subst hP; exact h.size
  have hPn : ∀ w1 w2, P w1 → Kp w1.heap.size none w1 w2 → P w2 := fun w1 w2 h q => by subst hP; exact h.kpN st.out q
  have hPr : ∀ i, i < 2 → ∃ Vi ci Ai qi li ti mi, li.length ≤ 1000000 ∧ li.length ≤ qi ∧ ∀ w1, P w1 → AF b2 b5 b9 b13 i Vi ci Ai qi li ti mi w1 := fun i hi => by subst hP; exact AK.round st.out hi
  have hPe : ∀ w1, P w1 → Kp W.heap.size none W w1 ∧ Blk w1 (b8 + 1) 41 #[.int .i64 y.items, .slice L.fa y.facts.length L.fc, .slice L.ma y.motions.length L.mc, .slice L.sa y.sent.length L.sc] ∧ LAt w1.heap.size w1 L y := fun w1 h => by subst hP; exact ⟨h.kp, h.h14, h.ly.wide h.kp.size⟩
  have hW24 : W.heap.size ≤ b24 := st.out.wb
  replace U : P w1 := by rw [hP]; exact U.out
  clear hP st
  replace hPk := Lib.hid hPk
  replace hPs := Lib.hid hPs
  replace hPn := Lib.hid hPn
  replace hPr := Lib.hid hPr
  replace hPe := Lib.hid hPe
  replace U := U
  go_wp2_with fail
  go_loopw [25] (fun n wr => ∃ (i k : Nat) (XH : HV) (xh : House), n = .int .i64 (i : Int) ∧ i ≤ 2 ∧ k ≤ k2 + 2 + i ∧ P wr ∧ RingAt wr g nums k ∧ Blk wr b24 43 #[.int .i64 xh.tick, .int .i64 xh.real.items, .slice XH.r.fa xh.real.facts.length XH.r.fc, .slice XH.r.ma xh.real.motions.length XH.r.mc, .slice XH.r.sa xh.real.sent.length XH.r.sc, .int .i64 xh.drill.items, .slice XH.d.fa xh.drill.facts.length XH.d.fc, .slice XH.d.ma xh.drill.motions.length XH.d.mc, .slice XH.d.sa xh.drill.sent.length XH.d.sc] ∧ SAt wr.heap.size wr XH xh) (fun n _ => ((2 : Int) - intOf n).toNat)
  case atStart => exact ⟨0, k3, XH, xh, rfl, by omega, by omega, U, ring.out, HB2, HS9.out⟩
  case round =>
   clear U ring HB2 HS9
   obtain ⟨i, k, XH, xh, rfl, hi, hk, U, ring, HB, HS⟩ := hrel
   by_cases hi' : i < 2
   · have hii : (i : Int) < 2 := by omega
     obtain ⟨Vi, ci, Ai, qi, li, ti, mi, hli, hlq, hF⟩ := hPr.out i hi'
     obtain ⟨Rp, hRp⟩ : ∃ R, R = asOfC ci li ti := ⟨_, rfl⟩
     have hpo := asOfC_ok ci li ti
     rw [← hRp] at hpo
     obtain ⟨pq, er⟩ := Rp
     replace hpo : HouseOk ci li.length pq := hpo
     replace hpo := Lib.hid hpo
     replace hRp := Lib.hid hRp
     replace hF := Lib.hid hF
     go_upto_region 11 with (fail)
     refine ask_r11 P hPn hF U hi' hii hli hlq hRp HB.lt ?_
     intro pb Xp vp w11 v95 v96 v97 v98 v99 v100 v101 v102 v103 v104 v105 v106 v107 v108 v109 v110 HP q11
     replace U := hPn.out _ _ U q11
     replace ring := ring.kpN q11
     replace HB := HB.kpN q11
     replace HS := HS.next q11
     clear q11
     replace HP := Lib.hid HP
     go_upto_region 12 with (fail)
     refine ask_r12 P hPn hF U hi' hii hli hlq hRp HB.lt ?_
     intro qb Xq vq w12 v111 v112 v113 v114 v115 v116 v117 v118 v119 v120 v121 v122 v123 v124 v125 v126 HQ q12
     replace HP := HP.out
     replace U := hPn.out _ _ U q12
     replace ring := ring.kpN q12
     replace HB := HB.kpN q12
     replace HS := HS.next q12
     replace HP := HP.kpN q12
     clear q12
     obtain ⟨Rb, hRb⟩ : ∃ R, R = buildC ci li := ⟨_, rfl⟩
     obtain ⟨Rw, hRw⟩ : ∃ R, R = whyR Rb li mi := ⟨_, rfl⟩
     obtain ⟨wc, we⟩ := Rw
     replace hRb := Lib.hid hRb
     replace hRw := Lib.hid hRw
     go_upto_region 13 with (fail)
     refine ask_r13 (b24 := b24) P hPn hF U hi' hii hli hlq hRb ?_
     intro Aa qa w13 v127 v128 v129 v130 v131 v132 v133 v134 v135 v136 v137 v138 hla q13
     replace U := hPn.out _ _ U q13
     replace ring := ring.kpN q13
     replace HB := HB.kpN q13
     replace HS := HS.next q13
     replace HP := HP.kpN q13
     replace HQ := HQ.kpN q13
     clear q13
     replace hla := Lib.hid hla
     go_upto_region 14 with (fail)
     refine ask_r14 (b24 := b24) P hPn hF U hi' hii hli hlq hRb ?_
     intro Ac qc w14 v139 v140 v141 v142 v143 v144 v145 v146 v147 v148 v149 v150 hlc2 q14
     replace hla := hla.out
     replace U := hPn.out _ _ U q14
     replace ring := ring.kpN q14
     replace HB := HB.kpN q14
     replace HS := HS.next q14
     replace HP := HP.kpN q14
     replace HQ := HQ.kpN q14
     replace hla := hla.next q14
     clear q14
     replace hla := Lib.hid hla
     replace hlc2 := Lib.hid hlc2
     go_upto_region 15 with (fail)
     replace hRw := Lib.hid (show (wc, we) = whyR (buildC ci li) li mi by rw [hRw.out, hRb.out])
     refine ask_r15 (b24 := b24) P hPn hF U hi' hii hli hlq hRw ?_
     intro cb1 w15 v151 v152 v153 v154 v155 v156 v157 v158 v159 v160 v161 v162 v163 v164 v165 v166 C1 q15
     replace hla := hla.out
     replace hlc2 := hlc2.out
     replace U := hPn.out _ _ U q15
     replace ring := ring.kpN q15
     replace HB := HB.kpN q15
     replace HS := HS.next q15
     replace HP := HP.kpN q15
     replace HQ := HQ.kpN q15
     replace hla := hla.next q15
     replace hlc2 := hlc2.next q15
     clear q15
     replace hla := Lib.hid hla
     replace hlc2 := Lib.hid hlc2
     replace C1 := Lib.hid C1
     go_upto_region 16 with (fail)
     refine ask_r16 (b24 := b24) P hPn hF U hi' hii hli hlq hRw ?_
     intro cb2 w16 v167 v168 v169 v170 v171 v172 v173 v174 v175 v176 v177 v178 v179 v180 v181 v182 C2 q16
     replace hla := hla.out
     replace hlc2 := hlc2.out
     replace C1 := C1.out
     replace U := hPn.out _ _ U q16
     replace ring := ring.kpN q16
     replace HB := HB.kpN q16
     replace HS := HS.next q16
     replace HP := HP.kpN q16
     replace HQ := HQ.kpN q16
     replace hla := hla.next q16
     replace hlc2 := hlc2.next q16
     replace C1 := C1.kpN q16
     clear q16
     clear hRw hRp
     have cP := fun i => HP.hl.cell i
     have cQ := fun i => HQ.hl.cell i
     replace U := Lib.hid U
     replace ring := Lib.hid ring
     replace HB := Lib.hid HB
     replace HS := Lib.hid HS
     replace C1 := Lib.hid C1
     replace C2 := Lib.hid C2
     replace hla := Lib.hid hla
     replace hlc2 := Lib.hid hlc2
     go_wp2_with fail
     refine (ref_Same_any Xp Xq pq pq _ (HP.sat hpo.out hli) (HQ.sat hpo.out hli)).mono ?_
     rintro e w17 ⟨rfl, k17⟩
     rw [decide_eq_true rfl]
     have hla2 := hla.out.next k17
     have hlc3 := hlc2.out.next k17
     clear hla hlc2 cP cQ
     go_wp2_with fail
     refine (ref_SameLedger_any (sentLV Aa qa) (sentLV Ac qc) (sentL (sentOf Rb)) (sentL (sentOf Rb)) _ hla2 hlc3).mono ?_
     rintro e w18 ⟨rfl, k18⟩
     rw [decide_eq_true rfl]
     have k78 := k17.thenN k18 (Nat.le_refl _)
     replace U := hPn.out _ _ U.out k78
     replace ring := ring.out.kpN k78
     replace HB := HB.out.kpN k78
     replace HS := HS.out.next k78
     replace HP := HP.kpN k78
     replace HQ := HQ.kpN k78
     replace C1 := C1.out.kpN k78
     replace C2 := C2.out.kpN k78
     clear k17 k18 k78 hla2 hlc3
     have c1 := fun i => C1.cell i
     have c2 := fun i => C2.cell i
     replace U := Lib.hid U
     replace ring := Lib.hid ring
     replace HB := Lib.hid HB
     replace HS := Lib.hid HS
     replace HP := Lib.hid HP
     replace HQ := Lib.hid HQ
     have hx := hpo.out.t0
     have hx2 := hpo.out.t1
     replace hx := Lib.hid hx
     replace hx2 := Lib.hid hx2
     go_upto_region 19 with (fail)
     clear hlq hF hRb C1 C2 c1 c2
     refine ask_r19 HQ.out.hl HB.out (HQ.out.sat hpo.out hli) HS.out ?_
     intro w19 v215 v216 v217 v218 v219 v220 v221 v222 v223 v224 v225 v226 Q5
     clear HS
     replace U := hPn.out _ _ U.out Q5
     replace ring := ring.out.kpN Q5
     replace HB := HB.out.kpN Q5
     replace HQ := HQ.out.kpN Q5
     clear Q5 HP
     have cQ := fun i => HQ.hl.cell i
     have cB := fun i => HB.cell i
     have fB := fun i => HB.frozen i
     replace U := Lib.hid U
     replace ring := Lib.hid ring
     go_upto_region 22 with (fail)
     change Code.wp _ _ _ _ (putH w19 b24 Xq pq)
     clear cQ cB fB
     have gP := putH_grown w19 b24 Xq pq
     obtain ⟨Bq, hBq, HA⟩ := HQ.ha
     have hXq := HQ.hX
     have U2 := hPk.out _ _ U.out (⟨gP.os, gP.tape, gP.output, gP.size, fun i hi _ => gP.block i (by have := HB.lt; omega) (fun e => by injection e with e; omega)⟩ : Kp b24 (some g) w19 (putH w19 b24 Xq pq))
     have ring2 := ring.out.grown gP (fun b e => by injection e with e; omega)
     have HB2 : Blk (putH w19 b24 Xq pq) b24 43 #[.int .i64 pq.tick, .int .i64 pq.real.items, .slice Xq.r.fa pq.real.facts.length Xq.r.fc, .slice Xq.r.ma pq.real.motions.length Xq.r.mc, .slice Xq.r.sa pq.real.sent.length Xq.r.sc, .int .i64 pq.drill.items, .slice Xq.d.fa pq.drill.facts.length Xq.d.fc, .slice Xq.d.ma pq.drill.motions.length Xq.d.mc, .slice Xq.d.sa pq.drill.sent.length Xq.d.sc] := Blk.setR0 HB _ _ _ _ _ _ _ _ _
     have HA2 := HA.set gP (fun k e => by have := (HA.ge k _ e).1; omega)
     clear U ring HB HA HQ gP
     generalize putH w19 b24 Xq pq = w20 at U2 ring2 HB2 HA2 ⊢
     replace hXq := Lib.hid hXq
     have hb24l := HB2.lt
     have hne : some b24 ≠ some g := sne (by omega)
     replace ring2 := ring2.drew
     have hk9 : k ≤ 1000000 := by omega
     refine ask_r22 HB2 ring2 hk9 hne hx hx2 ?_
     intro xx w21 w22 v229 v230 v231 v232 v233 v234 e22 r21 Q5
     subst e22
     have HB3 := HB2.kp Q5 hb24l hne
     replace U2 := Lib.hid U2
     replace HA2 := Lib.hid HA2
     have U3 := hPk.out _ _ U2.out ((Q5.mono (Nat.le_of_lt hb24l)).setNew (p := ⟨b24, 0, none⟩) (Nat.le_refl _) (.int .i64 (pq.tick + xx)))
     have ring3 := r21.big (p := ⟨b24, 0, none⟩) hgw (.int .i64 (pq.tick + xx))
     have HB4 : Blk (w21.setCell ⟨b24, 0, none⟩ (.int .i64 (pq.tick + xx))) b24 43 #[.int .i64 (⟨pq.tick+xx,pq.real,pq.drill⟩:House).tick, .int .i64 (⟨pq.tick+xx,pq.real,pq.drill⟩:House).real.items, .slice Xq.r.fa (⟨pq.tick+xx,pq.real,pq.drill⟩:House).real.facts.length Xq.r.fc, .slice Xq.r.ma (⟨pq.tick+xx,pq.real,pq.drill⟩:House).real.motions.length Xq.r.mc, .slice Xq.r.sa (⟨pq.tick+xx,pq.real,pq.drill⟩:House).real.sent.length Xq.r.sc, .int .i64 (⟨pq.tick+xx,pq.real,pq.drill⟩:House).drill.items, .slice Xq.d.fa (⟨pq.tick+xx,pq.real,pq.drill⟩:House).drill.facts.length Xq.d.fc, .slice Xq.d.ma (⟨pq.tick+xx,pq.real,pq.drill⟩:House).drill.motions.length Xq.d.mc, .slice Xq.d.sa (⟨pq.tick+xx,pq.real,pq.drill⟩:House).drill.sent.length Xq.d.sc] := HB3.set_ 0 (.int .i64 (pq.tick + xx))
     have HA3 := (HA2.out.turn Q5 (by omega)).set (grown_set w21 b24 0 (.int .i64 (pq.tick + xx))) (fun k e => by have := (HA2.out.ge k _ e).1; omega)
     have HS4 : SAt (w21.setCell ⟨b24, 0, none⟩ (.int .i64 (pq.tick + xx))).heap.size (w21.setCell ⟨b24, 0, none⟩ (.int .i64 (pq.tick + xx))) Xq ⟨pq.tick + xx, pq.real, pq.drill⟩ := by
       have := HA3.sat hpo.out hli
       rw [← hXq.out] at this
       exact ⟨this.r, this.d⟩
     generalize w21.setCell ⟨b24, 0, none⟩ (.int .i64 (pq.tick + xx)) = w22 at U3 ring3 HB4 HS4 ⊢
     clear HB3 HA3 HA2 HB2 U2 ring2 r21 Q5
     replace U3 := Lib.hid U3
     replace ring3 := Lib.hid ring3
     replace HB4 := Lib.hid HB4
     replace HS4 := Lib.hid HS4
     go_wp2
     go_roundw
     case rel => exact ⟨i + 1, k + 1, Xq, ⟨pq.tick + xx, pq.real, pq.drill⟩, by congr 1, by omega, by omega, U3.out, ring3.out, HB4.out, HS4.out⟩
     case measure => simp [intOf] <;> omega

   · have hii : ¬ (i : Int) < 2 := by omega
     obtain ⟨K9, B14, LY⟩ := hPe.out _ U
     clear HB HS ring U
     have c14 := fun i => B14.cell i
     replace K9 := Lib.hid K9
     go_wp2_with fail
     refine (council_Of_any L y target _ LY).mono ?_
     rintro e w2 ⟨ko, bo, rfl, hof, q2⟩
     obtain ⟨rfl, rfl⟩ := of_same hof
     clear hof
     obtain ⟨ko, hko⟩ : ∃ q, q = knD y.facts target := ⟨_, rfl⟩
     obtain ⟨bo, hbo⟩ : ∃ q, q = (y.facts.find? fun k => k.target == target).isSome := ⟨_, rfl⟩
     rw [← hko, ← hbo]
     replace hko := Lib.hid hko
     replace hbo := Lib.hid hbo
     have kk := Kp.new w2 (.cells #[.int .i64 ko.target, .int .i64 ko.level, .int .i64 ko.item, .int .i64 ko.chance.least, .int .i64 ko.chance.most, .int .i64 ko.chance.all] 68)
     have KB1 := Blk.new w2 68 #[.int .i64 ko.target, .int .i64 ko.level, .int .i64 ko.item, .int .i64 ko.chance.least, .int .i64 ko.chance.most, .int .i64 ko.chance.all]
     replace K9 := Lib.hid ((K9.out.thenN q2 (Nat.le_refl _)).thenN kk (Nat.le_refl _))
     replace B14 := (B14.kpN q2).kpN kk
     replace LY := (LY.next q2).next kk
     clear c14 q2 kk
     go_upto_region 24 with (fail)
     obtain ⟨o1, ho1⟩ : ∃ q, q = w2.heap.size := ⟨_, rfl⟩
     rw [← ho1] at KB1
     rw [← ho1]
     change Code.wp _ _ _ _ (w2.alloc (.cells #[.int .i64 ko.target, .int .i64 ko.level, .int .i64 ko.item, .int .i64 ko.chance.least, .int .i64 ko.chance.most, .int .i64 ko.chance.all] 68))
     generalize w2.alloc (.cells #[.int .i64 ko.target, .int .i64 ko.level, .int .i64 ko.item, .int .i64 ko.chance.least, .int .i64 ko.chance.most, .int .i64 ko.chance.all] 68) = w3 at KB1 K9 B14 LY ⊢
     clear ho1
     have c14 := fun i => B14.cell i
     go_wp2_with fail
     refine (ref_Of_any target y.items L.fa L.fc y.facts L.ma y.motions.length L.mc L.sa y.sent.length L.sc _ LY.f.rdN LY.fs).mono ?_
     rintro e w4 ⟨rfl, q4⟩
     rw [← hko.out, ← hbo.out]
     have kk := Kp.new w4 (.cells #[.int .i64 ko.target, .int .i64 ko.level, .int .i64 ko.item, .int .i64 ko.chance.least, .int .i64 ko.chance.most, .int .i64 ko.chance.all] 68)
     have KB2 := Blk.new w4 68 #[.int .i64 ko.target, .int .i64 ko.level, .int .i64 ko.item, .int .i64 ko.chance.least, .int .i64 ko.chance.most, .int .i64 ko.chance.all]
     replace KB1 := (KB1.kpN q4).kpN kk
     replace K9 := Lib.hid ((K9.out.thenN q4 (Nat.le_refl _)).thenN kk (Nat.le_refl _))
     replace B14 := (B14.kpN q4).kpN kk
     replace LY := (LY.next q4).next kk
     clear c14 q4 kk hko hbo
     go_upto_region 25 with (fail)
     obtain ⟨o2, ho2⟩ : ∃ q, q = w4.heap.size := ⟨_, rfl⟩
     rw [← ho2] at KB2
     rw [← ho2]
     change Code.wp _ _ _ _ (w4.alloc (.cells #[.int .i64 ko.target, .int .i64 ko.level, .int .i64 ko.item, .int .i64 ko.chance.least, .int .i64 ko.chance.most, .int .i64 ko.chance.all] 68))
     generalize w4.alloc (.cells #[.int .i64 ko.target, .int .i64 ko.level, .int .i64 ko.item, .int .i64 ko.chance.least, .int .i64 ko.chance.most, .int .i64 ko.chance.all] 68) = w5 at KB1 KB2 K9 B14 LY ⊢
     clear ho2
     have c14 := fun i => B14.cell i
     obtain ⟨pi, hpi⟩ : ∃ q, q = passI (passP target act) y.motions y.motions.length := ⟨_, rfl⟩
     go_wp2_with fail
     refine (council_Passed_any L y target act _ LY).mono ?_
     rw [← hpi]
     rintro e w6 ⟨rfl, q6⟩
     replace KB1 := KB1.kpN q6
     replace KB2 := KB2.kpN q6
     replace K9 := Lib.hid (K9.out.thenN q6 (Nat.le_refl _))
     replace B14 := B14.kpN q6
     replace LY := LY.next q6
     clear c14 q6
     replace hpi := Lib.hid hpi
     have c14 := fun i => B14.cell i
     go_wp2_with fail
     refine (ref_Passed_any L y target act _ LY).mono ?_
     rw [← hpi.out]
     rintro e w7 ⟨rfl, q7⟩
     replace KB1 := KB1.kpN q7
     replace KB2 := KB2.kpN q7
     replace K9 := Lib.hid (K9.out.thenN q7 (Nat.le_refl _))
     clear c14 q7 B14 LY hpi
     have c1 := fun i => KB1.cell i
     have c2 := fun i => KB2.cell i
     obtain ⟨pd, hpd⟩ : ∃ q, q = decide (0 ≤ pi) := ⟨_, rfl⟩
     rw [← hpd]
     clear hpd
     go_wp2_with fail
     refine (awake_any _).mono ?_
     rintro e w8 ⟨rfl, q8⟩
     have K8 := K9.out.thenN q8 (Nat.le_refl _)
     clear K9 q8 c1 c2 KB1 KB2
     go_wp2
     go_ret
     exact ⟨rfl, K8⟩
end Go.Proofs.YtogpgnljomchcaaGreat
