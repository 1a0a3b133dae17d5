/- CouncilDays: the walk. -/
import Derived.Test.YtogpgnljomchcaaGreatWy
import Derived.Test.YtogpgnljomchcaaGreatSameAll
import Derived.Test.YtogpgnljomchcaaGreatOi
import Derived.Test.YtogpgnljomchcaaGreatTree
import Derived.Deep.DeepCutAuto
import Derived.Deep.CutBlock
namespace Go.Proofs.YtogpgnljomchcaaGreat
open Go.RowKit

/-- a council in a cell, its items -/
structure DS (W : World) (cb : Nat) (V : CV) (c : Council) (A : Option Addr) (l : List CItem) (w : World) : Prop where
  cl : Blk w cb 28 #[.slice V.am c.members.length V.cm, .slice V.al c.laws.length V.cl, .slice V.av c.levels.length V.cv]
  ca : CAt w.heap.size w V c
  rd : Rd none w 9 encItem A l.length l
  kp : Kp W.heap.size none W w
/-- a house in a cell, to be read only -/
structure HS (hb : Nat) (X : HV) (x : House) (w : World) : Prop where
  hl : Blk w hb 43 #[.int .i64 x.tick, .int .i64 x.real.items, .slice X.r.fa x.real.facts.length X.r.fc, .slice X.r.ma x.real.motions.length X.r.mc, .slice X.r.sa x.real.sent.length X.r.sc, .int .i64 x.drill.items, .slice X.d.fa x.drill.facts.length X.d.fc, .slice X.d.ma x.drill.motions.length X.d.mc, .slice X.d.sa x.drill.sent.length X.d.sc]
  sa : SAt w.heap.size w X x
/-- with the real items of the list -/
structure DR (W : World) (cb hb : Nat) (V : CV) (c : Council) (A : Option Addr) (l : List CItem) (X : HV) (x : House) (A2 : Option Addr) (rl : List CItem) (w : World) : Prop where
  d : DS W cb V c A l w
  h : HS hb X x w
  r : Rd none w 9 encItem A2 rl.length rl
/-- with a motion -/
structure DM (W : World) (cb hb mb : Nat) (V : CV) (c : Council) (A : Option Addr) (l : List CItem) (X : HV) (x : House) (A2 : Option Addr) (rl : List CItem) (m : Motion) (v : Value) (w : World) : Prop where
  t : DR W cb hb V c A l X x A2 rl w
  m : Blk w mb 52 #[.int .i64 m.target, .int .i64 m.act, .int .i64 m.opened, .int .i64 m.state, .int .i64 m.yes, .int .i64 m.no, v, .int .i64 m.fact]
section
variable {W w w' : World} {cb hb mb : Nat} {V : CV} {c : Council} {A A2 : Option Addr} {l rl : List CItem} {X : HV} {x : House} {m : Motion} {v : Value}
theorem DS.kpN (s : DS W cb V c A l w) (q : Kp w.heap.size none w w') : DS W cb V c A l w' := ⟨s.cl.kpN q, s.ca.next q, s.rd.kpN q, s.kp.thenN q (Nat.le_refl _)⟩
theorem HS.kpN (s : HS hb X x w) (q : Kp w.heap.size none w w') : HS hb X x w' := ⟨s.hl.kpN q, s.sa.next q⟩
theorem DR.kpN (s : DR W cb hb V c A l X x A2 rl w) (q : Kp w.heap.size none w w') : DR W cb hb V c A l X x A2 rl w' := ⟨s.d.kpN q, s.h.kpN q, s.r.kpN q⟩
theorem DM.kpN (s : DM W cb hb mb V c A l X x A2 rl m v w) (q : Kp w.heap.size none w w') : DM W cb hb mb V c A l X x A2 rl m v w' := ⟨s.t.kpN q, s.m.kpN q⟩
theorem Rd.take {α : Type} {row : Option Nat} {w : World} {sz : Nat} {enc : α → List Value} {A : Option Addr} {xs : List α} (h : Rd row w sz enc A xs.length xs) (n : Nat) (hn : n ≤ xs.length) : Rd row w sz enc A (xs.take n).length (xs.take n) := by
  refine ⟨rfl, fun h0 => ?_⟩
  rw [List.length_take] at h0
  obtain ⟨b, o, e, hb, hr, hc⟩ := h.2 (by omega)
  refine ⟨b, o, e, hb, hr, fun i hi j v hv => hc i (by rw [List.length_take] at hi; omega) j v ?_⟩
  rw [← hv, List.getElem_take]
theorem put_days {nb B n : Nat} {wb w : World} {v : Ky → Value} {a : House} {c : Council} (Q : Kp wb.heap.size none wb w) (YB : Blk w nb 43 zeroCells) (HA : HAt B w v a) (hap : ∀ k, (v k).ownBlock ≠ some nb) (hB : wb.heap.size ≤ nb) (X : HV) (hX : X = hvOf v) (ho : HouseOk c n a) (hn : n ≤ 1000000) :
    ∃ wq, wq = putH w nb X a ∧ Kp wb.heap.size none wb wq ∧ HS nb X a wq :=
  ⟨_, rfl, Q.grownN (putH_grown _ _ _ _) Q.size hB, ⟨Blk.setR0 YB _ _ _ _ _ _ _ _ _, by
    rw [hX]
    exact (HA.set (putH_grown _ _ _ _) hap).sat ho hn⟩⟩
end
set_option maxRecDepth 20000 in
set_option maxHeartbeats 8000000 in
theorem law_CouncilDays_any (A : Option Addr) (cap : Nat) (nums : List Int) (tick : Int) (w : World) (h : Rd none w 1 (fun x => [Value.int .i64 x]) A nums.length nums) (hn : nums.length ≤ 17592186044416) :
    Calls Tryz.prog 3 #[.slice A nums.length cap, .int .i64 tick] w fun e w' => e = .returned (.bool true) ∧ Kp w.heap.size none w w' := by
  go_enter Tryz.func3, Tryz.ntmps3
  go_wp2_with fail
  refine (made_cap A cap nums w h hn).mono ?_
  rintro e w1 ⟨g, V, c, A2, cap2, l, x, k, rfl, hok, hl, hD, hC, -, hrd, -, -, -, K1, hlc⟩
  clear h hn
  have CB := Blk.new w1 28 #[.slice V.am c.members.length V.cm, .slice V.al c.laws.length V.cl, .slice V.av c.levels.length V.cv]
  have kc := Kp.new w1 (.cells #[.slice V.am c.members.length V.cm, .slice V.al c.laws.length V.cl, .slice V.av c.levels.length V.cv] 28)
  replace hC := hC.next kc
  replace hrd := hrd.free.kpN kc
  replace K1 := K1.thenN kc (Nat.le_refl _)
  go_upto_region 2 with (fail)
  obtain ⟨cb, hcb⟩ : ∃ q, q = w1.heap.size := ⟨_, rfl⟩
  rw [← hcb] at CB ⊢
  change Code.wp _ _ _ _ (w1.alloc (.cells #[.slice V.am c.members.length V.cm, .slice V.al c.laws.length V.cl, .slice V.av c.levels.length V.cv] 28))
  generalize w1.alloc (.cells #[.slice V.am c.members.length V.cm, .slice V.al c.laws.length V.cl, .slice V.av c.levels.length V.cv] 28) = w2 at CB hC hrd K1 ⊢
  clear hcb kc
  have T : DS w cb V c A2 l w2 := ⟨CB, hC, hrd, K1⟩
  clear CB hC hrd K1
  go_wp2_with fail
  refine (mod64_any tick 60 _ (by omega) (by omega)).mono ?_
  rintro e w3 ⟨rfl, hw3⟩
  rw [← hw3]
  clear hw3 w3
  obtain ⟨t, ht⟩ : ∃ q, q = tick % 60 := ⟨_, rfl⟩
  rw [← ht]
  have ht0 : ¬ (t < 0 ∨ 1073741824 < t) := by omega
  clear ht
  obtain ⟨n, hnu⟩ : ∃ q, q = (upTo l t).length := ⟨_, rfl⟩
  have hnl : n ≤ l.length := by rw [hnu]; exact upTo_len l t
  have hin : ∀ i (hi : i < l.length), i < n → l[i].tick ≤ t := fun i hi h => upTo_in l t i (by omega) hi
  have hst : ∀ (hi : n < l.length), ¬ l[n].tick ≤ t := fun hi => by
    have := upTo_stop t l (by omega)
    simpa only [hnu] using this
  have hut : upTo l t = l.take n := by rw [hnu]; exact upTo_take l t
  clear hnu
  obtain ⟨y, hDy⟩ := hD.take n
  have hby := build_done hok.chk (by rw [List.length_take]; omega) hDy
  have has : asOfC c l t = (y, 0) := by
    unfold asOfC
    rw [if_neg (by simpa using hok.chk), if_neg (by omega), if_neg ht0, hut, hby]
  have hbx := build_done hok.chk (by omega) hD
  clear hut hDy
  have hln : (l.take n).length = n := by rw [List.length_take]; omega
  replace has := Lib.hid has
  replace hby := Lib.hid hby
  replace hbx := Lib.hid hbx
  replace hin := Lib.hid hin
  replace hst := Lib.hid hst
  replace hln := Lib.hid hln
  have hlc' : l.length ≤ 16 := hl
  replace hD := Lib.hid hD
  go_upto_block 0 with (fail)
  go_cut [8] (fun n8 wx => n8 = .int .i64 (n : Int) ∧ wx = w2)
  case first =>
    go_wp2_with fail
    go_loopw [8] (fun n8 wr => ∃ j : Nat, n8 = .int .i64 (j : Int) ∧ j ≤ n ∧ wr = w2) (fun n8 _ => ((l.length : Int) - intOf n8).toNat)
    case atStart => exact ⟨0, rfl, Nat.zero_le _, rfl⟩
    case round =>
      obtain ⟨j, rfl, hj, hwr⟩ := hrel
      subst hwr
      by_cases hj2 : j < l.length
      · have hjj : (j : Int) < (l.length : Int) := by omega
        obtain ⟨b, o, eA, -, -, hc⟩ := T.rd.at_ (by omega)
        have c1 : wr.cell? ⟨b, o + j * 9 + 1, none⟩ = some (.int .i64 l[j].tick) := by rw [Nat.add_assoc]; exact hc j hj2 1 _ rfl
        have hin2 := hin.out j hj2
        have hst2 : j = n → ¬ l[j].tick ≤ t := fun e => by subst e; have := hst.out hj2; omega
        generalize l[j].tick = tk at c1 hin2 hst2
        subst eA
        clear hc
        by_cases hjn : j = n
        · have htk := hst2 hjn
          subst hjn
          clear hin2 hst2
          replace T := Lib.hid T
          go_wp2_with fail
          go_meet
          case rel => first | exact ⟨rfl, rfl⟩ | exact ⟨rfl, trivial⟩
        · have htk := hin2 (by omega)
          clear hin2 hst2
          replace T := Lib.hid T
          go_wp2
          go_roundw
          case rel => exact ⟨j + 1, by congr 1, by omega, by trivial⟩
          case measure => simp [intOf]; omega
      · have hjj : ¬ (j : Int) < (l.length : Int) := by omega
        have hjn : j = n := by omega
        subst hjn
        replace T := Lib.hid T
        go_wp2_with fail
        go_meet
        case rel => first | exact ⟨rfl, rfl⟩ | exact ⟨rfl, trivial⟩
  case rest =>
  rename World => w3
  obtain ⟨rfl, hw3⟩ := hcut
  subst hw3
  clear hin hst
  have cc := fun i => T.cl.cell i
  go_upto_region 6 with (fail)
  go_wp2_with fail
  refine (council_AsOf_any V c A2 cap2 l t _ T.ca T.rd (by omega) hlc).mono ?_
  rw [has.out]
  rintro e w4 ⟨Y, rfl, hs4, k4⟩
  simp only at hs4 ⊢
  replace T := T.kpN k4
  clear k4 cc has
  have kh := Kp.new w4 (.cells #[.int .i64 y.tick, .int .i64 y.real.items, .slice Y.r.fa y.real.facts.length Y.r.fc, .slice Y.r.ma y.real.motions.length Y.r.mc, .slice Y.r.sa y.real.sent.length Y.r.sc, .int .i64 y.drill.items, .slice Y.d.fa y.drill.facts.length Y.d.fc, .slice Y.d.ma y.drill.motions.length Y.d.mc, .slice Y.d.sa y.drill.sent.length Y.d.sc] 43)
  replace T := T.kpN kh
  have HY : HS w4.heap.size Y y (w4.alloc (.cells #[.int .i64 y.tick, .int .i64 y.real.items, .slice Y.r.fa y.real.facts.length Y.r.fc, .slice Y.r.ma y.real.motions.length Y.r.mc, .slice Y.r.sa y.real.sent.length Y.r.sc, .int .i64 y.drill.items, .slice Y.d.fa y.drill.facts.length Y.d.fc, .slice Y.d.ma y.drill.motions.length Y.d.mc, .slice Y.d.sa y.drill.sent.length Y.d.sc] 43)) := ⟨Blk.new w4 _ _, hs4.next kh⟩
  clear kh hs4
  go_upto_region 7 with (fail)
  obtain ⟨yb, hyb⟩ : ∃ q, q = w4.heap.size := ⟨_, rfl⟩
  rw [← hyb] at HY
  rw [← hyb]
  change Code.wp _ _ _ _ (w4.alloc (.cells #[.int .i64 y.tick, .int .i64 y.real.items, .slice Y.r.fa y.real.facts.length Y.r.fc, .slice Y.r.ma y.real.motions.length Y.r.mc, .slice Y.r.sa y.real.sent.length Y.r.sc, .int .i64 y.drill.items, .slice Y.d.fa y.drill.facts.length Y.d.fc, .slice Y.d.ma y.drill.motions.length Y.d.mc, .slice Y.d.sa y.drill.sent.length Y.d.sc] 43))
  generalize w4.alloc (.cells #[.int .i64 y.tick, .int .i64 y.real.items, .slice Y.r.fa y.real.facts.length Y.r.fc, .slice Y.r.ma y.real.motions.length Y.r.mc, .slice Y.r.sa y.real.sent.length Y.r.sc, .int .i64 y.drill.items, .slice Y.d.fa y.drill.facts.length Y.d.fc, .slice Y.d.ma y.drill.motions.length Y.d.mc, .slice Y.d.sa y.drill.sent.length Y.d.sc] 43) = w5 at T HY ⊢
  clear hyb
  have hcall := fun W (s : DS w cb V c A2 l W) => build_see V c A2 cap2 (l.take n) W s.ca (s.rd.take n hnl) (by rw [hln.out]; omega)
  simp only [hln.out, hby.out] at hcall
  have hyo : HouseOk c (l.take n).length y := by have := buildC_ok c (l.take n); rwa [hby.out] at this
  replace hyo := Lib.hid hyo
  have hn16 : (l.take n).length ≤ 1000000 := by rw [hln.out]; omega
  replace hn16 := Lib.hid hn16
  replace hcall := Lib.hid hcall
  have hc1 : (n : Int) ≤ (cap2 : Int) := by omega
  have hc2 : n ≤ cap2 := by omega
  go_cut [11, 13] (fun p e wx => ∃ zb Z, p = .pointer (some ⟨zb, 0, none⟩) ∧ e = .int .i64 0 ∧ DS w cb V c A2 l wx ∧ HS yb Y y wx ∧ HS zb Z y wx)
  case first =>
    have Q5 := (Kp.refl w5.heap.size none w5).drew
    obtain ⟨S0, hS⟩ : ∃ S0 : World → Prop, S0 = fun w' => Blk w' cb 28 #[.slice V.am c.members.length V.cm, .slice V.al c.laws.length V.cl, .slice V.av c.levels.length V.cv] := ⟨_, rfl⟩
    have hS0 : ∀ w', S0 w' ↔ Blk w' cb 28 #[.slice V.am c.members.length V.cm, .slice V.al c.laws.length V.cl, .slice V.av c.levels.length V.cv] := fun w' => by rw [hS]
    clear hS
    have cc := fun (q : Ev S0) i => ((hS0 _).1 q.h).cell i
    replace T := Lib.hid T
    have hevT := ev_true
    refine wp_region_tr S0 (.st 0 1 (.st 1 0 (.st 2 0 (.st 3 0 (.b2 4 (.st 5 0 (.st 6 0 (.st 7 0 (.st 8 0 (.st 9 2 (.st 10 2 (.st 11 0 (.st 12 0 .nil)))))))) 9 (.st 4 2 (.st 5 0 (.st 6 0 (.st 7 0 (.st 8 0 (.st 10 2 (.st 11 0 (.st 12 0 .nil))))))))))))) (by kernel_rfl) (by kernel_rfl) ((hS0 _).2 (T.out.kpN Q5).cl) ?_
    intro _hev
    iterate 4 (first | (refine wpTr_v rfl rfl ?_; intro K hK; go_big_quiet_op; go_big_quiet_on) | (refine wpTr_q rfl rfl ?_; intro K hK; go_big_quiet_op; go_big_quiet_on) | refine wpTr_s rfl rfl ?_)
    refine wpTr_b2 ?_ ?_
    · refine wpOne_l rfl rfl ?_; intro K hK
      go_step
      refine (hcall.out _ (T.out.kpN Q5)).mono ?_
      rintro e w7 ⟨vz, Z, hZ, rfl, HZ, -, k7⟩
      simp only
      replace hZ := Lib.hid hZ
      replace Q5 := Q5.thenN k7 (Nat.le_refl _)
      try (have hap : ∀ k, (vz k).ownBlock ≠ some nb := fun k e => by have := (HZ.ge k _ e).1; have := NB.lt; omega)
      try (replace NB := NB.kpN k7)
      refine hK _ _ ((hS0 _).2 (T.out.kpN Q5).cl) ?_
      clear hK K k7
      iterate 4 (first | (refine wpTr_v rfl rfl ?_; intro K hK; go_big_quiet_op; go_big_quiet_on) | (refine wpTr_q rfl rfl ?_; intro K hK; go_big_quiet_op; go_big_quiet_on) | refine wpTr_s rfl rfl ?_)
      refine wpTr_l rfl rfl ?_; intro K hK
      have NB := Blk.new w7 43 zeroCells
      have ky := Kp.new w7 (.cells zeroCells 43)
      go_step
      obtain ⟨nb, hnb⟩ : ∃ q, q = w7.heap.size := ⟨_, rfl⟩
      have hnb4 : w5.heap.size ≤ nb := by rw [hnb]; exact Q5.size
      replace Q5 := Q5.thenN ky (Nat.le_refl _)
      have hap : ∀ k, (vz k).ownBlock ≠ some nb := fun k e => by have := (HZ.ge k _ e).2; omega
      replace HZ := HZ.kpN ky
      rw [← hnb] at NB ⊢
      clear hnb ky
      change K _ (World.alloc w7 (.cells zeroCells 43))
      generalize World.alloc w7 (.cells zeroCells 43) = w8 at NB Q5 HZ ⊢
      refine hK _ _ ((hS0 _).2 (T.out.kpN Q5).cl) ?_
      clear hK K
      refine wpTr_l rfl rfl ?_; intro K hK
      obtain ⟨wq, hwq, Q9, HZ9⟩ := put_days Q5 NB HZ hap hnb4 Z hZ.out hyo.out hn16.out
      replace hwq := Lib.hid hwq
      have NB9 : Blk _ nb 43 #[.int .i64 0, .int .i64 0, .slice none 0 0, .slice none 0 0, .slice none 0 0, .int .i64 0, .slice none 0 0, .slice none 0 0, .slice none 0 0] := NB
      have cB := fun i => NB9.cell i
      have fB := fun i => NB.frozen i
      go_step
      change K _ (putH _ nb Z y)
      rw [← hwq.out]
      refine hK _ _ ((hS0 _).2 (T.out.kpN Q9).cl) ?_
      clear hK K cB fB hwq NB9 NB HZ hap Q5
      iterate 2 (first | (refine wpTr_v rfl rfl ?_; intro K hK; go_big_quiet_op; go_big_quiet_on) | (refine wpTr_q rfl rfl ?_; intro K hK; go_big_quiet_op; go_big_quiet_on) | refine wpTr_s rfl rfl ?_)
      refine wpTr_nil ?_
      clear hevT _hev
      go_wp2_with fail
      go_meet
      case rel => exact ⟨nb, Z, rfl, rfl, T.out.kpN Q9, HY.kpN Q9, HZ9⟩
    · refine wpOne_l rfl rfl ?_; intro K hK
      generalize w5.drew = wz at Q5 ⊢
      have NB := Blk.new wz 43 zeroCells
      have ky := Kp.new wz (.cells zeroCells 43)
      go_step
      obtain ⟨nb, hnb⟩ : ∃ q, q = wz.heap.size := ⟨_, rfl⟩
      have hnb4 : w5.heap.size ≤ nb := by rw [hnb]; exact Q5.size
      replace Q5 := Q5.thenN ky (Nat.le_refl _)
      rw [← hnb] at NB ⊢
      clear hnb ky
      change K _ (World.alloc wz (.cells zeroCells 43))
      generalize World.alloc wz (.cells zeroCells 43) = w8 at NB Q5 ⊢
      refine hK _ _ ((hS0 _).2 (T.out.kpN Q5).cl) ?_
      clear hK K
      refine wpTr_l rfl rfl ?_; intro K hK
      go_step
      refine (hcall.out _ (T.out.kpN Q5)).mono ?_
      rintro e w7 ⟨vz, Z, hZ, rfl, HZ, -, k7⟩
      simp only
      replace hZ := Lib.hid hZ
      replace Q5 := Q5.thenN k7 (Nat.le_refl _)
      try (have hap : ∀ k, (vz k).ownBlock ≠ some nb := fun k e => by have := (HZ.ge k _ e).1; have := NB.lt; omega)
      try (replace NB := NB.kpN k7)
      refine hK _ _ ((hS0 _).2 (T.out.kpN Q5).cl) ?_
      clear hK K k7
      iterate 4 (first | (refine wpTr_v rfl rfl ?_; intro K hK; go_big_quiet_op; go_big_quiet_on) | (refine wpTr_q rfl rfl ?_; intro K hK; go_big_quiet_op; go_big_quiet_on) | refine wpTr_s rfl rfl ?_)
      refine wpTr_l rfl rfl ?_; intro K hK
      obtain ⟨wq, hwq, Q9, HZ9⟩ := put_days Q5 NB HZ hap hnb4 Z hZ.out hyo.out hn16.out
      replace hwq := Lib.hid hwq
      have NB9 : Blk _ nb 43 #[.int .i64 0, .int .i64 0, .slice none 0 0, .slice none 0 0, .slice none 0 0, .int .i64 0, .slice none 0 0, .slice none 0 0, .slice none 0 0] := NB
      have cB := fun i => NB9.cell i
      have fB := fun i => NB.frozen i
      go_step
      change K _ (putH _ nb Z y)
      rw [← hwq.out]
      refine hK _ _ ((hS0 _).2 (T.out.kpN Q9).cl) ?_
      clear hK K cB fB hwq NB9 NB HZ hap Q5
      iterate 2 (first | (refine wpTr_v rfl rfl ?_; intro K hK; go_big_quiet_op; go_big_quiet_on) | (refine wpTr_q rfl rfl ?_; intro K hK; go_big_quiet_op; go_big_quiet_on) | refine wpTr_s rfl rfl ?_)
      refine wpTr_nil ?_
      clear hevT _hev
      go_wp2_with fail
      go_meet
      case rel => exact ⟨nb, Z, rfl, rfl, T.out.kpN Q9, HY.kpN Q9, HZ9⟩
  case rest =>
  clear T HY
  rename World => w6
  obtain ⟨zb, Z, rfl, rfl, T, HY, HZ⟩ := hcut
  clear hcall hc1 hc2 hyo hn16 hby
  have cc := fun i => T.cl.cell i
  replace HY := Lib.hid HY
  replace HZ := Lib.hid HZ
  go_wp2_with fail
  refine (build_see V c A2 cap2 l _ T.ca T.rd (by omega)).mono ?_
  rw [hbx.out]
  rintro e w7 ⟨v, X, -, rfl, -, hs, k7⟩
  simp only at hs ⊢
  replace T := T.kpN k7
  replace HY := HY.out.kpN k7
  replace HZ := HZ.out.kpN k7
  clear k7 cc
  have kh := Kp.new w7 (.cells #[.int .i64 x.tick, .int .i64 x.real.items, .slice X.r.fa x.real.facts.length X.r.fc, .slice X.r.ma x.real.motions.length X.r.mc, .slice X.r.sa x.real.sent.length X.r.sc, .int .i64 x.drill.items, .slice X.d.fa x.drill.facts.length X.d.fc, .slice X.d.ma x.drill.motions.length X.d.mc, .slice X.d.sa x.drill.sent.length X.d.sc] 43)
  replace T := T.kpN kh
  replace HY := HY.kpN kh
  replace HZ := HZ.kpN kh
  have HX : HS w7.heap.size X x (w7.alloc (.cells #[.int .i64 x.tick, .int .i64 x.real.items, .slice X.r.fa x.real.facts.length X.r.fc, .slice X.r.ma x.real.motions.length X.r.mc, .slice X.r.sa x.real.sent.length X.r.sc, .int .i64 x.drill.items, .slice X.d.fa x.drill.facts.length X.d.fc, .slice X.d.ma x.drill.motions.length X.d.mc, .slice X.d.sa x.drill.sent.length X.d.sc] 43)) := ⟨Blk.new w7 _ _, hs.next kh⟩
  clear kh hs
  go_upto_region 9 with (fail)
  obtain ⟨hb, hhb⟩ : ∃ q, q = w7.heap.size := ⟨_, rfl⟩
  rw [← hhb] at HX
  rw [← hhb]
  change Code.wp _ _ _ _ (w7.alloc (.cells #[.int .i64 x.tick, .int .i64 x.real.items, .slice X.r.fa x.real.facts.length X.r.fc, .slice X.r.ma x.real.motions.length X.r.mc, .slice X.r.sa x.real.sent.length X.r.sc, .int .i64 x.drill.items, .slice X.d.fa x.drill.facts.length X.d.fc, .slice X.d.ma x.drill.motions.length X.d.mc, .slice X.d.sa x.drill.sent.length X.d.sc] 43))
  generalize w7.alloc (.cells #[.int .i64 x.tick, .int .i64 x.real.items, .slice X.r.fa x.real.facts.length X.r.fc, .slice X.r.ma x.real.motions.length X.r.mc, .slice X.r.sa x.real.sent.length X.r.sc, .int .i64 x.drill.items, .slice X.d.fa x.drill.facts.length X.d.fc, .slice X.d.ma x.drill.motions.length X.d.mc, .slice X.d.sa x.drill.sent.length X.d.sc] 43) = w8 at T HX HY HZ ⊢
  clear hhb
  have cy := fun i => HY.hl.cell i
  have cz := fun i => HZ.hl.cell i
  go_wp2_with fail
  refine (council_Same_any Y Z y y _ HY.sa HZ.sa).mono ?_
  rintro e w9 ⟨rfl, k9⟩
  rw [decide_eq_true rfl]
  replace T := T.kpN k9
  replace HX := HX.kpN k9
  clear k9 cy cz HY HZ
  go_wp2_with fail
  refine (onlyItems_any false A2 cap2 l _ T.rd (by omega)).mono ?_
  rintro e wa ⟨A3, cap3, rfl, R3, ka⟩
  obtain ⟨rl, hrl⟩ : ∃ q, q = realOf l := ⟨_, rfl⟩
  have hrl2 : (l.filter fun x => x.drill == false) = rl := hrl.symm
  rw [hrl2] at R3 ⊢
  have U : DR w cb hb V c A2 l X x A3 rl wa := ⟨T.kpN ka, HX.kpN ka, R3⟩
  clear T HX R3 ka hrl2
  have hrll : rl.length ≤ 16 := by have := realOf_len l; rw [hrl]; omega
  have hml : x.real.motions.length ≤ 64 := ((hD.out.ok (councilOk_of hok.chk) (zeroHouse_ok c 0)).led false).mlen
  have hdm := fun i hi hs => day_mot (c := c) (l := l) (x := x) hbx.out i hi hs
  rw [← hrl] at hdm
  replace hdm := Lib.hid hdm
  replace hD := Lib.hid hD
  clear hlc hnl ht0 hln hrl
  go_wp2_with fail
  go_loopw [18] (fun n wr => ∃ i : Nat, n = .int .i64 (i : Int) ∧ i ≤ x.real.motions.length ∧ DR w cb hb V c A2 l X x A3 rl wr) (fun n _ => ((x.real.motions.length : Int) - intOf n).toNat)
  case atStart => exact ⟨0, rfl, Nat.zero_le _, U⟩
  case round =>
    clear U
    obtain ⟨i, rfl, hi, U⟩ := hrel
    have ch := fun i => U.h.hl.cell i
    by_cases hi' : i < x.real.motions.length
    · have hii : (i : Int) < (x.real.motions.length : Int) := by omega
      go_upto_block 3 with (fail)
      clear ch
      go_cut [18] (fun n wx => n = .int .i64 (i : Int) ∧ DR w cb hb V c A2 l X x A3 rl wx)
      case first =>
        have ch := fun i => U.h.hl.cell i
        obtain ⟨b, o, Am, qm, eM, -, -, hc⟩ := U.h.sa.r.mot i hi'
        have hday := hdm.out i hi'
        obtain ⟨m, hm⟩ : ∃ m, m = x.real.motions[i] := ⟨_, rfl⟩
        rw [← hm] at hc hday
        clear hm
        obtain ⟨⟨fa, fc, ma, mc, sa, sc, vo⟩, xd⟩ := X
        have eM' : ma = some ⟨b, o, none⟩ := eM
        subst eM'
        clear eM
        obtain ⟨vl, hvl⟩ : ∃ q, q = m.voted.length := ⟨_, rfl⟩
        rw [← hvl] at hc
        clear hvl
        have c0 : wr.cell? ⟨b, o + i * 8, none⟩ = some (.int .i64 m.target) := hc 0 _ rfl
        have c1 : wr.cell? ⟨b, o + i * 8 + 1, none⟩ = some (.int .i64 m.act) := by rw [Nat.add_assoc]; exact hc 1 _ rfl
        have c2 : wr.cell? ⟨b, o + i * 8 + 2, none⟩ = some (.int .i64 m.opened) := by rw [Nat.add_assoc]; exact hc 2 _ rfl
        have c3 : wr.cell? ⟨b, o + i * 8 + 3, none⟩ = some (.int .i64 m.state) := by rw [Nat.add_assoc]; exact hc 3 _ rfl
        have c4 : wr.cell? ⟨b, o + i * 8 + 4, none⟩ = some (.int .i64 m.yes) := by rw [Nat.add_assoc]; exact hc 4 _ rfl
        have c5 : wr.cell? ⟨b, o + i * 8 + 5, none⟩ = some (.int .i64 m.no) := by rw [Nat.add_assoc]; exact hc 5 _ rfl
        have c6 : wr.cell? ⟨b, o + i * 8 + 6, none⟩ = some (.slice Am vl qm) := by rw [Nat.add_assoc]; exact hc 6 _ rfl
        have c7 : wr.cell? ⟨b, o + i * 8 + 7, none⟩ = some (.int .i64 m.fact) := by rw [Nat.add_assoc]; exact hc 7 _ rfl
        clear hc
        replace hday := Lib.hid hday
        have MB := Blk.new wr 52 #[.int .i64 m.target, .int .i64 m.act, .int .i64 m.opened, .int .i64 m.state, .int .i64 m.yes, .int .i64 m.no, (.slice Am vl qm), .int .i64 m.fact]
        have km := Kp.new wr (.cells #[.int .i64 m.target, .int .i64 m.act, .int .i64 m.opened, .int .i64 m.state, .int .i64 m.yes, .int .i64 m.no, (.slice Am vl qm), .int .i64 m.fact] 52)
        replace U := U.kpN km
        clear km
        go_upto_region 16 with (fail)
        clear c0 c1 c2 c3 c4 c5 c6 c7 ch
        obtain ⟨mb, hmb⟩ : ∃ q, q = wr.heap.size := ⟨_, rfl⟩
        rw [← hmb] at MB ⊢
        clear hmb
        change Code.wp _ _ _ _ (wr.alloc (.cells #[.int .i64 m.target, .int .i64 m.act, .int .i64 m.opened, .int .i64 m.state, .int .i64 m.yes, .int .i64 m.no, (.slice Am vl qm), .int .i64 m.fact] 52))
        generalize wr.alloc (.cells #[.int .i64 m.target, .int .i64 m.act, .int .i64 m.opened, .int .i64 m.state, .int .i64 m.yes, .int .i64 m.no, (.slice Am vl qm), .int .i64 m.fact] 52) = w5 at U MB ⊢
        have M : DM w cb hb mb V c A2 l ⟨⟨fa, fc, some ⟨b, o, none⟩, mc, sa, sc, vo⟩, xd⟩ x A3 rl m (.slice Am vl qm) w5 := ⟨U, MB⟩
        clear U MB
        have cm := fun i => M.m.cell i
        by_cases hs : m.state = 1
        · have hs' : (m.state == 1) = true := by simpa using hs
          clear hs
          replace M := Lib.hid M
          go_wp2_with fail
          go_meet
          case rel => exact ⟨rfl, M.out.t⟩
        have hs' : (m.state == 1) = false := by simpa using hs
        obtain ⟨j, hj, hf, hk, ha, hw, hr⟩ := hday.out hs
        have hr2 := Lib.hid (DayK.start hr)
        clear hday hs hr
        have cc := fun i => M.t.d.cl.cell i
        replace hf := Lib.hid hf
        replace hk := Lib.hid hk
        replace ha := Lib.hid ha
        replace hw := Lib.hid hw
        go_wp2_with fail
        refine (council_Why_any V c A2 cap2 l i _ M.t.d.ca M.t.d.rd (by omega)).mono ?_
        rw [hbx.out, hw.out]
        rintro e w10 ⟨rfl, k10⟩
        simp only
        replace M := M.kpN k10
        clear k10 cc cm hw hs'
        obtain ⟨it, hit⟩ : ∃ q, q = rl[j] := ⟨_, rfl⟩
        rw [← hit] at hk ha ⊢
        replace hit := Lib.hid hit
        have WB := Blk.new w10 34 #[.int .i64 it.chance.least, .int .i64 it.chance.most, .int .i64 it.chance.all]
        have kw := Kp.new w10 (.cells #[.int .i64 it.chance.least, .int .i64 it.chance.most, .int .i64 it.chance.all] 34)
        replace M := M.kpN kw
        clear kw
        replace M := Lib.hid M
        go_upto_region 18 with (fail)
        obtain ⟨wb, hwb⟩ : ∃ q, q = w10.heap.size := ⟨_, rfl⟩
        rw [← hwb] at WB ⊢
        clear hwb
        change Code.wp _ _ _ _ (w10.alloc (.cells #[.int .i64 it.chance.least, .int .i64 it.chance.most, .int .i64 it.chance.all] 34))
        generalize w10.alloc (.cells #[.int .i64 it.chance.least, .int .i64 it.chance.most, .int .i64 it.chance.all] 34) = w11 at M WB ⊢
        have kd := (Kp.refl w11.heap.size none w11).drew
        have M2 := M.out.kpN kd
        have e1 := M2.m
        have e2 := WB.kpN kd
        rw [hf.out] at e1
        obtain ⟨b3, o3, eA, -, -, hc3⟩ := M2.t.r.at_ (by omega)
        have hc4 := fun k u => hc3 j hj k u
        rw [← hit.out] at hc4
        have e3 : w11.drew.cell? ⟨b3, o3 + j * 9, none⟩ = some (.int .i64 1) := by rw [← hk.out]; exact hc4 0 _ rfl
        have e4 : w11.drew.cell? ⟨b3, o3 + j * 9 + 3, none⟩ = some (.int .i64 m.target) := by rw [← ha.out, Nat.add_assoc]; exact hc4 3 _ rfl
        have e5 : w11.drew.cell? ⟨b3, o3 + j * 9 + 6, none⟩ = some (.int .i64 it.chance.least) := by rw [Nat.add_assoc]; exact hc4 6 _ rfl
        have e6 : w11.drew.cell? ⟨b3, o3 + j * 9 + 7, none⟩ = some (.int .i64 it.chance.most) := by rw [Nat.add_assoc]; exact hc4 7 _ rfl
        have e7 : w11.drew.cell? ⟨b3, o3 + j * 9 + 8, none⟩ = some (.int .i64 it.chance.all) := by rw [Nat.add_assoc]; exact hc4 8 _ rfl
        subst eA
        clear hc3 hc4 kd WB hit hk ha
        have hj0 : ¬ (j : Int) < 0 := by omega
        have hj1 : (j : Int) < (rl.length : Int) := by omega
        have hj2 : ¬ (rl.length : Int) ≤ (j : Int) := by omega
        replace M2 := Lib.hid M2
        clear M
        have M := M2
        clear M2
        obtain ⟨S, hS⟩ : ∃ S : Nat → World → Prop, S = fun n w' => if n = 0 then Blk w' mb 52 #[.int .i64 m.target, .int .i64 m.act, .int .i64 m.opened, .int .i64 m.state, .int .i64 m.yes, .int .i64 m.no, .slice Am vl qm, .int .i64 (j : Int)] ∧ Blk w' wb 34 #[.int .i64 it.chance.least, .int .i64 it.chance.most, .int .i64 it.chance.all] ∧ w'.cell? ⟨b3, o3 + j * 9, none⟩ = some (.int .i64 1) ∧ w'.cell? ⟨b3, o3 + j * 9 + 3, none⟩ = some (.int .i64 m.target) ∧ w'.cell? ⟨b3, o3 + j * 9 + 6, none⟩ = some (.int .i64 it.chance.least) ∧ w'.cell? ⟨b3, o3 + j * 9 + 7, none⟩ = some (.int .i64 it.chance.most) ∧ w'.cell? ⟨b3, o3 + j * 9 + 8, none⟩ = some (.int .i64 it.chance.all) else True := ⟨_, rfl⟩
        have hS0 : ∀ w', S 0 w' ↔ (Blk w' mb 52 #[.int .i64 m.target, .int .i64 m.act, .int .i64 m.opened, .int .i64 m.state, .int .i64 m.yes, .int .i64 m.no, .slice Am vl qm, .int .i64 (j : Int)] ∧ Blk w' wb 34 #[.int .i64 it.chance.least, .int .i64 it.chance.most, .int .i64 it.chance.all] ∧ w'.cell? ⟨b3, o3 + j * 9, none⟩ = some (.int .i64 1) ∧ w'.cell? ⟨b3, o3 + j * 9 + 3, none⟩ = some (.int .i64 m.target) ∧ w'.cell? ⟨b3, o3 + j * 9 + 6, none⟩ = some (.int .i64 it.chance.least) ∧ w'.cell? ⟨b3, o3 + j * 9 + 7, none⟩ = some (.int .i64 it.chance.most) ∧ w'.cell? ⟨b3, o3 + j * 9 + 8, none⟩ = some (.int .i64 it.chance.all)) := fun w' => by rw [hS]; exact Iff.rfl
        have hS1 : ∀ w', S 1 w' ↔ (True) := fun w' => by rw [hS]; exact Iff.rfl
        clear hS
        have cm := fun (q : Ev (S 0)) i => ((hS0 _).1 q.h).1.cell i
        have cw := fun (q : Ev (S 0)) i => ((hS0 _).1 q.h).2.1.cell i
        have d0 := fun (q : Ev (S 0)) => ((hS0 _).1 q.h).2.2.1
        have d3 := fun (q : Ev (S 0)) => ((hS0 _).1 q.h).2.2.2.1
        have d6 := fun (q : Ev (S 0)) => ((hS0 _).1 q.h).2.2.2.2.1
        have d7 := fun (q : Ev (S 0)) => ((hS0 _).1 q.h).2.2.2.2.2.1
        have d8 := fun (q : Ev (S 0)) => ((hS0 _).1 q.h).2.2.2.2.2.2
        have hevT := ev_true
        refine wp_region_ord S [(0, 0), (1, 0), (2, 0), (3, 0), (4, 1), (5, 0), (6, 0), (7, 0), (8, 0), (9, 1), (10, 0), (11, 0), (12, 0), (13, 0), (14, 0), (15, 0), (16, 0), (17, 1), (18, 0), (19, 0), (20, 1), (21, 0), (22, 0), (23, 0), (24, 0), (25, 0), (26, 1), (27, 0), (28, 0), (29, 1), (30, 0), (31, 1), (32, 0), (33, 0), (34, 0), (35, 0), (36, 0), (37, 1), (38, 0), (39, 0), (40, 1), (41, 1), (42, 0), (43, 0)] [] (by kernel_rfl) (by kernel_rfl) ((hS0 _).2 ⟨e1, e2, e3, e4, e5, e6, e7⟩) ?_
        intro _hev
        iterate 44 (first | (refine wpOrd_v rfl rfl ?_; intro K hK; go_big_quiet_op; go_big_quiet_on) | (refine wpOrd_q rfl rfl ?_; intro K hK; go_big_quiet_op; go_big_quiet_on) | refine wpOrd_s (by decide) rfl rfl ?_)
        refine wpOrd_nil ?_
        clear hevT _hev
        clear hS0 hS1 S cm cw d0 d3 d6 d7 d8 e2 e3 e4 e5 e6 e7
        have cm := fun i => e1.cell i
        go_upto_block 4 with (fail)
        clear cm e1 hj0 hj1 hj2
        generalize w11.drew = w12 at M ⊢
        go_wp2_with fail
        go_loopw [22] (fun n wr => ∃ k : Nat, n = .int .i64 (k : Int) ∧ k ≤ rl.length ∧ DayK rl i m k ∧ DM w cb hb mb V c A2 l ⟨⟨fa, fc, some ⟨b, o, none⟩, mc, sa, sc, vo⟩, xd⟩ x (some ⟨b3, o3, none⟩) rl m (.slice Am vl qm) wr) (fun n _ => ((rl.length : Int) - intOf n).toNat)
        case atStart => exact ⟨j + 1, by congr 1, by omega, hr2.out, M.out⟩
        case round =>
          clear M hr2
          rename World => w13
          obtain ⟨k, rfl, hk, hdk, M⟩ := hrel
          by_cases hk' : k < rl.length
          · have hkk : (k : Int) < (rl.length : Int) := by omega
            obtain ⟨b4, o4, eA, -, -, hc4⟩ := M.t.r.at_ (by omega)
            simp only [Option.some.injEq, Addr.mk.injEq] at eA
            obtain ⟨rfl, rfl, -⟩ := eA
            have hnx := hdk.next hk'
            have c0 : w13.cell? ⟨b3, o3 + k * 9, none⟩ = some (.int .i64 rl[k].kind) := hc4 k hk' 0 _ rfl
            have c3 : w13.cell? ⟨b3, o3 + k * 9 + 3, none⟩ = some (.int .i64 rl[k].a) := by rw [Nat.add_assoc]; exact hc4 k hk' 3 _ rfl
            clear hc4 hdk
            generalize rl[k] = it2 at hnx c0 c3
            replace hnx := Lib.hid hnx
            have cm := fun i => M.m.cell i
            by_cases h1 : it2.kind = 4
            · have h1' : (it2.kind == 4) = true := by simpa using h1
              by_cases h2 : it2.a = (i : Int)
              · have h2' : (it2.a == (i : Int)) = true := by simpa using h2
                replace M := Lib.hid M
                clear h1 h2 hnx
                go_wp2_with fail
                go_meet
                case rel => exact ⟨rfl, M.out.t⟩
              · have h2' : (it2.a == (i : Int)) = false := by simpa using h2
                clear h1
                obtain ⟨hk2, hor⟩ := hnx.out (fun e => h2 e.2)
                replace hk2 := Lib.hid hk2
                have kd := (Kp.refl w13.heap.size none w13).drew
                have M2 := M.kpN kd
                have e1 := M2.m
                have e3 : w13.drew.cell? ⟨b3, o3 + k * 9, none⟩ = some (.int .i64 it2.kind) := c0
                have e4 : w13.drew.cell? ⟨b3, o3 + k * 9 + 3, none⟩ = some (.int .i64 it2.a) := c3
                replace M2 := Lib.hid M2
                replace hor := Lib.hid hor
                clear M kd
                go_upto_region 24 with (fail)
                clear c0 c3 cm
                obtain ⟨S, hS⟩ : ∃ S : Nat → World → Prop, S = fun n w' => if n = 0 then Blk w' mb 52 #[.int .i64 m.target, .int .i64 m.act, .int .i64 m.opened, .int .i64 m.state, .int .i64 m.yes, .int .i64 m.no, (.slice Am vl qm), .int .i64 m.fact] ∧ w'.cell? ⟨b3, o3 + k * 9, none⟩ = some (.int .i64 it2.kind) ∧ w'.cell? ⟨b3, o3 + k * 9 + 3, none⟩ = some (.int .i64 it2.a) else True := ⟨_, rfl⟩
                have hS0 : ∀ w', S 0 w' ↔ (Blk w' mb 52 #[.int .i64 m.target, .int .i64 m.act, .int .i64 m.opened, .int .i64 m.state, .int .i64 m.yes, .int .i64 m.no, (.slice Am vl qm), .int .i64 m.fact] ∧ w'.cell? ⟨b3, o3 + k * 9, none⟩ = some (.int .i64 it2.kind) ∧ w'.cell? ⟨b3, o3 + k * 9 + 3, none⟩ = some (.int .i64 it2.a)) := fun w' => by rw [hS]; exact Iff.rfl
                have hS1 : ∀ w', S 1 w' ↔ (True) := fun w' => by rw [hS]; exact Iff.rfl
                clear hS
                have cm := fun (q : Ev (S 0)) i => ((hS0 _).1 q.h).1.cell i
                have d0 := fun (q : Ev (S 0)) => ((hS0 _).1 q.h).2.1
                have d3 := fun (q : Ev (S 0)) => ((hS0 _).1 q.h).2.2
                by_cases g4 : m.state = 4
                · have g4' : (m.state != 4) = false := by simp [g4]
                  clear g4 hor
                  have hevT := ev_true
                  refine wp_region_ord S [(0, 0), (1, 1), (2, 0), (3, 0), (4, 0), (5, 0), (6, 0), (7, 0), (8, 1), (9, 0), (10, 0), (11, 0), (12, 0), (13, 0), (14, 0), (15, 0), (16, 1), (17, 0), (18, 1), (19, 0), (20, 0)] [] (by kernel_rfl) (by kernel_rfl) ((hS0 _).2 ⟨e1, e3, e4⟩) ?_
                  intro _hev
                  first | (refine wpOrd_v rfl rfl ?_; intro K hK; go_big_quiet_op; go_big_quiet_on) | (refine wpOrd_q rfl rfl ?_; intro K hK; go_big_quiet_op; go_big_quiet_on)
                  first | (refine wpOrd_v rfl rfl ?_; intro K hK; go_big_quiet_op; go_big_quiet_on) | (refine wpOrd_q rfl rfl ?_; intro K hK; go_big_quiet_op; go_big_quiet_on)
                  first | (refine wpOrd_v rfl rfl ?_; intro K hK; go_big_quiet_op; go_big_quiet_on) | (refine wpOrd_q rfl rfl ?_; intro K hK; go_big_quiet_op; go_big_quiet_on)
                  first | (refine wpOrd_v rfl rfl ?_; intro K hK; go_big_quiet_op; go_big_quiet_on) | (refine wpOrd_q rfl rfl ?_; intro K hK; go_big_quiet_op; go_big_quiet_on)
                  refine wpOrd_s2 (by decide) rfl rfl rfl ?_; intro K hK; go_big_quiet_op; go_big_quiet_on
                  refine wpOrd_s2 (by decide) rfl rfl rfl ?_; intro K hK; go_big_quiet_op; go_big_quiet_on
                  refine wpOrd_s2 (by decide) rfl rfl rfl ?_; intro K hK; go_big_quiet_op; go_big_quiet_on
                  refine wpOrd_s2 (by decide) rfl rfl rfl ?_; intro K hK; go_big_quiet_op; go_big_quiet_on
                  refine wpOrd_s2 (by decide) rfl rfl rfl ?_; intro K hK; go_big_quiet_op; go_big_quiet_on
                  refine wpOrd_s2 (by decide) rfl rfl rfl ?_; intro K hK; go_big_quiet_op; go_big_quiet_on
                  first | (refine wpOrd_v rfl rfl ?_; intro K hK; go_big_quiet_op; go_big_quiet_on) | (refine wpOrd_q rfl rfl ?_; intro K hK; go_big_quiet_op; go_big_quiet_on)
                  first | (refine wpOrd_v rfl rfl ?_; intro K hK; go_big_quiet_op; go_big_quiet_on) | (refine wpOrd_q rfl rfl ?_; intro K hK; go_big_quiet_op; go_big_quiet_on)
                  refine wpOrd_s2 (by decide) rfl rfl rfl ?_; intro K hK; go_big_quiet_op; go_big_quiet_on
                  refine wpOrd_s2 (by decide) rfl rfl rfl ?_; intro K hK; go_big_quiet_op; go_big_quiet_on
                  refine wpOrd_s2 (by decide) rfl rfl rfl ?_; intro K hK; go_big_quiet_op; go_big_quiet_on
                  refine wpOrd_s2 (by decide) rfl rfl rfl ?_; intro K hK; go_big_quiet_op; go_big_quiet_on
                  refine wpOrd_s2 (by decide) rfl rfl rfl ?_; intro K hK; go_big_quiet_op; go_big_quiet_on
                  refine wpOrd_s2 (by decide) rfl rfl rfl ?_; intro K hK; go_big_quiet_op; go_big_quiet_on
                  refine wpOrd_s2 (by decide) rfl rfl rfl ?_; intro K hK; go_big_quiet_op; go_big_quiet_on
                  refine wpOrd_s2 (by decide) rfl rfl rfl ?_; intro K hK; go_big_quiet_op; go_big_quiet_on
                  first | (refine wpOrd_v rfl rfl ?_; intro K hK; go_big_quiet_op; go_big_quiet_on) | (refine wpOrd_q rfl rfl ?_; intro K hK; go_big_quiet_op; go_big_quiet_on)
                  refine wpOrd_nil ?_
                  clear hevT _hev
                  clear hS0 hS1 S cm d0 d3 e1 e3 e4
                  go_wp2
                  go_roundw
                  case rel => exact ⟨k + 1, by congr 1, by omega, hk2.out, M2.out⟩
                  case measure => simp [intOf] <;> omega
                · have g4' : (m.state != 4) = true := by simpa using g4
                  by_cases g1 : it2.kind = 1
                  · have g1' : (it2.kind == 1) = true := by simpa using g1
                    have g5 : (it2.a == m.target) = false := by
                      rcases hor.out with h | h
                      · exact absurd h g4
                      · simpa using fun e => h ⟨g1, e⟩
                    clear g4 g1 hor
                    have hevT := ev_true
                    refine wp_region_ord S [(0, 0), (1, 1), (2, 0), (3, 0), (4, 0), (5, 0), (6, 0), (7, 0), (8, 1), (9, 0), (10, 0), (11, 0), (12, 0), (13, 0), (14, 0), (15, 0), (16, 1), (17, 0), (18, 1), (19, 0), (20, 0)] [] (by kernel_rfl) (by kernel_rfl) ((hS0 _).2 ⟨e1, e3, e4⟩) ?_
                    intro _hev
                    iterate 21 (first | (refine wpOrd_v rfl rfl ?_; intro K hK; go_big_quiet_op; go_big_quiet_on) | (refine wpOrd_q rfl rfl ?_; intro K hK; go_big_quiet_op; go_big_quiet_on) | refine wpOrd_s (by decide) rfl rfl ?_)
                    refine wpOrd_nil ?_
                    clear hevT _hev
                    clear hS0 hS1 S cm d0 d3 e1 e3 e4
                    go_wp2
                    go_roundw
                    case rel => exact ⟨k + 1, by congr 1, by omega, hk2.out, M2.out⟩
                    case measure => simp [intOf] <;> omega
                  · have g1' : (it2.kind == 1) = false := by simpa using g1
                    clear g4 g1 hor
                    have hevT := ev_true
                    refine wp_region_ord S [(0, 0), (1, 1), (2, 0), (3, 0), (4, 0), (5, 0), (6, 0), (7, 0), (8, 1), (9, 0), (10, 0), (11, 0), (12, 0), (13, 0), (14, 0), (15, 0), (16, 1), (17, 0), (18, 1), (19, 0), (20, 0)] [] (by kernel_rfl) (by kernel_rfl) ((hS0 _).2 ⟨e1, e3, e4⟩) ?_
                    intro _hev
                    first | (refine wpOrd_v rfl rfl ?_; intro K hK; go_big_quiet_op; go_big_quiet_on) | (refine wpOrd_q rfl rfl ?_; intro K hK; go_big_quiet_op; go_big_quiet_on)
                    first | (refine wpOrd_v rfl rfl ?_; intro K hK; go_big_quiet_op; go_big_quiet_on) | (refine wpOrd_q rfl rfl ?_; intro K hK; go_big_quiet_op; go_big_quiet_on)
                    first | (refine wpOrd_v rfl rfl ?_; intro K hK; go_big_quiet_op; go_big_quiet_on) | (refine wpOrd_q rfl rfl ?_; intro K hK; go_big_quiet_op; go_big_quiet_on)
                    first | (refine wpOrd_v rfl rfl ?_; intro K hK; go_big_quiet_op; go_big_quiet_on) | (refine wpOrd_q rfl rfl ?_; intro K hK; go_big_quiet_op; go_big_quiet_on)
                    first | (refine wpOrd_v rfl rfl ?_; intro K hK; go_big_quiet_op; go_big_quiet_on) | (refine wpOrd_q rfl rfl ?_; intro K hK; go_big_quiet_op; go_big_quiet_on)
                    first | (refine wpOrd_v rfl rfl ?_; intro K hK; go_big_quiet_op; go_big_quiet_on) | (refine wpOrd_q rfl rfl ?_; intro K hK; go_big_quiet_op; go_big_quiet_on)
                    first | (refine wpOrd_v rfl rfl ?_; intro K hK; go_big_quiet_op; go_big_quiet_on) | (refine wpOrd_q rfl rfl ?_; intro K hK; go_big_quiet_op; go_big_quiet_on)
                    first | (refine wpOrd_v rfl rfl ?_; intro K hK; go_big_quiet_op; go_big_quiet_on) | (refine wpOrd_q rfl rfl ?_; intro K hK; go_big_quiet_op; go_big_quiet_on)
                    first | (refine wpOrd_v rfl rfl ?_; intro K hK; go_big_quiet_op; go_big_quiet_on) | (refine wpOrd_q rfl rfl ?_; intro K hK; go_big_quiet_op; go_big_quiet_on)
                    first | (refine wpOrd_v rfl rfl ?_; intro K hK; go_big_quiet_op; go_big_quiet_on) | (refine wpOrd_q rfl rfl ?_; intro K hK; go_big_quiet_op; go_big_quiet_on)
                    first | (refine wpOrd_v rfl rfl ?_; intro K hK; go_big_quiet_op; go_big_quiet_on) | (refine wpOrd_q rfl rfl ?_; intro K hK; go_big_quiet_op; go_big_quiet_on)
                    first | (refine wpOrd_v rfl rfl ?_; intro K hK; go_big_quiet_op; go_big_quiet_on) | (refine wpOrd_q rfl rfl ?_; intro K hK; go_big_quiet_op; go_big_quiet_on)
                    refine wpOrd_s2 (by decide) rfl rfl rfl ?_; intro K hK; go_big_quiet_op; go_big_quiet_on
                    refine wpOrd_s2 (by decide) rfl rfl rfl ?_; intro K hK; go_big_quiet_op; go_big_quiet_on
                    refine wpOrd_s2 (by decide) rfl rfl rfl ?_; intro K hK; go_big_quiet_op; go_big_quiet_on
                    refine wpOrd_s2 (by decide) rfl rfl rfl ?_; intro K hK; go_big_quiet_op; go_big_quiet_on
                    refine wpOrd_s2 (by decide) rfl rfl rfl ?_; intro K hK; go_big_quiet_op; go_big_quiet_on
                    refine wpOrd_s2 (by decide) rfl rfl rfl ?_; intro K hK; go_big_quiet_op; go_big_quiet_on
                    refine wpOrd_s2 (by decide) rfl rfl rfl ?_; intro K hK; go_big_quiet_op; go_big_quiet_on
                    refine wpOrd_s2 (by decide) rfl rfl rfl ?_; intro K hK; go_big_quiet_op; go_big_quiet_on
                    first | (refine wpOrd_v rfl rfl ?_; intro K hK; go_big_quiet_op; go_big_quiet_on) | (refine wpOrd_q rfl rfl ?_; intro K hK; go_big_quiet_op; go_big_quiet_on)
                    refine wpOrd_nil ?_
                    clear hevT _hev
                    clear hS0 hS1 S cm d0 d3 e1 e3 e4
                    go_wp2
                    go_roundw
                    case rel => exact ⟨k + 1, by congr 1, by omega, hk2.out, M2.out⟩
                    case measure => simp [intOf] <;> omega
            · have h1' : (it2.kind == 4) = false := by simpa using h1
              obtain ⟨hk2, hor⟩ := hnx.out (fun e => h1 e.1)
              replace hk2 := Lib.hid hk2
              have kd := (Kp.refl w13.heap.size none w13).drew
              have M2 := M.kpN kd
              have e1 := M2.m
              have e3 : w13.drew.cell? ⟨b3, o3 + k * 9, none⟩ = some (.int .i64 it2.kind) := c0
              have e4 : w13.drew.cell? ⟨b3, o3 + k * 9 + 3, none⟩ = some (.int .i64 it2.a) := c3
              replace M2 := Lib.hid M2
              replace hor := Lib.hid hor
              clear M kd
              go_upto_region 24 with (fail)
              clear c0 c3 cm
              obtain ⟨S, hS⟩ : ∃ S : Nat → World → Prop, S = fun n w' => if n = 0 then Blk w' mb 52 #[.int .i64 m.target, .int .i64 m.act, .int .i64 m.opened, .int .i64 m.state, .int .i64 m.yes, .int .i64 m.no, (.slice Am vl qm), .int .i64 m.fact] ∧ w'.cell? ⟨b3, o3 + k * 9, none⟩ = some (.int .i64 it2.kind) ∧ w'.cell? ⟨b3, o3 + k * 9 + 3, none⟩ = some (.int .i64 it2.a) else True := ⟨_, rfl⟩
              have hS0 : ∀ w', S 0 w' ↔ (Blk w' mb 52 #[.int .i64 m.target, .int .i64 m.act, .int .i64 m.opened, .int .i64 m.state, .int .i64 m.yes, .int .i64 m.no, (.slice Am vl qm), .int .i64 m.fact] ∧ w'.cell? ⟨b3, o3 + k * 9, none⟩ = some (.int .i64 it2.kind) ∧ w'.cell? ⟨b3, o3 + k * 9 + 3, none⟩ = some (.int .i64 it2.a)) := fun w' => by rw [hS]; exact Iff.rfl
              have hS1 : ∀ w', S 1 w' ↔ (True) := fun w' => by rw [hS]; exact Iff.rfl
              clear hS
              have cm := fun (q : Ev (S 0)) i => ((hS0 _).1 q.h).1.cell i
              have d0 := fun (q : Ev (S 0)) => ((hS0 _).1 q.h).2.1
              have d3 := fun (q : Ev (S 0)) => ((hS0 _).1 q.h).2.2
              by_cases g4 : m.state = 4
              · have g4' : (m.state != 4) = false := by simp [g4]
                clear g4 hor
                have hevT := ev_true
                refine wp_region_ord S [(0, 0), (1, 1), (2, 0), (3, 0), (4, 0), (5, 0), (6, 0), (7, 0), (8, 1), (9, 0), (10, 0), (11, 0), (12, 0), (13, 0), (14, 0), (15, 0), (16, 1), (17, 0), (18, 1), (19, 0), (20, 0)] [] (by kernel_rfl) (by kernel_rfl) ((hS0 _).2 ⟨e1, e3, e4⟩) ?_
                intro _hev
                first | (refine wpOrd_v rfl rfl ?_; intro K hK; go_big_quiet_op; go_big_quiet_on) | (refine wpOrd_q rfl rfl ?_; intro K hK; go_big_quiet_op; go_big_quiet_on)
                first | (refine wpOrd_v rfl rfl ?_; intro K hK; go_big_quiet_op; go_big_quiet_on) | (refine wpOrd_q rfl rfl ?_; intro K hK; go_big_quiet_op; go_big_quiet_on)
                first | (refine wpOrd_v rfl rfl ?_; intro K hK; go_big_quiet_op; go_big_quiet_on) | (refine wpOrd_q rfl rfl ?_; intro K hK; go_big_quiet_op; go_big_quiet_on)
                first | (refine wpOrd_v rfl rfl ?_; intro K hK; go_big_quiet_op; go_big_quiet_on) | (refine wpOrd_q rfl rfl ?_; intro K hK; go_big_quiet_op; go_big_quiet_on)
                refine wpOrd_s2 (by decide) rfl rfl rfl ?_; intro K hK; go_big_quiet_op; go_big_quiet_on
                refine wpOrd_s2 (by decide) rfl rfl rfl ?_; intro K hK; go_big_quiet_op; go_big_quiet_on
                refine wpOrd_s2 (by decide) rfl rfl rfl ?_; intro K hK; go_big_quiet_op; go_big_quiet_on
                refine wpOrd_s2 (by decide) rfl rfl rfl ?_; intro K hK; go_big_quiet_op; go_big_quiet_on
                refine wpOrd_s2 (by decide) rfl rfl rfl ?_; intro K hK; go_big_quiet_op; go_big_quiet_on
                refine wpOrd_s2 (by decide) rfl rfl rfl ?_; intro K hK; go_big_quiet_op; go_big_quiet_on
                first | (refine wpOrd_v rfl rfl ?_; intro K hK; go_big_quiet_op; go_big_quiet_on) | (refine wpOrd_q rfl rfl ?_; intro K hK; go_big_quiet_op; go_big_quiet_on)
                first | (refine wpOrd_v rfl rfl ?_; intro K hK; go_big_quiet_op; go_big_quiet_on) | (refine wpOrd_q rfl rfl ?_; intro K hK; go_big_quiet_op; go_big_quiet_on)
                refine wpOrd_s2 (by decide) rfl rfl rfl ?_; intro K hK; go_big_quiet_op; go_big_quiet_on
                refine wpOrd_s2 (by decide) rfl rfl rfl ?_; intro K hK; go_big_quiet_op; go_big_quiet_on
                refine wpOrd_s2 (by decide) rfl rfl rfl ?_; intro K hK; go_big_quiet_op; go_big_quiet_on
                refine wpOrd_s2 (by decide) rfl rfl rfl ?_; intro K hK; go_big_quiet_op; go_big_quiet_on
                refine wpOrd_s2 (by decide) rfl rfl rfl ?_; intro K hK; go_big_quiet_op; go_big_quiet_on
                refine wpOrd_s2 (by decide) rfl rfl rfl ?_; intro K hK; go_big_quiet_op; go_big_quiet_on
                refine wpOrd_s2 (by decide) rfl rfl rfl ?_; intro K hK; go_big_quiet_op; go_big_quiet_on
                refine wpOrd_s2 (by decide) rfl rfl rfl ?_; intro K hK; go_big_quiet_op; go_big_quiet_on
                first | (refine wpOrd_v rfl rfl ?_; intro K hK; go_big_quiet_op; go_big_quiet_on) | (refine wpOrd_q rfl rfl ?_; intro K hK; go_big_quiet_op; go_big_quiet_on)
                refine wpOrd_nil ?_
                clear hevT _hev
                clear hS0 hS1 S cm d0 d3 e1 e3 e4
                go_wp2
                go_roundw
                case rel => exact ⟨k + 1, by congr 1, by omega, hk2.out, M2.out⟩
                case measure => simp [intOf] <;> omega
              · have g4' : (m.state != 4) = true := by simpa using g4
                by_cases g1 : it2.kind = 1
                · have g1' : (it2.kind == 1) = true := by simpa using g1
                  have g5 : (it2.a == m.target) = false := by
                    rcases hor.out with h | h
                    · exact absurd h g4
                    · simpa using fun e => h ⟨g1, e⟩
                  clear g4 g1 hor
                  have hevT := ev_true
                  refine wp_region_ord S [(0, 0), (1, 1), (2, 0), (3, 0), (4, 0), (5, 0), (6, 0), (7, 0), (8, 1), (9, 0), (10, 0), (11, 0), (12, 0), (13, 0), (14, 0), (15, 0), (16, 1), (17, 0), (18, 1), (19, 0), (20, 0)] [] (by kernel_rfl) (by kernel_rfl) ((hS0 _).2 ⟨e1, e3, e4⟩) ?_
                  intro _hev
                  iterate 21 (first | (refine wpOrd_v rfl rfl ?_; intro K hK; go_big_quiet_op; go_big_quiet_on) | (refine wpOrd_q rfl rfl ?_; intro K hK; go_big_quiet_op; go_big_quiet_on) | refine wpOrd_s (by decide) rfl rfl ?_)
                  refine wpOrd_nil ?_
                  clear hevT _hev
                  clear hS0 hS1 S cm d0 d3 e1 e3 e4
                  go_wp2
                  go_roundw
                  case rel => exact ⟨k + 1, by congr 1, by omega, hk2.out, M2.out⟩
                  case measure => simp [intOf] <;> omega
                · have g1' : (it2.kind == 1) = false := by simpa using g1
                  clear g4 g1 hor
                  have hevT := ev_true
                  refine wp_region_ord S [(0, 0), (1, 1), (2, 0), (3, 0), (4, 0), (5, 0), (6, 0), (7, 0), (8, 1), (9, 0), (10, 0), (11, 0), (12, 0), (13, 0), (14, 0), (15, 0), (16, 1), (17, 0), (18, 1), (19, 0), (20, 0)] [] (by kernel_rfl) (by kernel_rfl) ((hS0 _).2 ⟨e1, e3, e4⟩) ?_
                  intro _hev
                  first | (refine wpOrd_v rfl rfl ?_; intro K hK; go_big_quiet_op; go_big_quiet_on) | (refine wpOrd_q rfl rfl ?_; intro K hK; go_big_quiet_op; go_big_quiet_on)
                  first | (refine wpOrd_v rfl rfl ?_; intro K hK; go_big_quiet_op; go_big_quiet_on) | (refine wpOrd_q rfl rfl ?_; intro K hK; go_big_quiet_op; go_big_quiet_on)
                  first | (refine wpOrd_v rfl rfl ?_; intro K hK; go_big_quiet_op; go_big_quiet_on) | (refine wpOrd_q rfl rfl ?_; intro K hK; go_big_quiet_op; go_big_quiet_on)
                  first | (refine wpOrd_v rfl rfl ?_; intro K hK; go_big_quiet_op; go_big_quiet_on) | (refine wpOrd_q rfl rfl ?_; intro K hK; go_big_quiet_op; go_big_quiet_on)
                  first | (refine wpOrd_v rfl rfl ?_; intro K hK; go_big_quiet_op; go_big_quiet_on) | (refine wpOrd_q rfl rfl ?_; intro K hK; go_big_quiet_op; go_big_quiet_on)
                  first | (refine wpOrd_v rfl rfl ?_; intro K hK; go_big_quiet_op; go_big_quiet_on) | (refine wpOrd_q rfl rfl ?_; intro K hK; go_big_quiet_op; go_big_quiet_on)
                  first | (refine wpOrd_v rfl rfl ?_; intro K hK; go_big_quiet_op; go_big_quiet_on) | (refine wpOrd_q rfl rfl ?_; intro K hK; go_big_quiet_op; go_big_quiet_on)
                  first | (refine wpOrd_v rfl rfl ?_; intro K hK; go_big_quiet_op; go_big_quiet_on) | (refine wpOrd_q rfl rfl ?_; intro K hK; go_big_quiet_op; go_big_quiet_on)
                  first | (refine wpOrd_v rfl rfl ?_; intro K hK; go_big_quiet_op; go_big_quiet_on) | (refine wpOrd_q rfl rfl ?_; intro K hK; go_big_quiet_op; go_big_quiet_on)
                  first | (refine wpOrd_v rfl rfl ?_; intro K hK; go_big_quiet_op; go_big_quiet_on) | (refine wpOrd_q rfl rfl ?_; intro K hK; go_big_quiet_op; go_big_quiet_on)
                  first | (refine wpOrd_v rfl rfl ?_; intro K hK; go_big_quiet_op; go_big_quiet_on) | (refine wpOrd_q rfl rfl ?_; intro K hK; go_big_quiet_op; go_big_quiet_on)
                  first | (refine wpOrd_v rfl rfl ?_; intro K hK; go_big_quiet_op; go_big_quiet_on) | (refine wpOrd_q rfl rfl ?_; intro K hK; go_big_quiet_op; go_big_quiet_on)
                  refine wpOrd_s2 (by decide) rfl rfl rfl ?_; intro K hK; go_big_quiet_op; go_big_quiet_on
                  refine wpOrd_s2 (by decide) rfl rfl rfl ?_; intro K hK; go_big_quiet_op; go_big_quiet_on
                  refine wpOrd_s2 (by decide) rfl rfl rfl ?_; intro K hK; go_big_quiet_op; go_big_quiet_on
                  refine wpOrd_s2 (by decide) rfl rfl rfl ?_; intro K hK; go_big_quiet_op; go_big_quiet_on
                  refine wpOrd_s2 (by decide) rfl rfl rfl ?_; intro K hK; go_big_quiet_op; go_big_quiet_on
                  refine wpOrd_s2 (by decide) rfl rfl rfl ?_; intro K hK; go_big_quiet_op; go_big_quiet_on
                  refine wpOrd_s2 (by decide) rfl rfl rfl ?_; intro K hK; go_big_quiet_op; go_big_quiet_on
                  refine wpOrd_s2 (by decide) rfl rfl rfl ?_; intro K hK; go_big_quiet_op; go_big_quiet_on
                  first | (refine wpOrd_v rfl rfl ?_; intro K hK; go_big_quiet_op; go_big_quiet_on) | (refine wpOrd_q rfl rfl ?_; intro K hK; go_big_quiet_op; go_big_quiet_on)
                  refine wpOrd_nil ?_
                  clear hevT _hev
                  clear hS0 hS1 S cm d0 d3 e1 e3 e4
                  go_wp2
                  go_roundw
                  case rel => exact ⟨k + 1, by congr 1, by omega, hk2.out, M2.out⟩
                  case measure => simp [intOf] <;> omega
          · have hkk : ¬ (k : Int) < (rl.length : Int) := by omega
            replace M := Lib.hid M
            clear hdk
            go_wp2_with fail
            go_meet
            case rel => exact ⟨rfl, M.out.t⟩
      case rest =>
        clear U
        rename World => w14
        obtain ⟨rfl, U⟩ := hcut
        replace U := Lib.hid U
        go_wp2
        go_roundw
        case rel => exact ⟨i + 1, by congr 1, by omega, U.out⟩
        case measure => simp [intOf]; omega
    · have hii : ¬ (i : Int) < (x.real.motions.length : Int) := by omega
      go_wp2_with fail
      refine (awake_any _).mono ?_
      rintro e w5 ⟨rfl, k5⟩
      have K9 := U.d.kp.thenN k5 (Nat.le_refl _)
      clear U k5 ch
      go_wp2
      go_ret
      exact ⟨rfl, K9⟩
end Go.Proofs.YtogpgnljomchcaaGreat
