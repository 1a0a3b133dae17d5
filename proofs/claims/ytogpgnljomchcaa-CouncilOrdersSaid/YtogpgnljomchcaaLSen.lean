/- CouncilSent: the walk. -/
import Derived.Test.YtogpgnljomchcaaMd
import Derived.Test.YtogpgnljomchcaaOf
namespace Go.Proofs.Ytogpgnljomchcaa
open Go.RowKit

/-- a council's cell and a house's cell, and what they hold -/
structure Seen (W : World) (cb hb : Nat) (V : CV) (c : Council) (X : HV) (x : House) (w : World) : Prop where
  cl : Blk w cb 26 #[.slice V.am c.members.length V.cm, .slice V.al c.laws.length V.cl, .slice V.av c.levels.length V.cv]
  hl : Blk w hb 46 #[.int .i64 x.tick, .int .i64 x.real.items, .slice X.r.fa x.real.facts.length X.r.fc, .slice X.r.ma x.real.motions.length X.r.mc, .slice X.r.sa x.real.sent.length X.r.sc, .int .i64 x.drill.items, .slice X.d.fa x.drill.facts.length X.d.fc, .slice X.d.ma x.drill.motions.length X.d.mc, .slice X.d.sa x.drill.sent.length X.d.sc]
  ca : CAt w.heap.size w V c
  sa : SAt w.heap.size w X x
  kp : Kp W.heap.size none W w
theorem Seen.kpN {W : World} {cb hb : Nat} {V : CV} {c : Council} {X : HV} {x : House} {w w' : World} (s : Seen W cb hb V c X x w) (q : Kp w.heap.size none w w') : Seen W cb hb V c X x w' :=
  ⟨s.cl.kpN q, s.hl.kpN q, s.ca.next q, s.sa.next q, s.kp.thenN q (Nat.le_refl _)⟩
def SenAt (W : World) (cb hb : Nat) (V : CV) (c : Council) (X : HV) (x : House) (t : Int) (lv at_ i : Value) (wr : World) : Prop :=
  ∃ (l a q : Int) (j : Nat), lv = .int .i64 l ∧ at_ = .int .i64 a ∧ i = .int .i64 (j : Int) ∧ j ≤ x.real.sent.length ∧ sentOk t l a (x.real.sent.drop j) = some (beforeL x.real t, q) ∧ Seen W cb hb V c X x wr
set_option maxRecDepth 20000 in
set_option maxHeartbeats 8000000 in
theorem law_CouncilSent_any (A : Option Addr) (cap : Nat) (nums : List Int) (w : World) (h : Rd none w 1 (fun x => [Value.int .i64 x]) A nums.length nums) (hn : nums.length ≤ 17592186044416) :
    Calls Try.prog 6 #[.slice A nums.length cap] w fun e w' => e = .returned (.bool true) ∧ Kp w.heap.size none w w' := by
  go_enter Try.func6, Try.ntmps6
  go_wp2_with fail
  refine (made_any A cap nums w h hn).mono ?_
  rintro e w1 ⟨g, V, c, A2, cap2, l, x, k, rfl, hok, hl, hD, hC, -, hrd, -, -, -, K1⟩
  clear h hn
  have CB := Blk.new w1 26 #[.slice V.am c.members.length V.cm, .slice V.al c.laws.length V.cl, .slice V.av c.levels.length V.cv]
  have kc := Kp.new w1 (.cells #[.slice V.am c.members.length V.cm, .slice V.al c.laws.length V.cl, .slice V.av c.levels.length V.cv] 26)
  replace hC := hC.next kc
  replace hrd := hrd.free.kpN kc
  replace K1 := K1.thenN kc (Nat.le_refl _)
  go_upto_region 2 with (fail)
  obtain ⟨cb, hcb⟩ : ∃ q, q = w1.heap.size := ⟨_, rfl⟩
  rw [← hcb] at CB ⊢
  change Code.wp _ _ _ _ (w1.alloc (.cells #[.slice V.am c.members.length V.cm, .slice V.al c.laws.length V.cl, .slice V.av c.levels.length V.cv] 26))
  generalize w1.alloc (.cells #[.slice V.am c.members.length V.cm, .slice V.al c.laws.length V.cl, .slice V.av c.levels.length V.cv] 26) = w2 at CB hC hrd K1 ⊢
  clear hcb kc
  have cc := fun i => CB.cell i
  go_wp2_with fail
  refine (build_see V c A2 cap2 l _ hC hrd (by omega)).mono ?_
  rintro e w3 ⟨v, X, -, rfl, -, hS, k3⟩
  rw [build_done hok.chk (by omega) hD] at hS ⊢
  simp only at hS ⊢
  replace hC := hC.next k3
  replace CB := CB.kpN k3
  replace K1 := K1.thenN k3 (Nat.le_refl _)
  clear k3 hrd cc
  have HB := Blk.new w3 46 #[.int .i64 x.tick, .int .i64 x.real.items, .slice X.r.fa x.real.facts.length X.r.fc, .slice X.r.ma x.real.motions.length X.r.mc, .slice X.r.sa x.real.sent.length X.r.sc, .int .i64 x.drill.items, .slice X.d.fa x.drill.facts.length X.d.fc, .slice X.d.ma x.drill.motions.length X.d.mc, .slice X.d.sa x.drill.sent.length X.d.sc]
  have kh := Kp.new w3 (.cells #[.int .i64 x.tick, .int .i64 x.real.items, .slice X.r.fa x.real.facts.length X.r.fc, .slice X.r.ma x.real.motions.length X.r.mc, .slice X.r.sa x.real.sent.length X.r.sc, .int .i64 x.drill.items, .slice X.d.fa x.drill.facts.length X.d.fc, .slice X.d.ma x.drill.motions.length X.d.mc, .slice X.d.sa x.drill.sent.length X.d.sc] 46)
  have S : Seen w cb w3.heap.size V c X x (w3.alloc (.cells #[.int .i64 x.tick, .int .i64 x.real.items, .slice X.r.fa x.real.facts.length X.r.fc, .slice X.r.ma x.real.motions.length X.r.mc, .slice X.r.sa x.real.sent.length X.r.sc, .int .i64 x.drill.items, .slice X.d.fa x.drill.facts.length X.d.fc, .slice X.d.ma x.drill.motions.length X.d.mc, .slice X.d.sa x.drill.sent.length X.d.sc] 46)) := ⟨CB.kpN kh, HB, hC.next kh, hS.next kh, K1.thenN kh (Nat.le_refl _)⟩
  clear CB HB hC hS K1 kh
  go_upto_region 3 with (fail)
  obtain ⟨hb, hhb⟩ : ∃ q, q = w3.heap.size := ⟨_, rfl⟩
  rw [← hhb] at S
  rw [← hhb]
  change Code.wp _ _ _ _ (w3.alloc (.cells #[.int .i64 x.tick, .int .i64 x.real.items, .slice X.r.fa x.real.facts.length X.r.fc, .slice X.r.ma x.real.motions.length X.r.mc, .slice X.r.sa x.real.sent.length X.r.sc, .int .i64 x.drill.items, .slice X.d.fa x.drill.facts.length X.d.fc, .slice X.d.ma x.drill.motions.length X.d.mc, .slice X.d.sa x.drill.sent.length X.d.sc] 46))
  generalize w3.alloc (.cells #[.int .i64 x.tick, .int .i64 x.real.items, .slice X.r.fa x.real.facts.length X.r.fc, .slice X.r.ma x.real.motions.length X.r.mc, .slice X.r.sa x.real.sent.length X.r.sc, .int .i64 x.drill.items, .slice X.d.fa x.drill.facts.length X.d.fc, .slice X.d.ma x.drill.motions.length X.d.mc, .slice X.d.sa x.drill.sent.length X.d.sc] 46) = w4 at S ⊢
  clear hhb
  have hsi := (hD.sentInv false).2
  have hki := hD.kInv false
  change ∀ t, ∃ at_, sentOk t 0 0 x.real.sent = some (beforeL x.real t, at_) ∧ at_ ≤ x.tick at hsi
  change KInv c x.real at hki
  have hox : HouseOk c (0 + l.length) x := hD.ok (councilOk_of hok.chk) (zeroHouse_ok c 0)
  have hsl : x.real.sent.length ≤ 16 := by
    have := (hox.led false).slen
    change x.real.sent.length ≤ _ at this
    omega
  replace hsi := Lib.hid hsi
  replace hki := Lib.hid hki
  go_wp2_with fail
  go_loopw [9] (fun n wr => ∃ t : Int, n = .int .i64 t ∧ 1 ≤ t ∧ t ≤ 5 ∧ Seen w cb hb V c X x wr) (fun n _ => (5 - intOf n).toNat)
  case atStart => exact ⟨1, rfl, by omega, by omega, S⟩
  case round =>
    clear S
    obtain ⟨t, rfl, ht1, ht5, S⟩ := hrel
    have ch := fun i => S.hl.cell i
    by_cases ht4 : t ≤ 4
    · go_wp2_with fail
      go_loopw [10, 11, 12] (fun lv at_ i wr => SenAt w cb hb V c X x t lv at_ i wr) (fun _ _ i _ => (x.real.sent.length - intOf i).toNat)
      case atStart =>
        obtain ⟨q, h1, -⟩ := hsi.out t
        exact ⟨0, 0, q, 0, rfl, rfl, rfl, Nat.zero_le _, h1, S⟩
      case round =>
        clear S ch
        obtain ⟨lv, a, q, j, rfl, rfl, rfl, hj, hs, S⟩ := hrel
        have ch := fun i => S.hl.cell i
        by_cases hj' : j < x.real.sent.length
        · have hji : (j : Int) < (x.real.sent.length : Int) := by omega
          rw [List.drop_eq_getElem_cons hj', sentOk_cons] at hs
          obtain ⟨b, o, eA, -, -, hc⟩ := S.sa.r.s.2 (by omega)
          have hcc := fun i v => hc j hj' i v
          clear hc
          obtain ⟨al, hal⟩ : ∃ al, al = x.real.sent[j] := ⟨_, rfl⟩
          rw [← hal] at hs hcc
          clear hal
          have c0 : wr.cell? ⟨b, o + j * 4, none⟩ = some (.int .i64 al.tick) := hcc 0 _ rfl
          have c1 : wr.cell? ⟨b, o + j * 4 + 1, none⟩ = some (.int .i64 al.target) := by rw [Nat.add_assoc]; exact hcc 1 _ rfl
          have c2 : wr.cell? ⟨b, o + j * 4 + 2, none⟩ = some (.int .i64 al.level) := by rw [Nat.add_assoc]; exact hcc 2 _ rfl
          have c3 : wr.cell? ⟨b, o + j * 4 + 3, none⟩ = some (.bool al.back) := by rw [Nat.add_assoc]; exact hcc 3 _ rfl
          clear hcc
          obtain ⟨⟨fa, fc, ma, mc, sa, sc, vo⟩, xd⟩ := X
          have eA' : sa = some ⟨b, o, none⟩ := eA
          subst eA'
          clear eA
          have g1 : ¬ al.tick < a := fun h => by rw [if_pos h] at hs; cases hs
          rw [if_neg g1] at hs
          have AB := Blk.new wr 69 #[.int .i64 al.tick, .int .i64 al.target, .int .i64 al.level, .bool al.back]
          have ka := Kp.new wr (.cells #[.int .i64 al.tick, .int .i64 al.target, .int .i64 al.level, .bool al.back] 69)
          replace S := S.kpN ka
          clear ka
          go_upto_region 13 with (fail)
          clear c0 c1 c2 c3 ch
          obtain ⟨ab, hab⟩ : ∃ q, q = wr.heap.size := ⟨_, rfl⟩
          rw [← hab] at AB ⊢
          clear hab
          generalize wr.alloc (.cells #[.int .i64 al.tick, .int .i64 al.target, .int .i64 al.level, .bool al.back] 69) = w5 at S AB ⊢
          have ca := fun i => AB.cell i
          by_cases g2 : al.target = t
          · rw [if_neg (by simpa using g2)] at hs
            have g3 : ¬ (al.level = lv ∨ al.back ≠ decide (al.level < lv)) := fun h => by rw [if_pos h] at hs; cases hs
            rw [if_neg g3] at hs
            have g4 : (al.level == lv) = false := by simp only [beq_eq_false_iff_ne]; exact fun h => g3 (.inl h)
            have g5 : (al.back == decide (al.level < lv)) = true := by simp only [beq_iff_eq]; exact Decidable.byContradiction fun h => g3 (.inr h)
            have g6 : (al.target == t) = true := by simpa using g2
            have hst : SenAt w cb hb V c ⟨⟨fa, fc, ma, mc, some ⟨b, o, none⟩, sc, vo⟩, xd⟩ x t (.int .i64 al.level) (.int .i64 al.tick) (.int .i64 ((j : Int) + 1)) w5 := ⟨al.level, al.tick, q, j + 1, rfl, rfl, by congr 1, by omega, hs, S⟩
            replace hst := Lib.hid hst
            clear hs S AB g2 g3
            go_wp2
            go_roundw
            case rel => exact hst.out
            case measure => simp [intOf]; omega
          · rw [if_pos g2] at hs
            have g6 : (al.target == t) = false := by simpa using g2
            have hst : SenAt w cb hb V c ⟨⟨fa, fc, ma, mc, some ⟨b, o, none⟩, sc, vo⟩, xd⟩ x t (.int .i64 lv) (.int .i64 al.tick) (.int .i64 ((j : Int) + 1)) w5 := ⟨lv, al.tick, q, j + 1, rfl, rfl, by congr 1, by omega, hs, S⟩
            replace hst := Lib.hid hst
            clear hs S AB g2
            go_wp2
            go_roundw
            case rel => exact hst.out
            case measure => simp [intOf]; omega
        · have hji : ¬ (j : Int) < (x.real.sent.length : Int) := by omega
          rw [List.drop_eq_nil_of_le (by omega)] at hs
          have hs' : some (lv, a) = some (beforeL x.real t, q) := hs
          simp only [Option.some.injEq, Prod.mk.injEq] at hs'
          obtain ⟨hlv, -⟩ := hs'
          clear hs
          go_wp2_with fail
          refine (council_Of_any X.r x.real t wr S.sa.r).mono ?_
          rintro e w5 ⟨k9, b9, rfl, hof, k5⟩
          have hkn : b9 = true → k9.level = levelI c k9.chance ∧ k9.target = t := fun hb9 => by
            rcases hof with ⟨h1, -⟩ | ⟨-, h2, -⟩
            · obtain ⟨h3, h4⟩ := hki.out k9 (List.mem_of_find?_eq_some h1)
              rw [levelI_eq hok.chk h3]
              exact ⟨h4, by simpa using List.find?_some h1⟩
            · rw [h2] at hb9; cases hb9
          have hlv9 : k9.level = beforeL x.real t := by
            unfold beforeL
            rcases hof with ⟨h1, -⟩ | ⟨h1, -, rfl⟩ <;> rw [h1] <;> rfl
          have hlv8 : b9 = false → beforeL x.real t = 0 := fun hb9 => by
            unfold beforeL
            rcases hof with ⟨h1, h2⟩ | ⟨h1, -, rfl⟩
            · rw [h2] at hb9; cases hb9
            · rw [h1]
          clear hof
          subst hlv
          rw [← hlv9] at hlv8
          rw [← hlv9]
          replace hlv8 := Lib.hid hlv8
          replace hkn := Lib.hid hkn
          clear hlv9
          replace S := S.kpN k5
          clear k5 ch
          have KB := Blk.new w5 71 #[.int .i64 k9.target, .int .i64 k9.level, .int .i64 k9.item, .int .i64 k9.chance.least, .int .i64 k9.chance.most, .int .i64 k9.chance.all]
          have kk := Kp.new w5 (.cells #[.int .i64 k9.target, .int .i64 k9.level, .int .i64 k9.item, .int .i64 k9.chance.least, .int .i64 k9.chance.most, .int .i64 k9.chance.all] 71)
          replace S := S.kpN kk
          clear kk
          go_upto_region 21 with (fail)
          obtain ⟨kb, hkb⟩ : ∃ q, q = w5.heap.size := ⟨_, rfl⟩
          rw [← hkb] at KB ⊢
          clear hkb
          change Code.wp _ _ _ _ (w5.alloc (.cells #[.int .i64 k9.target, .int .i64 k9.level, .int .i64 k9.item, .int .i64 k9.chance.least, .int .i64 k9.chance.most, .int .i64 k9.chance.all] 71))
          generalize w5.alloc (.cells #[.int .i64 k9.target, .int .i64 k9.level, .int .i64 k9.item, .int .i64 k9.chance.least, .int .i64 k9.chance.most, .int .i64 k9.chance.all] 71) = w6 at S KB ⊢
          have ck := fun i => KB.cell i
          have hend : ∀ w9, Kp w6.heap.size none w6 w9 → ∃ t' : Int, Value.int .i64 (t + 1) = .int .i64 t' ∧ 1 ≤ t' ∧ t' ≤ 5 ∧ Seen w cb hb V c X x w9 := fun w9 k9 => ⟨t + 1, rfl, by omega, by omega, S.kpN k9⟩
          replace hend := Lib.hid hend
          cases b9 with
          | false =>
            have h0 := hlv8.out rfl
            clear hkn hlv8
            have kd := (Kp.refl w6.heap.size none w6).drew
            replace KB := KB.kpN kd
            clear S ck
            obtain ⟨S, hS⟩ : ∃ S : Nat → World → Prop, S = fun n w' => if n = 0 then Blk w' kb 71 #[.int .i64 k9.target, .int .i64 k9.level, .int .i64 k9.item, .int .i64 k9.chance.least, .int .i64 k9.chance.most, .int .i64 k9.chance.all] else True := ⟨_, rfl⟩
            have hS0 : ∀ w', S 0 w' ↔ (Blk w' kb 71 #[.int .i64 k9.target, .int .i64 k9.level, .int .i64 k9.item, .int .i64 k9.chance.least, .int .i64 k9.chance.most, .int .i64 k9.chance.all]) := fun w' => by rw [hS]; exact Iff.rfl
            have hS1 : ∀ w', S 1 w' ↔ (True) := fun w' => by rw [hS]; exact Iff.rfl
            clear hS
            have ck := fun (q : Ev (S 0)) i => ((hS0 _).1 q.h).cell i
            have hevT := ev_true
            refine wp_region_ord S [(0, 0), (1, 1), (2, 0), (3, 0), (4, 0), (5, 0), (6, 0), (7, 0), (8, 0), (9, 0), (10, 0), (11, 0), (12, 0), (13, 0), (14, 0), (15, 0), (16, 1), (17, 1), (18, 0), (19, 1), (20, 2), (21, 0), (22, 0), (23, 0), (24, 1), (25, 0), (26, 0), (27, 0), (28, 0), (29, 0)] [] (by kernel_rfl) (by kernel_rfl) ((hS0 _).2 KB) ?_
            intro _hev
            first | (refine wpOrd_v rfl rfl ?_; intro K hK; go_big_quiet_op; go_big_quiet_on) | (refine wpOrd_q rfl rfl ?_; intro K hK; go_big_quiet_op; go_big_quiet_on)
            first | (refine wpOrd_v rfl rfl ?_; intro K hK; go_big_quiet_op; go_big_quiet_on) | (refine wpOrd_q rfl rfl ?_; intro K hK; go_big_quiet_op; go_big_quiet_on)
            first | (refine wpOrd_v rfl rfl ?_; intro K hK; go_big_quiet_op; go_big_quiet_on) | (refine wpOrd_q rfl rfl ?_; intro K hK; go_big_quiet_op; go_big_quiet_on)
            first | (refine wpOrd_v rfl rfl ?_; intro K hK; go_big_quiet_op; go_big_quiet_on) | (refine wpOrd_q rfl rfl ?_; intro K hK; go_big_quiet_op; go_big_quiet_on)
            first | (refine wpOrd_v rfl rfl ?_; intro K hK; go_big_quiet_op; go_big_quiet_on) | (refine wpOrd_q rfl rfl ?_; intro K hK; go_big_quiet_op; go_big_quiet_on)
            first | (refine wpOrd_v rfl rfl ?_; intro K hK; go_big_quiet_op; go_big_quiet_on) | (refine wpOrd_q rfl rfl ?_; intro K hK; go_big_quiet_op; go_big_quiet_on)
            first | (refine wpOrd_v rfl rfl ?_; intro K hK; go_big_quiet_op; go_big_quiet_on) | (refine wpOrd_q rfl rfl ?_; intro K hK; go_big_quiet_op; go_big_quiet_on)
            first | (refine wpOrd_v rfl rfl ?_; intro K hK; go_big_quiet_op; go_big_quiet_on) | (refine wpOrd_q rfl rfl ?_; intro K hK; go_big_quiet_op; go_big_quiet_on)
            first | (refine wpOrd_v rfl rfl ?_; intro K hK; go_big_quiet_op; go_big_quiet_on) | (refine wpOrd_q rfl rfl ?_; intro K hK; go_big_quiet_op; go_big_quiet_on)
            first | (refine wpOrd_v rfl rfl ?_; intro K hK; go_big_quiet_op; go_big_quiet_on) | (refine wpOrd_q rfl rfl ?_; intro K hK; go_big_quiet_op; go_big_quiet_on)
            first | (refine wpOrd_v rfl rfl ?_; intro K hK; go_big_quiet_op; go_big_quiet_on) | (refine wpOrd_q rfl rfl ?_; intro K hK; go_big_quiet_op; go_big_quiet_on)
            first | (refine wpOrd_v rfl rfl ?_; intro K hK; go_big_quiet_op; go_big_quiet_on) | (refine wpOrd_q rfl rfl ?_; intro K hK; go_big_quiet_op; go_big_quiet_on)
            first | (refine wpOrd_v rfl rfl ?_; intro K hK; go_big_quiet_op; go_big_quiet_on) | (refine wpOrd_q rfl rfl ?_; intro K hK; go_big_quiet_op; go_big_quiet_on)
            first | (refine wpOrd_v rfl rfl ?_; intro K hK; go_big_quiet_op; go_big_quiet_on) | (refine wpOrd_q rfl rfl ?_; intro K hK; go_big_quiet_op; go_big_quiet_on)
            first | (refine wpOrd_v rfl rfl ?_; intro K hK; go_big_quiet_op; go_big_quiet_on) | (refine wpOrd_q rfl rfl ?_; intro K hK; go_big_quiet_op; go_big_quiet_on)
            refine wpOrd_s2 (by decide) rfl rfl rfl ?_; intro K hK; go_big_quiet_op; go_big_quiet_on
            refine wpOrd_s2 (by decide) rfl rfl rfl ?_; intro K hK; go_big_quiet_op; go_big_quiet_on
            refine wpOrd_s2 (by decide) rfl rfl rfl ?_; intro K hK; go_big_quiet_op; go_big_quiet_on
            refine wpOrd_s2 (by decide) rfl rfl rfl ?_; intro K hK; go_big_quiet_op; go_big_quiet_on
            refine wpOrd_s2 (by decide) rfl rfl rfl ?_; intro K hK; go_big_quiet_op; go_big_quiet_on
            refine wpOrd_s2 (by decide) rfl rfl rfl ?_; intro K hK; go_big_quiet_op; go_big_quiet_on
            refine wpOrd_s2 (by decide) rfl rfl rfl ?_; intro K hK; go_big_quiet_op; go_big_quiet_on
            refine wpOrd_s2 (by decide) rfl rfl rfl ?_; intro K hK; go_big_quiet_op; go_big_quiet_on
            refine wpOrd_s2 (by decide) rfl rfl rfl ?_; intro K hK; go_big_quiet_op; go_big_quiet_on
            refine wpOrd_s2 (by decide) rfl rfl rfl ?_; intro K hK; go_big_quiet_op; go_big_quiet_on
            refine wpOrd_s2 (by decide) rfl rfl rfl ?_; intro K hK; go_big_quiet_op; go_big_quiet_on
            refine wpOrd_s2 (by decide) rfl rfl rfl ?_; intro K hK; go_big_quiet_op; go_big_quiet_on
            refine wpOrd_s2 (by decide) rfl rfl rfl ?_; intro K hK; go_big_quiet_op; go_big_quiet_on
            first | (refine wpOrd_v rfl rfl ?_; intro K hK; go_big_quiet_op; go_big_quiet_on) | (refine wpOrd_q rfl rfl ?_; intro K hK; go_big_quiet_op; go_big_quiet_on)
            first | (refine wpOrd_v rfl rfl ?_; intro K hK; go_big_quiet_op; go_big_quiet_on) | (refine wpOrd_q rfl rfl ?_; intro K hK; go_big_quiet_op; go_big_quiet_on)
            refine wpOrd_nil ?_
            clear hevT _hev
            clear hS0 hS1 S ck
            go_wp2
            go_roundw
            case rel => exact hend.out _ kd
            case measure => simp [intOf]; omega
          | true =>
            obtain ⟨hk1, hk2⟩ := hkn.out rfl
            clear hlv8 hkn
            replace hk1 := Lib.hid hk1
            have hk3 : (k9.target == t) = true := by simpa using hk2
            clear hk2
            have kd := (Kp.refl w6.heap.size none w6).drew
            have S2 := S.kpN kd
            replace KB := KB.kpN kd
            clear S ck
            have T := S2
            clear S2
            obtain ⟨S, hS⟩ : ∃ S : Nat → World → Prop, S = fun n w' => if n = 0 then Blk w' cb 26 #[.slice V.am c.members.length V.cm, .slice V.al c.laws.length V.cl, .slice V.av c.levels.length V.cv] ∧ Blk w' kb 71 #[.int .i64 k9.target, .int .i64 k9.level, .int .i64 k9.item, .int .i64 k9.chance.least, .int .i64 k9.chance.most, .int .i64 k9.chance.all] else True := ⟨_, rfl⟩
            have hS0 : ∀ w', S 0 w' ↔ (Blk w' cb 26 #[.slice V.am c.members.length V.cm, .slice V.al c.laws.length V.cl, .slice V.av c.levels.length V.cv] ∧ Blk w' kb 71 #[.int .i64 k9.target, .int .i64 k9.level, .int .i64 k9.item, .int .i64 k9.chance.least, .int .i64 k9.chance.most, .int .i64 k9.chance.all]) := fun w' => by rw [hS]; exact Iff.rfl
            have hS1 : ∀ w', S 1 w' ↔ (True) := fun w' => by rw [hS]; exact Iff.rfl
            clear hS
            have cc := fun (q : Ev (S 0)) i => ((hS0 _).1 q.h).1.cell i
            have ck := fun (q : Ev (S 0)) i => ((hS0 _).1 q.h).2.cell i
            have hevT := ev_true
            refine wp_region_ord S [(0, 0), (1, 1), (2, 0), (3, 0), (4, 0), (5, 0), (6, 0), (7, 0), (8, 0), (9, 0), (10, 0), (11, 0), (12, 0), (13, 0), (14, 0), (15, 0), (16, 1), (17, 1), (18, 0), (19, 1), (20, 2), (21, 0), (22, 0), (23, 0), (24, 1), (25, 0), (26, 0), (27, 0), (28, 0), (29, 0)] [] (by kernel_rfl) (by kernel_rfl) ((hS0 _).2 ⟨T.cl, KB⟩) ?_
            intro _hev
            first | (refine wpOrd_v rfl rfl ?_; intro K hK; go_big_quiet_op; go_big_quiet_on) | (refine wpOrd_q rfl rfl ?_; intro K hK; go_big_quiet_op; go_big_quiet_on)
            first | (refine wpOrd_v rfl rfl ?_; intro K hK; go_big_quiet_op; go_big_quiet_on) | (refine wpOrd_q rfl rfl ?_; intro K hK; go_big_quiet_op; go_big_quiet_on)
            first | (refine wpOrd_v rfl rfl ?_; intro K hK; go_big_quiet_op; go_big_quiet_on) | (refine wpOrd_q rfl rfl ?_; intro K hK; go_big_quiet_op; go_big_quiet_on)
            first | (refine wpOrd_v rfl rfl ?_; intro K hK; go_big_quiet_op; go_big_quiet_on) | (refine wpOrd_q rfl rfl ?_; intro K hK; go_big_quiet_op; go_big_quiet_on)
            first | (refine wpOrd_v rfl rfl ?_; intro K hK; go_big_quiet_op; go_big_quiet_on) | (refine wpOrd_q rfl rfl ?_; intro K hK; go_big_quiet_op; go_big_quiet_on)
            first | (refine wpOrd_v rfl rfl ?_; intro K hK; go_big_quiet_op; go_big_quiet_on) | (refine wpOrd_q rfl rfl ?_; intro K hK; go_big_quiet_op; go_big_quiet_on)
            first | (refine wpOrd_v rfl rfl ?_; intro K hK; go_big_quiet_op; go_big_quiet_on) | (refine wpOrd_q rfl rfl ?_; intro K hK; go_big_quiet_op; go_big_quiet_on)
            first | (refine wpOrd_v rfl rfl ?_; intro K hK; go_big_quiet_op; go_big_quiet_on) | (refine wpOrd_q rfl rfl ?_; intro K hK; go_big_quiet_op; go_big_quiet_on)
            refine wpOrd_s2 (by decide) rfl rfl rfl ?_; intro K hK; go_big_quiet_op; go_big_quiet_on
            refine wpOrd_s2 (by decide) rfl rfl rfl ?_; intro K hK; go_big_quiet_op; go_big_quiet_on
            first | (refine wpOrd_v rfl rfl ?_; intro K hK; go_big_quiet_op; go_big_quiet_on) | (refine wpOrd_q rfl rfl ?_; intro K hK; go_big_quiet_op; go_big_quiet_on)
            first | (refine wpOrd_v rfl rfl ?_; intro K hK; go_big_quiet_op; go_big_quiet_on) | (refine wpOrd_q rfl rfl ?_; intro K hK; go_big_quiet_op; go_big_quiet_on)
            first | (refine wpOrd_v rfl rfl ?_; intro K hK; go_big_quiet_op; go_big_quiet_on) | (refine wpOrd_q rfl rfl ?_; intro K hK; go_big_quiet_op; go_big_quiet_on)
            first | (refine wpOrd_v rfl rfl ?_; intro K hK; go_big_quiet_op; go_big_quiet_on) | (refine wpOrd_q rfl rfl ?_; intro K hK; go_big_quiet_op; go_big_quiet_on)
            first | (refine wpOrd_v rfl rfl ?_; intro K hK; go_big_quiet_op; go_big_quiet_on) | (refine wpOrd_q rfl rfl ?_; intro K hK; go_big_quiet_op; go_big_quiet_on)
            first | (refine wpOrd_v rfl rfl ?_; intro K hK; go_big_quiet_op; go_big_quiet_on) | (refine wpOrd_q rfl rfl ?_; intro K hK; go_big_quiet_op; go_big_quiet_on)
            first | (refine wpOrd_v rfl rfl ?_; intro K hK; go_big_quiet_op; go_big_quiet_on) | (refine wpOrd_q rfl rfl ?_; intro K hK; go_big_quiet_op; go_big_quiet_on)
            first | (refine wpOrd_v rfl rfl ?_; intro K hK; go_big_quiet_op; go_big_quiet_on) | (refine wpOrd_q rfl rfl ?_; intro K hK; go_big_quiet_op; go_big_quiet_on)
            first | (refine wpOrd_v rfl rfl ?_; intro K hK; go_big_quiet_op; go_big_quiet_on) | (refine wpOrd_q rfl rfl ?_; intro K hK; go_big_quiet_op; go_big_quiet_on)
            first | (refine wpOrd_v rfl rfl ?_; intro K hK; go_big_quiet_op; go_big_quiet_on) | (refine wpOrd_q rfl rfl ?_; intro K hK; go_big_quiet_op; go_big_quiet_on)
            refine wpOrd_l rfl rfl ?_; intro K hK
            go_step
            refine (council_Level_any k9.chance _ V c _ T.ca).mono ?_
            rintro e w7 ⟨rfl, k7⟩
            rw [← hk1.out]
            have T7 := T.kpN k7
            have kb7 := KB.kpN k7
            have hst := hend.out _ (kd.thenN k7 (Nat.le_refl _))
            replace hst := Lib.hid hst
            clear T KB k7 hend
            refine hK _ _ ((hS0 _).2 ⟨T7.cl, kb7⟩) ?_
            clear hK K
            iterate 9 (first | (refine wpOrd_v rfl rfl ?_; intro K hK; go_big_quiet_op; go_big_quiet_on) | (refine wpOrd_q rfl rfl ?_; intro K hK; go_big_quiet_op; go_big_quiet_on) | refine wpOrd_s (by decide) rfl rfl ?_)
            refine wpOrd_nil ?_
            clear hevT _hev
            clear hS0 hS1 S cc ck
            go_wp2
            go_roundw
            case rel => exact hst.out
            case measure => simp [intOf]; omega
    · have hst := S.kp
      go_wp2_with fail
      refine (awake_any wr).mono ?_
      rintro e w5 ⟨rfl, k5⟩
      have K9 := hst.thenN k5 (Nat.le_refl _)
      clear S hst k5 ch
      go_wp2
      go_ret
      exact ⟨rfl, K9⟩
end Go.Proofs.Ytogpgnljomchcaa
