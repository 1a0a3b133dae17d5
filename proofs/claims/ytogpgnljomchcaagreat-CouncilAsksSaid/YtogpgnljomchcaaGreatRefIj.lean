/- motion and vote: the reference. closes: the reference. -/
import Derived.Test.YtogpgnljomchcaaGreatRefMotAll
import Derived.Test.YtogpgnljomchcaaGreatJvAll
namespace Go.Proofs.YtogpgnljomchcaaGreat
open Go.RowKit

def RAtYes (B hb cb xb : Nat) (V : CV) (c : Council) (v : Ky → Value) (h : House) (x : CItem) (i : Nat) (m4 : Motion) (w : World) (_v : Value) (wx : World) : Prop :=
  GS B hb cb xb V c v v (h.put x.drill { h.led x.drill with motions := (h.led x.drill).motions.set i m4 }) x w wx
def RFind (v : Ky → Value) (own other : Ledger) (d : Bool) (n : Int) (w : World) (e : Ending) (w' : World) : Prop :=
  ((hasM own n = true ∧ ∃ g cap, v (.motions d) = .slice (some ⟨g, 0, none⟩) own.motions.length cap ∧ e = .returned (.tuple #[.pointer (some ⟨g, n.toNat * 8, none⟩), .int .i64 0])) ∨
   (hasM own n = false ∧ hasM other n = true ∧ e = .returned (.tuple #[.pointer none, .int .i64 15])) ∨
   (hasM own n = false ∧ hasM other n = false ∧ e = .returned (.tuple #[.pointer none, .int .i64 7]))) ∧ Kp w.heap.size none w w'
set_option maxHeartbeats 2000000 in
theorem ref_motion_any (B hb : Nat) (v : Ky → Value) (h : House) (d : Bool) (n : Int) (w : World) (p : RH B hb w v h) :
    Calls Tryz.prog 96 #[.pointer (some ⟨hb, rD d, none⟩), .pointer (some ⟨hb, rD (!d), none⟩), .int .i64 n] w (RFind v (h.led d) (h.led (!d)) d n w) := by
  obtain ⟨A1, q1, e1, g1⟩ := p.motForm d
  obtain ⟨A2, q2, e2, g2⟩ := p.motForm (!d)
  have c1 : w.cell? ⟨hb, rD d + 2, none⟩ = some (.slice A1 (h.led d).motions.length q1) := by rw [← e1]; exact (p.blk.cell _).trans (rCells_mot _ _ _)
  have c2 : w.cell? ⟨hb, rD (!d) + 2, none⟩ = some (.slice A2 (h.led (!d)).motions.length q2) := by rw [← e2]; exact (p.blk.cell _).trans (rCells_mot _ _ _)
  obtain ⟨o1, ho1⟩ : ∃ q, q = rD d := ⟨_, rfl⟩
  obtain ⟨o2, ho2⟩ : ∃ q, q = rD (!d) := ⟨_, rfl⟩
  rw [← ho1] at c1
  rw [← ho2] at c2
  rw [← ho1, ← ho2]
  clear ho1 ho2
  replace e1 := Lib.hid e1
  clear e2 g2
  generalize hL1 : h.led d = L1 at e1 g1 c1 ⊢
  generalize h.led (!d) = L2 at c2 ⊢
  clear hL1
  by_cases h0 : 0 ≤ n
  · by_cases h1 : n < (L1.motions.length : Int)
    · obtain ⟨g, rfl⟩ := g1 (by omega)
      have fin : RFind v L1 L2 d n w (.returned (.tuple #[.pointer (some ⟨g, n.toNat * 8, none⟩), .int .i64 0])) w := ⟨.inl ⟨by unfold hasM; simp [h0, h1], g, q1, e1.out, rfl⟩, Kp.refl _ _ _⟩
      obtain ⟨m, rfl⟩ := Int.eq_ofNat_of_zero_le h0
      have em : ((m : Int)).toNat = m := by simp
      rw [em] at fin
      replace fin := Lib.hid fin
      clear em
      go_enter Tryz.func96, Tryz.ntmps96
      go_wp2_with fail
      exact bodyPost_ret (v := .tuple #[.pointer (some ⟨g, m * 8, none⟩), .int .i64 0]) (by simp [results, Tryz.results96, go_sem]) rfl fin.out
    · have hf : hasM L1 n = false := by unfold hasM; simp [h1]
      by_cases h2 : n < (L2.motions.length : Int)
      · have fin : RFind v L1 L2 d n w (.returned (.tuple #[.pointer none, .int .i64 15])) w := ⟨.inr (.inl ⟨hf, by unfold hasM; simp [h0, h2], rfl⟩), Kp.refl _ _ _⟩
        replace fin := Lib.hid fin
        clear hf
        go_enter Tryz.func96, Tryz.ntmps96
        go_wp2_with fail
        exact bodyPost_ret (v := .tuple #[.pointer none, .int .i64 15]) (by simp [results, Tryz.results96, go_sem]) rfl fin.out
      · have fin : RFind v L1 L2 d n w (.returned (.tuple #[.pointer none, .int .i64 7])) w := ⟨.inr (.inr ⟨hf, by unfold hasM; simp [h2], rfl⟩), Kp.refl _ _ _⟩
        replace fin := Lib.hid fin
        clear hf
        go_enter Tryz.func96, Tryz.ntmps96
        go_wp2_with fail
        exact bodyPost_ret (v := .tuple #[.pointer none, .int .i64 7]) (by simp [results, Tryz.results96, go_sem]) rfl fin.out
  · have hf : hasM L1 n = false := by unfold hasM; simp [h0]
    have hf2 : hasM L2 n = false := by unfold hasM; simp [h0]
    have fin : RFind v L1 L2 d n w (.returned (.tuple #[.pointer none, .int .i64 7])) w := ⟨.inr (.inr ⟨hf, hf2, rfl⟩), Kp.refl _ _ _⟩
    replace fin := Lib.hid fin
    clear hf hf2
    go_enter Tryz.func96, Tryz.ntmps96
    go_wp2_with fail
    exact bodyPost_ret (v := .tuple #[.pointer none, .int .i64 7]) (by simp [results, Tryz.results96, go_sem]) rfl fin.out
set_option maxRecDepth 20000 in
set_option maxHeartbeats 40000000 in
theorem ref_vote_any (B hb n : Nat) (V : CV) (c : Council) (v : Ky → Value) (h : House) (x : CItem) (w : World) (p : RH B hb w v h) (hC : CAt B w V c) (hc : CouncilOk c) (hk : HouseOk c n h) (hn : n ≤ 4000) (ht0 : 0 ≤ x.tick) (ht1 : x.tick ≤ 1073741824) :
    Calls Tryz.prog 76 #[.agg #[.slice V.am c.members.length V.cm, .slice V.al c.laws.length V.cl, .slice V.av c.levels.length V.cv], .pointer (some ⟨hb, rD x.drill, none⟩), .pointer (some ⟨hb, rD (!x.drill), none⟩), .agg #[.int .i64 x.kind, .int .i64 x.tick, .bool x.drill, .int .i64 x.a, .int .i64 x.b, .bool x.yes, .int .i64 x.chance.least, .int .i64 x.chance.most, .int .i64 x.chance.all]] w (RDPost B hb v h x (voteE c (h.led x.drill) (h.led (!x.drill)) x) (voteL c (h.led x.drill) x) w) := by
  have S := GS.start p hC x
  have hhw : hb < w.heap.size := p.lt
  have hBw : B ≤ w.heap.size := by have := p.low; omega
  obtain ⟨cb, hcb⟩ : ∃ q, q = w.heap.size := ⟨_, rfl⟩
  obtain ⟨xb, hxb⟩ : ∃ q, q = w.heap.size + 1 := ⟨_, rfl⟩
  obtain ⟨E, hE⟩ : ∃ q, q = voteE c (h.led x.drill) (h.led (!x.drill)) x := ⟨_, rfl⟩
  rw [← hE]
  replace hE := Lib.hid hE
  have fnd := fun W (P : RH B hb W v h) => ref_motion_any B hb v h x.drill x.a W P
  obtain ⟨o, ho⟩ : ∃ q, q = rD x.drill := ⟨_, rfl⟩
  obtain ⟨o2, ho2⟩ : ∃ q, q = rD (!x.drill) := ⟨_, rfl⟩
  rw [← ho, ← ho2] at fnd
  rw [← ho, ← ho2]
  replace ho := Lib.hid ho
  replace ho2 := Lib.hid ho2
  replace fnd := Lib.hid fnd
  replace hc := Lib.hid hc
  replace hk := Lib.hid hk
  go_enter Tryz.func76, Tryz.ntmps76
  go_upto_region 1 with (fail)
  rw [← hxb, ← hcb] at S
  rw [← hxb, ← hcb]
  have hcw : w.heap.size ≤ cb := by omega
  have hxw : w.heap.size ≤ xb := by omega
  have hcx : cb ≠ xb := by omega
  have hhc : hb ≠ cb := by omega
  have hhx : hb ≠ xb := by omega
  replace hxb := Lib.hid hxb
  replace hcb := Lib.hid hcb
  generalize (w.alloc (.cells #[.slice V.am c.members.length V.cm, .slice V.al c.laws.length V.cl, .slice V.av c.levels.length V.cv] 28)).alloc (.cells #[.int .i64 x.kind, .int .i64 x.tick, .bool x.drill, .int .i64 x.a, .int .i64 x.b, .bool x.yes, .int .i64 x.chance.least, .int .i64 x.chance.most, .int .i64 x.chance.all] 36) = w1 at S ⊢
  have cx := fun i => S.x.blk.cell i
  go_wp2_with fail
  refine (fnd.out _ S.p).mono ?_
  rintro e w3 ⟨hf, k3⟩
  replace S := S.kpN k3
  clear k3 cx fnd
  rcases hf with ⟨hh, g, cap, hv, rfl⟩ | ⟨hh, hh2, rfl⟩ | ⟨hh, hh2, rfl⟩
  case inr.inl =>
    have e1 := Lib.hid (show 15 = E by rw [hE.out, voteE_no hh, hh2]; rfl)
    clear hh hh2
    go_wp2
    go_ret
    exact RDPost.err S e1.out (by rw [← e1.out]; decide)
  case inr.inr =>
    have e1 := Lib.hid (show 7 = E by rw [hE.out, voteE_no hh, hh2]; rfl)
    clear hh hh2
    go_wp2
    go_ret
    exact RDPost.err S e1.out (by rw [← e1.out]; decide)
  obtain ⟨hi, hm⟩ := motD_eq hh
  obtain ⟨i, hia⟩ : ∃ q, q = x.a.toNat := ⟨_, rfl⟩
  have hi2 : i < (h.led x.drill).motions.length := by rw [hia]; exact hi
  replace hm : motD (h.led x.drill) x.a = (h.led x.drill).motions[i] := by subst hia; exact hm
  rw [← hia]
  obtain ⟨m, hmm⟩ : ∃ q, q = (h.led x.drill).motions[i] := ⟨_, rfl⟩
  rw [← hmm] at hm
  have mA : ∀ W, RH B hb W v h → (∀ j u, (encMot (v (.voted x.drill i)) m)[j]? = some u → W.cell? ⟨g, i * 8 + j, none⟩ = some u) ∧ (∀ j, W.frozen? ⟨g, j, none⟩ = false) ∧ g < W.heap.size ∧ g ≠ hb ∧ B ≤ g := fun W s => by
    have := s.motAt hv i hi2
    rwa [← hmm] at this
  replace hm := Lib.hid hm
  replace hmm := Lib.hid hmm
  replace mA := Lib.hid mA
  replace hv := Lib.hid hv
  replace hh := Lib.hid hh
  replace hia := Lib.hid hia
  clear hi
  have cx := fun i => S.x.blk.cell i
  have cc := fun i => S.cl.blk.cell i
  go_wp2_with fail
  refine (ref_weight_any x.b B V c _ S.ca).mono ?_
  rintro e w4 ⟨rfl, k4⟩
  replace S := S.kpN k4
  clear k4 cx cc
  cases hmo : memOf c x.b with
  | none =>
    have hw : wOf c x.b = 0 := by unfold wOf; rw [hmo]
    have e1 := Lib.hid (show 7 = E by rw [hE.out, voteE_7 hh.out hmo])
    rw [hw]
    clear hw hmo
    go_wp2
    go_ret
    exact RDPost.err S e1.out (by rw [← e1.out]; decide)
  | some y =>
  replace hE := Lib.hid (hE.out.trans (voteE_s hh.out hmo hm.out))
  have hw : wOf c x.b = y.weight := by unfold wOf; rw [hmo]
  have hwb := wOf_bd hc.out x.b
  have hw1 : 1 ≤ wOf c x.b := by
    rw [hw]
    exact (hc.out.mem y (List.mem_of_find?_eq_some hmo)).2.1
  clear hw hmo
  obtain ⟨W, hW⟩ : ∃ q, q = wOf c x.b := ⟨_, rfl⟩
  rw [← hW] at hwb hw1 ⊢
  replace hW := Lib.hid hW
  have hw0 : ¬ W = 0 := by omega
  have cx := fun i => S.x.blk.cell i
  have m3 : w4.cell? ⟨g, i * 8 + 3, none⟩ = some (.int .i64 m.state) := (mA.out _ S.p).1 3 _ rfl
  by_cases q1 : m.state = 1
  case neg =>
    have e1 := Lib.hid (show 10 = E by rw [hE.out, if_pos q1])
    go_wp2
    go_ret
    exact RDPost.err S e1.out (by rw [← e1.out]; decide)
  replace hE := Lib.hid (hE.out.trans (if_neg (fun q => q q1)))
  have hmem : m ∈ (h.led x.drill).motions := by rw [hmm.out]; exact List.getElem_mem hi2
  have hL := lawD_ok hc.out m.act
  have hop := (hk.out.led x.drill).open0 m hmem
  have hwt := (hk.out.led x.drill).wt m hmem
  have hvl : m.voted.length ≤ 4000 := by have := (hk.out.led x.drill).vlen m hmem; omega
  have hvo : votedOf (h.led x.drill) i = m.voted := by unfold votedOf; rw [List.getElem?_eq_getElem hi2, ← hmm.out]; rfl
  obtain ⟨A6, cap6, e6, -, -⟩ := (S.p.rows.voted x.drill i).rd0 (fun _ => rfl)
  rw [hvo] at e6
  have cv : ∀ W, RH B hb W v h → W.cell? ⟨g, i * 8 + 6, none⟩ = some (.slice A6 m.voted.length cap6) ∧ Rd none W 1 encI A6 m.voted.length m.voted := fun W pW =>
    ⟨by rw [← e6]; exact (mA.out _ pW).1 6 _ rfl, by
      obtain ⟨A', cap', e', rd', -⟩ := (pW.rows.voted x.drill i).rd0 (fun _ => rfl)
      rw [hvo] at e' rd'
      rw [e6] at e'
      simp only [Value.slice.injEq] at e'
      obtain ⟨rfl, -, rfl⟩ := e'
      exact rd'⟩
  replace hmem := Lib.hid hmem
  replace cv := Lib.hid cv
  replace e6 := Lib.hid e6
  replace hvo := Lib.hid hvo
  obtain ⟨Q, hQ⟩ : ∃ q, q = decide (x.b ∈ m.voted) := ⟨_, rfl⟩
  have cs := ref_has_any x.b A6 cap6 m.voted
  rw [← hQ] at cs
  replace hQ := Lib.hid hQ
  go_upto_region 9 with (fail)
  clear cx m3
  replace S := S.drew
  have T := S
  clear S
  obtain ⟨S, hS⟩ : ∃ S : Nat → World → Prop, S = fun _ w' => w'.cell? ⟨g, i * 8 + 6, none⟩ = some (.slice A6 m.voted.length cap6) ∧ Blk w' xb 36 #[.int .i64 x.kind, .int .i64 x.tick, .bool x.drill, .int .i64 x.a, .int .i64 x.b, .bool x.yes, .int .i64 x.chance.least, .int .i64 x.chance.most, .int .i64 x.chance.all] := ⟨_, rfl⟩
  have hS0 : ∀ w', S 0 w' ↔ (w'.cell? ⟨g, i * 8 + 6, none⟩ = some (.slice A6 m.voted.length cap6) ∧ Blk w' xb 36 #[.int .i64 x.kind, .int .i64 x.tick, .bool x.drill, .int .i64 x.a, .int .i64 x.b, .bool x.yes, .int .i64 x.chance.least, .int .i64 x.chance.most, .int .i64 x.chance.all]) := fun w' => by rw [hS]
  clear hS
  have c6 := fun (q : Ev (S 0)) => ((hS0 _).1 q.h).1
  have cx := fun (q : Ev (S 0)) i => ((hS0 _).1 q.h).2.cell i
  have hevT := ev_true
  refine wp_region_ord S [(0, 0), (1, 0), (2, 0), (3, 1), (4, 0), (5, 1), (6, 2)] [] (by kernel_rfl) (by kernel_rfl) ((hS0 _).2 ⟨(cv.out _ T.p).1, T.x.blk⟩) ?_
  intro _hev
  iterate 6 (first | (refine wpOrd_v rfl rfl ?_; intro K hK; go_big_quiet_op; go_big_quiet_on) | (refine wpOrd_q rfl rfl ?_; intro K hK; go_big_quiet_op; go_big_quiet_on) | refine wpOrd_s (by decide) rfl rfl ?_)
  refine wpOrd_l rfl rfl ?_; intro K hK
  go_step
  refine (cs _ (cv.out _ T.p).2 (by omega)).mono ?_
  rintro e w6 ⟨rfl, k6⟩
  replace T := T.kpN k6
  refine hK _ _ ((hS0 _).2 ⟨(cv.out _ T.p).1, T.x.blk⟩) ?_
  clear hK K k6
  refine wpOrd_nil ?_
  clear hevT _hev
  clear hS0 S c6 cx cs
  have S := T
  clear T
  cases Q
  case true =>
    have e1 := Lib.hid (show 9 = E by rw [hE.out, if_pos (by simpa using hQ.out.symm)])
    go_wp2
    go_ret
    exact RDPost.err S e1.out (by rw [← e1.out]; decide)
  replace hE := Lib.hid (hE.out.trans (if_neg (by simpa using hQ.out.symm)))
  go_upto_region 11 with (fail)
  go_cut [12, 13] (fun v7 v8 wx => RAtLaw0 B hb cb xb V c v v h x m.act w v7 v8 wx)
  case first =>
    replace S := S.drew
    obtain ⟨S0, hS⟩ : ∃ S0 : World → Prop, S0 = fun w' => Blk w' cb 28 #[.slice V.am c.members.length V.cm, .slice V.al c.laws.length V.cl, .slice V.av c.levels.length V.cv] ∧ w'.cell? ⟨g, i * 8 + 1, none⟩ = some (.int .i64 m.act) := ⟨_, rfl⟩
    have hS0 : ∀ w', S0 w' ↔ (Blk w' cb 28 #[.slice V.am c.members.length V.cm, .slice V.al c.laws.length V.cl, .slice V.av c.levels.length V.cv] ∧ w'.cell? ⟨g, i * 8 + 1, none⟩ = some (.int .i64 m.act)) := fun w' => by rw [hS]
    clear hS
    have ca := fun (q : Ev S0) => ((hS0 _).1 q.h).2
    have cc := fun (q : Ev S0) i => ((hS0 _).1 q.h).1.cell i
    have hevT := ev_true
    refine wp_region_tr S0 (.st 0 1 (.st 1 0 (.st 2 0 (.st 3 0 (.st 4 1 (.b2 5 (.st 6 0 (.st 7 0 (.st 8 0 (.st 9 2 (.st 10 2 (.st 11 0 .nil)))))) 9 (.st 5 2 (.st 6 0 (.st 7 0 (.st 8 0 (.st 10 2 (.st 11 0 .nil)))))))))))) (by kernel_rfl) (by kernel_rfl) ((hS0 _).2 ⟨S.cl.blk, (mA.out _ S.p).1 1 _ rfl⟩) ?_
    intro _hev
    iterate 5 (first | (refine wpTr_v rfl rfl ?_; intro K hK; go_big_quiet_op; go_big_quiet_on) | (refine wpTr_q rfl rfl ?_; intro K hK; go_big_quiet_op; go_big_quiet_on) | refine wpTr_s rfl rfl ?_)
    refine wpTr_b2 ?_ ?_
    · refine wpOne_l rfl rfl ?_; intro K hK
      go_step
      refine (ref_lawOf_any m.act B V c _ S.ca).mono ?_
      rintro e w5 ⟨rfl, k5⟩
      replace S := S.kpN k5
      try (replace LB := LB.kpN k5)
      refine hK _ _ ((hS0 _).2 ⟨S.cl.blk, (mA.out _ S.p).1 1 _ rfl⟩) ?_
      clear hK K k5
      iterate 3 (first | (refine wpTr_v rfl rfl ?_; intro K hK; go_big_quiet_op; go_big_quiet_on) | (refine wpTr_q rfl rfl ?_; intro K hK; go_big_quiet_op; go_big_quiet_on) | refine wpTr_s rfl rfl ?_)
      refine wpTr_l rfl rfl ?_; intro K hK
      obtain ⟨lb, wq, hwq, hlb, S2, LB, hl0, hlc, hlx, hBl⟩ := S.fresh 101 #[.int .i64 0, .int .i64 0, .int .i64 0, .int .i64 0, .int .i64 0]
      clear S
      have S := S2
      clear S2
      go_step
      first | rw [← hwq] | rw [show (World.alloc w5 (.cells #[.int .i64 0, .int .i64 0, .int .i64 0, .int .i64 0, .int .i64 0] 101)).drew = wq from hwq.symm] | rw [show (World.alloc w6 (.cells #[.int .i64 0, .int .i64 0, .int .i64 0, .int .i64 0, .int .i64 0] 101)).drew = wq from hwq.symm]
      first | rw [← hlb] | rw [← show lb = w6.heap.size from hlb]
      replace hlb := Lib.hid hlb
      refine hK _ _ ((hS0 _).2 ⟨S.cl.blk, (mA.out _ S.p).1 1 _ rfl⟩) ?_
      clear hK K hwq
      refine wpTr_l rfl rfl ?_; intro K hK
      have cL := fun i => LB.blk.cell i
      have fL := fun i => LB.blk.frozen i
      go_step
      have S2 := S.other (setL0_grown _ lb (lawD c m.act)) LB.apart hl0 hlc hlx hBl
      have LB2 : Lcl hb v _ lb _ _ := ⟨Blk.setL0 LB.blk (lawD c m.act), LB.apart⟩
      clear cL fL
      change K _ (setL0 _ lb (lawD c m.act))
      generalize setL0 _ lb (lawD c m.act) = w7 at S2 LB2 ⊢
      clear S
      have S := S2
      clear S2
      refine hK _ _ ((hS0 _).2 ⟨S.cl.blk, (mA.out _ S.p).1 1 _ rfl⟩) ?_
      clear hK K
      iterate 1 (first | (refine wpTr_v rfl rfl ?_; intro K hK; go_big_quiet_op; go_big_quiet_on) | (refine wpTr_q rfl rfl ?_; intro K hK; go_big_quiet_op; go_big_quiet_on) | refine wpTr_s rfl rfl ?_)
      refine wpTr_nil ?_
      clear hevT _hev
      go_wp2_with fail
      go_meet
      case rel => exact ⟨lb, rfl, rfl, S, LB2⟩
    · refine wpOne_l rfl rfl ?_; intro K hK
      obtain ⟨lb, wq, hwq, hlb, S2, LB, hl0, hlc, hlx, hBl⟩ := S.fresh 101 #[.int .i64 0, .int .i64 0, .int .i64 0, .int .i64 0, .int .i64 0]
      clear S
      have S := S2
      clear S2
      go_step
      first | rw [← hwq] | rw [show (World.alloc w5 (.cells #[.int .i64 0, .int .i64 0, .int .i64 0, .int .i64 0, .int .i64 0] 101)).drew = wq from hwq.symm] | rw [show (World.alloc w6 (.cells #[.int .i64 0, .int .i64 0, .int .i64 0, .int .i64 0, .int .i64 0] 101)).drew = wq from hwq.symm]
      first | rw [← hlb] | rw [← show lb = w6.heap.size from hlb]
      replace hlb := Lib.hid hlb
      refine hK _ _ ((hS0 _).2 ⟨S.cl.blk, (mA.out _ S.p).1 1 _ rfl⟩) ?_
      clear hK K hwq
      refine wpTr_l rfl rfl ?_; intro K hK
      go_step
      refine (ref_lawOf_any m.act B V c _ S.ca).mono ?_
      rintro e w5 ⟨rfl, k5⟩
      replace S := S.kpN k5
      try (replace LB := LB.kpN k5)
      refine hK _ _ ((hS0 _).2 ⟨S.cl.blk, (mA.out _ S.p).1 1 _ rfl⟩) ?_
      clear hK K k5
      iterate 3 (first | (refine wpTr_v rfl rfl ?_; intro K hK; go_big_quiet_op; go_big_quiet_on) | (refine wpTr_q rfl rfl ?_; intro K hK; go_big_quiet_op; go_big_quiet_on) | refine wpTr_s rfl rfl ?_)
      refine wpTr_l rfl rfl ?_; intro K hK
      have cL := fun i => LB.blk.cell i
      have fL := fun i => LB.blk.frozen i
      go_step
      have S2 := S.other (setL0_grown _ lb (lawD c m.act)) LB.apart hl0 hlc hlx hBl
      have LB2 : Lcl hb v _ lb _ _ := ⟨Blk.setL0 LB.blk (lawD c m.act), LB.apart⟩
      clear cL fL
      change K _ (setL0 _ lb (lawD c m.act))
      generalize setL0 _ lb (lawD c m.act) = w7 at S2 LB2 ⊢
      clear S
      have S := S2
      clear S2
      refine hK _ _ ((hS0 _).2 ⟨S.cl.blk, (mA.out _ S.p).1 1 _ rfl⟩) ?_
      clear hK K
      iterate 1 (first | (refine wpTr_v rfl rfl ?_; intro K hK; go_big_quiet_op; go_big_quiet_on) | (refine wpTr_q rfl rfl ?_; intro K hK; go_big_quiet_op; go_big_quiet_on) | refine wpTr_s rfl rfl ?_)
      refine wpTr_nil ?_
      clear hevT _hev
      go_wp2_with fail
      go_meet
      case rel => exact ⟨lb, rfl, rfl, S, LB2⟩
  case rest =>
  clear S
  rename World => w5
  obtain ⟨lb, rfl, rfl, S, LB⟩ := hcut
  have cx := fun i => S.x.blk.cell i
  have cl := fun i => LB.blk.cell i
  have m2 : w5.cell? ⟨g, i * 8 + 2, none⟩ = some (.int .i64 m.opened) := (mA.out _ S.p).1 2 _ rfl
  obtain ⟨L, hLL⟩ : ∃ q, q = lawD c m.act := ⟨_, rfl⟩
  rw [← hLL] at hL cl hE
  replace hLL := Lib.hid hLL
  have hwr : wrap64 (m.opened + L.window) = m.opened + L.window := IntWalk.wrap64_in _ (by omega)
  by_cases q3 : m.opened + L.window < x.tick
  · have e1 := Lib.hid (show 13 = E by rw [hE.out, if_pos q3])
    go_wp2_with fail
    go_quiet (fail)
    go_wp2
    go_ret
    exact RDPost.err (S.kpN ((Kp.refl _ _ _).drewN _)) e1.out (by rw [← e1.out]; decide)
  replace hE := Lib.hid (hE.out.trans (if_neg q3))
  go_wp2_with fail
  go_quiet (fail)
  replace S := S.kpN ((Kp.refl _ _ _).drewN nq)
  clear cx cl m2
  generalize w5.drewN nq = w7 at S ⊢
  obtain ⟨i0, hi0, hz0, hz1, hz2⟩ := info_parts info_int
  obtain ⟨m4, hm4⟩ : ∃ q : Motion, q = { m with yes := if x.yes then m.yes + W else m.yes, no := if x.yes then m.no else m.no + W } := ⟨_, rfl⟩
  replace hm4 := Lib.hid hm4
  obtain ⟨yy, hyy⟩ : ∃ q, q = x.yes := ⟨_, rfl⟩
  have cy : w7.cell? ⟨xb, 5, none⟩ = some (.bool yy) := by rw [hyy]; exact S.x.blk.cell 5
  replace hyy := Lib.hid hyy
  have y4 : w7.cell? ⟨g, i * 8 + 4, none⟩ = some (.int .i64 m.yes) := (mA.out _ S.p).1 4 _ rfl
  have y5 : w7.cell? ⟨g, i * 8 + 5, none⟩ = some (.int .i64 m.no) := (mA.out _ S.p).1 5 _ rfl
  have f7 := (mA.out _ S.p).2.1
  have hwy : wrap64 (m.yes + W) = m.yes + W := IntWalk.wrap64_in _ (by omega)
  have hwn : wrap64 (m.no + W) = m.no + W := IntWalk.wrap64_in _ (by omega)
  have stN : yy = false → GS B hb cb xb V c v v (h.put x.drill { h.led x.drill with motions := (h.led x.drill).motions.set i m4 }) x w (w7.setCell ⟨g, i * 8 + 5, none⟩ (.int .i64 (m.no + W))) := fun hy => by
    have hx : x.yes = false := hyy.out ▸ hy
    exact S.step (S.p.motCell hv.out i hi2 5 (by omega) (.int .i64 (m.no + W)) m4 (by rw [hm4.out, ← hmm.out]) (by rw [← hmm.out, hm4.out, hx]; rfl))
  have stY : yy = true → GS B hb cb xb V c v v (h.put x.drill { h.led x.drill with motions := (h.led x.drill).motions.set i m4 }) x w (w7.setCell ⟨g, i * 8 + 4, none⟩ (.int .i64 (m.yes + W))) := fun hy => by
    have hx : x.yes = true := hyy.out ▸ hy
    exact S.step (S.p.motCell hv.out i hi2 4 (by omega) (.int .i64 (m.yes + W)) m4 (by rw [hm4.out, ← hmm.out]) (by rw [← hmm.out, hm4.out, hx]; rfl))
  replace stN := Lib.hid stN
  replace stY := Lib.hid stY
  clear hwt hwb hw1 hyy
  go_upto_if 63 with (fail)
  clear LB q3 hwr hL hop cy
  go_cut [64] (fun v64 wx => RAtYes B hb cb xb V c v h x i m4 w v64 wx)
  case first =>
    clear S
    cases yy
    · go_wp2_with fail
      go_meet
      case rel => first | exact stN.out rfl | exact stN.out trivial
    · go_wp2_with fail
      go_meet
      case rel => first | exact stY.out rfl | exact stY.out trivial
  case rest =>
  clear S y4 y5 f7 hwy hwn stN stY
  rename World => w8
  have S2 : GS B hb cb xb V c v v (h.put x.drill { h.led x.drill with motions := (h.led x.drill).motions.set i m4 }) x w w8 := hcut
  clear hcut
  obtain ⟨h2, hh2⟩ : ∃ q, q = h.put x.drill { h.led x.drill with motions := (h.led x.drill).motions.set i m4 } := ⟨_, rfl⟩
  rw [← hh2] at S2
  have hi3 : i < (h2.led x.drill).motions.length := by rw [hh2, put_led, List.length_set]; exact hi2
  have hm3 : (h2.led x.drill).motions[i] = m4 := by
    have : ∀ (L : Ledger) (e : L = { h.led x.drill with motions := (h.led x.drill).motions.set i m4 }) (hl : i < L.motions.length), L.motions[i] = m4 := fun L e hl => by
      subst e
      simp only [List.getElem_set_self]
    exact this _ (by rw [hh2, put_led]) hi3
  have hvm : m4.voted = m.voted := by rw [hm4.out]
  have hfin : h2.put x.drill { h2.led x.drill with motions := (h2.led x.drill).motions.set i { m4 with voted := m4.voted ++ [x.b] } } = h.put x.drill (voteL c (h.led x.drill) x) := by
    rw [hh2, put_put, put_led]
    unfold voteL
    simp only [List.set_set]
    rw [hm.out, hm4.out, hW.out, hia.out]
    rfl
  have mB : ∀ W, RH B hb W v h2 → W.cell? ⟨g, i * 8 + 6, none⟩ = some (.slice A6 m.voted.length cap6) ∧ (∀ j, W.frozen? ⟨g, j, none⟩ = false) ∧ Own W B 3 1 encI (.slice A6 m.voted.length cap6) m.voted := fun W s => by
    have q := s.motAt hv.out i hi3
    rw [hm3] at q
    refine ⟨by rw [← e6.out]; exact q.1 6 _ rfl, q.2.1, ?_⟩
    have o := s.rows.voted x.drill i
    have e : votedOf (h2.led x.drill) i = m.voted := by unfold votedOf; rw [List.getElem?_eq_getElem hi3, hm3]; exact hvm
    rw [e, e6.out] at o
    exact o
  replace mB := Lib.hid mB
  replace hfin := Lib.hid hfin
  replace hm3 := Lib.hid hm3
  replace hvm := Lib.hid hvm
  clear hh2
  go_upto_region 17 with (fail)
  replace S2 := S2.drew
  have T := S2
  clear S2
  obtain ⟨S, hS⟩ : ∃ S : Nat → World → Prop, S = fun n w' => if n = 0 then w'.cell? ⟨g, i * 8 + 6, none⟩ = some (.slice A6 m.voted.length cap6) ∧ Blk w' xb 36 #[.int .i64 x.kind, .int .i64 x.tick, .bool x.drill, .int .i64 x.a, .int .i64 x.b, .bool x.yes, .int .i64 x.chance.least, .int .i64 x.chance.most, .int .i64 x.chance.all] else True := ⟨_, rfl⟩
  have hS0 : ∀ w', S 0 w' ↔ (w'.cell? ⟨g, i * 8 + 6, none⟩ = some (.slice A6 m.voted.length cap6) ∧ Blk w' xb 36 #[.int .i64 x.kind, .int .i64 x.tick, .bool x.drill, .int .i64 x.a, .int .i64 x.b, .bool x.yes, .int .i64 x.chance.least, .int .i64 x.chance.most, .int .i64 x.chance.all]) := fun w' => by rw [hS]; exact Iff.rfl
  have hS1 : ∀ w', S 1 w' ↔ (True) := fun w' => by rw [hS]; exact Iff.rfl
  clear hS
  have c6 := fun (q : Ev (S 0)) => ((hS0 _).1 q.h).1
  have cx := fun (q : Ev (S 0)) i => ((hS0 _).1 q.h).2.cell i
  have hSB : B ≤ w8.drew.heap.size := by have := T.p.low; have := T.p.lt; omega
  have hevT := ev_true
  refine wp_region_ord S [(0, 0), (1, 0), (2, 0), (3, 0), (4, 1), (5, 0), (6, 1), (7, 2), (8, 2), (9, 0), (10, 0), (11, 3)] [11] (by kernel_rfl) (by kernel_rfl) ((hS0 _).2 ⟨(mB.out _ T.p).1, T.x.blk⟩) ?_
  intro _hev
  iterate 7 (first | (refine wpOrd_v rfl rfl ?_; intro K hK; go_big_quiet_op; go_big_quiet_on) | (refine wpOrd_q rfl rfl ?_; intro K hK; go_big_quiet_op; go_big_quiet_on) | refine wpOrd_s (by decide) rfl rfl ?_)
  refine wpOrd_l rfl rfl ?_; intro K hK
  go_step
  have X := Blk.new w8.drew 3 #[.int .i64 x.b]
  have KX := Kp.new w8.drew (.cells #[.int .i64 x.b] 3)
  rw [show (World.alloc w8 (.cells #[.int .i64 x.b] 3)).drew = w8.drew.alloc (.cells #[.int .i64 x.b] 3) from rfl]
  obtain ⟨sb, hsb⟩ : ∃ q, q = w8.heap.size := ⟨_, rfl⟩
  rw [← hsb]
  replace X : Blk (w8.drew.alloc (.cells #[.int .i64 x.b] 3)) sb _ _ := hsb ▸ X
  generalize w8.drew.alloc (.cells #[.int .i64 x.b] 3) = w9 at X KX ⊢
  replace hsb := Lib.hid hsb
  replace T := T.kpN KX
  replace hSB := Nat.le_trans hSB KX.size
  clear KX
  refine hK _ _ ((hS0 _).2 ⟨(mB.out _ T.p).1, T.x.blk⟩) ?_
  clear hK K
  have ow := (mB.out _ T.p).2.2
  refine wpOrd_l rfl rfl ?_; intro K hK
  refine wp_append_own_at (.tmp 86) (.tmp 89) 22 (by rfl) B 3 i0 _ 1 8 Tryz.underlying22 hi0 hz0 hz1 hz2 (by rfl) (by omega) (.slice A6 m.voted.length cap6) m.voted.length (m.voted.flatMap encI) (by rfl) ow ⟨sb, 0, none⟩ 1 1 [.int .i64 x.b] (by rfl) (by rfl) (fun j u hj => by rw [Addr.add_lit, Nat.zero_add, X.cell]; exact (show [Value.int .i64 x.b].toArray[j]? = some u by simpa using hj)) (one_int _ _) (maxLen_of (by omega)) (by omega) hSB ?_
  intro u8 w10 hown8 gu au
  obtain ⟨g8, cap8, rfl⟩ := ownsRow_succ hown8
  have st := T.p.voteStep hv.out i hi3 x.b (.slice (some ⟨g8, 0, none⟩) (m.voted.length + 1) cap8) (by rw [e6.out]; exact gu) (by rw [hm3.out, hvm.out]; unfold Own; rw [List.length_append, List.flatMap_append]; exact hown8)
    (by rw [e6.out]; rcases au with h1 | h1
        · exact .inl h1
        · right; intro b hb'; rw [h1] at hb'; injection hb' with hb'; omega)
  rw [hm3.out, hfin.out] at st
  have T3 := T.step st
  have hne6 : (Value.slice A6 m.voted.length cap6).ownBlock = none ∨ (Value.slice A6 m.voted.length cap6).ownBlock ≠ some g := by
    rw [← e6.out]
    right
    intro e
    exact T.p.rows.ap (.voted x.drill i) (.motions x.drill) g (by simp) (by rw [rowOf_v]; exact e) (by rw [rowOf_v, hv.out]; rfl)
  have hx8 : Blk w10 xb 36 #[.int .i64 x.kind, .int .i64 x.tick, .bool x.drill, .int .i64 x.a, .int .i64 x.b, .bool x.yes, .int .i64 x.chance.least, .int .i64 x.chance.most, .int .i64 x.chance.all] := (gu.block xb T.x.blk.lt (fun e => T.x.apart.2 (.voted x.drill i) (by rw [e6.out]; exact e.symm))).trans T.x.blk
  have ow8 : Own w10 B 52 8 encVM (v (.motions x.drill)) (zipV (fun i => v (.voted x.drill i)) 0 (h2.led x.drill).motions) := World.ownsRow.kept (T.p.rows.motions x.drill) gu (by
    rw [hv.out]
    rcases hne6 with h1 | h1
    · rw [h1]; right; simp [Value.ownBlock]
    · exact .inr fun e => h1 e.symm)
  rw [hv.out] at ow8
  have cg := Own.cells ow8 (fun _ => rfl) i (by rw [zipV_len]; exact hi3)
  rw [zipV_at _ _ _ _ hi3, Nat.zero_add] at cg
  have c8 : w10.cell? ⟨g, i * 8 + 6, none⟩ = some (.slice A6 m.voted.length cap6) := cg.1 6 _ (by rw [← e6.out]; rfl)
  have f8 := cg.2
  clear cg ow8
  refine hK _ _ ((hS0 _).2 ⟨c8, hx8⟩) ?_
  try simp only [Act.put, List.setIfInBounds_toArray, List.set_cons_zero, List.set_cons_succ]
  clear hK K
  iterate 2 (first | (refine wpOrd_v rfl rfl ?_; intro K hK; go_big_quiet_op; go_big_quiet_on) | (refine wpOrd_q rfl rfl ?_; intro K hK; go_big_quiet_op; go_big_quiet_on) | refine wpOrd_s (by decide) rfl rfl ?_)
  refine wpOrd_a rfl rfl ?_; intro K hK
  go_step
  refine hK _ _ ((hS1 _).2 trivial) ?_
  clear hK K
  change wpOrd _ _ _ _ _ 1 _ _
  refine wpOrd_nil ?_
  clear hevT _hev
  clear hS0 hS1 S cx c6 c8 f8 hx8 hne6 hown8 gu au st
  have fin := Lib.hid (RDPost.fin T3 hE.out)
  go_wp2
  go_ret
  exact fin.out
end Go.Proofs.YtogpgnljomchcaaGreat
namespace Go.Proofs.YtogpgnljomchcaaGreat
open Go.RowKit

def RAtState (B hb cb xb : Nat) (V : CV) (c : Council) (v : Ky → Value) (h : House) (x : CItem) (i : Nat) (m4 : Motion) (lb : Nat) (L : LawC) (w : World) (_v : Value) (wx : World) : Prop :=
  GS B hb cb xb V c v v (h.put x.drill { h.led x.drill with motions := (h.led x.drill).motions.set i m4 }) x w wx ∧ Lcl hb v wx lb 101 #[.int .i64 L.act, .int .i64 L.level, .int .i64 L.window, .int .i64 L.quorum, .int .i64 L.share]
def RAtLate (B hb cb xb : Nat) (V : CV) (c : Council) (v : Ky → Value) (h : House) (x : CItem) (lb : Nat) (L : LawC) (b : Bool) (w : World) (v60 : Value) (wx : World) : Prop :=
  v60 = .bool b ∧ GS B hb cb xb V c v v h x w wx ∧ Lcl hb v wx lb 101 #[.int .i64 L.act, .int .i64 L.level, .int .i64 L.window, .int .i64 L.quorum, .int .i64 L.share]
theorem set_mot (h : House) (d : Bool) (i : Nat) (m : Motion) (hi : i < (h.led d).motions.length) : ∃ hi2 : i < ((h.put d { h.led d with motions := (h.led d).motions.set i m }).led d).motions.length, ((h.put d { h.led d with motions := (h.led d).motions.set i m }).led d).motions[i] = m := by
  have : ∀ (L : Ledger) (e : L = { h.led d with motions := (h.led d).motions.set i m }), ∃ hi2 : i < L.motions.length, L.motions[i] = m := fun L e => by
    subst e
    exact ⟨by simpa using hi, by simp⟩
  exact this _ (put_led _ _ _)
set_option maxRecDepth 20000 in
set_option maxHeartbeats 40000000 in
theorem ref_closes_any (B hb n : Nat) (V : CV) (c : Council) (v : Ky → Value) (h : House) (x : CItem) (w : World) (p : RH B hb w v h) (hC : CAt B w V c) (hc : CouncilOk c) (hk : HouseOk c n h) (hn : n ≤ 2000) :
    Calls Tryz.prog 77 #[.agg #[.slice V.am c.members.length V.cm, .slice V.al c.laws.length V.cl, .slice V.av c.levels.length V.cv], .pointer (some ⟨hb, rD x.drill, none⟩), .pointer (some ⟨hb, rD (!x.drill), none⟩), .agg #[.int .i64 x.kind, .int .i64 x.tick, .bool x.drill, .int .i64 x.a, .int .i64 x.b, .bool x.yes, .int .i64 x.chance.least, .int .i64 x.chance.most, .int .i64 x.chance.all]] w (RDPost B hb v h x (closeE c (h.led x.drill) (h.led (!x.drill)) x) (closeL c (h.led x.drill) x) w) := by
  have S := GS.start p hC x
  have hhw : hb < w.heap.size := p.lt
  have hBw : B ≤ w.heap.size := by have := p.low; omega
  obtain ⟨cb, hcb⟩ : ∃ q, q = w.heap.size := ⟨_, rfl⟩
  obtain ⟨xb, hxb⟩ : ∃ q, q = w.heap.size + 1 := ⟨_, rfl⟩
  obtain ⟨E, hE⟩ : ∃ q, q = closeE c (h.led x.drill) (h.led (!x.drill)) x := ⟨_, rfl⟩
  rw [← hE]
  replace hE := Lib.hid hE
  have fnd := fun W (P : RH B hb W v h) => ref_motion_any B hb v h x.drill x.a W P
  obtain ⟨o, ho⟩ : ∃ q, q = rD x.drill := ⟨_, rfl⟩
  obtain ⟨o2, ho2⟩ : ∃ q, q = rD (!x.drill) := ⟨_, rfl⟩
  rw [← ho, ← ho2] at fnd
  rw [← ho, ← ho2]
  replace ho := Lib.hid ho
  replace ho2 := Lib.hid ho2
  replace fnd := Lib.hid fnd
  replace hc := Lib.hid hc
  replace hk := Lib.hid hk
  go_enter Tryz.func77, Tryz.ntmps77
  go_upto_region 1 with (fail)
  rw [← hxb, ← hcb] at S
  rw [← hxb, ← hcb]
  have hcw : w.heap.size ≤ cb := by omega
  have hxw : w.heap.size ≤ xb := by omega
  have hcx : cb ≠ xb := by omega
  have hhc : hb ≠ cb := by omega
  have hhx : hb ≠ xb := by omega
  replace hxb := Lib.hid hxb
  replace hcb := Lib.hid hcb
  generalize (w.alloc (.cells #[.slice V.am c.members.length V.cm, .slice V.al c.laws.length V.cl, .slice V.av c.levels.length V.cv] 28)).alloc (.cells #[.int .i64 x.kind, .int .i64 x.tick, .bool x.drill, .int .i64 x.a, .int .i64 x.b, .bool x.yes, .int .i64 x.chance.least, .int .i64 x.chance.most, .int .i64 x.chance.all] 36) = w1 at S ⊢
  have cx := fun i => S.x.blk.cell i
  go_wp2_with fail
  refine (fnd.out _ S.p).mono ?_
  rintro e w3 ⟨hf, k3⟩
  replace S := S.kpN k3
  clear k3 cx fnd
  rcases hf with ⟨hh, g, cap, hv, rfl⟩ | ⟨hh, hh2, rfl⟩ | ⟨hh, hh2, rfl⟩
  case inr.inl =>
    have e1 := Lib.hid (show 15 = E by rw [hE.out, closeE_no hh, hh2]; rfl)
    clear hh hh2
    go_wp2
    go_ret
    exact RDPost.err S e1.out (by rw [← e1.out]; decide)
  case inr.inr =>
    have e1 := Lib.hid (show 7 = E by rw [hE.out, closeE_no hh, hh2]; rfl)
    clear hh hh2
    go_wp2
    go_ret
    exact RDPost.err S e1.out (by rw [← e1.out]; decide)
  obtain ⟨hi, hm⟩ := motD_eq hh
  obtain ⟨i, hia⟩ : ∃ q, q = x.a.toNat := ⟨_, rfl⟩
  have hi2 : i < (h.led x.drill).motions.length := by rw [hia]; exact hi
  replace hm : motD (h.led x.drill) x.a = (h.led x.drill).motions[i] := by subst hia; exact hm
  rw [← hia]
  obtain ⟨m, hmm⟩ : ∃ q, q = (h.led x.drill).motions[i] := ⟨_, rfl⟩
  rw [← hmm] at hm
  have mA : ∀ W, RH B hb W v h → (∀ j u, (encMot (v (.voted x.drill i)) m)[j]? = some u → W.cell? ⟨g, i * 8 + j, none⟩ = some u) ∧ (∀ j, W.frozen? ⟨g, j, none⟩ = false) ∧ g < W.heap.size ∧ g ≠ hb ∧ B ≤ g := fun W s => by
    have := s.motAt hv i hi2
    rwa [← hmm] at this
  replace hm := Lib.hid hm
  replace hmm := Lib.hid hmm
  replace mA := Lib.hid mA
  replace hv := Lib.hid hv
  replace hh := Lib.hid hh
  replace hia := Lib.hid hia
  clear hi
  have cx := fun i => S.x.blk.cell i
  have m3 : w3.cell? ⟨g, i * 8 + 3, none⟩ = some (.int .i64 m.state) := (mA.out _ S.p).1 3 _ rfl
  replace hE := Lib.hid (hE.out.trans (closeE_s hh.out hm.out))
  by_cases q1 : m.state = 1
  case neg =>
    have e1 := Lib.hid (show 10 = E by rw [hE.out, if_pos q1])
    go_wp2
    go_ret
    exact RDPost.err S e1.out (by rw [← e1.out]; decide)
  replace hE := Lib.hid (hE.out.trans (if_neg (fun q => q q1)))
  have hmem : m ∈ (h.led x.drill).motions := by rw [hmm.out]; exact List.getElem_mem hi2
  have hL := lawD_ok hc.out m.act
  have hop := (hk.out.led x.drill).open0 m hmem
  have hwt := (hk.out.led x.drill).wt m hmem
  have hvl : m.voted.length ≤ 4000 := by have := (hk.out.led x.drill).vlen m hmem; omega
  have hvo : votedOf (h.led x.drill) i = m.voted := by unfold votedOf; rw [List.getElem?_eq_getElem hi2, ← hmm.out]; rfl
  obtain ⟨A6, cap6, e6, -, -⟩ := (S.p.rows.voted x.drill i).rd0 (fun _ => rfl)
  rw [hvo] at e6
  replace hmem := Lib.hid hmem
  replace e6 := Lib.hid e6
  clear hvo
  go_upto_region 6 with (fail)
  clear cx m3
  go_cut [11, 12] (fun v7 v8 wx => RAtLaw0 B hb cb xb V c v v h x m.act w v7 v8 wx)
  case first =>
    replace S := S.drew
    obtain ⟨S0, hS⟩ : ∃ S0 : World → Prop, S0 = fun w' => Blk w' cb 28 #[.slice V.am c.members.length V.cm, .slice V.al c.laws.length V.cl, .slice V.av c.levels.length V.cv] ∧ w'.cell? ⟨g, i * 8 + 1, none⟩ = some (.int .i64 m.act) := ⟨_, rfl⟩
    have hS0 : ∀ w', S0 w' ↔ (Blk w' cb 28 #[.slice V.am c.members.length V.cm, .slice V.al c.laws.length V.cl, .slice V.av c.levels.length V.cv] ∧ w'.cell? ⟨g, i * 8 + 1, none⟩ = some (.int .i64 m.act)) := fun w' => by rw [hS]
    clear hS
    have ca := fun (q : Ev S0) => ((hS0 _).1 q.h).2
    have cc := fun (q : Ev S0) i => ((hS0 _).1 q.h).1.cell i
    have hevT := ev_true
    refine wp_region_tr S0 (.st 0 1 (.st 1 0 (.st 2 0 (.st 3 0 (.st 4 1 (.b2 5 (.st 6 0 (.st 7 0 (.st 8 0 (.st 9 2 (.st 10 2 (.st 11 0 .nil)))))) 9 (.st 5 2 (.st 6 0 (.st 7 0 (.st 8 0 (.st 10 2 (.st 11 0 .nil)))))))))))) (by kernel_rfl) (by kernel_rfl) ((hS0 _).2 ⟨S.cl.blk, (mA.out _ S.p).1 1 _ rfl⟩) ?_
    intro _hev
    iterate 5 (first | (refine wpTr_v rfl rfl ?_; intro K hK; go_big_quiet_op; go_big_quiet_on) | (refine wpTr_q rfl rfl ?_; intro K hK; go_big_quiet_op; go_big_quiet_on) | refine wpTr_s rfl rfl ?_)
    refine wpTr_b2 ?_ ?_
    · refine wpOne_l rfl rfl ?_; intro K hK
      go_step
      refine (ref_lawOf_any m.act B V c _ S.ca).mono ?_
      rintro e w5 ⟨rfl, k5⟩
      replace S := S.kpN k5
      try (replace LB := LB.kpN k5)
      refine hK _ _ ((hS0 _).2 ⟨S.cl.blk, (mA.out _ S.p).1 1 _ rfl⟩) ?_
      clear hK K k5
      iterate 3 (first | (refine wpTr_v rfl rfl ?_; intro K hK; go_big_quiet_op; go_big_quiet_on) | (refine wpTr_q rfl rfl ?_; intro K hK; go_big_quiet_op; go_big_quiet_on) | refine wpTr_s rfl rfl ?_)
      refine wpTr_l rfl rfl ?_; intro K hK
      obtain ⟨lb, wq, hwq, hlb, S2, LB, hl0, hlc, hlx, hBl⟩ := S.fresh 101 #[.int .i64 0, .int .i64 0, .int .i64 0, .int .i64 0, .int .i64 0]
      clear S
      have S := S2
      clear S2
      go_step
      first | rw [← hwq] | rw [show (World.alloc w5 (.cells #[.int .i64 0, .int .i64 0, .int .i64 0, .int .i64 0, .int .i64 0] 101)).drew = wq from hwq.symm] | rw [show (World.alloc w3 (.cells #[.int .i64 0, .int .i64 0, .int .i64 0, .int .i64 0, .int .i64 0] 101)).drew = wq from hwq.symm]
      first | rw [← hlb] | rw [← show lb = w3.heap.size from hlb]
      replace hlb := Lib.hid hlb
      refine hK _ _ ((hS0 _).2 ⟨S.cl.blk, (mA.out _ S.p).1 1 _ rfl⟩) ?_
      clear hK K hwq
      refine wpTr_l rfl rfl ?_; intro K hK
      have cL := fun i => LB.blk.cell i
      have fL := fun i => LB.blk.frozen i
      go_step
      have S2 := S.other (setL0_grown _ lb (lawD c m.act)) LB.apart hl0 hlc hlx hBl
      have LB2 : Lcl hb v _ lb _ _ := ⟨Blk.setL0 LB.blk (lawD c m.act), LB.apart⟩
      clear cL fL
      change K _ (setL0 _ lb (lawD c m.act))
      generalize setL0 _ lb (lawD c m.act) = w7 at S2 LB2 ⊢
      clear S
      have S := S2
      clear S2
      refine hK _ _ ((hS0 _).2 ⟨S.cl.blk, (mA.out _ S.p).1 1 _ rfl⟩) ?_
      clear hK K
      iterate 1 (first | (refine wpTr_v rfl rfl ?_; intro K hK; go_big_quiet_op; go_big_quiet_on) | (refine wpTr_q rfl rfl ?_; intro K hK; go_big_quiet_op; go_big_quiet_on) | refine wpTr_s rfl rfl ?_)
      refine wpTr_nil ?_
      clear hevT _hev
      go_wp2_with fail
      go_meet
      case rel => exact ⟨lb, rfl, rfl, S, LB2⟩
    · refine wpOne_l rfl rfl ?_; intro K hK
      obtain ⟨lb, wq, hwq, hlb, S2, LB, hl0, hlc, hlx, hBl⟩ := S.fresh 101 #[.int .i64 0, .int .i64 0, .int .i64 0, .int .i64 0, .int .i64 0]
      clear S
      have S := S2
      clear S2
      go_step
      first | rw [← hwq] | rw [show (World.alloc w5 (.cells #[.int .i64 0, .int .i64 0, .int .i64 0, .int .i64 0, .int .i64 0] 101)).drew = wq from hwq.symm] | rw [show (World.alloc w3 (.cells #[.int .i64 0, .int .i64 0, .int .i64 0, .int .i64 0, .int .i64 0] 101)).drew = wq from hwq.symm]
      first | rw [← hlb] | rw [← show lb = w3.heap.size from hlb]
      replace hlb := Lib.hid hlb
      refine hK _ _ ((hS0 _).2 ⟨S.cl.blk, (mA.out _ S.p).1 1 _ rfl⟩) ?_
      clear hK K hwq
      refine wpTr_l rfl rfl ?_; intro K hK
      go_step
      refine (ref_lawOf_any m.act B V c _ S.ca).mono ?_
      rintro e w5 ⟨rfl, k5⟩
      replace S := S.kpN k5
      try (replace LB := LB.kpN k5)
      refine hK _ _ ((hS0 _).2 ⟨S.cl.blk, (mA.out _ S.p).1 1 _ rfl⟩) ?_
      clear hK K k5
      iterate 3 (first | (refine wpTr_v rfl rfl ?_; intro K hK; go_big_quiet_op; go_big_quiet_on) | (refine wpTr_q rfl rfl ?_; intro K hK; go_big_quiet_op; go_big_quiet_on) | refine wpTr_s rfl rfl ?_)
      refine wpTr_l rfl rfl ?_; intro K hK
      have cL := fun i => LB.blk.cell i
      have fL := fun i => LB.blk.frozen i
      go_step
      have S2 := S.other (setL0_grown _ lb (lawD c m.act)) LB.apart hl0 hlc hlx hBl
      have LB2 : Lcl hb v _ lb _ _ := ⟨Blk.setL0 LB.blk (lawD c m.act), LB.apart⟩
      clear cL fL
      change K _ (setL0 _ lb (lawD c m.act))
      generalize setL0 _ lb (lawD c m.act) = w7 at S2 LB2 ⊢
      clear S
      have S := S2
      clear S2
      refine hK _ _ ((hS0 _).2 ⟨S.cl.blk, (mA.out _ S.p).1 1 _ rfl⟩) ?_
      clear hK K
      iterate 1 (first | (refine wpTr_v rfl rfl ?_; intro K hK; go_big_quiet_op; go_big_quiet_on) | (refine wpTr_q rfl rfl ?_; intro K hK; go_big_quiet_op; go_big_quiet_on) | refine wpTr_s rfl rfl ?_)
      refine wpTr_nil ?_
      clear hevT _hev
      go_wp2_with fail
      go_meet
      case rel => exact ⟨lb, rfl, rfl, S, LB2⟩
  case rest =>
  clear S
  rename World => w5
  obtain ⟨lb, rfl, rfl, S, LB⟩ := hcut
  have hLin := lawIn_of hc.out m.act
  obtain ⟨L, hLL⟩ : ∃ q, q = lawD c m.act := ⟨_, rfl⟩
  rw [← hLL] at hL LB hE hLin
  replace hLL := Lib.hid hLL
  have cx := fun i => S.x.blk.cell i
  have cc := fun i => S.cl.blk.cell i
  have cl := fun i => LB.blk.cell i
  have m2 : w5.cell? ⟨g, i * 8 + 2, none⟩ = some (.int .i64 m.opened) := (mA.out _ S.p).1 2 _ rfl
  have m6 : w5.cell? ⟨g, i * 8 + 6, none⟩ = some (.slice A6 m.voted.length cap6) := by rw [← e6.out]; exact (mA.out _ S.p).1 6 _ rfl
  have hwr : wrap64 (m.opened + L.window) = m.opened + L.window := IntWalk.wrap64_in _ (by omega)
  obtain ⟨Z, hZ⟩ : ∃ q, q = decide (m.voted.length < c.members.length ∧ x.tick ≤ m.opened + L.window) := ⟨_, rfl⟩
  have hE2 := Lib.hid (show E = if Z then 11 else 0 by rw [hE.out, hZ]; by_cases q : m.voted.length < c.members.length ∧ x.tick ≤ m.opened + L.window <;> simp [q])
  replace hZ := Lib.hid hZ
  clear hE
  go_upto_region 7 with (fail)
  go_cut [60] (fun v60 wx => RAtLate B hb cb xb V c v h x lb L Z w v60 wx)
  case first =>
    by_cases q2 : m.voted.length < c.members.length
    · have q2' : (m.voted.length : Int) < (c.members.length : Int) := by omega
      by_cases q3 : x.tick ≤ m.opened + L.window
      · have e := Lib.hid (show Z = true by rw [hZ.out]; exact decide_eq_true (⟨q2, q3⟩))
        go_wp2_with fail
        go_quiet (fail)
        go_wp2_with fail
        go_meet
        case rel => exact ⟨by rw [e.out] <;> (congr 1; simp; omega), S.kpN ((Kp.refl _ _ _).drewN nq), LB.kpN ((Kp.refl _ _ _).drewN nq)⟩
      · have e := Lib.hid (show Z = false by rw [hZ.out]; exact decide_eq_false (fun q => q3 q.2))
        go_wp2_with fail
        go_quiet (fail)
        go_wp2_with fail
        go_meet
        case rel => exact ⟨by rw [e.out] <;> (congr 1; simp; omega), S.kpN ((Kp.refl _ _ _).drewN nq), LB.kpN ((Kp.refl _ _ _).drewN nq)⟩
    · have q2' : ¬ (m.voted.length : Int) < (c.members.length : Int) := by omega
      have e := Lib.hid (show Z = false by rw [hZ.out]; exact decide_eq_false (fun q => q2 q.1))
      go_wp2_with fail
      go_quiet (fail)
      go_wp2_with fail
      go_meet
      case rel => exact ⟨by rw [e.out] <;> (congr 1; simp; omega), S.kpN ((Kp.refl _ _ _).drewN nq), LB.kpN ((Kp.refl _ _ _).drewN nq)⟩
  case rest =>
  clear S LB cx cc cl m2 m6 hwr
  rename World => w6
  obtain ⟨rfl, S, LB⟩ := hcut
  cases Z
  case true =>
    have e1 := Lib.hid (show 11 = E by rw [hE2.out]; rfl)
    go_wp2
    go_ret
    exact RDPost.err S e1.out (by rw [← e1.out]; decide)
  have hE3 := Lib.hid (show E = 0 by rw [hE2.out]; rfl)
  clear hE2 hZ
  have c3 := (mA.out _ S.p).1 3 _ rfl
  have f3 := (mA.out _ S.p).2.1
  obtain ⟨m5, hm5⟩ : ∃ q : Motion, q = { m with state := 3 } := ⟨_, rfl⟩
  have st := S.p.motCell hv.out i hi2 3 (by omega) (.int .i64 3) m5 (by rw [hm5, ← hmm.out]) (by rw [← hmm.out, hm5]; rfl)
  have hne : lb ≠ g := fun e => LB.apart.2 (.motions x.drill) (by rw [hv.out, ← e]; rfl)
  have S2 := S.step st
  have LB2 := LB.fr st.2
  go_upto_region 10 with (fail)
  clear S LB st c3 f3
  generalize World.setCell w6 ⟨g, i * 8 + 3, none⟩ (.int .i64 3) = w7 at S2 LB2 ⊢
  obtain ⟨hi3, hm3⟩ := set_mot h x.drill i m5 hi2
  obtain ⟨h2, hh2⟩ : ∃ q, q = h.put x.drill { h.led x.drill with motions := (h.led x.drill).motions.set i m5 } := ⟨_, rfl⟩
  have mB : ∀ W, RH B hb W v h2 → W.cell? ⟨g, i * 8 + 4, none⟩ = some (.int .i64 m.yes) ∧ W.cell? ⟨g, i * 8 + 5, none⟩ = some (.int .i64 m.no) ∧ W.cell? ⟨g, i * 8 + 0, none⟩ = some (.int .i64 m.target) ∧ W.cell? ⟨g, i * 8 + 3, none⟩ = some (.int .i64 3) ∧ (∀ j, W.frozen? ⟨g, j, none⟩ = false) := fun W s => by
    rw [hh2] at s
    have q := s.motAt hv.out i hi3
    rw [hm3, hm5] at q
    exact ⟨q.1 4 _ rfl, q.1 5 _ rfl, q.1 0 _ rfl, q.1 3 _ rfl, q.2.1⟩
  replace mB := Lib.hid mB
  rw [← hh2] at S2
  replace S2 := S2.drew
  replace LB2 := LB2.kpN (Kp.refl _ _ _).drew
  have T := S2
  clear S2
  obtain ⟨R, hR⟩ : ∃ q, q = votesOk c L m.yes m.no := ⟨_, rfl⟩
  have cs := ref_votes_any L m.yes m.no B V c
  rw [← hR] at cs
  replace hR := Lib.hid hR
  replace hh2 := Lib.hid hh2
  replace hm5 := Lib.hid hm5
  replace hm3 := Lib.hid hm3
  obtain ⟨S, hS⟩ : ∃ S : Nat → World → Prop, S = fun _ w' => w'.cell? ⟨g, i * 8 + 4, none⟩ = some (.int .i64 m.yes) ∧ w'.cell? ⟨g, i * 8 + 5, none⟩ = some (.int .i64 m.no) ∧ Blk w' cb 28 #[.slice V.am c.members.length V.cm, .slice V.al c.laws.length V.cl, .slice V.av c.levels.length V.cv] ∧ Blk w' lb 101 #[.int .i64 L.act, .int .i64 L.level, .int .i64 L.window, .int .i64 L.quorum, .int .i64 L.share] := ⟨_, rfl⟩
  have hS0 : ∀ w', S 0 w' ↔ (w'.cell? ⟨g, i * 8 + 4, none⟩ = some (.int .i64 m.yes) ∧ w'.cell? ⟨g, i * 8 + 5, none⟩ = some (.int .i64 m.no) ∧ Blk w' cb 28 #[.slice V.am c.members.length V.cm, .slice V.al c.laws.length V.cl, .slice V.av c.levels.length V.cv] ∧ Blk w' lb 101 #[.int .i64 L.act, .int .i64 L.level, .int .i64 L.window, .int .i64 L.quorum, .int .i64 L.share]) := fun w' => by rw [hS]
  clear hS
  have k4 := fun (q : Ev (S 0)) => ((hS0 _).1 q.h).1
  have k5 := fun (q : Ev (S 0)) => ((hS0 _).1 q.h).2.1
  have cc := fun (q : Ev (S 0)) i => ((hS0 _).1 q.h).2.2.1.cell i
  have cl := fun (q : Ev (S 0)) i => ((hS0 _).1 q.h).2.2.2.cell i
  have hevT := ev_true
  refine wp_region_ord S [(0, 1), (1, 1), (2, 0), (3, 0), (4, 0), (5, 1), (6, 0), (7, 0), (8, 0), (9, 1), (10, 2)] [] (by kernel_rfl) (by kernel_rfl) ((hS0 _).2 ⟨(mB.out _ T.p).1, (mB.out _ T.p).2.1, T.cl.blk, LB2.blk⟩) ?_
  intro _hev
  iterate 10 (first | (refine wpOrd_v rfl rfl ?_; intro K hK; go_big_quiet_op; go_big_quiet_on) | (refine wpOrd_q rfl rfl ?_; intro K hK; go_big_quiet_op; go_big_quiet_on) | refine wpOrd_s (by decide) rfl rfl ?_)
  refine wpOrd_l rfl rfl ?_; intro K hK
  go_step
  refine (cs _ T.ca hc.out hLin (by omega) (by omega) (by omega)).mono ?_
  rintro e w8 ⟨rfl, k8⟩
  replace T := T.kpN k8
  replace LB2 := LB2.kpN k8
  refine hK _ _ ((hS0 _).2 ⟨(mB.out _ T.p).1, (mB.out _ T.p).2.1, T.cl.blk, LB2.blk⟩) ?_
  clear hK K k8
  refine wpOrd_nil ?_
  clear hevT _hev
  clear hS0 S k4 k5 cc cl cs
  obtain ⟨m4, hm4⟩ : ∃ q : Motion, q = { m with state := if R then 2 else 3 } := ⟨_, rfl⟩
  have c3 := (mB.out _ T.p).2.2.2.1
  have f3 := (mB.out _ T.p).2.2.2.2
  have stN : R = false → GS B hb cb xb V c v v (h.put x.drill { h.led x.drill with motions := (h.led x.drill).motions.set i m4 }) x w w8 := fun hr => by
    have e : m4 = m5 := by rw [hm4, hm5.out, hr]; rfl
    rw [e, ← hh2.out]
    exact T
  have stY : R = true → GS B hb cb xb V c v v (h.put x.drill { h.led x.drill with motions := (h.led x.drill).motions.set i m4 }) x w (w8.setCell ⟨g, i * 8 + 3, none⟩ (.int .i64 2)) := fun hr => by
    have T2 := T
    rw [hh2.out] at T2
    have st := T2.p.motCell hv.out i hi3 3 (by omega) (.int .i64 2) m4 (by rw [hm3.out, hm4, hm5.out]) (by rw [hm3.out, hm4, hm5.out, hr]; rfl)
    have T3 := T2.step st
    rw [put_put, put_led] at T3
    simp only [List.set_set] at T3
    exact T3
  have LBn : ∀ W, w8.grownBy W (some g) → Lcl hb v W lb 101 #[.int .i64 L.act, .int .i64 L.level, .int .i64 L.window, .int .i64 L.quorum, .int .i64 L.share] := fun W q => LB2.other q hne
  replace stN := Lib.hid stN
  replace stY := Lib.hid stY
  replace LBn := Lib.hid LBn
  replace hm4 := Lib.hid hm4
  go_upto_if 74 with (fail)
  go_cut [75] (fun v75 wx => RAtState B hb cb xb V c v h x i m4 lb L w v75 wx)
  case first =>
    clear T LB2
    cases R
    · go_wp2_with fail
      go_meet
      case rel => exact ⟨by first | exact stN.out rfl | exact stN.out trivial, LBn.out _ (grown_refl _ _)⟩
    · go_wp2_with fail
      go_meet
      case rel => exact ⟨by first | exact stY.out rfl | exact stY.out trivial, LBn.out _ (grown_set _ _ _ _)⟩
  case rest =>
  clear T LB2 c3 f3 stN stY LBn mB hm3 hm5 hh2 hi3
  rename World => w9
  obtain ⟨S, LB⟩ := hcut
  obtain ⟨hi3, hm3⟩ := set_mot h x.drill i m4 hi2
  obtain ⟨h3, hh3⟩ : ∃ q, q = h.put x.drill { h.led x.drill with motions := (h.led x.drill).motions.set i m4 } := ⟨_, rfl⟩
  have hf3 : (h3.led x.drill).facts = (h.led x.drill).facts := by rw [hh3, put_led]
  rw [← hh3] at S
  have mB : ∀ W, RH B hb W v h3 → W.cell? ⟨g, i * 8 + 0, none⟩ = some (.int .i64 m.target) ∧ (∀ f0, f0 = m.fact → W.cell? ⟨g, i * 8 + 7, none⟩ = some (.int .i64 f0)) ∧ (∀ j, W.frozen? ⟨g, j, none⟩ = false) := fun W s => by
    rw [hh3] at s
    have q := s.motAt hv.out i hi3
    rw [hm3, hm4.out] at q
    exact ⟨q.1 0 _ rfl, fun f0 e => by rw [e]; exact q.1 7 _ rfl, q.2.1⟩
  have hfin : ∀ m7 : Motion, m7 = closeM c (h.led x.drill) m → h3.put x.drill { h3.led x.drill with motions := (h3.led x.drill).motions.set i m7 } = h.put x.drill (closeL c (h.led x.drill) x) := fun m7 e => by
    rw [hh3, put_put, put_led]
    unfold closeL
    simp only [List.set_set]
    rw [hm.out, e, hia.out]
  have hi4 : i < (h3.led x.drill).motions.length := by rw [hh3]; exact hi3
  have hm4b : (h3.led x.drill).motions[i] = m4 := by
    have : ∀ (H : House) (e : H = h.put x.drill { h.led x.drill with motions := (h.led x.drill).motions.set i m4 }) (hl : i < (H.led x.drill).motions.length), (H.led x.drill).motions[i] = m4 := fun H e hl => by subst e; exact hm3
    exact this h3 hh3 hi4
  obtain ⟨Af, cf, Am, cm, As, cs, ef, em, es⟩ := S.p.led4 x.drill
  have hfl : (h3.led x.drill).facts.length ≤ 4000 := by rw [hf3]; have := (hk.out.led x.drill).flen; omega
  have hcells : ∀ W, Blk W hb 43 (rCells v h3) → W.cell? ⟨hb, o, none⟩ = some (.int .i64 (h3.led x.drill).items) ∧ W.cell? ⟨hb, o + 1, none⟩ = some (.slice Af (h3.led x.drill).facts.length cf) ∧ W.cell? ⟨hb, o + 2, none⟩ = some (.slice Am (h3.led x.drill).motions.length cm) ∧ W.cell? ⟨hb, o + 3, none⟩ = some (.slice As (h3.led x.drill).sent.length cs) := fun W b => by
    rw [ho.out, ← ef, ← em, ← es]
    exact ⟨(b.cell _).trans (rCells_items _ _ _), (b.cell _).trans (rCells_facts _ _ _), (b.cell _).trans (rCells_mot _ _ _), (b.cell _).trans (rCells_sent _ _ _)⟩
  have hit : (knD (h3.led x.drill).facts m.target).item = itemOf (h.led x.drill) m.target := by
    rw [hf3]
    unfold knD itemOf knownOf
    cases (h.led x.drill).facts.find? (fun k => k.target == m.target) <;> rfl
  replace hcells := Lib.hid hcells
  replace ef := Lib.hid ef
  replace em := Lib.hid em
  replace es := Lib.hid es
  replace mB := Lib.hid mB
  replace hfin := Lib.hid hfin
  replace hit := Lib.hid hit
  replace hm4b := Lib.hid hm4b
  clear hh3 hm3 hf3 hi3
  go_upto_region 12 with (fail)
  go_cut [13, 14] (fun v13 v14 wx => RAtOf B hb cb xb V c v v h3 x x.drill m.target w v13 v14 wx)
  case first =>
    clear LB
    replace S := S.drew
    obtain ⟨S0, hS⟩ : ∃ S0 : World → Prop, S0 = fun w' => w'.cell? ⟨g, i * 8 + 0, none⟩ = some (.int .i64 m.target) ∧ Blk w' hb 43 (rCells v h3) := ⟨_, rfl⟩
    have hS0 : ∀ w', S0 w' ↔ (w'.cell? ⟨g, i * 8 + 0, none⟩ = some (.int .i64 m.target) ∧ Blk w' hb 43 (rCells v h3)) := fun w' => by rw [hS]
    clear hS
    have ct := fun (q : Ev S0) => ((hS0 _).1 q.h).1
    have g0 := fun (q : Ev S0) => (hcells.out _ ((hS0 _).1 q.h).2).1
    have g1 := fun (q : Ev S0) => (hcells.out _ ((hS0 _).1 q.h).2).2.1
    have g2 := fun (q : Ev S0) => (hcells.out _ ((hS0 _).1 q.h).2).2.2.1
    have g3 := fun (q : Ev S0) => (hcells.out _ ((hS0 _).1 q.h).2).2.2.2
    simp only [Nat.add_zero] at ct
    have hevT := ev_true
    refine wp_region_tr S0 (.st 0 0 (.st 1 0 (.st 2 1 (.st 3 0 (.st 4 0 (.st 5 0 (.st 6 1 (.b2 7 (.st 8 0 (.st 9 0 (.st 10 0 (.st 11 2 (.st 12 2 (.st 13 0 .nil)))))) 11 (.st 7 2 (.st 8 0 (.st 9 0 (.st 10 0 (.st 12 2 (.st 13 0 .nil)))))))))))))) (by kernel_rfl) (by kernel_rfl) ((hS0 _).2 ⟨(mB.out _ S.p).1, S.p.blk⟩) ?_
    intro _hev
    iterate 7 (first | (refine wpTr_v rfl rfl ?_; intro K hK; go_big_quiet_op; go_big_quiet_on) | (refine wpTr_q rfl rfl ?_; intro K hK; go_big_quiet_op; go_big_quiet_on) | refine wpTr_s rfl rfl ?_)
    refine wpTr_b2 ?_ ?_
    · refine wpOne_l rfl rfl ?_; intro K hK
      go_step
      refine (ref_Of_any m.target _ Af cf (h3.led x.drill).facts Am _ cm As _ cs _ (S.p.factsRd x.drill ef.out) (by omega)).mono ?_
      rintro e w5 ⟨rfl, k5⟩
      replace S := S.kpN k5
      try (replace NB := NB.kpN k5)
      refine hK _ _ ((hS0 _).2 ⟨(mB.out _ S.p).1, S.p.blk⟩) ?_
      clear hK K k5
      iterate 3 (first | (refine wpTr_v rfl rfl ?_; intro K hK; go_big_quiet_op; go_big_quiet_on) | (refine wpTr_q rfl rfl ?_; intro K hK; go_big_quiet_op; go_big_quiet_on) | refine wpTr_s rfl rfl ?_)
      refine wpTr_l rfl rfl ?_; intro K hK
      obtain ⟨nb, wz, hwz, hnb, S2, NB, hn0, hnc, hnx, hBn⟩ := S.fresh 68 #[.int .i64 0, .int .i64 0, .int .i64 0, .int .i64 0, .int .i64 0, .int .i64 0]
      clear S
      have S := S2
      clear S2
      go_step
      first | rw [← hwz] | rw [show (World.alloc w9 (.cells #[.int .i64 0, .int .i64 0, .int .i64 0, .int .i64 0, .int .i64 0, .int .i64 0] 68)).drew = wz from hwz.symm]
      first | rw [← hnb] | rw [← show nb = w9.heap.size from hnb]
      replace hnb := Lib.hid hnb
      refine hK _ _ ((hS0 _).2 ⟨(mB.out _ S.p).1, S.p.blk⟩) ?_
      clear hK K hwz
      refine wpTr_l rfl rfl ?_; intro K hK
      have cN := fun i => NB.blk.cell i
      have fN := fun i => NB.blk.frozen i
      go_step
      have S2 := S.other (setK0_grown _ nb (knD (h3.led x.drill).facts m.target)) NB.apart hn0 hnc hnx hBn
      have NB2 : Lcl hb v _ nb _ _ := ⟨Blk.setK0 NB.blk (knD (h3.led x.drill).facts m.target), NB.apart⟩
      clear cN fN
      change K _ (setK0 _ nb (knD (h3.led x.drill).facts m.target))
      generalize setK0 _ nb (knD (h3.led x.drill).facts m.target) = w7 at S2 NB2 ⊢
      refine hK _ _ ((hS0 _).2 ⟨(mB.out _ S2.p).1, S2.p.blk⟩) ?_
      clear hK K
      iterate 1 (first | (refine wpTr_v rfl rfl ?_; intro K hK; go_big_quiet_op; go_big_quiet_on) | (refine wpTr_q rfl rfl ?_; intro K hK; go_big_quiet_op; go_big_quiet_on) | refine wpTr_s rfl rfl ?_)
      refine wpTr_nil ?_
      clear hevT _hev
      go_wp2_with fail
      go_meet
      case rel => exact ⟨nb, rfl, rfl, S2, NB2⟩
    · refine wpOne_l rfl rfl ?_; intro K hK
      obtain ⟨nb, wz, hwz, hnb, S2, NB, hn0, hnc, hnx, hBn⟩ := S.fresh 68 #[.int .i64 0, .int .i64 0, .int .i64 0, .int .i64 0, .int .i64 0, .int .i64 0]
      clear S
      have S := S2
      clear S2
      go_step
      first | rw [← hwz] | rw [show (World.alloc w9 (.cells #[.int .i64 0, .int .i64 0, .int .i64 0, .int .i64 0, .int .i64 0, .int .i64 0] 68)).drew = wz from hwz.symm]
      first | rw [← hnb] | rw [← show nb = w9.heap.size from hnb]
      replace hnb := Lib.hid hnb
      refine hK _ _ ((hS0 _).2 ⟨(mB.out _ S.p).1, S.p.blk⟩) ?_
      clear hK K hwz
      refine wpTr_l rfl rfl ?_; intro K hK
      go_step
      refine (ref_Of_any m.target _ Af cf (h3.led x.drill).facts Am _ cm As _ cs _ (S.p.factsRd x.drill ef.out) (by omega)).mono ?_
      rintro e w5 ⟨rfl, k5⟩
      replace S := S.kpN k5
      try (replace NB := NB.kpN k5)
      refine hK _ _ ((hS0 _).2 ⟨(mB.out _ S.p).1, S.p.blk⟩) ?_
      clear hK K k5
      iterate 3 (first | (refine wpTr_v rfl rfl ?_; intro K hK; go_big_quiet_op; go_big_quiet_on) | (refine wpTr_q rfl rfl ?_; intro K hK; go_big_quiet_op; go_big_quiet_on) | refine wpTr_s rfl rfl ?_)
      refine wpTr_l rfl rfl ?_; intro K hK
      have cN := fun i => NB.blk.cell i
      have fN := fun i => NB.blk.frozen i
      go_step
      have S2 := S.other (setK0_grown _ nb (knD (h3.led x.drill).facts m.target)) NB.apart hn0 hnc hnx hBn
      have NB2 : Lcl hb v _ nb _ _ := ⟨Blk.setK0 NB.blk (knD (h3.led x.drill).facts m.target), NB.apart⟩
      clear cN fN
      change K _ (setK0 _ nb (knD (h3.led x.drill).facts m.target))
      generalize setK0 _ nb (knD (h3.led x.drill).facts m.target) = w7 at S2 NB2 ⊢
      refine hK _ _ ((hS0 _).2 ⟨(mB.out _ S2.p).1, S2.p.blk⟩) ?_
      clear hK K
      iterate 1 (first | (refine wpTr_v rfl rfl ?_; intro K hK; go_big_quiet_op; go_big_quiet_on) | (refine wpTr_q rfl rfl ?_; intro K hK; go_big_quiet_op; go_big_quiet_on) | refine wpTr_s rfl rfl ?_)
      refine wpTr_nil ?_
      clear hevT _hev
      go_wp2_with fail
      go_meet
      case rel => exact ⟨nb, rfl, rfl, S2, NB2⟩
  case rest =>
  clear S LB
  rename World => w10
  obtain ⟨kb, rfl, -, S, KB⟩ := hcut
  have ck : w10.cell? ⟨kb, 2, none⟩ = some (.int .i64 (itemOf (h.led x.drill) m.target)) := by rw [← hit.out]; exact KB.blk.cell 2
  have c7 := (mB.out _ S.p).2.1 _ rfl
  have f7 := (mB.out _ S.p).2.2
  obtain ⟨it, hite⟩ : ∃ q, q = itemOf (h.led x.drill) m.target := ⟨_, rfl⟩
  rw [← hite] at ck
  have st := S.p.motCell hv.out i hi4 7 (by omega) (.int .i64 it) (closeM c (h.led x.drill) m) (by rw [hm4b.out, hm4.out]; rfl) (by rw [hm4b.out, hm4.out, hite]; unfold closeM; rw [← hLL.out, ← hR.out]; rfl)
  rw [hfin.out _ rfl] at st
  have fin := Lib.hid (RDPost.fin (S.step st) hE3.out)
  clear st S KB hite hm4b hi4
  go_wp2
  go_ret
  exact fin.out
end Go.Proofs.YtogpgnljomchcaaGreat
