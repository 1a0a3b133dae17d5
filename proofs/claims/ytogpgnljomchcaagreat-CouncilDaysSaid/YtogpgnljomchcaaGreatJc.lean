/- close: the program. -/
import Derived.Test.YtogpgnljomchcaaGreatJv
namespace Go.Proofs.YtogpgnljomchcaaGreat
open Go.RowKit

theorem closeE_no {c : Council} {own other : Ledger} {x : CItem} (h : hasM own x.a = false) : closeE c own other x = if hasM other x.a then 15 else 7 := by
  unfold closeE; rw [h]; rfl
theorem closeE_s {c : Council} {own other : Ledger} {x : CItem} {m : Motion} (h : hasM own x.a = true) (e : motD own x.a = m) :
    closeE c own other x = if m.state ≠ 1 then 10 else if m.voted.length < c.members.length ∧ x.tick ≤ m.opened + (lawD c m.act).window then 11 else 0 := by
  unfold closeE; rw [h, e]; rfl
set_option maxRecDepth 20000 in
set_option maxHeartbeats 40000000 in
theorem close_any (B hb n : Nat) (V : CV) (c : Council) (v : Ky → Value) (h : House) (x : CItem) (w : World) (p : PH B hb w V c v h) (hc : CouncilOk c) (hk : HouseOk c n h) (hn : n ≤ 2000) (ht0 : 0 ≤ x.tick) (ht1 : x.tick ≤ 1073741824) :
    Calls Tryz.prog 71 #[.pointer (some ⟨hb, 0, none⟩), .agg #[.int .i64 x.kind, .int .i64 x.tick, .bool x.drill, .int .i64 x.a, .int .i64 x.b, .bool x.yes, .int .i64 x.chance.least, .int .i64 x.chance.most, .int .i64 x.chance.all]] w (DeedPost B hb V c v h x (closeE c (h.led x.drill) (h.led (!x.drill)) x) (closeL c (h.led x.drill) x) w) := by
  have S := FS.start p x
  have hhw : hb < w.heap.size := p.lt
  have hBw : B ≤ w.heap.size := by have := p.low; omega
  obtain ⟨xb, hxb⟩ : ∃ q, q = w.heap.size := ⟨_, rfl⟩
  obtain ⟨E, hE⟩ : ∃ q, q = closeE c (h.led x.drill) (h.led (!x.drill)) x := ⟨_, rfl⟩
  rw [← hE]
  replace hE := Lib.hid hE
  replace hk := Lib.hid hk
  replace hc := Lib.hid hc
  go_enter Tryz.func71, Tryz.ntmps71
  go_upto_region 1 with (fail)
  rw [← hxb] at S ⊢
  have hxw : w.heap.size ≤ xb := by omega
  replace hxb := Lib.hid hxb
  generalize w.alloc (.cells #[.int .i64 x.kind, .int .i64 x.tick, .bool x.drill, .int .i64 x.a, .int .i64 x.b, .bool x.yes, .int .i64 x.chance.least, .int .i64 x.chance.most, .int .i64 x.chance.all] 36) = w1 at S ⊢
  have cx := fun i => S.x.blk.cell i
  go_wp2_with fail
  refine (find_any B hb V c v h x _ S.p).mono ?_
  rintro e w3 ⟨hf, k3⟩
  replace S := S.kpN k3
  clear k3 cx
  have cx := fun i => S.x.blk.cell i
  rcases hf with ⟨hh, g, cap, hv, rfl⟩ | ⟨hh, hh2, rfl⟩ | ⟨hh, hh2, rfl⟩
  case inr.inl =>
    have e1 := Lib.hid (show 15 = E by rw [hE.out, closeE_no hh, hh2]; rfl)
    clear hh hh2
    go_wp2
    go_ret
    exact DeedPost.err S e1.out (by rw [← e1.out]; decide)
  case inr.inr =>
    have e1 := Lib.hid (show 7 = E by rw [hE.out, closeE_no hh, hh2]; rfl)
    clear hh hh2
    go_wp2
    go_ret
    exact DeedPost.err S e1.out (by rw [← e1.out]; decide)
  obtain ⟨hi, hm⟩ := motD_eq hh
  obtain ⟨i, hia⟩ : ∃ q, q = x.a.toNat := ⟨_, rfl⟩
  have hi2 : i < (h.led x.drill).motions.length := by rw [hia]; exact hi
  replace hm : motD (h.led x.drill) x.a = (h.led x.drill).motions[i] := by subst hia; exact hm
  rw [← hia]
  obtain ⟨m, hmm⟩ : ∃ q, q = (h.led x.drill).motions[i] := ⟨_, rfl⟩
  rw [← hmm] at hm
  have mA : ∀ W, PH B hb W V c v h → (∀ j u, (encMot (v (.voted x.drill i)) m)[j]? = some u → W.cell? ⟨g, i * 8 + j, none⟩ = some u) ∧ (∀ j, W.frozen? ⟨g, j, none⟩ = false) ∧ g < W.heap.size ∧ g ≠ hb ∧ B ≤ g := fun W s => by
    have := s.motAt hv i hi2
    rwa [← hmm] at this
  replace hm := Lib.hid hm
  replace hmm := Lib.hid hmm
  replace mA := Lib.hid mA
  replace hv := Lib.hid hv
  replace hh := Lib.hid hh
  replace hia := Lib.hid hia
  clear hi
  replace hE := Lib.hid (hE.out.trans (closeE_s hh.out hm.out))
  go_upto_region 4 with (fail)
  go_cut [7, 8] (fun v7 v8 wx => LawAt B hb xb V c v h x m.act w v7 v8 wx)
  case first =>
    clear cx
    replace S := S.drew
    obtain ⟨S0, hS⟩ : ∃ S0 : World → Prop, S0 = fun w' => Blk w' hb 84 (pCells V c v h) ∧ w'.cell? ⟨g, i * 8 + 1, none⟩ = some (.int .i64 m.act) := ⟨_, rfl⟩
    have hS0 : ∀ w', S0 w' ↔ (Blk w' hb 84 (pCells V c v h) ∧ w'.cell? ⟨g, i * 8 + 1, none⟩ = some (.int .i64 m.act)) := fun w' => by rw [hS]
    clear hS
    have ca := fun (q : Ev S0) => ((hS0 _).1 q.h).2
    have c0 : ∀ q : Ev S0, q.w.cell? ⟨hb, 0, none⟩ = some (.slice V.am c.members.length V.cm) := fun q => ((hS0 _).1 q.h).1.cell 0
    have c1 : ∀ q : Ev S0, q.w.cell? ⟨hb, 1, none⟩ = some (.slice V.al c.laws.length V.cl) := fun q => ((hS0 _).1 q.h).1.cell 1
    have c2 : ∀ q : Ev S0, q.w.cell? ⟨hb, 2, none⟩ = some (.slice V.av c.levels.length V.cv) := fun q => ((hS0 _).1 q.h).1.cell 2
    have hevT := ev_true
    refine wp_region_tr S0 (.st 0 0 (.st 1 0 (.st 2 0 (.st 3 1 (.st 4 0 (.st 5 0 (.st 6 0 (.st 7 1 (.b2 8 (.st 9 0 (.st 10 0 (.st 11 0 (.st 12 2 (.st 13 2 (.st 14 0 .nil)))))) 12 (.st 8 2 (.st 9 0 (.st 10 0 (.st 11 0 (.st 13 2 (.st 14 0 .nil))))))))))))))) (by kernel_rfl) (by kernel_rfl) ((hS0 _).2 ⟨S.p.blk, (mA.out _ S.p).1 1 _ rfl⟩) ?_
    intro _hev
    iterate 8 (first | (refine wpTr_v rfl rfl ?_; intro K hK; go_big_quiet_op; go_big_quiet_on) | (refine wpTr_q rfl rfl ?_; intro K hK; go_big_quiet_op; go_big_quiet_on) | refine wpTr_s rfl rfl ?_)
    refine wpTr_b2 ?_ ?_
    · refine wpOne_l rfl rfl ?_; intro K hK
      go_step
      refine (council_law_any m.act B V c _ S.p.c).mono ?_
      rintro e w5 ⟨rfl, k5⟩
      replace S := S.kpN k5
      try (replace LB := LB.kpN k5)
      refine hK _ _ ((hS0 _).2 ⟨S.p.blk, (mA.out _ S.p).1 1 _ rfl⟩) ?_
      clear hK K k5
      iterate 3 (first | (refine wpTr_v rfl rfl ?_; intro K hK; go_big_quiet_op; go_big_quiet_on) | (refine wpTr_q rfl rfl ?_; intro K hK; go_big_quiet_op; go_big_quiet_on) | refine wpTr_s rfl rfl ?_)
      refine wpTr_l rfl rfl ?_; intro K hK
      obtain ⟨lb, wq, hwq, hlb, S2, LB, hl0, hlx, hBl⟩ := S.fresh 101 #[.int .i64 0, .int .i64 0, .int .i64 0, .int .i64 0, .int .i64 0]
      clear S
      have S := S2
      clear S2
      go_step
      first | rw [← hwq] | rw [show (World.alloc w5 (.cells #[.int .i64 0, .int .i64 0, .int .i64 0, .int .i64 0, .int .i64 0] 101)).drew = wq from hwq.symm] | rw [show (World.alloc w3 (.cells #[.int .i64 0, .int .i64 0, .int .i64 0, .int .i64 0, .int .i64 0] 101)).drew = wq from hwq.symm]
      first | rw [← hlb] | rw [← show lb = w3.heap.size from hlb]
      replace hlb := Lib.hid hlb
      refine hK _ _ ((hS0 _).2 ⟨S.p.blk, (mA.out _ S.p).1 1 _ rfl⟩) ?_
      clear hK K hwq
      refine wpTr_l rfl rfl ?_; intro K hK
      have cL := fun i => LB.blk.cell i
      have fL := fun i => LB.blk.frozen i
      go_step
      have S2 := S.other (setL0_grown _ lb (lawD c m.act)) LB.apart hl0 hlx hBl
      have LB2 : Lcl hb v _ lb _ _ := ⟨Blk.setL0 LB.blk (lawD c m.act), LB.apart⟩
      clear cL fL
      change K _ (setL0 _ lb (lawD c m.act))
      generalize setL0 _ lb (lawD c m.act) = w7 at S2 LB2 ⊢
      clear S
      have S := S2
      clear S2
      refine hK _ _ ((hS0 _).2 ⟨S.p.blk, (mA.out _ S.p).1 1 _ rfl⟩) ?_
      clear hK K
      iterate 1 (first | (refine wpTr_v rfl rfl ?_; intro K hK; go_big_quiet_op; go_big_quiet_on) | (refine wpTr_q rfl rfl ?_; intro K hK; go_big_quiet_op; go_big_quiet_on) | refine wpTr_s rfl rfl ?_)
      refine wpTr_nil ?_
      clear hevT _hev
      go_wp2_with fail
      go_meet
      case rel => exact ⟨lb, rfl, rfl, S, LB2, hBl⟩
    · refine wpOne_l rfl rfl ?_; intro K hK
      obtain ⟨lb, wq, hwq, hlb, S2, LB, hl0, hlx, hBl⟩ := S.fresh 101 #[.int .i64 0, .int .i64 0, .int .i64 0, .int .i64 0, .int .i64 0]
      clear S
      have S := S2
      clear S2
      go_step
      first | rw [← hwq] | rw [show (World.alloc w5 (.cells #[.int .i64 0, .int .i64 0, .int .i64 0, .int .i64 0, .int .i64 0] 101)).drew = wq from hwq.symm] | rw [show (World.alloc w3 (.cells #[.int .i64 0, .int .i64 0, .int .i64 0, .int .i64 0, .int .i64 0] 101)).drew = wq from hwq.symm]
      first | rw [← hlb] | rw [← show lb = w3.heap.size from hlb]
      replace hlb := Lib.hid hlb
      refine hK _ _ ((hS0 _).2 ⟨S.p.blk, (mA.out _ S.p).1 1 _ rfl⟩) ?_
      clear hK K hwq
      refine wpTr_l rfl rfl ?_; intro K hK
      go_step
      refine (council_law_any m.act B V c _ S.p.c).mono ?_
      rintro e w5 ⟨rfl, k5⟩
      replace S := S.kpN k5
      try (replace LB := LB.kpN k5)
      refine hK _ _ ((hS0 _).2 ⟨S.p.blk, (mA.out _ S.p).1 1 _ rfl⟩) ?_
      clear hK K k5
      iterate 3 (first | (refine wpTr_v rfl rfl ?_; intro K hK; go_big_quiet_op; go_big_quiet_on) | (refine wpTr_q rfl rfl ?_; intro K hK; go_big_quiet_op; go_big_quiet_on) | refine wpTr_s rfl rfl ?_)
      refine wpTr_l rfl rfl ?_; intro K hK
      have cL := fun i => LB.blk.cell i
      have fL := fun i => LB.blk.frozen i
      go_step
      have S2 := S.other (setL0_grown _ lb (lawD c m.act)) LB.apart hl0 hlx hBl
      have LB2 : Lcl hb v _ lb _ _ := ⟨Blk.setL0 LB.blk (lawD c m.act), LB.apart⟩
      clear cL fL
      change K _ (setL0 _ lb (lawD c m.act))
      generalize setL0 _ lb (lawD c m.act) = w7 at S2 LB2 ⊢
      clear S
      have S := S2
      clear S2
      refine hK _ _ ((hS0 _).2 ⟨S.p.blk, (mA.out _ S.p).1 1 _ rfl⟩) ?_
      clear hK K
      iterate 1 (first | (refine wpTr_v rfl rfl ?_; intro K hK; go_big_quiet_op; go_big_quiet_on) | (refine wpTr_q rfl rfl ?_; intro K hK; go_big_quiet_op; go_big_quiet_on) | refine wpTr_s rfl rfl ?_)
      refine wpTr_nil ?_
      clear hevT _hev
      go_wp2_with fail
      go_meet
      case rel => exact ⟨lb, rfl, rfl, S, LB2, hBl⟩
  case rest =>
  clear S cx
  rename World => w5
  obtain ⟨lb, rfl, rfl, S, LB, hBl⟩ := hcut
  have hL := lawD_ok hc.out m.act
  have hLI := Lib.hid (lawIn_of hc.out m.act)
  have hmem : m ∈ (h.led x.drill).motions := by rw [hmm.out]; exact List.getElem_mem hi2
  have hop := (hk.out.led x.drill).open0 m hmem
  have hwt := (hk.out.led x.drill).wt m hmem
  have hvl : m.voted.length ≤ 4000 := by have := (hk.out.led x.drill).vlen m hmem; omega
  have hml : c.members.length ≤ 64 := hc.out.mlen
  have hkn := Lib.hid ((hk.out.led x.drill).known m hmem)
  have hvo : votedOf (h.led x.drill) i = m.voted := by unfold votedOf; rw [List.getElem?_eq_getElem hi2, ← hmm.out]; rfl
  obtain ⟨A6, cap6, e6, -, -⟩ := (S.p.rows.voted x.drill i).rd0 (fun _ => rfl)
  rw [hvo] at e6
  have cx := fun i => S.x.blk.cell i
  have cl := fun i => LB.blk.cell i
  have m3 : w5.cell? ⟨g, i * 8 + 3, none⟩ = some (.int .i64 m.state) := (mA.out _ S.p).1 3 _ rfl
  have m2 : w5.cell? ⟨g, i * 8 + 2, none⟩ = some (.int .i64 m.opened) := (mA.out _ S.p).1 2 _ rfl
  have m6 : w5.cell? ⟨g, i * 8 + 6, none⟩ = some (.slice A6 m.voted.length cap6) := by rw [← e6]; exact (mA.out _ S.p).1 6 _ rfl
  have c0 : w5.cell? ⟨hb, 0, none⟩ = some (.slice V.am c.members.length V.cm) := S.p.blk.cell 0
  replace e6 := Lib.hid e6
  replace hvo := Lib.hid hvo
  replace hmem := Lib.hid hmem
  by_cases q1 : m.state = 1
  case neg =>
    have e1 := Lib.hid (show 10 = E by rw [hE.out, if_pos q1])
    go_wp2
    go_ret
    exact DeedPost.err S e1.out (by rw [← e1.out]; decide)
  replace hE := Lib.hid (hE.out.trans (if_neg (fun q => q q1)))
  obtain ⟨L, hLL⟩ : ∃ q, q = lawD c m.act := ⟨_, rfl⟩
  rw [← hLL] at hL cl hE hLI LB
  replace hLL := Lib.hid hLL
  have hwr : wrap64 (m.opened + L.window) = m.opened + L.window := IntWalk.wrap64_in _ (by omega)
  by_cases q2 : m.voted.length < c.members.length ∧ x.tick ≤ m.opened + L.window
  · have e1 := Lib.hid (show 11 = E by rw [hE.out, if_pos q2])
    have q3 : (m.voted.length : Int) < (c.members.length : Int) := by omega
    have q4 := q2.2
    go_wp2_with fail
    go_quiet (fail)
    go_wp2
    go_ret
    exact DeedPost.err (S.kpN ((Kp.refl _ _ _).drewN _)) e1.out (by rw [← e1.out]; decide)
  replace hE := Lib.hid (hE.out.trans (if_neg q2))
  go_upto_region 7 with (fail)
  go_cut [38] (fun v38 wx => v38 = .bool false ∧ Kp w5.heap.size none w5 wx)
  case first =>
    by_cases q3 : m.voted.length < c.members.length
    · have q4 : (m.voted.length : Int) < (c.members.length : Int) := by omega
      have q5 : ¬ x.tick ≤ m.opened + L.window := fun q => q2 ⟨q3, q⟩
      clear q2
      go_wp2_with fail
      go_quiet (fail)
      go_wp2_with fail
      go_meet
      case rel => exact ⟨by simp [q5], (Kp.refl _ _ _).drewN _⟩
    · have q4 : ¬ (m.voted.length : Int) < (c.members.length : Int) := by omega
      clear q2
      go_wp2_with fail
      go_quiet (fail)
      go_wp2_with fail
      go_meet
      case rel => exact ⟨rfl, (Kp.refl _ _ _).drewN _⟩
  case rest =>
  rename World => w6
  obtain ⟨rfl, k6⟩ := hcut
  replace S := S.kpN k6
  replace LB := LB.kpN k6
  clear k6 cx cl m2 m3 m6 c0 q2 hwr
  have m3 : w6.cell? ⟨g, i * 8 + 3, none⟩ = some (.int .i64 m.state) := (mA.out _ S.p).1 3 _ rfl
  have mf := (mA.out _ S.p).2.1
  obtain ⟨HS, hHS⟩ : ∃ HS : Int → House, ∀ s, HS s = h.put x.drill { h.led x.drill with motions := (h.led x.drill).motions.set i { m with state := s } } := ⟨_, fun _ => rfl⟩
  have hm3 : ∀ s, ∃ hi3 : i < ((HS s).led x.drill).motions.length, ((HS s).led x.drill).motions[i] = { m with state := s } := fun s => by
    have : ∀ (L : Ledger) (e : L = { h.led x.drill with motions := (h.led x.drill).motions.set i { m with state := s } }), ∃ hl : i < L.motions.length, L.motions[i] = { m with state := s } := fun L e => by
      subst e
      exact ⟨by rw [List.length_set]; exact hi2, by simp only [List.getElem_set_self]⟩
    exact this _ (by rw [hHS, put_led])
  have hfs : ∀ s, ((HS s).led x.drill).facts = (h.led x.drill).facts := fun s => by rw [hHS, put_led]
  have mB : ∀ s W, PH B hb W V c v (HS s) → (∀ j u, (encMot (v (.voted x.drill i)) { m with state := s })[j]? = some u → W.cell? ⟨g, i * 8 + j, none⟩ = some u) ∧ (∀ j, W.frozen? ⟨g, j, none⟩ = false) ∧ g < W.heap.size ∧ g ≠ hb ∧ B ≤ g := fun s W pW => by
    obtain ⟨hi3, e3⟩ := hm3 s
    have := pW.motAt hv.out i hi3
    rwa [e3] at this
  have T := S.p.motCell hv.out i hi2 3 (by omega) (.int .i64 3) { m with state := 3 } (by rw [← hmm.out]) (by rw [← hmm.out]; rfl)
  rw [← hHS] at T
  have hset : ∀ s m4, (HS s).put x.drill { (HS s).led x.drill with motions := ((HS s).led x.drill).motions.set i m4 } = h.put x.drill { h.led x.drill with motions := (h.led x.drill).motions.set i m4 } := fun s m4 => by
    rw [hHS, put_put, put_led]
    simp only [List.set_set]
  replace hset := Lib.hid hset
  replace hHS := Lib.hid hHS
  replace hm3 := Lib.hid hm3
  replace hfs := Lib.hid hfs
  replace mB := Lib.hid mB
  have T2 := S.step T
  have LB2 := LB.fr T.2
  clear S LB T
  go_upto_region 10 with (fail)
  generalize w6.setCell ⟨g, i * 8 + 3, none⟩ (.int .i64 3) = w7 at T2 LB2 ⊢
  clear m3 mf
  replace T2 := T2.drew
  replace LB2 := LB2.kpN (Kp.refl _ _ _).drew
  obtain ⟨Vt, hVt⟩ : ∃ q, q = votesOk c L m.yes m.no := ⟨_, rfl⟩
  have vs := council_votes_any L m.yes m.no B V c _ T2.p.c hc.out hLI.out (by omega) (by omega) (by omega)
  rw [← hVt] at vs
  replace hVt := Lib.hid hVt
  obtain ⟨S, hS⟩ : ∃ S : Nat → World → Prop, S = fun _ w' => Blk w' hb 84 (pCells V c v (HS 3)) ∧ Blk w' lb 101 #[.int .i64 L.act, .int .i64 L.level, .int .i64 L.window, .int .i64 L.quorum, .int .i64 L.share] ∧ w'.cell? ⟨g, i * 8 + 4, none⟩ = some (.int .i64 m.yes) ∧ w'.cell? ⟨g, i * 8 + 5, none⟩ = some (.int .i64 m.no) := ⟨_, rfl⟩
  have hS0 : ∀ w', S 0 w' ↔ (Blk w' hb 84 (pCells V c v (HS 3)) ∧ Blk w' lb 101 #[.int .i64 L.act, .int .i64 L.level, .int .i64 L.window, .int .i64 L.quorum, .int .i64 L.share] ∧ w'.cell? ⟨g, i * 8 + 4, none⟩ = some (.int .i64 m.yes) ∧ w'.cell? ⟨g, i * 8 + 5, none⟩ = some (.int .i64 m.no)) := fun w' => by rw [hS]
  clear hS
  have c0 : ∀ q : Ev (S 0), q.w.cell? ⟨hb, 0, none⟩ = some (.slice V.am c.members.length V.cm) := fun q => ((hS0 _).1 q.h).1.cell 0
  have c1 : ∀ q : Ev (S 0), q.w.cell? ⟨hb, 1, none⟩ = some (.slice V.al c.laws.length V.cl) := fun q => ((hS0 _).1 q.h).1.cell 1
  have c2 : ∀ q : Ev (S 0), q.w.cell? ⟨hb, 2, none⟩ = some (.slice V.av c.levels.length V.cv) := fun q => ((hS0 _).1 q.h).1.cell 2
  have cl := fun (q : Ev (S 0)) i => ((hS0 _).1 q.h).2.1.cell i
  have m4 := fun (q : Ev (S 0)) => ((hS0 _).1 q.h).2.2.1
  have m5 := fun (q : Ev (S 0)) => ((hS0 _).1 q.h).2.2.2
  have hevT := ev_true
  refine wp_region_ord S [(0, 0), (1, 0), (2, 0), (3, 1), (4, 1), (5, 0), (6, 0), (7, 0), (8, 1), (9, 0), (10, 0), (11, 0), (12, 1), (13, 2)] [] (by kernel_rfl) (by kernel_rfl) ((hS0 _).2 ⟨T2.p.blk, LB2.blk, (mB.out 3 _ T2.p).1 4 _ rfl, (mB.out 3 _ T2.p).1 5 _ rfl⟩) ?_
  intro _hev
  iterate 13 (first | (refine wpOrd_v rfl rfl ?_; intro K hK; go_big_quiet_op; go_big_quiet_on) | (refine wpOrd_q rfl rfl ?_; intro K hK; go_big_quiet_op; go_big_quiet_on) | refine wpOrd_s (by decide) rfl rfl ?_)
  refine wpOrd_l rfl rfl ?_; intro K hK
  go_step
  refine vs.mono ?_
  rintro e w8 ⟨rfl, k8⟩
  replace T2 := T2.kpN k8
  replace LB2 := LB2.kpN k8
  refine hK _ _ ((hS0 _).2 ⟨T2.p.blk, LB2.blk, (mB.out 3 _ T2.p).1 4 _ rfl, (mB.out 3 _ T2.p).1 5 _ rfl⟩) ?_
  clear hK K k8
  refine wpOrd_nil ?_
  clear hevT _hev
  clear hS0 S c0 c1 c2 cl m4 m5 vs LB2
  have S := T2
  clear T2
  go_upto_if 79 with (fail)
  go_cut [] (fun wx => FS B hb xb V c v v (HS (if Vt then 2 else 3)) x w wx)
  case first =>
    have m3 : w8.cell? ⟨g, i * 8 + 3, none⟩ = some (.int .i64 3) := (mB.out 3 _ S.p).1 3 _ rfl
    have mf := (mB.out 3 _ S.p).2.1
    cases Vt
    · go_wp2_with fail
      go_meet
      case rel => exact S
    · obtain ⟨hi3, e3⟩ := hm3.out 3
      have T := S.p.motCell hv.out i hi3 3 (by omega) (.int .i64 2) { m with state := 2 } (by rw [e3]) (by rw [e3]; rfl)
      rw [hset.out, ← hHS.out] at T
      have T2 := S.step T
      clear T S
      go_wp2_with fail
      go_meet
      case rel => exact T2
  case rest =>
  clear S
  rename World => w9
  have S := hcut
  clear hcut
  obtain ⟨s, hs⟩ : ∃ q : Int, q = if Vt then 2 else 3 := ⟨_, rfl⟩
  rw [← hs] at S
  replace hs := Lib.hid hs
  have cx := fun i => S.x.blk.cell i
  go_wp2_with fail
  refine (books_any hb x.drill _).mono ?_
  rintro e w10 ⟨rfl, k10⟩
  replace S := S.kpN k10
  clear k10 cx
  have cx := fun i => S.x.blk.cell i
  obtain ⟨o, ho⟩ : ∃ q, q = oD x.drill := ⟨_, rfl⟩
  rw [← ho]
  replace ho := Lib.hid ho
  have own := S.p.rows.facts x.drill
  rw [hfs.out] at own
  obtain ⟨A, kc, ev, rd, gA⟩ := own.rd0 (fun _ => rfl)
  have hfl : (h.led x.drill).facts.length ≤ 4000 := by have := (hk.out.led x.drill).flen; omega
  have cf : w10.cell? ⟨hb, o + 2, none⟩ = some (.slice A (h.led x.drill).facts.length kc) := by
    rw [ho.out, ← ev]; exact (S.p.blk.cell _).trans (pCells_facts V c v _ x.drill)
  have m0 : w10.cell? ⟨g, i * 8, none⟩ = some (.int .i64 m.target) := (mB.out s _ S.p).1 0 _ rfl
  go_wp2_with fail
  refine (known_any hb o A kc (h.led x.drill).facts m.target _ cf rd (by omega) (gA.imp_right fun ⟨g, e, _⟩ => ⟨g, e⟩)).mono ?_
  intro e w11 hp
  obtain ⟨P, rfl, hP, k11⟩ := knownP hp
  replace S := S.kpN k11
  clear k11 cx cf rd own hp m0
  rcases hP with ⟨rfl, hfn⟩ | ⟨gk, j, hj, hA, rfl, hf1, -, -⟩
  · have := hkn.out
    unfold knownOf at this
    rw [hfn] at this
    cases this
  have own := S.p.rows.facts x.drill
  rw [hfs.out, ev, hA] at own
  have ck : w11.cell? ⟨gk, j * 6 + 2, none⟩ = some (.int .i64 (h.led x.drill).facts[j].item) := (Own.cells own (fun _ => rfl) j hj).1 2 _ rfl
  have hit : itemOf (h.led x.drill) m.target = (h.led x.drill).facts[j].item := by unfold itemOf knownOf; rw [hf1]
  generalize (h.led x.drill).facts[j].item = it at ck hit
  replace hit := Lib.hid hit
  obtain ⟨hi3, e3⟩ := hm3.out s
  have T := S.p.motCell hv.out i hi3 7 (by omega) (.int .i64 it) { m with state := s, fact := it } (by rw [e3]) (by rw [e3]; rfl)
  rw [hset.out, show ({ m with state := s, fact := it } : Motion) = closeM c (h.led x.drill) m by unfold closeM; rw [hit.out, hs.out, hVt.out, hLL.out]] at T
  have m7 : w11.cell? ⟨g, i * 8 + 7, none⟩ = some (.int .i64 m.fact) := (mB.out s _ S.p).1 7 _ rfl
  have mf := (mB.out s _ S.p).2.1
  have fin : DeedPost B hb V c v h x E (closeL c (h.led x.drill) x) w (.returned (.int .i64 0)) (w11.setCell ⟨g, i * 8 + 7, none⟩ (.int .i64 it)) := by
    refine DeedPost.fin (v' := v) (xb := xb) ?_ hE.out
    have T2 := S.step T
    unfold closeL
    rw [hm.out, ← hia.out]
    exact T2
  replace fin := Lib.hid fin
  clear own hf1 hA ev gA T e3
  go_wp2
  go_ret
  exact fin.out
end Go.Proofs.YtogpgnljomchcaaGreat
