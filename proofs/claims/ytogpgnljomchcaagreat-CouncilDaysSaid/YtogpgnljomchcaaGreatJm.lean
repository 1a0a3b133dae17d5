/- motion: the program. -/
import Derived.Test.YtogpgnljomchcaaGreatHq
namespace Go.Proofs.YtogpgnljomchcaaGreat
open Go.RowKit

theorem wp_append_own_at {P : Program} {w : World} {o : Oper} {a : Act} {K : Act → World → Prop} {Q : Exit → Act → World → Prop} (s x : Operand) (t : TypeId)
    (ho : o.op = .call { callee := .builtin .append, args := #[s, x], argTypes := #[t, t] })
    (base : Nat) (e : TypeId) (i : TypeInfo) (z : Value) (size bytes : Nat) (ht : P.underlying t = some (.slice e)) (hi : P.info? e = some i) (hz : i.zero = some z)
    (hsize : i.size = size) (hby : i.bytes = bytes) (hzs : z.cells.size = size) (hsz : 0 < size)
    (v : Value) (n : Nat) (xs : List Value) (hs : a.eval s = v) (hown : w.ownsRow base e size v n xs)
    (ad : Addr) (m c : Nat) (news : List Value) (hx : a.eval x = .slice (some ad) m c) (hl : news.length = m * size) (hnews : ∀ j u, news[j]? = some u → w.cell? (ad.add j) = some u) (h1 : ∀ u ∈ news, u.oneCell' = true)
    (h63 : n + m ≤ maxLen) (hbytes : (n + m) * bytes ≤ 140737488355328) (hbase : base ≤ w.heap.size)
    (h : ∀ v' w', w'.ownsRow base e size v' (n + m) (xs ++ news) → w.grownBy w' v.ownBlock → (v'.ownBlock = v.ownBlock ∨ v'.ownBlock = some w.heap.size) → K (a.put o.dst v') w') : o.wp P a w K Q := by
  obtain ⟨v', w', hr, h2, h3, -, h5⟩ := run_append_own_at (P := P) w base t o.type e i z size bytes ht hi hz hsize hby hzs hsz v n xs hown ad m c news hl hnews h1 h63 hbytes hbase
  unfold Oper.wp execOp
  simp only [ho, resolve, invoke, builtin, Sem.run_bind, Sem.run_pure, Result.andThen_ok, List.map_toArray, List.map_cons, List.map_nil, hs, hx, hr]
  exact h v' w' h2 h3 h5

theorem moveE_7 {c : Council} {own : Ledger} {x : CItem} (h : (lawOf c x.b).isSome = false ∨ knownOf own x.a = none) : moveE c own x = 7 := by
  unfold moveE
  cases h1 : lawOf c x.b with
  | none => rfl
  | some l =>
    rcases h with h | h
    · rw [h1] at h; simp at h
    · rw [h]
theorem moveE_s {c : Council} {own : Ledger} {x : CItem} {k : Known} (h : (lawOf c x.b).isSome = true) (h2 : knownOf own x.a = some k) :
    moveE c own x = if k.level < (lawD c x.b).level then 10 else if own.motions.any (openSame x.a x.b) then 9 else if 64 ≤ own.motions.length then 8 else 0 := by
  unfold moveE lawD
  cases h1 : lawOf c x.b with
  | none => rw [h1] at h; simp at h
  | some l => rw [h2]; rfl
theorem zipV_any (f : Nat → Value) (p : Motion → Bool) : ∀ (l : List Motion) (i : Nat), (zipV f i l).any (fun y => p y.2) = l.any p
  | [], _ => rfl
  | m :: r, i => by simp only [zipV, List.any_cons, zipV_any f p r (i + 1)]
theorem info_motion : (Tryz.prog.info? 52).map (fun i => (i.zero, i.size, i.bytes)) = some (some (.agg #[.int .i64 0, .int .i64 0, .int .i64 0, .int .i64 0, .int .i64 0, .int .i64 0, .slice none 0 0, .int .i64 0]), 8, 80) := by kernel_rfl
theorem one_mot (x : Motion) : ∀ u ∈ encMot (.slice none 0 0) x, u.oneCell' = true := by
  intro u hu
  simp [encMot] at hu
  rcases hu with rfl | rfl | rfl | rfl | rfl | rfl | rfl | rfl <;> rfl
def LawAt (B hb xb : Nat) (V : CV) (c : Council) (v : Ky → Value) (h : House) (x : CItem) (act : Int) (w : World) (v7 v8 : Value) (wx : World) : Prop :=
  ∃ lb, v7 = .pointer (some ⟨lb, 0, none⟩) ∧ v8 = .bool (lawOf c act).isSome ∧ FS B hb xb V c v v h x w wx ∧ Lcl hb v wx lb 101 #[.int .i64 (lawD c act).act, .int .i64 (lawD c act).level, .int .i64 (lawD c act).window, .int .i64 (lawD c act).quorum, .int .i64 (lawD c act).share] ∧ B ≤ lb
set_option maxRecDepth 20000 in
set_option maxHeartbeats 40000000 in
theorem motion_any (B hb n : Nat) (V : CV) (c : Council) (v : Ky → Value) (h : House) (x : CItem) (w : World) (p : PH B hb w V c v h) (hk : HouseOk c n h) (hn : n ≤ 4000) :
    Calls Tryz.prog 69 #[.pointer (some ⟨hb, 0, none⟩), .agg #[.int .i64 x.kind, .int .i64 x.tick, .bool x.drill, .int .i64 x.a, .int .i64 x.b, .bool x.yes, .int .i64 x.chance.least, .int .i64 x.chance.most, .int .i64 x.chance.all]] w (DeedPost B hb V c v h x (moveE c (h.led x.drill) x) (moveL (h.led x.drill) x) w) := by
  have S := FS.start p x
  have hhw : hb < w.heap.size := p.lt
  have hBw : B ≤ w.heap.size := by have := p.low; omega
  obtain ⟨xb, hxb⟩ : ∃ q, q = w.heap.size := ⟨_, rfl⟩
  obtain ⟨E, hE⟩ : ∃ q, q = moveE c (h.led x.drill) x := ⟨_, rfl⟩
  rw [← hE]
  replace hE := Lib.hid hE
  obtain ⟨o, ho⟩ : ∃ q, q = oD x.drill := ⟨_, rfl⟩
  replace ho := Lib.hid ho
  replace hk := Lib.hid hk
  go_enter Tryz.func69, Tryz.ntmps69
  go_upto_region 1 with (fail)
  rw [← hxb] at S ⊢
  have hxw : w.heap.size ≤ xb := by omega
  replace hxb := Lib.hid hxb
  generalize w.alloc (.cells #[.int .i64 x.kind, .int .i64 x.tick, .bool x.drill, .int .i64 x.a, .int .i64 x.b, .bool x.yes, .int .i64 x.chance.least, .int .i64 x.chance.most, .int .i64 x.chance.all] 36) = w1 at S ⊢
  have cx := fun i => S.x.blk.cell i
  go_wp2_with fail
  refine (books_any hb x.drill _).mono ?_
  rintro e w3 ⟨rfl, k3⟩
  replace S := S.kpN k3
  clear k3 cx
  have cx := fun i => S.x.blk.cell i
  rw [← ho.out]
  go_upto_region 2 with (fail)
  go_cut [7, 8] (fun v7 v8 wx => LawAt B hb xb V c v h x x.b w v7 v8 wx)
  case first =>
    clear cx
    replace S := S.drew
    obtain ⟨S0, hS⟩ : ∃ S0 : World → Prop, S0 = fun w' => Blk w' hb 84 (pCells V c v h) ∧ Blk w' xb 36 #[.int .i64 x.kind, .int .i64 x.tick, .bool x.drill, .int .i64 x.a, .int .i64 x.b, .bool x.yes, .int .i64 x.chance.least, .int .i64 x.chance.most, .int .i64 x.chance.all] := ⟨_, rfl⟩
    have hS0 : ∀ w', S0 w' ↔ (Blk w' hb 84 (pCells V c v h) ∧ Blk w' xb 36 #[.int .i64 x.kind, .int .i64 x.tick, .bool x.drill, .int .i64 x.a, .int .i64 x.b, .bool x.yes, .int .i64 x.chance.least, .int .i64 x.chance.most, .int .i64 x.chance.all]) := fun w' => by rw [hS]
    clear hS
    have ca := fun (q : Ev S0) i => ((hS0 _).1 q.h).2.cell i
    have c0 : ∀ q : Ev S0, q.w.cell? ⟨hb, 0, none⟩ = some (.slice V.am c.members.length V.cm) := fun q => ((hS0 _).1 q.h).1.cell 0
    have c1 : ∀ q : Ev S0, q.w.cell? ⟨hb, 1, none⟩ = some (.slice V.al c.laws.length V.cl) := fun q => ((hS0 _).1 q.h).1.cell 1
    have c2 : ∀ q : Ev S0, q.w.cell? ⟨hb, 2, none⟩ = some (.slice V.av c.levels.length V.cv) := fun q => ((hS0 _).1 q.h).1.cell 2
    have hevT := ev_true
    refine wp_region_tr S0 (.st 0 0 (.st 1 0 (.st 2 0 (.st 3 1 (.st 4 0 (.st 5 1 (.b2 6 (.st 7 0 (.st 8 0 (.st 9 0 (.st 10 2 (.st 11 2 (.st 12 0 .nil)))))) 10 (.st 6 2 (.st 7 0 (.st 8 0 (.st 9 0 (.st 11 2 (.st 12 0 .nil))))))))))))) (by kernel_rfl) (by kernel_rfl) ((hS0 _).2 ⟨S.p.blk, S.x.blk⟩) ?_
    intro _hev
    iterate 6 (first | (refine wpTr_v rfl rfl ?_; intro K hK; go_big_quiet_op; go_big_quiet_on) | (refine wpTr_q rfl rfl ?_; intro K hK; go_big_quiet_op; go_big_quiet_on) | refine wpTr_s rfl rfl ?_)
    refine wpTr_b2 ?_ ?_
    · refine wpOne_l rfl rfl ?_; intro K hK
      go_step
      refine (council_law_any x.b B V c _ S.p.c).mono ?_
      rintro e w5 ⟨rfl, k5⟩
      replace S := S.kpN k5
      try (replace LB := LB.kpN k5)
      refine hK _ _ ((hS0 _).2 ⟨S.p.blk, S.x.blk⟩) ?_
      clear hK K k5
      iterate 3 (first | (refine wpTr_v rfl rfl ?_; intro K hK; go_big_quiet_op; go_big_quiet_on) | (refine wpTr_q rfl rfl ?_; intro K hK; go_big_quiet_op; go_big_quiet_on) | refine wpTr_s rfl rfl ?_)
      refine wpTr_l rfl rfl ?_; intro K hK
      obtain ⟨lb, wq, hwq, hlb, S2, LB, hl0, hlx, hBl⟩ := S.fresh 101 #[.int .i64 0, .int .i64 0, .int .i64 0, .int .i64 0, .int .i64 0]
      clear S
      have S := S2
      clear S2
      go_step
      first | rw [← hwq] | rw [show (World.alloc w5 (.cells #[.int .i64 0, .int .i64 0, .int .i64 0, .int .i64 0, .int .i64 0] 101)).drew = wq from hwq.symm] | rw [show (World.alloc w3 (.cells #[.int .i64 0, .int .i64 0, .int .i64 0, .int .i64 0, .int .i64 0] 101)).drew = wq from hwq.symm]
      first | rw [← hlb] | rw [← show lb = w3.heap.size from hlb]
      replace hlb := Lib.hid hlb
      refine hK _ _ ((hS0 _).2 ⟨S.p.blk, S.x.blk⟩) ?_
      clear hK K hwq
      refine wpTr_l rfl rfl ?_; intro K hK
      have cL := fun i => LB.blk.cell i
      have fL := fun i => LB.blk.frozen i
      go_step
      have S2 := S.other (setL0_grown _ lb (lawD c x.b)) LB.apart hl0 hlx hBl
      have LB2 : Lcl hb v _ lb _ _ := ⟨Blk.setL0 LB.blk (lawD c x.b), LB.apart⟩
      clear cL fL
      change K _ (setL0 _ lb (lawD c x.b))
      generalize setL0 _ lb (lawD c x.b) = w7 at S2 LB2 ⊢
      clear S
      have S := S2
      clear S2
      refine hK _ _ ((hS0 _).2 ⟨S.p.blk, S.x.blk⟩) ?_
      clear hK K
      iterate 1 (first | (refine wpTr_v rfl rfl ?_; intro K hK; go_big_quiet_op; go_big_quiet_on) | (refine wpTr_q rfl rfl ?_; intro K hK; go_big_quiet_op; go_big_quiet_on) | refine wpTr_s rfl rfl ?_)
      refine wpTr_nil ?_
      clear hevT _hev
      go_wp2_with fail
      go_meet
      case rel => exact ⟨lb, rfl, rfl, S, LB2, hBl⟩
    · refine wpOne_l rfl rfl ?_; intro K hK
      obtain ⟨lb, wq, hwq, hlb, S2, LB, hl0, hlx, hBl⟩ := S.fresh 101 #[.int .i64 0, .int .i64 0, .int .i64 0, .int .i64 0, .int .i64 0]
      clear S
      have S := S2
      clear S2
      go_step
      first | rw [← hwq] | rw [show (World.alloc w5 (.cells #[.int .i64 0, .int .i64 0, .int .i64 0, .int .i64 0, .int .i64 0] 101)).drew = wq from hwq.symm] | rw [show (World.alloc w3 (.cells #[.int .i64 0, .int .i64 0, .int .i64 0, .int .i64 0, .int .i64 0] 101)).drew = wq from hwq.symm]
      first | rw [← hlb] | rw [← show lb = w3.heap.size from hlb]
      replace hlb := Lib.hid hlb
      refine hK _ _ ((hS0 _).2 ⟨S.p.blk, S.x.blk⟩) ?_
      clear hK K hwq
      refine wpTr_l rfl rfl ?_; intro K hK
      go_step
      refine (council_law_any x.b B V c _ S.p.c).mono ?_
      rintro e w5 ⟨rfl, k5⟩
      replace S := S.kpN k5
      try (replace LB := LB.kpN k5)
      refine hK _ _ ((hS0 _).2 ⟨S.p.blk, S.x.blk⟩) ?_
      clear hK K k5
      iterate 3 (first | (refine wpTr_v rfl rfl ?_; intro K hK; go_big_quiet_op; go_big_quiet_on) | (refine wpTr_q rfl rfl ?_; intro K hK; go_big_quiet_op; go_big_quiet_on) | refine wpTr_s rfl rfl ?_)
      refine wpTr_l rfl rfl ?_; intro K hK
      have cL := fun i => LB.blk.cell i
      have fL := fun i => LB.blk.frozen i
      go_step
      have S2 := S.other (setL0_grown _ lb (lawD c x.b)) LB.apart hl0 hlx hBl
      have LB2 : Lcl hb v _ lb _ _ := ⟨Blk.setL0 LB.blk (lawD c x.b), LB.apart⟩
      clear cL fL
      change K _ (setL0 _ lb (lawD c x.b))
      generalize setL0 _ lb (lawD c x.b) = w7 at S2 LB2 ⊢
      clear S
      have S := S2
      clear S2
      refine hK _ _ ((hS0 _).2 ⟨S.p.blk, S.x.blk⟩) ?_
      clear hK K
      iterate 1 (first | (refine wpTr_v rfl rfl ?_; intro K hK; go_big_quiet_op; go_big_quiet_on) | (refine wpTr_q rfl rfl ?_; intro K hK; go_big_quiet_op; go_big_quiet_on) | refine wpTr_s rfl rfl ?_)
      refine wpTr_nil ?_
      clear hevT _hev
      go_wp2_with fail
      go_meet
      case rel => exact ⟨lb, rfl, rfl, S, LB2, hBl⟩
  case rest =>
  clear S cx
  rename World => w4
  obtain ⟨lb, rfl, rfl, S, LB, hBl⟩ := hcut
  obtain ⟨D, hD⟩ : ∃ q, q = (lawOf c x.b).isSome := ⟨_, rfl⟩
  rw [← hD]
  replace hD := Lib.hid hD
  have cx := fun i => S.x.blk.cell i
  have cl := fun i => LB.blk.cell i
  have own := S.p.rows.facts x.drill
  obtain ⟨A, cap, ev, rd, gA⟩ := own.rd0 (fun _ => rfl)
  have hfl : (h.led x.drill).facts.length ≤ 4000 := by have := (hk.out.led x.drill).flen; omega
  have cf : w4.cell? ⟨hb, o + 2, none⟩ = some (.slice A (h.led x.drill).facts.length cap) := by
    rw [ho.out, ← ev]; exact (S.p.blk.cell _).trans (pCells_facts V c v h x.drill)
  go_wp2_with fail
  refine (known_any hb o A cap (h.led x.drill).facts x.a _ cf rd (by omega) (gA.imp_right fun ⟨g, e, _⟩ => ⟨g, e⟩)).mono ?_
  intro e w5 hp
  obtain ⟨P, rfl, hP, k5⟩ := knownP hp
  replace S := S.kpN k5
  replace LB := LB.kpN k5
  clear k5 cx cl cf rd own hp
  have cx := fun i => S.x.blk.cell i
  have cl := fun i => LB.blk.cell i
  cases D
  · have e1 := Lib.hid (show 7 = E by rw [hE.out]; exact (moveE_7 (.inl hD.out.symm)).symm)
    clear hP
    go_wp2
    all_goals
      go_ret
      exact DeedPost.err S e1.out (by rw [← e1.out]; decide)
  rcases hP with ⟨rfl, hfn⟩ | ⟨g, i, hi, hA, rfl, hf1, -, -⟩
  · have e1 := Lib.hid (show 7 = E by rw [hE.out]; exact (moveE_7 (.inr hfn)).symm)
    clear hfn
    go_wp2
    go_ret
    exact DeedPost.err S e1.out (by rw [← e1.out]; decide)
  have hE2 := Lib.hid (hE.out.trans (moveE_s hD.out.symm hf1))
  have own := S.p.rows.facts x.drill
  rw [ev, hA] at own
  have ck : w5.cell? ⟨g, i * 6 + 1, none⟩ = some (.int .i64 (h.led x.drill).facts[i].level) := by
    obtain ⟨A', cap', e', rd', -⟩ := own.rd0 (fun _ => rfl)
    simp only [Value.slice.injEq] at e'
    obtain ⟨rfl, -, rfl⟩ := e'
    obtain ⟨b, o', e2, hb2, -, hcc⟩ := rd'.at_ (by omega)
    simp only [Option.some.injEq, Addr.mk.injEq] at e2
    obtain ⟨rfl, rfl, -⟩ := e2
    have := hcc i hi 1 (.int .i64 (h.led x.drill).facts[i].level) rfl
    rwa [Nat.zero_add] at this
  replace ev := Lib.hid ev
  replace hA := Lib.hid hA
  clear own hf1 gA
  generalize (h.led x.drill).facts[i] = k at ck hE2
  by_cases q1 : k.level < (lawD c x.b).level
  · have e1 := Lib.hid (show 10 = E by rw [hE2.out, if_pos q1])
    go_wp2_with fail
    go_quiet (fail)
    go_wp2
    go_ret
    exact DeedPost.err (S.kpN ((Kp.refl _ _ _).drewN _)) e1.out (by rw [← e1.out]; decide)
  replace hE2 := Lib.hid (hE2.out.trans (if_neg q1))
  have eg : ∀ args w, (callFunc 83 args).run Tryz.prog w = .ok (.enter 83 args) w := enters_of Tryz.func83 (by kernel_rfl) rfl
  obtain ⟨A3, cap3, e3, -, -⟩ := (S.p.rows.motions x.drill).rd0 (fun _ => rfl)
  obtain ⟨xs, hxs⟩ : ∃ xs, xs = zipV (fun i => v (.voted x.drill i)) 0 (h.led x.drill).motions := ⟨_, rfl⟩
  rw [← hxs] at e3
  have hxl : xs.length = (h.led x.drill).motions.length := by rw [hxs, zipV_len]
  have hml : xs.length ≤ 64 := by have := (hk.out.led x.drill).mlen; omega
  replace hxl := Lib.hid hxl
  replace hxs := Lib.hid hxs
  replace e3 := Lib.hid e3
  have cm : ∀ W, PH B hb W V c v h → W.cell? ⟨hb, o + 3, none⟩ = some (.slice A3 xs.length cap3) ∧ Own W B 52 8 encVM (.slice A3 xs.length cap3) xs := fun W pW =>
    ⟨by rw [ho.out, ← e3.out]; exact (pW.blk.cell _).trans (pCells_mot _ _ _ _ _), by rw [← e3.out]; have := pW.rows.motions x.drill; rwa [← hxs.out] at this⟩
  replace cm := Lib.hid cm
  go_wp2_with fail
  go_quiet (fail)
  replace S := S.kpN ((Kp.refl _ _ _).drewN nq)
  clear cx cl ck LB
  generalize w5.drewN nq = w6 at S ⊢
  have cx := fun i => S.x.blk.cell i
  have c3 := (cm.out _ S.p).1
  have rd3 : Rd none w6 8 encVM A3 xs.length xs := by
    obtain ⟨A', cap', e', rd', -⟩ := (cm.out _ S.p).2.rd0 (fun _ => rfl)
    simp only [Value.slice.injEq] at e'
    obtain ⟨rfl, -, rfl⟩ := e'
    exact rd'
  go_wp2_with fail
  refine (containsMotion_any 83 _ (fun y => openSame x.a x.b y.2) eg A3 cap3 xs w6 (motion1_pred xb x w6 S.x.blk) rd3 (by omega)).mono ?_
  rintro e w7 ⟨rfl, k7⟩
  replace S := S.kpN k7
  clear k7 cx c3 rd3 eg
  have cx := fun i => S.x.blk.cell i
  have c3 := (cm.out _ S.p).1
  have hany : xs.any (fun y => openSame x.a x.b y.2) = (h.led x.drill).motions.any (openSame x.a x.b) := by rw [hxs.out]; exact zipV_any _ (openSame x.a x.b) _ _
  rw [hany]
  clear hany
  cases q2 : (h.led x.drill).motions.any (openSame x.a x.b)
  case true =>
    have e1 := Lib.hid (show 9 = E by rw [hE2.out, q2]; rfl)
    clear q2
    go_wp2
    go_ret
    exact DeedPost.err S e1.out (by rw [← e1.out]; decide)
  replace hE2 := Lib.hid (show E = if 64 ≤ (h.led x.drill).motions.length then 8 else 0 by rw [hE2.out, q2]; rfl)
  clear q2
  by_cases q3 : 64 ≤ xs.length
  · have e1 := Lib.hid (show 8 = E by rw [hE2.out, if_pos (by rw [← hxl.out]; exact q3)])
    have q4 : (64 : Int) ≤ (xs.length : Int) := by omega
    go_wp2
    go_ret
    exact DeedPost.err S e1.out (by rw [← e1.out]; decide)
  have hE3 := Lib.hid (show E = 0 by rw [hE2.out, if_neg (by rw [← hxl.out]; exact q3)])
  have q4 : ¬ (64 : Int) ≤ (xs.length : Int) := by omega
  clear hE2
  obtain ⟨i0, hi0, hz0, hz1, hz2⟩ := info_parts info_motion
  go_wp2_with fail
  have T := S.drew
  clear S cx c3
  obtain ⟨S, hS⟩ : ∃ S : Nat → World → Prop, S = fun n w' => if n = 0 then Blk w' xb 36 #[.int .i64 x.kind, .int .i64 x.tick, .bool x.drill, .int .i64 x.a, .int .i64 x.b, .bool x.yes, .int .i64 x.chance.least, .int .i64 x.chance.most, .int .i64 x.chance.all] ∧ w'.cell? ⟨hb, o + 3, none⟩ = some (.slice A3 xs.length cap3) else True := ⟨_, rfl⟩
  have hS0 : ∀ w', S 0 w' ↔ (Blk w' xb 36 #[.int .i64 x.kind, .int .i64 x.tick, .bool x.drill, .int .i64 x.a, .int .i64 x.b, .bool x.yes, .int .i64 x.chance.least, .int .i64 x.chance.most, .int .i64 x.chance.all] ∧ w'.cell? ⟨hb, o + 3, none⟩ = some (.slice A3 xs.length cap3)) := fun w' => by rw [hS]; exact Iff.rfl
  have hS1 : ∀ w', S 1 w' ↔ (True) := fun w' => by rw [hS]; exact Iff.rfl
  clear hS
  have cx := fun (q : Ev (S 0)) i => ((hS0 _).1 q.h).1.cell i
  have c3 := fun (q : Ev (S 0)) => ((hS0 _).1 q.h).2
  have hevT := ev_true
  refine wp_region_ord S [(0, 0), (1, 0), (2, 0), (3, 0), (4, 1), (5, 0), (6, 1), (7, 0), (8, 1), (9, 0), (10, 1), (11, 0), (12, 2), (13, 2), (14, 0), (15, 0), (16, 3)] [16] (by kernel_rfl) (by kernel_rfl) ((hS0 _).2 ⟨T.x.blk, (cm.out _ T.p).1⟩) ?_
  intro _hev
  iterate 12 (first | (refine wpOrd_v rfl rfl ?_; intro K hK; go_big_quiet_op; go_big_quiet_on) | (refine wpOrd_q rfl rfl ?_; intro K hK; go_big_quiet_op; go_big_quiet_on) | refine wpOrd_s (by decide) rfl rfl ?_)
  obtain ⟨sb, wq, hwq, hsb, T2, VB, hs0, hsx, hBs⟩ := T.fresh 52 #[.int .i64 x.a, .int .i64 x.b, .int .i64 x.tick, .int .i64 1, .int .i64 0, .int .i64 0, .slice none 0 0, .int .i64 (-1)]
  refine wpOrd_l rfl rfl ?_; intro K hK
  go_step
  rw [show (World.alloc w7 (.cells #[.int .i64 x.a, .int .i64 x.b, .int .i64 x.tick, .int .i64 1, .int .i64 0, .int .i64 0, .slice none 0 0, .int .i64 (-1)] 52)).drew = wq from hwq.symm, ← show sb = w7.heap.size from hsb]
  replace hsb := Lib.hid hsb
  replace hwq := Lib.hid hwq
  refine hK _ _ ((hS0 _).2 ⟨T2.x.blk, (cm.out _ T2.p).1⟩) ?_
  clear hK K
  have hBq : B ≤ wq.heap.size := by have := VB.blk.lt; omega
  have ow := (cm.out _ T2.p).2
  refine wpOrd_l rfl rfl ?_; intro K hK
  refine wp_append_own_at (.tmp 66) (.tmp 74) 38 (by rfl) B 52 i0 _ 8 80 Tryz.underlying38 hi0 hz0 hz1 hz2 (by rfl) (by omega) (.slice A3 xs.length cap3) xs.length (xs.flatMap encVM) (by rfl) ow ⟨sb, 0, none⟩ 1 1 (encMot (.slice none 0 0) (newM x)) (by rfl) (by rfl) (fun j u hj => by rw [Addr.add_lit, Nat.zero_add, VB.blk.cell]; exact (show (encMot (.slice none 0 0) (newM x)).toArray[j]? = some u by simpa using hj)) (one_mot _) (maxLen_of (by omega)) (by omega) hBq ?_
  intro u8 w8 hown8 gu au
  obtain ⟨g8, cap8, rfl⟩ := ownsRow_succ hown8
  have st := T2.p.motionStep (d := x.drill) (newM x) rfl _ (by rw [e3.out]; exact gu) (by rw [← hxs.out]; unfold Own; rw [List.length_append, List.flatMap_append]; exact hown8)
    (by rw [e3.out]; rcases au with h1 | h1
        · exact .inl h1
        · right; intro b hb'; rw [h1] at hb'; injection hb' with hb'; omega)
  rw [← ho.out] at st
  have T3 := T2.step st
  have hx8 : Blk w8 xb 36 #[.int .i64 x.kind, .int .i64 x.tick, .bool x.drill, .int .i64 x.a, .int .i64 x.b, .bool x.yes, .int .i64 x.chance.least, .int .i64 x.chance.most, .int .i64 x.chance.all] := (gu.block xb T2.x.blk.lt (fun e => T2.x.apart.2 (.motions x.drill) (by rw [e3.out]; exact e.symm))).trans T2.x.blk
  have B8 : Blk w8 hb 84 (pCells V c v h) := (gu.block hb T2.p.lt (fun e => T2.p.rows.hb (.motions x.drill) hb (by rw [rowOf_v, e3.out]; exact e.symm) rfl)).trans T2.p.blk
  have c8 : w8.cell? ⟨hb, o + 3, none⟩ = some (.slice A3 xs.length cap3) := by rw [ho.out, ← e3.out]; exact (B8.cell _).trans (pCells_mot _ _ _ _ _)
  have f8 := B8.frozen (o + 3)
  refine hK _ _ ((hS0 _).2 ⟨hx8, c8⟩) ?_
  try simp only [Act.put, List.setIfInBounds_toArray, List.set_cons_zero, List.set_cons_succ]
  clear hK K
  iterate 2 (first | (refine wpOrd_v rfl rfl ?_; intro K hK; go_big_quiet_op; go_big_quiet_on) | (refine wpOrd_q rfl rfl ?_; intro K hK; go_big_quiet_op; go_big_quiet_on) | refine wpOrd_s (by decide) rfl rfl ?_)
  refine wpOrd_a rfl rfl ?_; intro K hK
  go_step
  refine hK _ _ ((hS1 _).2 trivial) ?_
  clear hK K
  change wpOrd _ _ _ _ _ 1 _ _
  refine wpOrd_nil ?_
  clear hevT _hev
  clear hS0 hS1 S cx c3
  have fin : DeedPost B hb V c v h x E (moveL (h.led x.drill) x) w (.returned (.int .i64 0)) (w8.setCell ⟨hb, o + 3, none⟩ (.slice (some ⟨g8, 0, none⟩) (xs.length + 1) cap8)) := DeedPost.fin T3 hE3.out
  replace fin := Lib.hid fin
  go_wp2
  go_ret
  exact fin.out
end Go.Proofs.YtogpgnljomchcaaGreat
