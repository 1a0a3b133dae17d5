/- motion: the program. vote: the program. close: the program. -/
import Derived.Test.YtogpgnljomchcaaGreatHpAll
namespace Go.Proofs.YtogpgnljomchcaaGreat
open Go.RowKit

theorem wp_append_own_at {P : Program} {w : World} {o : Oper} {a : Act} {K : Act → World → Prop} {Q : Exit → Act → World → Prop} (s x : Operand) (t : TypeId)
    (ho : o.op = .call { callee := .builtin .append, args := #[s, x], argTypes := #[t, t] })
    (base : Nat) (e : TypeId) (i : TypeInfo) (z : Value) (size bytes : Nat) (ht : P.underlying t = some (.slice e)) (hi : P.info? e = some i) (hz : i.zero = some z)
    (hsize : i.size = size) (hby : i.bytes = bytes) (hzs : z.cells.size = size) (hsz : 0 < size)
    (v : Value) (n : Nat) (xs : List Value) (hs : a.eval s = v) (hown : w.ownsRow base e size v n xs)
    (ad : Addr) (m c : Nat) (news : List Value) (hx : a.eval x = .slice (some ad) m c) (hl : news.length = m * size) (hnews : ∀ j u, news[j]? = some u → w.cell? (ad.add j) = some u) (h1 : ∀ u ∈ news, u.oneCell' = true)
    (h63 : n + m ≤ maxLen) (hbytes : (n + m) * bytes ≤ 140737488355328) (hbase : base ≤ w.heap.size)
    (h : ∀ v' w', w'.ownsRow base e size v' (n + m) (xs ++ news) → w.grownBy w' v.ownBlock → (v'.ownBlock = v.ownBlock ∨ v'.ownBlock = some w.heap.size) → K (a.put o.dst v') w') : o.wp P a w K Q := by
  obtain ⟨v', w', hr, h2, h3, -, h5⟩ := run_append_own_at (P := P) w base t o.type e i z size bytes ht hi hz hsize hby hzs hsz v n xs hown ad m c news hl hnews h1 h63 hbytes hbase
  unfold Oper.wp execOp
  simp only [ho, resolve, invoke, builtin, Sem.run_bind, Sem.run_pure, Result.andThen_ok, List.map_toArray, List.map_cons, List.map_nil, hs, hx, hr]
  exact h v' w' h2 h3 h5

theorem moveE_7 {c : Council} {own : Ledger} {x : CItem} (h : (lawOf c x.b).isSome = false ∨ knownOf own x.a = none) : moveE c own x = 7 := by
  unfold moveE
  cases h1 : lawOf c x.b with
  | none => rfl
  | some l =>
    rcases h with h | h
    · rw [h1] at h; simp at h
    · rw [h]
theorem moveE_s {c : Council} {own : Ledger} {x : CItem} {k : Known} (h : (lawOf c x.b).isSome = true) (h2 : knownOf own x.a = some k) :
    moveE c own x = if k.level < (lawD c x.b).level then 10 else if own.motions.any (openSame x.a x.b) then 9 else if 64 ≤ own.motions.length then 8 else 0 := by
  unfold moveE lawD
  cases h1 : lawOf c x.b with
  | none => rw [h1] at h; simp at h
  | some l => rw [h2]; rfl
theorem zipV_any (f : Nat → Value) (p : Motion → Bool) : ∀ (l : List Motion) (i : Nat), (zipV f i l).any (fun y => p y.2) = l.any p
  | [], _ => rfl
  | m :: r, i => by simp only [zipV, List.any_cons, zipV_any f p r (i + 1)]
theorem info_motion : (Tryz.prog.info? 52).map (fun i => (i.zero, i.size, i.bytes)) = some (some (.agg #[.int .i64 0, .int .i64 0, .int .i64 0, .int .i64 0, .int .i64 0, .int .i64 0, .slice none 0 0, .int .i64 0]), 8, 80) := by kernel_rfl
theorem one_mot (x : Motion) : ∀ u ∈ encMot (.slice none 0 0) x, u.oneCell' = true := by
  intro u hu
  simp [encMot] at hu
  rcases hu with rfl | rfl | rfl | rfl | rfl | rfl | rfl | rfl <;> rfl
def LawAt (B hb xb : Nat) (V : CV) (c : Council) (v : Ky → Value) (h : House) (x : CItem) (act : Int) (w : World) (v7 v8 : Value) (wx : World) : Prop :=
  ∃ lb, v7 = .pointer (some ⟨lb, 0, none⟩) ∧ v8 = .bool (lawOf c act).isSome ∧ FS B hb xb V c v v h x w wx ∧ Lcl hb v wx lb 101 #[.int .i64 (lawD c act).act, .int .i64 (lawD c act).level, .int .i64 (lawD c act).window, .int .i64 (lawD c act).quorum, .int .i64 (lawD c act).share] ∧ B ≤ lb
set_option maxRecDepth 20000 in
set_option maxHeartbeats 40000000 in
theorem motion_any (B hb n : Nat) (V : CV) (c : Council) (v : Ky → Value) (h : House) (x : CItem) (w : World) (p : PH B hb w V c v h) (hk : HouseOk c n h) (hn : n ≤ 4000) :
    Calls Tryz.prog 69 #[.pointer (some ⟨hb, 0, none⟩), .agg #[.int .i64 x.kind, .int .i64 x.tick, .bool x.drill, .int .i64 x.a, .int .i64 x.b, .bool x.yes, .int .i64 x.chance.least, .int .i64 x.chance.most, .int .i64 x.chance.all]] w (DeedPost B hb V c v h x (moveE c (h.led x.drill) x) (moveL (h.led x.drill) x) w) := by
  have S := FS.start p x
  have hhw : hb < w.heap.size := p.lt
  have hBw : B ≤ w.heap.size := by have := p.low; omega
  obtain ⟨xb, hxb⟩ : ∃ q, q = w.heap.size := ⟨_, rfl⟩
  obtain ⟨E, hE⟩ : ∃ q, q = moveE c (h.led x.drill) x := ⟨_, rfl⟩
  rw [← hE]
  replace hE := Lib.hid hE
  obtain ⟨o, ho⟩ : ∃ q, q = oD x.drill := ⟨_, rfl⟩
  replace ho := Lib.hid ho
  replace hk := Lib.hid hk
  go_enter Tryz.func69, Tryz.ntmps69
  go_upto_region 1 with (fail)
  rw [← hxb] at S ⊢
  have hxw : w.heap.size ≤ xb := by omega
  replace hxb := Lib.hid hxb
  generalize w.alloc (.cells #[.int .i64 x.kind, .int .i64 x.tick, .bool x.drill, .int .i64 x.a, .int .i64 x.b, .bool x.yes, .int .i64 x.chance.least, .int .i64 x.chance.most, .int .i64 x.chance.all] 36) = w1 at S ⊢
  have cx := fun i => S.x.blk.cell i
  go_wp2_with fail
  refine (books_any hb x.drill _).mono ?_
  rintro e w3 ⟨rfl, k3⟩
  replace S := S.kpN k3
  clear k3 cx
  have cx := fun i => S.x.blk.cell i
  rw [← ho.out]
  go_upto_region 2 with (fail)
  go_cut [7, 8] (fun v7 v8 wx => LawAt B hb xb V c v h x x.b w v7 v8 wx)
  case first =>
    clear cx
    replace S := S.drew
    obtain ⟨S0, hS⟩ : ∃ S0 : World → Prop, S0 = fun w' => Blk w' hb 84 (pCells V c v h) ∧ Blk w' xb 36 #[.int .i64 x.kind, .int .i64 x.tick, .bool x.drill, .int .i64 x.a, .int .i64 x.b, .bool x.yes, .int .i64 x.chance.least, .int .i64 x.chance.most, .int .i64 x.chance.all] := ⟨_, rfl⟩
    have hS0 : ∀ w', S0 w' ↔ (Blk w' hb 84 (pCells V c v h) ∧ Blk w' xb 36 #[.int .i64 x.kind, .int .i64 x.tick, .bool x.drill, .int .i64 x.a, .int .i64 x.b, .bool x.yes, .int .i64 x.chance.least, .int .i64 x.chance.most, .int .i64 x.chance.all]) := fun w' => by rw [hS]
    clear hS
    have ca := fun (q : Ev S0) i => ((hS0 _).1 q.h).2.cell i
    have c0 : ∀ q : Ev S0, q.w.cell? ⟨hb, 0, none⟩ = some (.slice V.am c.members.length V.cm) := fun q => ((hS0 _).1 q.h).1.cell 0
    have c1 : ∀ q : Ev S0, q.w.cell? ⟨hb, 1, none⟩ = some (.slice V.al c.laws.length V.cl) := fun q => ((hS0 _).1 q.h).1.cell 1
    have c2 : ∀ q : Ev S0, q.w.cell? ⟨hb, 2, none⟩ = some (.slice V.av c.levels.length V.cv) := fun q => ((hS0 _).1 q.h).1.cell 2
    have hevT := ev_true
    refine wp_region_tr S0 (.st 0 0 (.st 1 0 (.st 2 0 (.st 3 1 (.st 4 0 (.st 5 1 (.b2 6 (.st 7 0 (.st 8 0 (.st 9 0 (.st 10 2 (.st 11 2 (.st 12 0 .nil)))))) 10 (.st 6 2 (.st 7 0 (.st 8 0 (.st 9 0 (.st 11 2 (.st 12 0 .nil))))))))))))) (by kernel_rfl) (by kernel_rfl) ((hS0 _).2 ⟨S.p.blk, S.x.blk⟩) ?_
    intro _hev
    iterate 6 (first | (refine wpTr_v rfl rfl ?_; intro K hK; go_big_quiet_op; go_big_quiet_on) | (refine wpTr_q rfl rfl ?_; intro K hK; go_big_quiet_op; go_big_quiet_on) | refine wpTr_s rfl rfl ?_)
    refine wpTr_b2 ?_ ?_
    · refine wpOne_l rfl rfl ?_; intro K hK
      go_step
      refine (council_law_any x.b B V c _ S.p.c).mono ?_
      rintro e w5 ⟨rfl, k5⟩
      replace S := S.kpN k5
      try (replace LB := LB.kpN k5)
      refine hK _ _ ((hS0 _).2 ⟨S.p.blk, S.x.blk⟩) ?_
      clear hK K k5
      iterate 3 (first | (refine wpTr_v rfl rfl ?_; intro K hK; go_big_quiet_op; go_big_quiet_on) | (refine wpTr_q rfl rfl ?_; intro K hK; go_big_quiet_op; go_big_quiet_on) | refine wpTr_s rfl rfl ?_)
      refine wpTr_l rfl rfl ?_; intro K hK
      obtain ⟨lb, wq, hwq, hlb, S2, LB, hl0, hlx, hBl⟩ := S.fresh 101 #[.int .i64 0, .int .i64 0, .int .i64 0, .int .i64 0, .int .i64 0]
      clear S
      have S := S2
      clear S2
      go_step
      first | rw [← hwq] | rw [show (World.alloc w5 (.cells #[.int .i64 0, .int .i64 0, .int .i64 0, .int .i64 0, .int .i64 0] 101)).drew = wq from hwq.symm] | rw [show (World.alloc w3 (.cells #[.int .i64 0, .int .i64 0, .int .i64 0, .int .i64 0, .int .i64 0] 101)).drew = wq from hwq.symm]
      first | rw [← hlb] | rw [← show lb = w3.heap.size from hlb]
      replace hlb := Lib.hid hlb
      refine hK _ _ ((hS0 _).2 ⟨S.p.blk, S.x.blk⟩) ?_
      clear hK K hwq
      refine wpTr_l rfl rfl ?_; intro K hK
      have cL := fun i => LB.blk.cell i
      have fL := fun i => LB.blk.frozen i
      go_step
      have S2 := S.other (setL0_grown _ lb (lawD c x.b)) LB.apart hl0 hlx hBl
      have LB2 : Lcl hb v _ lb _ _ := ⟨Blk.setL0 LB.blk (lawD c x.b), LB.apart⟩
      clear cL fL
      change K _ (setL0 _ lb (lawD c x.b))
      generalize setL0 _ lb (lawD c x.b) = w7 at S2 LB2 ⊢
      clear S
      have S := S2
      clear S2
      refine hK _ _ ((hS0 _).2 ⟨S.p.blk, S.x.blk⟩) ?_
      clear hK K
      iterate 1 (first | (refine wpTr_v rfl rfl ?_; intro K hK; go_big_quiet_op; go_big_quiet_on) | (refine wpTr_q rfl rfl ?_; intro K hK; go_big_quiet_op; go_big_quiet_on) | refine wpTr_s rfl rfl ?_)
      refine wpTr_nil ?_
      clear hevT _hev
      go_wp2_with fail
      go_meet
      case rel => exact ⟨lb, rfl, rfl, S, LB2, hBl⟩
    · refine wpOne_l rfl rfl ?_; intro K hK
      obtain ⟨lb, wq, hwq, hlb, S2, LB, hl0, hlx, hBl⟩ := S.fresh 101 #[.int .i64 0, .int .i64 0, .int .i64 0, .int .i64 0, .int .i64 0]
      clear S
      have S := S2
      clear S2
      go_step
      first | rw [← hwq] | rw [show (World.alloc w5 (.cells #[.int .i64 0, .int .i64 0, .int .i64 0, .int .i64 0, .int .i64 0] 101)).drew = wq from hwq.symm] | rw [show (World.alloc w3 (.cells #[.int .i64 0, .int .i64 0, .int .i64 0, .int .i64 0, .int .i64 0] 101)).drew = wq from hwq.symm]
      first | rw [← hlb] | rw [← show lb = w3.heap.size from hlb]
      replace hlb := Lib.hid hlb
      refine hK _ _ ((hS0 _).2 ⟨S.p.blk, S.x.blk⟩) ?_
      clear hK K hwq
      refine wpTr_l rfl rfl ?_; intro K hK
      go_step
      refine (council_law_any x.b B V c _ S.p.c).mono ?_
      rintro e w5 ⟨rfl, k5⟩
      replace S := S.kpN k5
      try (replace LB := LB.kpN k5)
      refine hK _ _ ((hS0 _).2 ⟨S.p.blk, S.x.blk⟩) ?_
      clear hK K k5
      iterate 3 (first | (refine wpTr_v rfl rfl ?_; intro K hK; go_big_quiet_op; go_big_quiet_on) | (refine wpTr_q rfl rfl ?_; intro K hK; go_big_quiet_op; go_big_quiet_on) | refine wpTr_s rfl rfl ?_)
      refine wpTr_l rfl rfl ?_; intro K hK
      have cL := fun i => LB.blk.cell i
      have fL := fun i => LB.blk.frozen i
      go_step
      have S2 := S.other (setL0_grown _ lb (lawD c x.b)) LB.apart hl0 hlx hBl
      have LB2 : Lcl hb v _ lb _ _ := ⟨Blk.setL0 LB.blk (lawD c x.b), LB.apart⟩
      clear cL fL
      change K _ (setL0 _ lb (lawD c x.b))
      generalize setL0 _ lb (lawD c x.b) = w7 at S2 LB2 ⊢
      clear S
      have S := S2
      clear S2
      refine hK _ _ ((hS0 _).2 ⟨S.p.blk, S.x.blk⟩) ?_
      clear hK K
      iterate 1 (first | (refine wpTr_v rfl rfl ?_; intro K hK; go_big_quiet_op; go_big_quiet_on) | (refine wpTr_q rfl rfl ?_; intro K hK; go_big_quiet_op; go_big_quiet_on) | refine wpTr_s rfl rfl ?_)
      refine wpTr_nil ?_
      clear hevT _hev
      go_wp2_with fail
      go_meet
      case rel => exact ⟨lb, rfl, rfl, S, LB2, hBl⟩
  case rest =>
  clear S cx
  rename World => w4
  obtain ⟨lb, rfl, rfl, S, LB, hBl⟩ := hcut
  obtain ⟨D, hD⟩ : ∃ q, q = (lawOf c x.b).isSome := ⟨_, rfl⟩
  rw [← hD]
  replace hD := Lib.hid hD
  have cx := fun i => S.x.blk.cell i
  have cl := fun i => LB.blk.cell i
  have own := S.p.rows.facts x.drill
  obtain ⟨A, cap, ev, rd, gA⟩ := own.rd0 (fun _ => rfl)
  have hfl : (h.led x.drill).facts.length ≤ 4000 := by have := (hk.out.led x.drill).flen; omega
  have cf : w4.cell? ⟨hb, o + 2, none⟩ = some (.slice A (h.led x.drill).facts.length cap) := by
    rw [ho.out, ← ev]; exact (S.p.blk.cell _).trans (pCells_facts V c v h x.drill)
  go_wp2_with fail
  refine (known_any hb o A cap (h.led x.drill).facts x.a _ cf rd (by omega) (gA.imp_right fun ⟨g, e, _⟩ => ⟨g, e⟩)).mono ?_
  intro e w5 hp
  obtain ⟨P, rfl, hP, k5⟩ := knownP hp
  replace S := S.kpN k5
  replace LB := LB.kpN k5
  clear k5 cx cl cf rd own hp
  have cx := fun i => S.x.blk.cell i
  have cl := fun i => LB.blk.cell i
  cases D
  · have e1 := Lib.hid (show 7 = E by rw [hE.out]; exact (moveE_7 (.inl hD.out.symm)).symm)
    clear hP
    go_wp2
    all_goals
      go_ret
      exact DeedPost.err S e1.out (by rw [← e1.out]; decide)
  rcases hP with ⟨rfl, hfn⟩ | ⟨g, i, hi, hA, rfl, hf1, -, -⟩
  · have e1 := Lib.hid (show 7 = E by rw [hE.out]; exact (moveE_7 (.inr hfn)).symm)
    clear hfn
    go_wp2
    go_ret
    exact DeedPost.err S e1.out (by rw [← e1.out]; decide)
  have hE2 := Lib.hid (hE.out.trans (moveE_s hD.out.symm hf1))
  have own := S.p.rows.facts x.drill
  rw [ev, hA] at own
  have ck : w5.cell? ⟨g, i * 6 + 1, none⟩ = some (.int .i64 (h.led x.drill).facts[i].level) := by
    obtain ⟨A', cap', e', rd', -⟩ := own.rd0 (fun _ => rfl)
    simp only [Value.slice.injEq] at e'
    obtain ⟨rfl, -, rfl⟩ := e'
    obtain ⟨b, o', e2, hb2, -, hcc⟩ := rd'.at_ (by omega)
    simp only [Option.some.injEq, Addr.mk.injEq] at e2
    obtain ⟨rfl, rfl, -⟩ := e2
    have := hcc i hi 1 (.int .i64 (h.led x.drill).facts[i].level) rfl
    rwa [Nat.zero_add] at this
  replace ev := Lib.hid ev
  replace hA := Lib.hid hA
  clear own hf1 gA
  generalize (h.led x.drill).facts[i] = k at ck hE2
  by_cases q1 : k.level < (lawD c x.b).level
  · have e1 := Lib.hid (show 10 = E by rw [hE2.out, if_pos q1])
    go_wp2_with fail
    go_quiet (fail)
    go_wp2
    go_ret
    exact DeedPost.err (S.kpN ((Kp.refl _ _ _).drewN _)) e1.out (by rw [← e1.out]; decide)
  replace hE2 := Lib.hid (hE2.out.trans (if_neg q1))
  have eg : ∀ args w, (callFunc 83 args).run Tryz.prog w = .ok (.enter 83 args) w := enters_of Tryz.func83 (by kernel_rfl) rfl
  obtain ⟨A3, cap3, e3, -, -⟩ := (S.p.rows.motions x.drill).rd0 (fun _ => rfl)
  obtain ⟨xs, hxs⟩ : ∃ xs, xs = zipV (fun i => v (.voted x.drill i)) 0 (h.led x.drill).motions := ⟨_, rfl⟩
  rw [← hxs] at e3
  have hxl : xs.length = (h.led x.drill).motions.length := by rw [hxs, zipV_len]
  have hml : xs.length ≤ 64 := by have := (hk.out.led x.drill).mlen; omega
  replace hxl := Lib.hid hxl
  replace hxs := Lib.hid hxs
  replace e3 := Lib.hid e3
  have cm : ∀ W, PH B hb W V c v h → W.cell? ⟨hb, o + 3, none⟩ = some (.slice A3 xs.length cap3) ∧ Own W B 52 8 encVM (.slice A3 xs.length cap3) xs := fun W pW =>
    ⟨by rw [ho.out, ← e3.out]; exact (pW.blk.cell _).trans (pCells_mot _ _ _ _ _), by rw [← e3.out]; have := pW.rows.motions x.drill; rwa [← hxs.out] at this⟩
  replace cm := Lib.hid cm
  go_wp2_with fail
  go_quiet (fail)
  replace S := S.kpN ((Kp.refl _ _ _).drewN nq)
  clear cx cl ck LB
  generalize w5.drewN nq = w6 at S ⊢
  have cx := fun i => S.x.blk.cell i
  have c3 := (cm.out _ S.p).1
  have rd3 : Rd none w6 8 encVM A3 xs.length xs := by
    obtain ⟨A', cap', e', rd', -⟩ := (cm.out _ S.p).2.rd0 (fun _ => rfl)
    simp only [Value.slice.injEq] at e'
    obtain ⟨rfl, -, rfl⟩ := e'
    exact rd'
  go_wp2_with fail
  refine (containsMotion_any 83 _ (fun y => openSame x.a x.b y.2) eg A3 cap3 xs w6 (motion1_pred xb x w6 S.x.blk) rd3 (by omega)).mono ?_
  rintro e w7 ⟨rfl, k7⟩
  replace S := S.kpN k7
  clear k7 cx c3 rd3 eg
  have cx := fun i => S.x.blk.cell i
  have c3 := (cm.out _ S.p).1
  have hany : xs.any (fun y => openSame x.a x.b y.2) = (h.led x.drill).motions.any (openSame x.a x.b) := by rw [hxs.out]; exact zipV_any _ (openSame x.a x.b) _ _
  rw [hany]
  clear hany
  cases q2 : (h.led x.drill).motions.any (openSame x.a x.b)
  case true =>
    have e1 := Lib.hid (show 9 = E by rw [hE2.out, q2]; rfl)
    clear q2
    go_wp2
    go_ret
    exact DeedPost.err S e1.out (by rw [← e1.out]; decide)
  replace hE2 := Lib.hid (show E = if 64 ≤ (h.led x.drill).motions.length then 8 else 0 by rw [hE2.out, q2]; rfl)
  clear q2
  by_cases q3 : 64 ≤ xs.length
  · have e1 := Lib.hid (show 8 = E by rw [hE2.out, if_pos (by rw [← hxl.out]; exact q3)])
    have q4 : (64 : Int) ≤ (xs.length : Int) := by omega
    go_wp2
    go_ret
    exact DeedPost.err S e1.out (by rw [← e1.out]; decide)
  have hE3 := Lib.hid (show E = 0 by rw [hE2.out, if_neg (by rw [← hxl.out]; exact q3)])
  have q4 : ¬ (64 : Int) ≤ (xs.length : Int) := by omega
  clear hE2
  obtain ⟨i0, hi0, hz0, hz1, hz2⟩ := info_parts info_motion
  go_wp2_with fail
  have T := S.drew
  clear S cx c3
  obtain ⟨S, hS⟩ : ∃ S : Nat → World → Prop, S = fun n w' => if n = 0 then Blk w' xb 36 #[.int .i64 x.kind, .int .i64 x.tick, .bool x.drill, .int .i64 x.a, .int .i64 x.b, .bool x.yes, .int .i64 x.chance.least, .int .i64 x.chance.most, .int .i64 x.chance.all] ∧ w'.cell? ⟨hb, o + 3, none⟩ = some (.slice A3 xs.length cap3) else True := ⟨_, rfl⟩
  have hS0 : ∀ w', S 0 w' ↔ (Blk w' xb 36 #[.int .i64 x.kind, .int .i64 x.tick, .bool x.drill, .int .i64 x.a, .int .i64 x.b, .bool x.yes, .int .i64 x.chance.least, .int .i64 x.chance.most, .int .i64 x.chance.all] ∧ w'.cell? ⟨hb, o + 3, none⟩ = some (.slice A3 xs.length cap3)) := fun w' => by rw [hS]; exact Iff.rfl
  have hS1 : ∀ w', S 1 w' ↔ (True) := fun w' => by rw [hS]; exact Iff.rfl
  clear hS
  have cx := fun (q : Ev (S 0)) i => ((hS0 _).1 q.h).1.cell i
  have c3 := fun (q : Ev (S 0)) => ((hS0 _).1 q.h).2
  have hevT := ev_true
  refine wp_region_ord S [(0, 0), (1, 0), (2, 0), (3, 0), (4, 1), (5, 0), (6, 1), (7, 0), (8, 1), (9, 0), (10, 1), (11, 0), (12, 2), (13, 2), (14, 0), (15, 0), (16, 3)] [16] (by kernel_rfl) (by kernel_rfl) ((hS0 _).2 ⟨T.x.blk, (cm.out _ T.p).1⟩) ?_
  intro _hev
  iterate 12 (first | (refine wpOrd_v rfl rfl ?_; intro K hK; go_big_quiet_op; go_big_quiet_on) | (refine wpOrd_q rfl rfl ?_; intro K hK; go_big_quiet_op; go_big_quiet_on) | refine wpOrd_s (by decide) rfl rfl ?_)
  obtain ⟨sb, wq, hwq, hsb, T2, VB, hs0, hsx, hBs⟩ := T.fresh 52 #[.int .i64 x.a, .int .i64 x.b, .int .i64 x.tick, .int .i64 1, .int .i64 0, .int .i64 0, .slice none 0 0, .int .i64 (-1)]
  refine wpOrd_l rfl rfl ?_; intro K hK
  go_step
  rw [show (World.alloc w7 (.cells #[.int .i64 x.a, .int .i64 x.b, .int .i64 x.tick, .int .i64 1, .int .i64 0, .int .i64 0, .slice none 0 0, .int .i64 (-1)] 52)).drew = wq from hwq.symm, ← show sb = w7.heap.size from hsb]
  replace hsb := Lib.hid hsb
  replace hwq := Lib.hid hwq
  refine hK _ _ ((hS0 _).2 ⟨T2.x.blk, (cm.out _ T2.p).1⟩) ?_
  clear hK K
  have hBq : B ≤ wq.heap.size := by have := VB.blk.lt; omega
  have ow := (cm.out _ T2.p).2
  refine wpOrd_l rfl rfl ?_; intro K hK
  refine wp_append_own_at (.tmp 66) (.tmp 74) 38 (by rfl) B 52 i0 _ 8 80 Tryz.underlying38 hi0 hz0 hz1 hz2 (by rfl) (by omega) (.slice A3 xs.length cap3) xs.length (xs.flatMap encVM) (by rfl) ow ⟨sb, 0, none⟩ 1 1 (encMot (.slice none 0 0) (newM x)) (by rfl) (by rfl) (fun j u hj => by rw [Addr.add_lit, Nat.zero_add, VB.blk.cell]; exact (show (encMot (.slice none 0 0) (newM x)).toArray[j]? = some u by simpa using hj)) (one_mot _) (maxLen_of (by omega)) (by omega) hBq ?_
  intro u8 w8 hown8 gu au
  obtain ⟨g8, cap8, rfl⟩ := ownsRow_succ hown8
  have st := T2.p.motionStep (d := x.drill) (newM x) rfl _ (by rw [e3.out]; exact gu) (by rw [← hxs.out]; unfold Own; rw [List.length_append, List.flatMap_append]; exact hown8)
    (by rw [e3.out]; rcases au with h1 | h1
        · exact .inl h1
        · right; intro b hb'; rw [h1] at hb'; injection hb' with hb'; omega)
  rw [← ho.out] at st
  have T3 := T2.step st
  have hx8 : Blk w8 xb 36 #[.int .i64 x.kind, .int .i64 x.tick, .bool x.drill, .int .i64 x.a, .int .i64 x.b, .bool x.yes, .int .i64 x.chance.least, .int .i64 x.chance.most, .int .i64 x.chance.all] := (gu.block xb T2.x.blk.lt (fun e => T2.x.apart.2 (.motions x.drill) (by rw [e3.out]; exact e.symm))).trans T2.x.blk
  have B8 : Blk w8 hb 84 (pCells V c v h) := (gu.block hb T2.p.lt (fun e => T2.p.rows.hb (.motions x.drill) hb (by rw [rowOf_v, e3.out]; exact e.symm) rfl)).trans T2.p.blk
  have c8 : w8.cell? ⟨hb, o + 3, none⟩ = some (.slice A3 xs.length cap3) := by rw [ho.out, ← e3.out]; exact (B8.cell _).trans (pCells_mot _ _ _ _ _)
  have f8 := B8.frozen (o + 3)
  refine hK _ _ ((hS0 _).2 ⟨hx8, c8⟩) ?_
  try simp only [Act.put, List.setIfInBounds_toArray, List.set_cons_zero, List.set_cons_succ]
  clear hK K
  iterate 2 (first | (refine wpOrd_v rfl rfl ?_; intro K hK; go_big_quiet_op; go_big_quiet_on) | (refine wpOrd_q rfl rfl ?_; intro K hK; go_big_quiet_op; go_big_quiet_on) | refine wpOrd_s (by decide) rfl rfl ?_)
  refine wpOrd_a rfl rfl ?_; intro K hK
  go_step
  refine hK _ _ ((hS1 _).2 trivial) ?_
  clear hK K
  change wpOrd _ _ _ _ _ 1 _ _
  refine wpOrd_nil ?_
  clear hevT _hev
  clear hS0 hS1 S cx c3
  have fin : DeedPost B hb V c v h x E (moveL (h.led x.drill) x) w (.returned (.int .i64 0)) (w8.setCell ⟨hb, o + 3, none⟩ (.slice (some ⟨g8, 0, none⟩) (xs.length + 1) cap8)) := DeedPost.fin T3 hE3.out
  replace fin := Lib.hid fin
  go_wp2
  go_ret
  exact fin.out
end Go.Proofs.YtogpgnljomchcaaGreat
namespace Go.Proofs.YtogpgnljomchcaaGreat
open Go.RowKit

theorem motD_eq {l : Ledger} {n : Int} (h : hasM l n = true) : ∃ hi : n.toNat < l.motions.length, motD l n = l.motions[n.toNat] := by
  obtain ⟨-, hl, e⟩ := motD_mem h
  refine ⟨hl, ?_⟩
  rw [e]
  simp [hl]
theorem voteE_no {c : Council} {own other : Ledger} {x : CItem} (h : hasM own x.a = false) : voteE c own other x = if hasM other x.a then 15 else 7 := by
  unfold voteE; rw [h]; rfl
theorem voteE_7 {c : Council} {own other : Ledger} {x : CItem} (h : hasM own x.a = true) (hm : memOf c x.b = none) : voteE c own other x = 7 := by
  unfold voteE; rw [h, hm]; rfl
theorem voteE_s {c : Council} {own other : Ledger} {x : CItem} {y : Member} {m : Motion} (h : hasM own x.a = true) (hm : memOf c x.b = some y) (e : motD own x.a = m) :
    voteE c own other x = if m.state ≠ 1 then 10 else if x.b ∈ m.voted then 9 else if m.opened + (lawD c m.act).window < x.tick then 13 else 0 := by
  unfold voteE; rw [h, hm, e]; rfl
theorem any_mem (x : Int) (l : List Int) : (l.any fun y => x == y) = decide (x ∈ l) := by
  rw [Bool.eq_iff_iff, List.any_eq_true]
  simp
theorem Own.cells {α : Type} {w : World} {B e sz g n cap : Nat} {enc : α → List Value} {xs : List α} (h : Own w B e sz enc (.slice (some ⟨g, 0, none⟩) n cap) xs) (he : ∀ x, (enc x).length = sz) (i : Nat) (hi : i < xs.length) :
    (∀ j u, (enc xs[i])[j]? = some u → w.cell? ⟨g, i * sz + j, none⟩ = some u) ∧ (∀ j, w.frozen? ⟨g, j, none⟩ = false) := by
  obtain ⟨A, cap', e', rd, -⟩ := h.rd0 he
  simp only [Value.slice.injEq] at e'
  obtain ⟨rfl, rfl, rfl⟩ := e'
  refine ⟨fun j u hj => ?_, fun j => World.ownsRow.frozenAt h j⟩
  obtain ⟨b, o', e2, -, -, hcc⟩ := rd.at_ (by omega)
  simp only [Option.some.injEq, Addr.mk.injEq] at e2
  obtain ⟨rfl, rfl, -⟩ := e2
  have := hcc i hi j u hj
  rwa [Nat.zero_add] at this
theorem info_int : (Tryz.prog.info? 3).map (fun i => (i.zero, i.size, i.bytes)) = some (some (.int .i64 0), 1, 8) := by kernel_rfl
set_option maxRecDepth 20000 in
set_option maxHeartbeats 40000000 in
theorem vote_any (B hb n : Nat) (V : CV) (c : Council) (v : Ky → Value) (h : House) (x : CItem) (w : World) (p : PH B hb w V c v h) (hc : CouncilOk c) (hk : HouseOk c n h) (hn : n ≤ 4000) (ht0 : 0 ≤ x.tick) (ht1 : x.tick ≤ 1073741824) :
    Calls Tryz.prog 70 #[.pointer (some ⟨hb, 0, none⟩), .agg #[.int .i64 x.kind, .int .i64 x.tick, .bool x.drill, .int .i64 x.a, .int .i64 x.b, .bool x.yes, .int .i64 x.chance.least, .int .i64 x.chance.most, .int .i64 x.chance.all]] w (DeedPost B hb V c v h x (voteE c (h.led x.drill) (h.led (!x.drill)) x) (voteL c (h.led x.drill) x) w) := by
  have S := FS.start p x
  have hhw : hb < w.heap.size := p.lt
  have hBw : B ≤ w.heap.size := by have := p.low; omega
  obtain ⟨xb, hxb⟩ : ∃ q, q = w.heap.size := ⟨_, rfl⟩
  obtain ⟨E, hE⟩ : ∃ q, q = voteE c (h.led x.drill) (h.led (!x.drill)) x := ⟨_, rfl⟩
  rw [← hE]
  replace hE := Lib.hid hE
  replace hk := Lib.hid hk
  replace hc := Lib.hid hc
  go_enter Tryz.func70, Tryz.ntmps70
  go_upto_region 1 with (fail)
  rw [← hxb] at S ⊢
  have hxw : w.heap.size ≤ xb := by omega
  replace hxb := Lib.hid hxb
  generalize w.alloc (.cells #[.int .i64 x.kind, .int .i64 x.tick, .bool x.drill, .int .i64 x.a, .int .i64 x.b, .bool x.yes, .int .i64 x.chance.least, .int .i64 x.chance.most, .int .i64 x.chance.all] 36) = w1 at S ⊢
  have cx := fun i => S.x.blk.cell i
  go_wp2_with fail
  refine (find_any B hb V c v h x _ S.p).mono ?_
  rintro e w3 ⟨hf, k3⟩
  replace S := S.kpN k3
  clear k3 cx
  have cx := fun i => S.x.blk.cell i
  rcases hf with ⟨hh, g, cap, hv, rfl⟩ | ⟨hh, hh2, rfl⟩ | ⟨hh, hh2, rfl⟩
  case inr.inl =>
    have e1 := Lib.hid (show 15 = E by rw [hE.out, voteE_no hh, hh2]; rfl)
    clear hh hh2
    go_wp2
    go_ret
    exact DeedPost.err S e1.out (by rw [← e1.out]; decide)
  case inr.inr =>
    have e1 := Lib.hid (show 7 = E by rw [hE.out, voteE_no hh, hh2]; rfl)
    clear hh hh2
    go_wp2
    go_ret
    exact DeedPost.err S e1.out (by rw [← e1.out]; decide)
  obtain ⟨hi, hm⟩ := motD_eq hh
  obtain ⟨i, hia⟩ : ∃ q, q = x.a.toNat := ⟨_, rfl⟩
  have hi2 : i < (h.led x.drill).motions.length := by rw [hia]; exact hi
  replace hm : motD (h.led x.drill) x.a = (h.led x.drill).motions[i] := by subst hia; exact hm
  rw [← hia]
  obtain ⟨m, hmm⟩ : ∃ q, q = (h.led x.drill).motions[i] := ⟨_, rfl⟩
  rw [← hmm] at hm
  have mA : ∀ W, PH B hb W V c v h → (∀ j u, (encMot (v (.voted x.drill i)) m)[j]? = some u → W.cell? ⟨g, i * 8 + j, none⟩ = some u) ∧ (∀ j, W.frozen? ⟨g, j, none⟩ = false) ∧ g < W.heap.size ∧ g ≠ hb ∧ B ≤ g := fun W s => by
    have := s.motAt hv i hi2
    rwa [← hmm] at this
  replace hm := Lib.hid hm
  replace hmm := Lib.hid hmm
  replace mA := Lib.hid mA
  replace hv := Lib.hid hv
  replace hh := Lib.hid hh
  replace hia := Lib.hid hia
  clear hi
  have eg : ∀ args w, (callFunc 87 args).run Tryz.prog w = .ok (.enter 87 args) w := enters_of Tryz.func87 (by kernel_rfl) rfl
  have c0 : w3.cell? ⟨hb, 0, none⟩ = some (.slice V.am c.members.length V.cm) := S.p.blk.cell 0
  have hml : c.members.length ≤ 64 := hc.out.mlen
  have pr := vote1_pred xb x w3 S.x.blk
  have rd := S.p.c.m.rdN
  replace rd := Lib.hid rd
  go_wp2_with fail
  refine (indexMember_any 87 _ (fun y => y.id == x.b) eg V.am V.cm c.members _ pr rd.out (by omega)).mono ?_
  rintro e w4 ⟨rfl, k4⟩
  replace S := S.kpN k4
  clear k4 cx c0 rd pr eg
  have cx := fun i => S.x.blk.cell i
  rcases idx_spec (fun y : Member => y.id == x.b) c.members 0 with ⟨h1, h2⟩ | ⟨j, hj, h1, h2, h3, -⟩
  · have e1 := Lib.hid (show 7 = E by rw [hE.out, voteE_7 hh.out h2])
    rw [h1]
    clear h1 h2
    go_wp2
    go_ret
    exact DeedPost.err S e1.out (by rw [← e1.out]; decide)
  rw [h1]
  replace hE := Lib.hid (hE.out.trans (voteE_s hh.out h2 hm.out))
  have hw : wOf c x.b = c.members[j].weight := by unfold wOf memOf; rw [h2]
  have hwb := wOf_bd hc.out x.b
  obtain ⟨W, hW⟩ : ∃ q, q = wOf c x.b := ⟨_, rfl⟩
  rw [← hW] at hw hwb
  replace hW := Lib.hid hW
  replace hw := Lib.hid hw
  clear h1 h2 h3
  simp only [Int.zero_add]
  go_upto_region 7 with (fail)
  go_cut [8, 9] (fun v7 v8 wx => LawAt B hb xb V c v h x m.act w v7 v8 wx)
  case first =>
    clear cx
    replace S := S.drew
    obtain ⟨S0, hS⟩ : ∃ S0 : World → Prop, S0 = fun w' => Blk w' hb 84 (pCells V c v h) ∧ w'.cell? ⟨g, i * 8 + 1, none⟩ = some (.int .i64 m.act) := ⟨_, rfl⟩
    have hS0 : ∀ w', S0 w' ↔ (Blk w' hb 84 (pCells V c v h) ∧ w'.cell? ⟨g, i * 8 + 1, none⟩ = some (.int .i64 m.act)) := fun w' => by rw [hS]
    clear hS
    have ca := fun (q : Ev S0) => ((hS0 _).1 q.h).2
    have c0 : ∀ q : Ev S0, q.w.cell? ⟨hb, 0, none⟩ = some (.slice V.am c.members.length V.cm) := fun q => ((hS0 _).1 q.h).1.cell 0
    have c1 : ∀ q : Ev S0, q.w.cell? ⟨hb, 1, none⟩ = some (.slice V.al c.laws.length V.cl) := fun q => ((hS0 _).1 q.h).1.cell 1
    have c2 : ∀ q : Ev S0, q.w.cell? ⟨hb, 2, none⟩ = some (.slice V.av c.levels.length V.cv) := fun q => ((hS0 _).1 q.h).1.cell 2
    have hevT := ev_true
    refine wp_region_tr S0 (.st 0 0 (.st 1 0 (.st 2 0 (.st 3 1 (.st 4 0 (.st 5 0 (.st 6 0 (.st 7 1 (.b2 8 (.st 9 0 (.st 10 0 (.st 11 0 (.st 12 2 (.st 13 2 (.st 14 0 .nil)))))) 12 (.st 8 2 (.st 9 0 (.st 10 0 (.st 11 0 (.st 13 2 (.st 14 0 .nil))))))))))))))) (by kernel_rfl) (by kernel_rfl) ((hS0 _).2 ⟨S.p.blk, (mA.out _ S.p).1 1 _ rfl⟩) ?_
    intro _hev
    iterate 8 (first | (refine wpTr_v rfl rfl ?_; intro K hK; go_big_quiet_op; go_big_quiet_on) | (refine wpTr_q rfl rfl ?_; intro K hK; go_big_quiet_op; go_big_quiet_on) | refine wpTr_s rfl rfl ?_)
    refine wpTr_b2 ?_ ?_
    · refine wpOne_l rfl rfl ?_; intro K hK
      go_step
      refine (council_law_any m.act B V c _ S.p.c).mono ?_
      rintro e w5 ⟨rfl, k5⟩
      replace S := S.kpN k5
      try (replace LB := LB.kpN k5)
      refine hK _ _ ((hS0 _).2 ⟨S.p.blk, (mA.out _ S.p).1 1 _ rfl⟩) ?_
      clear hK K k5
      iterate 3 (first | (refine wpTr_v rfl rfl ?_; intro K hK; go_big_quiet_op; go_big_quiet_on) | (refine wpTr_q rfl rfl ?_; intro K hK; go_big_quiet_op; go_big_quiet_on) | refine wpTr_s rfl rfl ?_)
      refine wpTr_l rfl rfl ?_; intro K hK
      obtain ⟨lb, wq, hwq, hlb, S2, LB, hl0, hlx, hBl⟩ := S.fresh 101 #[.int .i64 0, .int .i64 0, .int .i64 0, .int .i64 0, .int .i64 0]
      clear S
      have S := S2
      clear S2
      go_step
      first | rw [← hwq] | rw [show (World.alloc w5 (.cells #[.int .i64 0, .int .i64 0, .int .i64 0, .int .i64 0, .int .i64 0] 101)).drew = wq from hwq.symm] | rw [show (World.alloc w4 (.cells #[.int .i64 0, .int .i64 0, .int .i64 0, .int .i64 0, .int .i64 0] 101)).drew = wq from hwq.symm]
      first | rw [← hlb] | rw [← show lb = w4.heap.size from hlb]
      replace hlb := Lib.hid hlb
      refine hK _ _ ((hS0 _).2 ⟨S.p.blk, (mA.out _ S.p).1 1 _ rfl⟩) ?_
      clear hK K hwq
      refine wpTr_l rfl rfl ?_; intro K hK
      have cL := fun i => LB.blk.cell i
      have fL := fun i => LB.blk.frozen i
      go_step
      have S2 := S.other (setL0_grown _ lb (lawD c m.act)) LB.apart hl0 hlx hBl
      have LB2 : Lcl hb v _ lb _ _ := ⟨Blk.setL0 LB.blk (lawD c m.act), LB.apart⟩
      clear cL fL
      change K _ (setL0 _ lb (lawD c m.act))
      generalize setL0 _ lb (lawD c m.act) = w7 at S2 LB2 ⊢
      clear S
      have S := S2
      clear S2
      refine hK _ _ ((hS0 _).2 ⟨S.p.blk, (mA.out _ S.p).1 1 _ rfl⟩) ?_
      clear hK K
      iterate 1 (first | (refine wpTr_v rfl rfl ?_; intro K hK; go_big_quiet_op; go_big_quiet_on) | (refine wpTr_q rfl rfl ?_; intro K hK; go_big_quiet_op; go_big_quiet_on) | refine wpTr_s rfl rfl ?_)
      refine wpTr_nil ?_
      clear hevT _hev
      go_wp2_with fail
      go_meet
      case rel => exact ⟨lb, rfl, rfl, S, LB2, hBl⟩
    · refine wpOne_l rfl rfl ?_; intro K hK
      obtain ⟨lb, wq, hwq, hlb, S2, LB, hl0, hlx, hBl⟩ := S.fresh 101 #[.int .i64 0, .int .i64 0, .int .i64 0, .int .i64 0, .int .i64 0]
      clear S
      have S := S2
      clear S2
      go_step
      first | rw [← hwq] | rw [show (World.alloc w5 (.cells #[.int .i64 0, .int .i64 0, .int .i64 0, .int .i64 0, .int .i64 0] 101)).drew = wq from hwq.symm] | rw [show (World.alloc w4 (.cells #[.int .i64 0, .int .i64 0, .int .i64 0, .int .i64 0, .int .i64 0] 101)).drew = wq from hwq.symm]
      first | rw [← hlb] | rw [← show lb = w4.heap.size from hlb]
      replace hlb := Lib.hid hlb
      refine hK _ _ ((hS0 _).2 ⟨S.p.blk, (mA.out _ S.p).1 1 _ rfl⟩) ?_
      clear hK K hwq
      refine wpTr_l rfl rfl ?_; intro K hK
      go_step
      refine (council_law_any m.act B V c _ S.p.c).mono ?_
      rintro e w5 ⟨rfl, k5⟩
      replace S := S.kpN k5
      try (replace LB := LB.kpN k5)
      refine hK _ _ ((hS0 _).2 ⟨S.p.blk, (mA.out _ S.p).1 1 _ rfl⟩) ?_
      clear hK K k5
      iterate 3 (first | (refine wpTr_v rfl rfl ?_; intro K hK; go_big_quiet_op; go_big_quiet_on) | (refine wpTr_q rfl rfl ?_; intro K hK; go_big_quiet_op; go_big_quiet_on) | refine wpTr_s rfl rfl ?_)
      refine wpTr_l rfl rfl ?_; intro K hK
      have cL := fun i => LB.blk.cell i
      have fL := fun i => LB.blk.frozen i
      go_step
      have S2 := S.other (setL0_grown _ lb (lawD c m.act)) LB.apart hl0 hlx hBl
      have LB2 : Lcl hb v _ lb _ _ := ⟨Blk.setL0 LB.blk (lawD c m.act), LB.apart⟩
      clear cL fL
      change K _ (setL0 _ lb (lawD c m.act))
      generalize setL0 _ lb (lawD c m.act) = w7 at S2 LB2 ⊢
      clear S
      have S := S2
      clear S2
      refine hK _ _ ((hS0 _).2 ⟨S.p.blk, (mA.out _ S.p).1 1 _ rfl⟩) ?_
      clear hK K
      iterate 1 (first | (refine wpTr_v rfl rfl ?_; intro K hK; go_big_quiet_op; go_big_quiet_on) | (refine wpTr_q rfl rfl ?_; intro K hK; go_big_quiet_op; go_big_quiet_on) | refine wpTr_s rfl rfl ?_)
      refine wpTr_nil ?_
      clear hevT _hev
      go_wp2_with fail
      go_meet
      case rel => exact ⟨lb, rfl, rfl, S, LB2, hBl⟩
  case rest =>
  clear S cx
  rename World => w5
  obtain ⟨lb, rfl, rfl, S, LB, hBl⟩ := hcut
  have hL := lawD_ok hc.out m.act
  have hmem : m ∈ (h.led x.drill).motions := by rw [hmm.out]; exact List.getElem_mem hi2
  have hop := (hk.out.led x.drill).open0 m hmem
  have hwt := (hk.out.led x.drill).wt m hmem
  have hvl : m.voted.length ≤ 4000 := by have := (hk.out.led x.drill).vlen m hmem; omega
  have hvo : votedOf (h.led x.drill) i = m.voted := by unfold votedOf; rw [List.getElem?_eq_getElem hi2, ← hmm.out]; rfl
  obtain ⟨A6, cap6, e6, -, -⟩ := (S.p.rows.voted x.drill i).rd0 (fun _ => rfl)
  rw [hvo] at e6
  have cv : ∀ W, PH B hb W V c v h → W.cell? ⟨g, i * 8 + 6, none⟩ = some (.slice A6 m.voted.length cap6) ∧ Own W B 3 1 encI (.slice A6 m.voted.length cap6) m.voted := fun W pW =>
    ⟨by rw [← e6]; exact (mA.out _ pW).1 6 _ rfl, by have := pW.rows.voted x.drill i; rwa [hvo, e6] at this⟩
  replace hmem := Lib.hid hmem
  replace cv := Lib.hid cv
  replace e6 := Lib.hid e6
  replace hvo := Lib.hid hvo
  have cx := fun i => S.x.blk.cell i
  have cl := fun i => LB.blk.cell i
  have m3 : w5.cell? ⟨g, i * 8 + 3, none⟩ = some (.int .i64 m.state) := (mA.out _ S.p).1 3 _ rfl
  by_cases q1 : m.state = 1
  case neg =>
    have e1 := Lib.hid (show 10 = E by rw [hE.out, if_pos q1])
    go_wp2
    go_ret
    exact DeedPost.err S e1.out (by rw [← e1.out]; decide)
  replace hE := Lib.hid (hE.out.trans (if_neg (fun q => q q1)))
  obtain ⟨Q, hQ⟩ : ∃ q, q = (m.voted.any fun y => x.b == y) := ⟨_, rfl⟩
  have cs := containsInt_any x.b A6 cap6 m.voted
  rw [← hQ] at cs
  rw [any_mem] at hQ
  replace hQ := Lib.hid hQ
  have rd6 : ∀ W, PH B hb W V c v h → Rd none W 1 encI A6 m.voted.length m.voted := fun W pW => by
    obtain ⟨A', cap', e', rd', -⟩ := (cv.out _ pW).2.rd0 (fun _ => rfl)
    simp only [Value.slice.injEq] at e'
    obtain ⟨rfl, -, rfl⟩ := e'
    exact rd'
  replace rd6 := Lib.hid rd6
  go_wp2_with fail
  clear cx cl m3
  replace S := S.drew
  replace LB := LB.kpN (Kp.refl _ _ _).drew
  have T := S
  clear S
  obtain ⟨S, hS⟩ : ∃ S : Nat → World → Prop, S = fun _ w' => w'.cell? ⟨g, i * 8 + 6, none⟩ = some (.slice A6 m.voted.length cap6) ∧ Blk w' xb 36 #[.int .i64 x.kind, .int .i64 x.tick, .bool x.drill, .int .i64 x.a, .int .i64 x.b, .bool x.yes, .int .i64 x.chance.least, .int .i64 x.chance.most, .int .i64 x.chance.all] := ⟨_, rfl⟩
  have hS0 : ∀ w', S 0 w' ↔ (w'.cell? ⟨g, i * 8 + 6, none⟩ = some (.slice A6 m.voted.length cap6) ∧ Blk w' xb 36 #[.int .i64 x.kind, .int .i64 x.tick, .bool x.drill, .int .i64 x.a, .int .i64 x.b, .bool x.yes, .int .i64 x.chance.least, .int .i64 x.chance.most, .int .i64 x.chance.all]) := fun w' => by rw [hS]
  clear hS
  have c6 := fun (q : Ev (S 0)) => ((hS0 _).1 q.h).1
  have cx := fun (q : Ev (S 0)) i => ((hS0 _).1 q.h).2.cell i
  have hevT := ev_true
  refine wp_region_ord S [(0, 0), (1, 0), (2, 0), (3, 1), (4, 0), (5, 1), (6, 2), (7, 0)] [] (by kernel_rfl) (by kernel_rfl) ((hS0 _).2 ⟨(cv.out _ T.p).1, T.x.blk⟩) ?_
  intro _hev
  iterate 6 (first | (refine wpOrd_v rfl rfl ?_; intro K hK; go_big_quiet_op; go_big_quiet_on) | (refine wpOrd_q rfl rfl ?_; intro K hK; go_big_quiet_op; go_big_quiet_on) | refine wpOrd_s (by decide) rfl rfl ?_)
  refine wpOrd_l rfl rfl ?_; intro K hK
  go_step
  refine (cs _ (rd6.out _ T.p) (by omega)).mono ?_
  rintro e w6 ⟨rfl, k6⟩
  replace T := T.kpN k6
  replace LB := LB.kpN k6
  refine hK _ _ ((hS0 _).2 ⟨(cv.out _ T.p).1, T.x.blk⟩) ?_
  clear hK K k6
  iterate 1 (first | (refine wpOrd_v rfl rfl ?_; intro K hK; go_big_quiet_op; go_big_quiet_on) | (refine wpOrd_q rfl rfl ?_; intro K hK; go_big_quiet_op; go_big_quiet_on) | refine wpOrd_s (by decide) rfl rfl ?_)
  refine wpOrd_nil ?_
  clear hevT _hev
  clear hS0 S c6 cx cs
  have S := T
  clear T
  cases Q
  case true =>
    have e1 := Lib.hid (show 9 = E by rw [hE.out, if_pos (by simpa using hQ.out.symm)])
    go_wp2
    go_ret
    exact DeedPost.err S e1.out (by rw [← e1.out]; decide)
  replace hE := Lib.hid (hE.out.trans (if_neg (by simpa using hQ.out.symm)))
  have cx := fun i => S.x.blk.cell i
  have cl := fun i => LB.blk.cell i
  have m2 : w6.cell? ⟨g, i * 8 + 2, none⟩ = some (.int .i64 m.opened) := (mA.out _ S.p).1 2 _ rfl
  obtain ⟨L, hLL⟩ : ∃ q, q = lawD c m.act := ⟨_, rfl⟩
  rw [← hLL] at hL cl hE
  replace hLL := Lib.hid hLL
  have hwr : wrap64 (m.opened + L.window) = m.opened + L.window := IntWalk.wrap64_in _ (by omega)
  by_cases q3 : m.opened + L.window < x.tick
  · have e1 := Lib.hid (show 13 = E by rw [hE.out, if_pos q3])
    go_wp2_with fail
    go_quiet (fail)
    go_wp2
    go_ret
    exact DeedPost.err (S.kpN ((Kp.refl _ _ _).drewN _)) e1.out (by rw [← e1.out]; decide)
  replace hE := Lib.hid (hE.out.trans (if_neg q3))
  go_wp2_with fail
  go_quiet (fail)
  replace S := S.kpN ((Kp.refl _ _ _).drewN nq)
  clear cx cl m2
  generalize w6.drewN nq = w7 at S ⊢
  obtain ⟨i0, hi0, hz0, hz1, hz2⟩ := info_parts info_int
  go_wp2_with fail
  clear LB q3 hwr hL hop
  replace S := S.drew
  have T := S
  clear S
  have own7 := (cv.out _ T.p)
  obtain ⟨S, hS⟩ : ∃ S : Nat → World → Prop, S = fun n w' => if n = 0 then w'.cell? ⟨g, i * 8 + 6, none⟩ = some (.slice A6 m.voted.length cap6) ∧ Blk w' xb 36 #[.int .i64 x.kind, .int .i64 x.tick, .bool x.drill, .int .i64 x.a, .int .i64 x.b, .bool x.yes, .int .i64 x.chance.least, .int .i64 x.chance.most, .int .i64 x.chance.all] else True := ⟨_, rfl⟩
  have hS0 : ∀ w', S 0 w' ↔ (w'.cell? ⟨g, i * 8 + 6, none⟩ = some (.slice A6 m.voted.length cap6) ∧ Blk w' xb 36 #[.int .i64 x.kind, .int .i64 x.tick, .bool x.drill, .int .i64 x.a, .int .i64 x.b, .bool x.yes, .int .i64 x.chance.least, .int .i64 x.chance.most, .int .i64 x.chance.all]) := fun w' => by rw [hS]; exact Iff.rfl
  have hS1 : ∀ w', S 1 w' ↔ (True) := fun w' => by rw [hS]; exact Iff.rfl
  clear hS
  have c6 := fun (q : Ev (S 0)) => ((hS0 _).1 q.h).1
  have cx := fun (q : Ev (S 0)) i => ((hS0 _).1 q.h).2.cell i
  have hevT := ev_true
  refine wp_region_ord S [(0, 0), (1, 0), (2, 0), (3, 0), (4, 1), (5, 0), (6, 1), (7, 2), (8, 2), (9, 0), (10, 0), (11, 3)] [11] (by kernel_rfl) (by kernel_rfl) ((hS0 _).2 ⟨(cv.out _ T.p).1, T.x.blk⟩) ?_
  intro _hev
  iterate 7 (first | (refine wpOrd_v rfl rfl ?_; intro K hK; go_big_quiet_op; go_big_quiet_on) | (refine wpOrd_q rfl rfl ?_; intro K hK; go_big_quiet_op; go_big_quiet_on) | refine wpOrd_s (by decide) rfl rfl ?_)
  obtain ⟨sb, wq, hwq, hsb, T2, VB, hs0, hsx, hBs⟩ := T.fresh 3 #[.int .i64 x.b]
  refine wpOrd_l rfl rfl ?_; intro K hK
  go_step
  rw [show (World.alloc w7 (.cells #[.int .i64 x.b] 3)).drew = wq from hwq.symm, ← show sb = w7.heap.size from hsb]
  replace hsb := Lib.hid hsb
  replace hwq := Lib.hid hwq
  refine hK _ _ ((hS0 _).2 ⟨(cv.out _ T2.p).1, T2.x.blk⟩) ?_
  clear hK K T
  have hBq : B ≤ wq.heap.size := by have := VB.blk.lt; omega
  have ow := (cv.out _ T2.p).2
  refine wpOrd_l rfl rfl ?_; intro K hK
  refine wp_append_own_at (.tmp 69) (.tmp 72) 22 (by rfl) B 3 i0 _ 1 8 Tryz.underlying22 hi0 hz0 hz1 hz2 (by rfl) (by omega) (.slice A6 m.voted.length cap6) m.voted.length (m.voted.flatMap encI) (by rfl) ow ⟨sb, 0, none⟩ 1 1 [.int .i64 x.b] (by rfl) (by rfl) (fun j u hj => by rw [Addr.add_lit, Nat.zero_add, VB.blk.cell]; exact (show [Value.int .i64 x.b].toArray[j]? = some u by simpa using hj)) (one_int _ _) (maxLen_of (by omega)) (by omega) hBq ?_
  intro u8 w8 hown8 gu au
  obtain ⟨g8, cap8, rfl⟩ := ownsRow_succ hown8
  have st := T2.p.voteStep hv.out i hi2 x.b (.slice (some ⟨g8, 0, none⟩) (m.voted.length + 1) cap8) (by rw [e6.out]; exact gu) (by rw [← hmm.out]; unfold Own; rw [List.length_append, List.flatMap_append]; exact hown8)
    (by rw [e6.out]; rcases au with h1 | h1
        · exact .inl h1
        · right; intro b hb'; rw [h1] at hb'; injection hb' with hb'; omega)
  have T3 := T2.step st
  have hne6 : (Value.slice A6 m.voted.length cap6).ownBlock = none ∨ (Value.slice A6 m.voted.length cap6).ownBlock ≠ some g := by
    rw [← e6.out]
    right
    intro e
    exact T2.p.rows.ap (.voted x.drill i) (.motions x.drill) g (by simp) (by rw [rowOf_v]; exact e) (by rw [rowOf_v, hv.out]; rfl)
  have hx8 : Blk w8 xb 36 #[.int .i64 x.kind, .int .i64 x.tick, .bool x.drill, .int .i64 x.a, .int .i64 x.b, .bool x.yes, .int .i64 x.chance.least, .int .i64 x.chance.most, .int .i64 x.chance.all] := (gu.block xb T2.x.blk.lt (fun e => T2.x.apart.2 (.voted x.drill i) (by rw [e6.out]; exact e.symm))).trans T2.x.blk
  have ow8 : Own w8 B 52 8 encVM (v (.motions x.drill)) (zipV (fun i => v (.voted x.drill i)) 0 (h.led x.drill).motions) := World.ownsRow.kept (T2.p.rows.motions x.drill) gu (by
    rw [hv.out]
    rcases hne6 with h1 | h1
    · rw [h1]; right; simp [Value.ownBlock]
    · exact .inr fun e => h1 e.symm)
  rw [hv.out] at ow8
  have cg := Own.cells ow8 (fun _ => rfl) i (by rw [zipV_len]; exact hi2)
  rw [zipV_at _ _ _ _ hi2, Nat.zero_add] at cg
  have c8 : w8.cell? ⟨g, i * 8 + 6, none⟩ = some (.slice A6 m.voted.length cap6) := cg.1 6 _ (by rw [← e6.out]; rfl)
  have f8 := cg.2
  clear cg ow8
  refine hK _ _ ((hS0 _).2 ⟨c8, hx8⟩) ?_
  try simp only [Act.put, List.setIfInBounds_toArray, List.set_cons_zero, List.set_cons_succ]
  clear hK K
  iterate 2 (first | (refine wpOrd_v rfl rfl ?_; intro K hK; go_big_quiet_op; go_big_quiet_on) | (refine wpOrd_q rfl rfl ?_; intro K hK; go_big_quiet_op; go_big_quiet_on) | refine wpOrd_s (by decide) rfl rfl ?_)
  refine wpOrd_a rfl rfl ?_; intro K hK
  go_step
  refine hK _ _ ((hS1 _).2 trivial) ?_
  clear hK K
  change wpOrd _ _ _ _ _ 1 _ _
  refine wpOrd_nil ?_
  clear hevT _hev
  clear hS0 hS1 S cx c6 c8 f8 hx8 hne6 hown8 gu au T2 st VB
  generalize w8.setCell ⟨g, i * 8 + 6, none⟩ (.slice (some ⟨g8, 0, none⟩) (m.voted.length + 1) cap8) = w9 at T3 ⊢
  obtain ⟨h2, hh2⟩ : ∃ q, q = h.put x.drill { h.led x.drill with motions := (h.led x.drill).motions.set i { (h.led x.drill).motions[i] with voted := (h.led x.drill).motions[i].voted ++ [x.b] } } := ⟨_, rfl⟩
  obtain ⟨v2, hv2⟩ : ∃ q, q = updV v (.voted x.drill i) (.slice (some ⟨g8, 0, none⟩) (m.voted.length + 1) cap8) := ⟨_, rfl⟩
  rw [← hh2, ← hv2] at T3
  have hvm : v2 (.motions x.drill) = .slice (some ⟨g, 0, none⟩) (h.led x.drill).motions.length cap := by rw [hv2, updV_ne _ _ (by simp)]; exact hv.out
  have hi3 : i < (h2.led x.drill).motions.length := by rw [hh2, put_led, List.length_set]; exact hi2
  have hm3 : (h2.led x.drill).motions[i] = { m with voted := m.voted ++ [x.b] } := by
    have : ∀ (L : Ledger) (e : L = { h.led x.drill with motions := (h.led x.drill).motions.set i { (h.led x.drill).motions[i] with voted := (h.led x.drill).motions[i].voted ++ [x.b] } }) (hl : i < L.motions.length), L.motions[i] = { m with voted := m.voted ++ [x.b] } := fun L e hl => by
      subst e
      simp only [List.getElem_set_self]
      rw [← hmm.out]
    exact this _ (by rw [hh2, put_led]) hi3
  have hfin : ∀ m4 : Motion, m4 = voteM c m x → h2.put x.drill { h2.led x.drill with motions := (h2.led x.drill).motions.set i m4 } = h.put x.drill (voteL c (h.led x.drill) x) := fun m4 e => by
    rw [hh2, put_put, put_led]
    unfold voteL
    simp only [List.set_set]
    rw [hm.out, e, hia.out]
  have mq := T3.p.motAt hvm i hi3
  rw [hm3] at mq
  have cx := fun i => T3.x.blk.cell i
  obtain ⟨bm, om, hVm, -, -, hcc⟩ := T3.p.c.m.rdN.at_ (show 0 < c.members.length by omega)
  have cw : w9.cell? ⟨bm, om + j * 2 + 1, none⟩ = some (.int .i64 W) := by rw [hw.out, Nat.add_assoc]; exact hcc j hj 1 _ rfl
  have ch : w9.cell? ⟨hb, 0, none⟩ = some (.slice (some ⟨bm, om, none⟩) c.members.length V.cm) := by rw [← hVm]; exact T3.p.blk.cell 0
  have hj' : (j : Int) < (c.members.length : Int) := by omega
  have m4 : w9.cell? ⟨g, i * 8 + 4, none⟩ = some (.int .i64 m.yes) := mq.1 4 _ rfl
  have m5 : w9.cell? ⟨g, i * 8 + 5, none⟩ = some (.int .i64 m.no) := mq.1 5 _ rfl
  have mf := mq.2.1
  have stY := T3.p.motCell hvm i hi3 4 (by omega) (.int .i64 (m.yes + W)) { m with voted := m.voted ++ [x.b], yes := m.yes + W } (by rw [hm3]) (by rw [hm3]; rfl)
  have stN := T3.p.motCell hvm i hi3 5 (by omega) (.int .i64 (m.no + W)) { m with voted := m.voted ++ [x.b], no := m.no + W } (by rw [hm3]) (by rw [hm3]; rfl)
  have hwy : wrap64 (m.yes + W) = m.yes + W := IntWalk.wrap64_in _ (by omega)
  have hwn : wrap64 (m.no + W) = m.no + W := IntWalk.wrap64_in _ (by omega)
  replace hfin := Lib.hid hfin
  replace stY := Lib.hid stY
  replace stN := Lib.hid stN
  replace hh2 := Lib.hid hh2
  replace hv2 := Lib.hid hv2
  replace hvm := Lib.hid hvm
  replace hm3 := Lib.hid hm3
  replace hVm := Lib.hid hVm
  clear hcc mq hwt hi0 hz0 hz1 hz2
  go_upto_if 77 with (fail)
  cases hy : x.yes
  · clear cx
    have fin : DeedPost B hb V c v h x E (voteL c (h.led x.drill) x) w (.returned (.int .i64 0)) (w9.setCell ⟨g, i * 8 + 5, none⟩ (.int .i64 (m.no + W))).drew := by
      refine DeedPost.fin (v' := v2) (xb := xb) ?_ hE.out
      have T4 := (T3.step stN.out).drew
      rw [hfin.out _ (by unfold voteM; rw [← hW.out]; simp only [hy, if_true, if_false, Bool.false_eq_true])] at T4
      exact T4
    replace fin := Lib.hid fin
    replace hy := Lib.hid hy
    go_wp2_with fail
    obtain ⟨S, hS⟩ : ∃ S : Nat → World → Prop, S = fun n w' => if n = 0 then w'.cell? ⟨g, i * 8 + 5, none⟩ = some (.int .i64 m.no) ∧ w'.cell? ⟨hb, 0, none⟩ = some (.slice (some ⟨bm, om, none⟩) c.members.length V.cm) ∧ w'.cell? ⟨bm, om + j * 2 + 1, none⟩ = some (.int .i64 W) else True := ⟨_, rfl⟩
    have hS0 : ∀ w', S 0 w' ↔ (w'.cell? ⟨g, i * 8 + 5, none⟩ = some (.int .i64 m.no) ∧ w'.cell? ⟨hb, 0, none⟩ = some (.slice (some ⟨bm, om, none⟩) c.members.length V.cm) ∧ w'.cell? ⟨bm, om + j * 2 + 1, none⟩ = some (.int .i64 W)) := fun w' => by rw [hS]; exact Iff.rfl
    have hS1 : ∀ w', S 1 w' ↔ (True) := fun w' => by rw [hS]; exact Iff.rfl
    clear hS
    have ca := fun (q : Ev (S 0)) => ((hS0 _).1 q.h).1
    have cb := fun (q : Ev (S 0)) => ((hS0 _).1 q.h).2.1
    have cc := fun (q : Ev (S 0)) => ((hS0 _).1 q.h).2.2
    have hevT := ev_true
    refine wp_region_ord S [(0, 0), (1, 0), (2, 0), (3, 1), (4, 0), (5, 0), (6, 0), (7, 0), (8, 1), (9, 0), (10, 0), (11, 0), (12, 1), (13, 0), (14, 0), (15, 0), (16, 3)] [16] (by kernel_rfl) (by kernel_rfl) ((hS0 _).2 ⟨m5, ch, cw⟩) ?_
    intro _hev
    iterate 16 (first | (refine wpOrd_v rfl rfl ?_; intro K hK; go_big_quiet_op; go_big_quiet_on) | (refine wpOrd_q rfl rfl ?_; intro K hK; go_big_quiet_op; go_big_quiet_on) | refine wpOrd_s (by decide) rfl rfl ?_)
    refine wpOrd_a rfl rfl ?_; intro K hK
    go_step
    refine hK _ _ ((hS1 _).2 trivial) ?_
    clear hK K
    change wpOrd _ _ _ _ _ 1 _ _
    refine wpOrd_nil ?_
    clear hevT _hev
    clear hS0 hS1 S ca cb cc
    go_wp2
    go_ret
    exact fin.out
  · clear cx
    have fin : DeedPost B hb V c v h x E (voteL c (h.led x.drill) x) w (.returned (.int .i64 0)) (w9.setCell ⟨g, i * 8 + 4, none⟩ (.int .i64 (m.yes + W))).drew := by
      refine DeedPost.fin (v' := v2) (xb := xb) ?_ hE.out
      have T4 := (T3.step stY.out).drew
      rw [hfin.out _ (by unfold voteM; rw [← hW.out]; simp only [hy, if_true, if_false, Bool.false_eq_true])] at T4
      exact T4
    replace fin := Lib.hid fin
    replace hy := Lib.hid hy
    go_wp2_with fail
    obtain ⟨S, hS⟩ : ∃ S : Nat → World → Prop, S = fun n w' => if n = 0 then w'.cell? ⟨g, i * 8 + 4, none⟩ = some (.int .i64 m.yes) ∧ w'.cell? ⟨hb, 0, none⟩ = some (.slice (some ⟨bm, om, none⟩) c.members.length V.cm) ∧ w'.cell? ⟨bm, om + j * 2 + 1, none⟩ = some (.int .i64 W) else True := ⟨_, rfl⟩
    have hS0 : ∀ w', S 0 w' ↔ (w'.cell? ⟨g, i * 8 + 4, none⟩ = some (.int .i64 m.yes) ∧ w'.cell? ⟨hb, 0, none⟩ = some (.slice (some ⟨bm, om, none⟩) c.members.length V.cm) ∧ w'.cell? ⟨bm, om + j * 2 + 1, none⟩ = some (.int .i64 W)) := fun w' => by rw [hS]; exact Iff.rfl
    have hS1 : ∀ w', S 1 w' ↔ (True) := fun w' => by rw [hS]; exact Iff.rfl
    clear hS
    have ca := fun (q : Ev (S 0)) => ((hS0 _).1 q.h).1
    have cb := fun (q : Ev (S 0)) => ((hS0 _).1 q.h).2.1
    have cc := fun (q : Ev (S 0)) => ((hS0 _).1 q.h).2.2
    have hevT := ev_true
    refine wp_region_ord S [(0, 0), (1, 0), (2, 0), (3, 1), (4, 0), (5, 0), (6, 0), (7, 0), (8, 1), (9, 0), (10, 0), (11, 0), (12, 1), (13, 0), (14, 0), (15, 0), (16, 3)] [16] (by kernel_rfl) (by kernel_rfl) ((hS0 _).2 ⟨m4, ch, cw⟩) ?_
    intro _hev
    iterate 16 (first | (refine wpOrd_v rfl rfl ?_; intro K hK; go_big_quiet_op; go_big_quiet_on) | (refine wpOrd_q rfl rfl ?_; intro K hK; go_big_quiet_op; go_big_quiet_on) | refine wpOrd_s (by decide) rfl rfl ?_)
    refine wpOrd_a rfl rfl ?_; intro K hK
    go_step
    refine hK _ _ ((hS1 _).2 trivial) ?_
    clear hK K
    change wpOrd _ _ _ _ _ 1 _ _
    refine wpOrd_nil ?_
    clear hevT _hev
    clear hS0 hS1 S ca cb cc
    go_wp2
    go_ret
    exact fin.out
end Go.Proofs.YtogpgnljomchcaaGreat
namespace Go.Proofs.YtogpgnljomchcaaGreat
open Go.RowKit

theorem closeE_no {c : Council} {own other : Ledger} {x : CItem} (h : hasM own x.a = false) : closeE c own other x = if hasM other x.a then 15 else 7 := by
  unfold closeE; rw [h]; rfl
theorem closeE_s {c : Council} {own other : Ledger} {x : CItem} {m : Motion} (h : hasM own x.a = true) (e : motD own x.a = m) :
    closeE c own other x = if m.state ≠ 1 then 10 else if m.voted.length < c.members.length ∧ x.tick ≤ m.opened + (lawD c m.act).window then 11 else 0 := by
  unfold closeE; rw [h, e]; rfl
set_option maxRecDepth 20000 in
set_option maxHeartbeats 40000000 in
theorem close_any (B hb n : Nat) (V : CV) (c : Council) (v : Ky → Value) (h : House) (x : CItem) (w : World) (p : PH B hb w V c v h) (hc : CouncilOk c) (hk : HouseOk c n h) (hn : n ≤ 2000) (ht0 : 0 ≤ x.tick) (ht1 : x.tick ≤ 1073741824) :
    Calls Tryz.prog 71 #[.pointer (some ⟨hb, 0, none⟩), .agg #[.int .i64 x.kind, .int .i64 x.tick, .bool x.drill, .int .i64 x.a, .int .i64 x.b, .bool x.yes, .int .i64 x.chance.least, .int .i64 x.chance.most, .int .i64 x.chance.all]] w (DeedPost B hb V c v h x (closeE c (h.led x.drill) (h.led (!x.drill)) x) (closeL c (h.led x.drill) x) w) := by
  have S := FS.start p x
  have hhw : hb < w.heap.size := p.lt
  have hBw : B ≤ w.heap.size := by have := p.low; omega
  obtain ⟨xb, hxb⟩ : ∃ q, q = w.heap.size := ⟨_, rfl⟩
  obtain ⟨E, hE⟩ : ∃ q, q = closeE c (h.led x.drill) (h.led (!x.drill)) x := ⟨_, rfl⟩
  rw [← hE]
  replace hE := Lib.hid hE
  replace hk := Lib.hid hk
  replace hc := Lib.hid hc
  go_enter Tryz.func71, Tryz.ntmps71
  go_upto_region 1 with (fail)
  rw [← hxb] at S ⊢
  have hxw : w.heap.size ≤ xb := by omega
  replace hxb := Lib.hid hxb
  generalize w.alloc (.cells #[.int .i64 x.kind, .int .i64 x.tick, .bool x.drill, .int .i64 x.a, .int .i64 x.b, .bool x.yes, .int .i64 x.chance.least, .int .i64 x.chance.most, .int .i64 x.chance.all] 36) = w1 at S ⊢
  have cx := fun i => S.x.blk.cell i
  go_wp2_with fail
  refine (find_any B hb V c v h x _ S.p).mono ?_
  rintro e w3 ⟨hf, k3⟩
  replace S := S.kpN k3
  clear k3 cx
  have cx := fun i => S.x.blk.cell i
  rcases hf with ⟨hh, g, cap, hv, rfl⟩ | ⟨hh, hh2, rfl⟩ | ⟨hh, hh2, rfl⟩
  case inr.inl =>
    have e1 := Lib.hid (show 15 = E by rw [hE.out, closeE_no hh, hh2]; rfl)
    clear hh hh2
    go_wp2
    go_ret
    exact DeedPost.err S e1.out (by rw [← e1.out]; decide)
  case inr.inr =>
    have e1 := Lib.hid (show 7 = E by rw [hE.out, closeE_no hh, hh2]; rfl)
    clear hh hh2
    go_wp2
    go_ret
    exact DeedPost.err S e1.out (by rw [← e1.out]; decide)
  obtain ⟨hi, hm⟩ := motD_eq hh
  obtain ⟨i, hia⟩ : ∃ q, q = x.a.toNat := ⟨_, rfl⟩
  have hi2 : i < (h.led x.drill).motions.length := by rw [hia]; exact hi
  replace hm : motD (h.led x.drill) x.a = (h.led x.drill).motions[i] := by subst hia; exact hm
  rw [← hia]
  obtain ⟨m, hmm⟩ : ∃ q, q = (h.led x.drill).motions[i] := ⟨_, rfl⟩
  rw [← hmm] at hm
  have mA : ∀ W, PH B hb W V c v h → (∀ j u, (encMot (v (.voted x.drill i)) m)[j]? = some u → W.cell? ⟨g, i * 8 + j, none⟩ = some u) ∧ (∀ j, W.frozen? ⟨g, j, none⟩ = false) ∧ g < W.heap.size ∧ g ≠ hb ∧ B ≤ g := fun W s => by
    have := s.motAt hv i hi2
    rwa [← hmm] at this
  replace hm := Lib.hid hm
  replace hmm := Lib.hid hmm
  replace mA := Lib.hid mA
  replace hv := Lib.hid hv
  replace hh := Lib.hid hh
  replace hia := Lib.hid hia
  clear hi
  replace hE := Lib.hid (hE.out.trans (closeE_s hh.out hm.out))
  go_upto_region 4 with (fail)
  go_cut [7, 8] (fun v7 v8 wx => LawAt B hb xb V c v h x m.act w v7 v8 wx)
  case first =>
    clear cx
    replace S := S.drew
    obtain ⟨S0, hS⟩ : ∃ S0 : World → Prop, S0 = fun w' => Blk w' hb 84 (pCells V c v h) ∧ w'.cell? ⟨g, i * 8 + 1, none⟩ = some (.int .i64 m.act) := ⟨_, rfl⟩
    have hS0 : ∀ w', S0 w' ↔ (Blk w' hb 84 (pCells V c v h) ∧ w'.cell? ⟨g, i * 8 + 1, none⟩ = some (.int .i64 m.act)) := fun w' => by rw [hS]
    clear hS
    have ca := fun (q : Ev S0) => ((hS0 _).1 q.h).2
    have c0 : ∀ q : Ev S0, q.w.cell? ⟨hb, 0, none⟩ = some (.slice V.am c.members.length V.cm) := fun q => ((hS0 _).1 q.h).1.cell 0
    have c1 : ∀ q : Ev S0, q.w.cell? ⟨hb, 1, none⟩ = some (.slice V.al c.laws.length V.cl) := fun q => ((hS0 _).1 q.h).1.cell 1
    have c2 : ∀ q : Ev S0, q.w.cell? ⟨hb, 2, none⟩ = some (.slice V.av c.levels.length V.cv) := fun q => ((hS0 _).1 q.h).1.cell 2
    have hevT := ev_true
    refine wp_region_tr S0 (.st 0 0 (.st 1 0 (.st 2 0 (.st 3 1 (.st 4 0 (.st 5 0 (.st 6 0 (.st 7 1 (.b2 8 (.st 9 0 (.st 10 0 (.st 11 0 (.st 12 2 (.st 13 2 (.st 14 0 .nil)))))) 12 (.st 8 2 (.st 9 0 (.st 10 0 (.st 11 0 (.st 13 2 (.st 14 0 .nil))))))))))))))) (by kernel_rfl) (by kernel_rfl) ((hS0 _).2 ⟨S.p.blk, (mA.out _ S.p).1 1 _ rfl⟩) ?_
    intro _hev
    iterate 8 (first | (refine wpTr_v rfl rfl ?_; intro K hK; go_big_quiet_op; go_big_quiet_on) | (refine wpTr_q rfl rfl ?_; intro K hK; go_big_quiet_op; go_big_quiet_on) | refine wpTr_s rfl rfl ?_)
    refine wpTr_b2 ?_ ?_
    · refine wpOne_l rfl rfl ?_; intro K hK
      go_step
      refine (council_law_any m.act B V c _ S.p.c).mono ?_
      rintro e w5 ⟨rfl, k5⟩
      replace S := S.kpN k5
      try (replace LB := LB.kpN k5)
      refine hK _ _ ((hS0 _).2 ⟨S.p.blk, (mA.out _ S.p).1 1 _ rfl⟩) ?_
      clear hK K k5
      iterate 3 (first | (refine wpTr_v rfl rfl ?_; intro K hK; go_big_quiet_op; go_big_quiet_on) | (refine wpTr_q rfl rfl ?_; intro K hK; go_big_quiet_op; go_big_quiet_on) | refine wpTr_s rfl rfl ?_)
      refine wpTr_l rfl rfl ?_; intro K hK
      obtain ⟨lb, wq, hwq, hlb, S2, LB, hl0, hlx, hBl⟩ := S.fresh 101 #[.int .i64 0, .int .i64 0, .int .i64 0, .int .i64 0, .int .i64 0]
      clear S
      have S := S2
      clear S2
      go_step
      first | rw [← hwq] | rw [show (World.alloc w5 (.cells #[.int .i64 0, .int .i64 0, .int .i64 0, .int .i64 0, .int .i64 0] 101)).drew = wq from hwq.symm] | rw [show (World.alloc w3 (.cells #[.int .i64 0, .int .i64 0, .int .i64 0, .int .i64 0, .int .i64 0] 101)).drew = wq from hwq.symm]
      first | rw [← hlb] | rw [← show lb = w3.heap.size from hlb]
      replace hlb := Lib.hid hlb
      refine hK _ _ ((hS0 _).2 ⟨S.p.blk, (mA.out _ S.p).1 1 _ rfl⟩) ?_
      clear hK K hwq
      refine wpTr_l rfl rfl ?_; intro K hK
      have cL := fun i => LB.blk.cell i
      have fL := fun i => LB.blk.frozen i
      go_step
      have S2 := S.other (setL0_grown _ lb (lawD c m.act)) LB.apart hl0 hlx hBl
      have LB2 : Lcl hb v _ lb _ _ := ⟨Blk.setL0 LB.blk (lawD c m.act), LB.apart⟩
      clear cL fL
      change K _ (setL0 _ lb (lawD c m.act))
      generalize setL0 _ lb (lawD c m.act) = w7 at S2 LB2 ⊢
      clear S
      have S := S2
      clear S2
      refine hK _ _ ((hS0 _).2 ⟨S.p.blk, (mA.out _ S.p).1 1 _ rfl⟩) ?_
      clear hK K
      iterate 1 (first | (refine wpTr_v rfl rfl ?_; intro K hK; go_big_quiet_op; go_big_quiet_on) | (refine wpTr_q rfl rfl ?_; intro K hK; go_big_quiet_op; go_big_quiet_on) | refine wpTr_s rfl rfl ?_)
      refine wpTr_nil ?_
      clear hevT _hev
      go_wp2_with fail
      go_meet
      case rel => exact ⟨lb, rfl, rfl, S, LB2, hBl⟩
    · refine wpOne_l rfl rfl ?_; intro K hK
      obtain ⟨lb, wq, hwq, hlb, S2, LB, hl0, hlx, hBl⟩ := S.fresh 101 #[.int .i64 0, .int .i64 0, .int .i64 0, .int .i64 0, .int .i64 0]
      clear S
      have S := S2
      clear S2
      go_step
      first | rw [← hwq] | rw [show (World.alloc w5 (.cells #[.int .i64 0, .int .i64 0, .int .i64 0, .int .i64 0, .int .i64 0] 101)).drew = wq from hwq.symm] | rw [show (World.alloc w3 (.cells #[.int .i64 0, .int .i64 0, .int .i64 0, .int .i64 0, .int .i64 0] 101)).drew = wq from hwq.symm]
      first | rw [← hlb] | rw [← show lb = w3.heap.size from hlb]
      replace hlb := Lib.hid hlb
      refine hK _ _ ((hS0 _).2 ⟨S.p.blk, (mA.out _ S.p).1 1 _ rfl⟩) ?_
      clear hK K hwq
      refine wpTr_l rfl rfl ?_; intro K hK
      go_step
      refine (council_law_any m.act B V c _ S.p.c).mono ?_
      rintro e w5 ⟨rfl, k5⟩
      replace S := S.kpN k5
      try (replace LB := LB.kpN k5)
      refine hK _ _ ((hS0 _).2 ⟨S.p.blk, (mA.out _ S.p).1 1 _ rfl⟩) ?_
      clear hK K k5
      iterate 3 (first | (refine wpTr_v rfl rfl ?_; intro K hK; go_big_quiet_op; go_big_quiet_on) | (refine wpTr_q rfl rfl ?_; intro K hK; go_big_quiet_op; go_big_quiet_on) | refine wpTr_s rfl rfl ?_)
      refine wpTr_l rfl rfl ?_; intro K hK
      have cL := fun i => LB.blk.cell i
      have fL := fun i => LB.blk.frozen i
      go_step
      have S2 := S.other (setL0_grown _ lb (lawD c m.act)) LB.apart hl0 hlx hBl
      have LB2 : Lcl hb v _ lb _ _ := ⟨Blk.setL0 LB.blk (lawD c m.act), LB.apart⟩
      clear cL fL
      change K _ (setL0 _ lb (lawD c m.act))
      generalize setL0 _ lb (lawD c m.act) = w7 at S2 LB2 ⊢
      clear S
      have S := S2
      clear S2
      refine hK _ _ ((hS0 _).2 ⟨S.p.blk, (mA.out _ S.p).1 1 _ rfl⟩) ?_
      clear hK K
      iterate 1 (first | (refine wpTr_v rfl rfl ?_; intro K hK; go_big_quiet_op; go_big_quiet_on) | (refine wpTr_q rfl rfl ?_; intro K hK; go_big_quiet_op; go_big_quiet_on) | refine wpTr_s rfl rfl ?_)
      refine wpTr_nil ?_
      clear hevT _hev
      go_wp2_with fail
      go_meet
      case rel => exact ⟨lb, rfl, rfl, S, LB2, hBl⟩
  case rest =>
  clear S cx
  rename World => w5
  obtain ⟨lb, rfl, rfl, S, LB, hBl⟩ := hcut
  have hL := lawD_ok hc.out m.act
  have hLI := Lib.hid (lawIn_of hc.out m.act)
  have hmem : m ∈ (h.led x.drill).motions := by rw [hmm.out]; exact List.getElem_mem hi2
  have hop := (hk.out.led x.drill).open0 m hmem
  have hwt := (hk.out.led x.drill).wt m hmem
  have hvl : m.voted.length ≤ 4000 := by have := (hk.out.led x.drill).vlen m hmem; omega
  have hml : c.members.length ≤ 64 := hc.out.mlen
  have hkn := Lib.hid ((hk.out.led x.drill).known m hmem)
  have hvo : votedOf (h.led x.drill) i = m.voted := by unfold votedOf; rw [List.getElem?_eq_getElem hi2, ← hmm.out]; rfl
  obtain ⟨A6, cap6, e6, -, -⟩ := (S.p.rows.voted x.drill i).rd0 (fun _ => rfl)
  rw [hvo] at e6
  have cx := fun i => S.x.blk.cell i
  have cl := fun i => LB.blk.cell i
  have m3 : w5.cell? ⟨g, i * 8 + 3, none⟩ = some (.int .i64 m.state) := (mA.out _ S.p).1 3 _ rfl
  have m2 : w5.cell? ⟨g, i * 8 + 2, none⟩ = some (.int .i64 m.opened) := (mA.out _ S.p).1 2 _ rfl
  have m6 : w5.cell? ⟨g, i * 8 + 6, none⟩ = some (.slice A6 m.voted.length cap6) := by rw [← e6]; exact (mA.out _ S.p).1 6 _ rfl
  have c0 : w5.cell? ⟨hb, 0, none⟩ = some (.slice V.am c.members.length V.cm) := S.p.blk.cell 0
  replace e6 := Lib.hid e6
  replace hvo := Lib.hid hvo
  replace hmem := Lib.hid hmem
  by_cases q1 : m.state = 1
  case neg =>
    have e1 := Lib.hid (show 10 = E by rw [hE.out, if_pos q1])
    go_wp2
    go_ret
    exact DeedPost.err S e1.out (by rw [← e1.out]; decide)
  replace hE := Lib.hid (hE.out.trans (if_neg (fun q => q q1)))
  obtain ⟨L, hLL⟩ : ∃ q, q = lawD c m.act := ⟨_, rfl⟩
  rw [← hLL] at hL cl hE hLI LB
  replace hLL := Lib.hid hLL
  have hwr : wrap64 (m.opened + L.window) = m.opened + L.window := IntWalk.wrap64_in _ (by omega)
  by_cases q2 : m.voted.length < c.members.length ∧ x.tick ≤ m.opened + L.window
  · have e1 := Lib.hid (show 11 = E by rw [hE.out, if_pos q2])
    have q3 : (m.voted.length : Int) < (c.members.length : Int) := by omega
    have q4 := q2.2
    go_wp2_with fail
    go_quiet (fail)
    go_wp2
    go_ret
    exact DeedPost.err (S.kpN ((Kp.refl _ _ _).drewN _)) e1.out (by rw [← e1.out]; decide)
  replace hE := Lib.hid (hE.out.trans (if_neg q2))
  go_upto_region 7 with (fail)
  go_cut [38] (fun v38 wx => v38 = .bool false ∧ Kp w5.heap.size none w5 wx)
  case first =>
    by_cases q3 : m.voted.length < c.members.length
    · have q4 : (m.voted.length : Int) < (c.members.length : Int) := by omega
      have q5 : ¬ x.tick ≤ m.opened + L.window := fun q => q2 ⟨q3, q⟩
      clear q2
      go_wp2_with fail
      go_quiet (fail)
      go_wp2_with fail
      go_meet
      case rel => exact ⟨by simp [q5], (Kp.refl _ _ _).drewN _⟩
    · have q4 : ¬ (m.voted.length : Int) < (c.members.length : Int) := by omega
      clear q2
      go_wp2_with fail
      go_quiet (fail)
      go_wp2_with fail
      go_meet
      case rel => exact ⟨rfl, (Kp.refl _ _ _).drewN _⟩
  case rest =>
  rename World => w6
  obtain ⟨rfl, k6⟩ := hcut
  replace S := S.kpN k6
  replace LB := LB.kpN k6
  clear k6 cx cl m2 m3 m6 c0 q2 hwr
  have m3 : w6.cell? ⟨g, i * 8 + 3, none⟩ = some (.int .i64 m.state) := (mA.out _ S.p).1 3 _ rfl
  have mf := (mA.out _ S.p).2.1
  obtain ⟨HS, hHS⟩ : ∃ HS : Int → House, ∀ s, HS s = h.put x.drill { h.led x.drill with motions := (h.led x.drill).motions.set i { m with state := s } } := ⟨_, fun _ => rfl⟩
  have hm3 : ∀ s, ∃ hi3 : i < ((HS s).led x.drill).motions.length, ((HS s).led x.drill).motions[i] = { m with state := s } := fun s => by
    have : ∀ (L : Ledger) (e : L = { h.led x.drill with motions := (h.led x.drill).motions.set i { m with state := s } }), ∃ hl : i < L.motions.length, L.motions[i] = { m with state := s } := fun L e => by
      subst e
      exact ⟨by rw [List.length_set]; exact hi2, by simp only [List.getElem_set_self]⟩
    exact this _ (by rw [hHS, put_led])
  have hfs : ∀ s, ((HS s).led x.drill).facts = (h.led x.drill).facts := fun s => by rw [hHS, put_led]
  have mB : ∀ s W, PH B hb W V c v (HS s) → (∀ j u, (encMot (v (.voted x.drill i)) { m with state := s })[j]? = some u → W.cell? ⟨g, i * 8 + j, none⟩ = some u) ∧ (∀ j, W.frozen? ⟨g, j, none⟩ = false) ∧ g < W.heap.size ∧ g ≠ hb ∧ B ≤ g := fun s W pW => by
    obtain ⟨hi3, e3⟩ := hm3 s
    have := pW.motAt hv.out i hi3
    rwa [e3] at this
  have T := S.p.motCell hv.out i hi2 3 (by omega) (.int .i64 3) { m with state := 3 } (by rw [← hmm.out]) (by rw [← hmm.out]; rfl)
  rw [← hHS] at T
  have hset : ∀ s m4, (HS s).put x.drill { (HS s).led x.drill with motions := ((HS s).led x.drill).motions.set i m4 } = h.put x.drill { h.led x.drill with motions := (h.led x.drill).motions.set i m4 } := fun s m4 => by
    rw [hHS, put_put, put_led]
    simp only [List.set_set]
  replace hset := Lib.hid hset
  replace hHS := Lib.hid hHS
  replace hm3 := Lib.hid hm3
  replace hfs := Lib.hid hfs
  replace mB := Lib.hid mB
  have T2 := S.step T
  have LB2 := LB.fr T.2
  clear S LB T
  go_upto_region 10 with (fail)
  generalize w6.setCell ⟨g, i * 8 + 3, none⟩ (.int .i64 3) = w7 at T2 LB2 ⊢
  clear m3 mf
  replace T2 := T2.drew
  replace LB2 := LB2.kpN (Kp.refl _ _ _).drew
  obtain ⟨Vt, hVt⟩ : ∃ q, q = votesOk c L m.yes m.no := ⟨_, rfl⟩
  have vs := council_votes_any L m.yes m.no B V c _ T2.p.c hc.out hLI.out (by omega) (by omega) (by omega)
  rw [← hVt] at vs
  replace hVt := Lib.hid hVt
  obtain ⟨S, hS⟩ : ∃ S : Nat → World → Prop, S = fun _ w' => Blk w' hb 84 (pCells V c v (HS 3)) ∧ Blk w' lb 101 #[.int .i64 L.act, .int .i64 L.level, .int .i64 L.window, .int .i64 L.quorum, .int .i64 L.share] ∧ w'.cell? ⟨g, i * 8 + 4, none⟩ = some (.int .i64 m.yes) ∧ w'.cell? ⟨g, i * 8 + 5, none⟩ = some (.int .i64 m.no) := ⟨_, rfl⟩
  have hS0 : ∀ w', S 0 w' ↔ (Blk w' hb 84 (pCells V c v (HS 3)) ∧ Blk w' lb 101 #[.int .i64 L.act, .int .i64 L.level, .int .i64 L.window, .int .i64 L.quorum, .int .i64 L.share] ∧ w'.cell? ⟨g, i * 8 + 4, none⟩ = some (.int .i64 m.yes) ∧ w'.cell? ⟨g, i * 8 + 5, none⟩ = some (.int .i64 m.no)) := fun w' => by rw [hS]
  clear hS
  have c0 : ∀ q : Ev (S 0), q.w.cell? ⟨hb, 0, none⟩ = some (.slice V.am c.members.length V.cm) := fun q => ((hS0 _).1 q.h).1.cell 0
  have c1 : ∀ q : Ev (S 0), q.w.cell? ⟨hb, 1, none⟩ = some (.slice V.al c.laws.length V.cl) := fun q => ((hS0 _).1 q.h).1.cell 1
  have c2 : ∀ q : Ev (S 0), q.w.cell? ⟨hb, 2, none⟩ = some (.slice V.av c.levels.length V.cv) := fun q => ((hS0 _).1 q.h).1.cell 2
  have cl := fun (q : Ev (S 0)) i => ((hS0 _).1 q.h).2.1.cell i
  have m4 := fun (q : Ev (S 0)) => ((hS0 _).1 q.h).2.2.1
  have m5 := fun (q : Ev (S 0)) => ((hS0 _).1 q.h).2.2.2
  have hevT := ev_true
  refine wp_region_ord S [(0, 0), (1, 0), (2, 0), (3, 1), (4, 1), (5, 0), (6, 0), (7, 0), (8, 1), (9, 0), (10, 0), (11, 0), (12, 1), (13, 2)] [] (by kernel_rfl) (by kernel_rfl) ((hS0 _).2 ⟨T2.p.blk, LB2.blk, (mB.out 3 _ T2.p).1 4 _ rfl, (mB.out 3 _ T2.p).1 5 _ rfl⟩) ?_
  intro _hev
  iterate 13 (first | (refine wpOrd_v rfl rfl ?_; intro K hK; go_big_quiet_op; go_big_quiet_on) | (refine wpOrd_q rfl rfl ?_; intro K hK; go_big_quiet_op; go_big_quiet_on) | refine wpOrd_s (by decide) rfl rfl ?_)
  refine wpOrd_l rfl rfl ?_; intro K hK
  go_step
  refine vs.mono ?_
  rintro e w8 ⟨rfl, k8⟩
  replace T2 := T2.kpN k8
  replace LB2 := LB2.kpN k8
  refine hK _ _ ((hS0 _).2 ⟨T2.p.blk, LB2.blk, (mB.out 3 _ T2.p).1 4 _ rfl, (mB.out 3 _ T2.p).1 5 _ rfl⟩) ?_
  clear hK K k8
  refine wpOrd_nil ?_
  clear hevT _hev
  clear hS0 S c0 c1 c2 cl m4 m5 vs LB2
  have S := T2
  clear T2
  go_upto_if 79 with (fail)
  go_cut [] (fun wx => FS B hb xb V c v v (HS (if Vt then 2 else 3)) x w wx)
  case first =>
    have m3 : w8.cell? ⟨g, i * 8 + 3, none⟩ = some (.int .i64 3) := (mB.out 3 _ S.p).1 3 _ rfl
    have mf := (mB.out 3 _ S.p).2.1
    cases Vt
    · go_wp2_with fail
      go_meet
      case rel => exact S
    · obtain ⟨hi3, e3⟩ := hm3.out 3
      have T := S.p.motCell hv.out i hi3 3 (by omega) (.int .i64 2) { m with state := 2 } (by rw [e3]) (by rw [e3]; rfl)
      rw [hset.out, ← hHS.out] at T
      have T2 := S.step T
      clear T S
      go_wp2_with fail
      go_meet
      case rel => exact T2
  case rest =>
  clear S
  rename World => w9
  have S := hcut
  clear hcut
  obtain ⟨s, hs⟩ : ∃ q : Int, q = if Vt then 2 else 3 := ⟨_, rfl⟩
  rw [← hs] at S
  replace hs := Lib.hid hs
  have cx := fun i => S.x.blk.cell i
  go_wp2_with fail
  refine (books_any hb x.drill _).mono ?_
  rintro e w10 ⟨rfl, k10⟩
  replace S := S.kpN k10
  clear k10 cx
  have cx := fun i => S.x.blk.cell i
  obtain ⟨o, ho⟩ : ∃ q, q = oD x.drill := ⟨_, rfl⟩
  rw [← ho]
  replace ho := Lib.hid ho
  have own := S.p.rows.facts x.drill
  rw [hfs.out] at own
  obtain ⟨A, kc, ev, rd, gA⟩ := own.rd0 (fun _ => rfl)
  have hfl : (h.led x.drill).facts.length ≤ 4000 := by have := (hk.out.led x.drill).flen; omega
  have cf : w10.cell? ⟨hb, o + 2, none⟩ = some (.slice A (h.led x.drill).facts.length kc) := by
    rw [ho.out, ← ev]; exact (S.p.blk.cell _).trans (pCells_facts V c v _ x.drill)
  have m0 : w10.cell? ⟨g, i * 8, none⟩ = some (.int .i64 m.target) := (mB.out s _ S.p).1 0 _ rfl
  go_wp2_with fail
  refine (known_any hb o A kc (h.led x.drill).facts m.target _ cf rd (by omega) (gA.imp_right fun ⟨g, e, _⟩ => ⟨g, e⟩)).mono ?_
  intro e w11 hp
  obtain ⟨P, rfl, hP, k11⟩ := knownP hp
  replace S := S.kpN k11
  clear k11 cx cf rd own hp m0
  rcases hP with ⟨rfl, hfn⟩ | ⟨gk, j, hj, hA, rfl, hf1, -, -⟩
  · have := hkn.out
    unfold knownOf at this
    rw [hfn] at this
    cases this
  have own := S.p.rows.facts x.drill
  rw [hfs.out, ev, hA] at own
  have ck : w11.cell? ⟨gk, j * 6 + 2, none⟩ = some (.int .i64 (h.led x.drill).facts[j].item) := (Own.cells own (fun _ => rfl) j hj).1 2 _ rfl
  have hit : itemOf (h.led x.drill) m.target = (h.led x.drill).facts[j].item := by unfold itemOf knownOf; rw [hf1]
  generalize (h.led x.drill).facts[j].item = it at ck hit
  replace hit := Lib.hid hit
  obtain ⟨hi3, e3⟩ := hm3.out s
  have T := S.p.motCell hv.out i hi3 7 (by omega) (.int .i64 it) { m with state := s, fact := it } (by rw [e3]) (by rw [e3]; rfl)
  rw [hset.out, show ({ m with state := s, fact := it } : Motion) = closeM c (h.led x.drill) m by unfold closeM; rw [hit.out, hs.out, hVt.out, hLL.out]] at T
  have m7 : w11.cell? ⟨g, i * 8 + 7, none⟩ = some (.int .i64 m.fact) := (mB.out s _ S.p).1 7 _ rfl
  have mf := (mB.out s _ S.p).2.1
  have fin : DeedPost B hb V c v h x E (closeL c (h.led x.drill) x) w (.returned (.int .i64 0)) (w11.setCell ⟨g, i * 8 + 7, none⟩ (.int .i64 it)) := by
    refine DeedPost.fin (v' := v) (xb := xb) ?_ hE.out
    have T2 := S.step T
    unfold closeL
    rw [hm.out, ← hia.out]
    exact T2
  replace fin := Lib.hid fin
  clear own hf1 hA ev gA T e3
  go_wp2
  go_ret
  exact fin.out
end Go.Proofs.YtogpgnljomchcaaGreat
