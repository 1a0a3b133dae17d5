/- CouncilPasses: the walk. -/
import Derived.Test.YtogpgnljomchcaaSn
import Derived.Test.YtogpgnljomchcaaMo
import Derived.Test.YtogpgnljomchcaaHn
import Derived.Test.YtogpgnljomchcaaPassAll
import Derived.Deep.DeepCutAuto
import Derived.Deep.CutBlock
namespace Go.Proofs.Ytogpgnljomchcaa
open Go.RowKit

theorem emptyRow (w : World) (B : Nat) (hB : B ≤ w.heap.size) : Own (w.alloc (.cells #[] 76)) B 76 8 encVM (.slice (some ⟨w.heap.size, 0, none⟩) 0 0) [] :=
  ⟨rfl, .inr ⟨w.heap.size, 0, #[], rfl, hB, Blk.new w 76 #[], Nat.le_refl _, Nat.zero_le _, rfl, rfl⟩⟩
/-- the motions of both ledgers, laid apart -/
structure Both (W : World) (cb hb : Nat) (V : CV) (c : Council) (X : HV) (x : House) (A : Option Addr) (zs : List (Value × Motion)) (w : World) : Prop where
  s : Seen W cb hb V c X x w
  r : Rd none w 8 encVM A zs.length zs
  b : BothOk w.heap.size w zs
theorem Both.kpN {W : World} {cb hb : Nat} {V : CV} {c : Council} {X : HV} {x : House} {A : Option Addr} {zs : List (Value × Motion)} {w w' : World} (s : Both W cb hb V c X x A zs w) (q : Kp w.heap.size none w w') : Both W cb hb V c X x A zs w' :=
  ⟨s.s.kpN q, s.r.kpN q, (s.b.kp q).wide q.size⟩
/-- a motion beside them -/
structure BM (W : World) (cb hb mb : Nat) (V : CV) (c : Council) (X : HV) (x : House) (A : Option Addr) (zs : List (Value × Motion)) (m : Motion) (v : Value) (w : World) : Prop where
  t : Both W cb hb V c X x A zs w
  m : Blk w mb 76 #[.int .i64 m.target, .int .i64 m.act, .int .i64 m.opened, .int .i64 m.state, .int .i64 m.yes, .int .i64 m.no, v, .int .i64 m.fact]
theorem BM.kpN {W : World} {cb hb mb : Nat} {V : CV} {c : Council} {X : HV} {x : House} {A : Option Addr} {zs : List (Value × Motion)} {m : Motion} {v : Value} {w w' : World} (s : BM W cb hb mb V c X x A zs m v w) (q : Kp w.heap.size none w w') : BM W cb hb mb V c X x A zs m v w' :=
  ⟨s.t.kpN q, s.m.kpN q⟩
/-- what holds of each motion -/
structure MGood (c : Council) (m : Motion) : Prop where
  good : MotGood c m
  vlen : m.voted.length ≤ 16
  y0 : 0 ≤ m.yes
  n0 : 0 ≤ m.no
  yn : m.yes + m.no ≤ 17592186044416
theorem MGood.votes {c : Council} {m : Motion} (h : MGood c m) (hc : checkC c = 0) : votesB c m.act m.yes m.no = votesOk c (lawD c m.act) m.yes m.no := by
  have h1 := h.y0
  have h2 := h.n0
  have h3 := h.yn
  unfold votesB bt
  rw [decide_eq_true hc, h.good.2.2.2.2, decide_eq_true h1, decide_eq_true h2, decide_eq_true (show m.yes ≤ 1125899906842624 by omega), decide_eq_true (show m.no ≤ 1125899906842624 by omega)]
  rfl
set_option maxRecDepth 20000 in
set_option maxHeartbeats 8000000 in
theorem law_CouncilPasses_any (A : Option Addr) (cap : Nat) (nums : List Int) (w : World) (h : Rd none w 1 (fun x => [Value.int .i64 x]) A nums.length nums) (hn : nums.length ≤ 17592186044416) :
    Calls Try.prog 9 #[.slice A nums.length cap] w fun e w' => e = .returned (.bool true) ∧ Kp w.heap.size none w w' := by
  go_enter Try.func9, Try.ntmps9
  go_wp2_with fail
  refine (made_any A cap nums w h hn).mono ?_
  rintro e w1 ⟨g, V, c, A2, cap2, l, x, k, rfl, hok, hl, hD, hC, -, hrd, -, -, -, K1⟩
  clear h hn
  have CB := Blk.new w1 26 #[.slice V.am c.members.length V.cm, .slice V.al c.laws.length V.cl, .slice V.av c.levels.length V.cv]
  have kc := Kp.new w1 (.cells #[.slice V.am c.members.length V.cm, .slice V.al c.laws.length V.cl, .slice V.av c.levels.length V.cv] 26)
  replace hC := hC.next kc
  replace hrd := hrd.free.kpN kc
  replace K1 := K1.thenN kc (Nat.le_refl _)
  go_upto_region 2 with (fail)
  obtain ⟨cb, hcb⟩ : ∃ q, q = w1.heap.size := ⟨_, rfl⟩
  rw [← hcb] at CB ⊢
  change Code.wp _ _ _ _ (w1.alloc (.cells #[.slice V.am c.members.length V.cm, .slice V.al c.laws.length V.cl, .slice V.av c.levels.length V.cv] 26))
  generalize w1.alloc (.cells #[.slice V.am c.members.length V.cm, .slice V.al c.laws.length V.cl, .slice V.av c.levels.length V.cv] 26) = w2 at CB hC hrd K1 ⊢
  clear hcb kc
  have cc := fun i => CB.cell i
  go_wp2_with fail
  refine (build_see V c A2 cap2 l _ hC hrd (by omega)).mono ?_
  rintro e w3 ⟨v, X, hX, rfl, HA, hS, k3⟩
  replace hX := Lib.hid hX
  rw [build_done hok.chk (by omega) hD] at hS HA ⊢
  simp only at hS HA ⊢
  replace hC := hC.next k3
  replace CB := CB.kpN k3
  replace K1 := K1.thenN k3 (Nat.le_refl _)
  clear k3 hrd cc
  have HB := Blk.new w3 46 #[.int .i64 x.tick, .int .i64 x.real.items, .slice X.r.fa x.real.facts.length X.r.fc, .slice X.r.ma x.real.motions.length X.r.mc, .slice X.r.sa x.real.sent.length X.r.sc, .int .i64 x.drill.items, .slice X.d.fa x.drill.facts.length X.d.fc, .slice X.d.ma x.drill.motions.length X.d.mc, .slice X.d.sa x.drill.sent.length X.d.sc]
  have kh := Kp.new w3 (.cells #[.int .i64 x.tick, .int .i64 x.real.items, .slice X.r.fa x.real.facts.length X.r.fc, .slice X.r.ma x.real.motions.length X.r.mc, .slice X.r.sa x.real.sent.length X.r.sc, .int .i64 x.drill.items, .slice X.d.fa x.drill.facts.length X.d.fc, .slice X.d.ma x.drill.motions.length X.d.mc, .slice X.d.sa x.drill.sent.length X.d.sc] 46)
  have S : Seen w cb w3.heap.size V c X x (w3.alloc (.cells #[.int .i64 x.tick, .int .i64 x.real.items, .slice X.r.fa x.real.facts.length X.r.fc, .slice X.r.ma x.real.motions.length X.r.mc, .slice X.r.sa x.real.sent.length X.r.sc, .int .i64 x.drill.items, .slice X.d.fa x.drill.facts.length X.d.fc, .slice X.d.ma x.drill.motions.length X.d.mc, .slice X.d.sa x.drill.sent.length X.d.sc] 46)) := ⟨CB.kpN kh, HB, hC.next kh, hS.next kh, K1.thenN kh (Nat.le_refl _)⟩
  clear CB HB hC hS K1 kh
  go_upto_region 3 with (fail)
  obtain ⟨hb, hhb⟩ : ∃ q, q = w3.heap.size := ⟨_, rfl⟩
  rw [← hhb] at S
  rw [← hhb]
  change Code.wp _ _ _ _ (w3.alloc (.cells #[.int .i64 x.tick, .int .i64 x.real.items, .slice X.r.fa x.real.facts.length X.r.fc, .slice X.r.ma x.real.motions.length X.r.mc, .slice X.r.sa x.real.sent.length X.r.sc, .int .i64 x.drill.items, .slice X.d.fa x.drill.facts.length X.d.fc, .slice X.d.ma x.drill.motions.length X.d.mc, .slice X.d.sa x.drill.sent.length X.d.sc] 46))
  generalize w3.alloc (.cells #[.int .i64 x.tick, .int .i64 x.real.items, .slice X.r.fa x.real.facts.length X.r.fc, .slice X.r.ma x.real.motions.length X.r.mc, .slice X.r.sa x.real.sent.length X.r.sc, .int .i64 x.drill.items, .slice X.d.fa x.drill.facts.length X.d.fc, .slice X.d.ma x.drill.motions.length X.d.mc, .slice X.d.sa x.drill.sent.length X.d.sc] 46) = w4 at S ⊢
  clear hhb
  obtain ⟨hcr, hcd⟩ := HA.capsR hX.out
  clear HA hX
  replace hcr := Lib.hid hcr
  replace hcd := Lib.hid hcd
  have hcc := councilOk_of hok.chk
  have hgood : ∀ d m, m ∈ (x.led d).motions → MGood c m := fun d m hm => by
    have h1 := hD.pass d m hm
    have hox : HouseOk c (0 + l.length) x := hD.ok hcc (zeroHouse_ok c 0)
    have h2 := (hox.led d).wt m hm
    have h3 := (hox.led d).vlen m hm
    exact ⟨h1, by omega, h2.1, h2.2.1, by omega⟩
  have hml : ∀ d, (x.led d).motions.length ≤ 64 := fun d => by
    have hox : HouseOk c (0 + l.length) x := hD.ok hcc (zeroHouse_ok c 0)
    exact (hox.led d).mlen
  have hm0 := hml false
  have hm1 := hml true
  change x.real.motions.length ≤ 64 at hm0
  change x.drill.motions.length ≤ 64 at hm1
  clear hml
  have hmm := hcc.mlen
  replace hgood := Lib.hid hgood
  replace hcc := Lib.hid hcc
  replace hD := Lib.hid hD
  go_upto_region 5 with (fail)
  have T := S
  clear S
  have K5 := (Kp.refl w4.heap.size none w4).drew
  obtain ⟨S, hS⟩ : ∃ S : Nat → World → Prop, S = fun n w' => if n = 0 then Blk w' hb 46 #[.int .i64 x.tick, .int .i64 x.real.items, .slice X.r.fa x.real.facts.length X.r.fc, .slice X.r.ma x.real.motions.length X.r.mc, .slice X.r.sa x.real.sent.length X.r.sc, .int .i64 x.drill.items, .slice X.d.fa x.drill.facts.length X.d.fc, .slice X.d.ma x.drill.motions.length X.d.mc, .slice X.d.sa x.drill.sent.length X.d.sc] else True := ⟨_, rfl⟩
  have hS0 : ∀ w', S 0 w' ↔ (Blk w' hb 46 #[.int .i64 x.tick, .int .i64 x.real.items, .slice X.r.fa x.real.facts.length X.r.fc, .slice X.r.ma x.real.motions.length X.r.mc, .slice X.r.sa x.real.sent.length X.r.sc, .int .i64 x.drill.items, .slice X.d.fa x.drill.facts.length X.d.fc, .slice X.d.ma x.drill.motions.length X.d.mc, .slice X.d.sa x.drill.sent.length X.d.sc]) := fun w' => by rw [hS]; exact Iff.rfl
  have hS1 : ∀ w', S 1 w' ↔ (True) := fun w' => by rw [hS]; exact Iff.rfl
  clear hS
  have chh := fun (q : Ev (S 0)) i => ((hS0 _).1 q.h).cell i
  have hbl := T.hl.lt
  obtain ⟨zr, hzr⟩ : ∃ q, q = zipV (vV X.r x.real) 0 x.real.motions := ⟨_, rfl⟩
  obtain ⟨zd, hzd⟩ : ∃ q, q = zipV (vV X.d x.drill) 0 x.drill.motions := ⟨_, rfl⟩
  have hzr1 : zr.length = x.real.motions.length := by rw [hzr, zipV_len]
  have hzd1 : zd.length = x.drill.motions.length := by rw [hzd, zipV_len]
  have hzr2 : ∀ p ∈ zr, p.1.oneCell' = true := by rw [hzr]; exact vV_one _ _
  have hzd2 : ∀ p ∈ zd, p.1.oneCell' = true := by rw [hzd]; exact vV_one _ _
  replace hzr := Lib.hid hzr
  replace hzd := Lib.hid hzd
  replace hzr1 := Lib.hid hzr1
  replace hzd1 := Lib.hid hzd1
  replace hzr2 := Lib.hid hzr2
  replace hzd2 := Lib.hid hzd2
  replace T := Lib.hid T
  replace K5 := Lib.hid K5
  have HB := T.out.hl
  have R1 : Rd none w4 8 encVM X.r.ma zr.length zr := by rw [hzr1.out, hzr.out]; exact T.out.sa.r.m.rdN
  have R2 : Rd none w4 8 encVM X.d.ma zd.length zd := by rw [hzd1.out, hzd.out]; exact T.out.sa.d.m.rdN
  replace K5 := K5.out
  have hevT := ev_true
  refine wp_region_ord S [(1, 0), (2, 0), (3, 1), (5, 0), (6, 0), (7, 1), (0, 2), (4, 2), (8, 2), (9, 0)] [] (by kernel_rfl) (by kernel_rfl) ((hS0 _).2 (HB.kpN K5)) ?_
  intro _hev
  iterate 6 (first | (refine wpOrd_v rfl rfl ?_; intro K hK; go_big_quiet_op; go_big_quiet_on) | (refine wpOrd_q rfl rfl ?_; intro K hK; go_big_quiet_op; go_big_quiet_on) | refine wpOrd_s (by decide) rfl rfl ?_)
  refine wpOrd_l rfl rfl ?_; intro K hK
  generalize w4.drew = w5 at K5 ⊢
  have hsz5 := K5.size
  have O5 := emptyRow w5 w4.heap.size K5.size
  replace K5 := K5.thenN (Kp.new w5 (.cells #[] 76)) (Nat.le_refl _)
  go_step
  obtain ⟨nb, hnb⟩ : ∃ q, q = w5.heap.size := ⟨_, rfl⟩
  have hnb2 : w4.heap.size ≤ nb := by rw [hnb]; exact hsz5
  rw [← hnb] at O5 ⊢
  generalize w5.alloc (.cells #[] 76) = w6 at K5 O5 ⊢
  clear hnb
  refine hK _ _ ((hS0 _).2 (HB.kpN K5)) ?_
  clear hK K
  refine wpOrd_l rfl rfl ?_; intro K hK
  refine wp_append_motions (.tmp 34) (.tmp 37) (by rfl) w4.heap.size (.slice (some ⟨nb, 0, none⟩) 0 0) [] X.r.ma X.r.mc zr (by rfl) (by rw [hzr1.out]; rfl) O5 (R1.kpN K5) (by have := hzr1.out; simp; omega) K5.size hzr2.out ?_
  intro u7 w7 own7 gu7 au7
  rw [List.nil_append] at own7
  replace K5 := K5.grown gu7 K5.size (fun b e => by (have e2 : nb = b := (by simpa [Value.ownBlock] using e)); omega)
  refine hK _ _ ((hS0 _).2 (HB.kpN K5)) ?_
  try simp only [Act.put, List.setIfInBounds_toArray, List.set_cons_zero, List.set_cons_succ]
  clear hK K O5 gu7 au7
  refine wpOrd_l rfl rfl ?_; intro K hK
  refine wp_append_motions (.tmp 38) (.tmp 41) (by rfl) w4.heap.size u7 zr X.d.ma X.d.mc zd (by rfl) (by rw [hzd1.out]; rfl) own7 (R2.kpN K5) (by have := hzr1.out; have := hzd1.out; omega) K5.size hzd2.out ?_
  intro u8 w8 own8 gu8 au8
  replace K5 := K5.grown gu8 K5.size (fun b e => (own7.ge b e).1)
  obtain ⟨A9, c9, rfl, R9, -⟩ := own8.rd (row := none) (fun _ => rfl) (fun b hb e => by cases e)
  refine hK _ _ ((hS0 _).2 (HB.kpN K5)) ?_
  try simp only [Act.put, List.setIfInBounds_toArray, List.set_cons_zero, List.set_cons_succ]
  clear hK K own7 own8 gu8 au8
  iterate 1 (first | (refine wpOrd_v rfl rfl ?_; intro K hK; go_big_quiet_op; go_big_quiet_on) | (refine wpOrd_q rfl rfl ?_; intro K hK; go_big_quiet_op; go_big_quiet_on) | refine wpOrd_s (by decide) rfl rfl ?_)
  refine wpOrd_nil ?_
  clear hevT _hev
  clear hS0 hS1 S chh R1 R2 HB hbl
  obtain ⟨zs, hzs⟩ : ∃ q, q = zr ++ zd := ⟨_, rfl⟩
  have hgz : ∀ p ∈ zs, MGood c p.2 := fun p hp => by
    rw [hzs] at hp
    rcases List.mem_append.1 hp with h | h
    · rw [hzr.out] at h; exact hgood.out false _ (zipV_mem h)
    · rw [hzd.out] at h; exact hgood.out true _ (zipV_mem h)
  have B8 : BothOk w8.heap.size w8 zs := by
    have q1 : BothOk w4.heap.size w4 zr := by rw [hzr.out]; exact BothOk.of T.out.sa.r hcr.out
    have q2 : BothOk w4.heap.size w4 zd := by rw [hzd.out]; exact BothOk.of T.out.sa.d hcd.out
    rw [hzs]
    exact ((q1.app q2).kp K5).wide K5.size
  have hzl : zs.length ≤ 128 := by
    have := hzr1.out
    have := hzd1.out
    rw [hzs, List.length_append]; omega
  rw [← hzs] at R9 ⊢
  have T2 : Both w cb hb V c X x A9 zs w8 := ⟨T.out.kpN K5, R9, B8⟩
  clear T R9 B8 K5 hzs hzr hzd hzr1 hzd1 hzr2 hzd2 hcr hcd
  have T := T2
  clear T2
  replace hgz := Lib.hid hgz
  go_wp2_with fail
  go_loopw [10] (fun n wr => ∃ i : Nat, n = .int .i64 (i : Int) ∧ i ≤ zs.length ∧ Both w cb hb V c X x A9 zs wr) (fun n _ => (zs.length - intOf n).toNat)
  case atStart => exact ⟨0, rfl, Nat.zero_le _, T⟩
  case round =>
    clear T
    obtain ⟨i, rfl, hi, T⟩ := hrel
    by_cases hi' : i < zs.length
    · have hii : (i : Int) < (zs.length : Int) := by omega
      obtain ⟨b, o, eA, -, -, hc⟩ := T.r.2 (by omega)
      obtain ⟨Av, qv, ev, hqv, -⟩ := T.b i hi'
      have hcc := fun k u => hc i hi' k u
      have hmg := hgz.out zs[i] (List.getElem_mem hi')
      obtain ⟨⟨vv, m⟩, hp⟩ : ∃ p, p = zs[i] := ⟨_, rfl⟩
      have hpb : ∀ W, Both w cb hb V c X x A9 zs W → Lo W.heap.size W 1 encI Av m.voted.length m.voted := fun W T => by
        obtain ⟨A2, q2, e2, -, l2⟩ := T.b i hi'
        rw [← hp] at e2 l2 ev
        simp only at e2 l2 ev
        rw [ev] at e2
        injection e2 with e2
        rw [e2]; exact l2
      rw [← hp] at hcc hmg hqv ev
      simp only at hcc hmg hqv ev
      subst ev
      clear hp hc
      replace hpb := Lib.hid hpb
      subst eA
      obtain ⟨vl, hvl⟩ : ∃ q, q = m.voted.length := ⟨_, rfl⟩
      rw [← hvl] at hcc hqv
      replace hvl := Lib.hid hvl
      replace hmg := Lib.hid hmg
      have c0 : wr.cell? ⟨b, o + i * 8, none⟩ = some (.int .i64 m.target) := hcc 0 _ rfl
      have c1 : wr.cell? ⟨b, o + i * 8 + 1, none⟩ = some (.int .i64 m.act) := by rw [Nat.add_assoc]; exact hcc 1 _ rfl
      have c2 : wr.cell? ⟨b, o + i * 8 + 2, none⟩ = some (.int .i64 m.opened) := by rw [Nat.add_assoc]; exact hcc 2 _ rfl
      have c3 : wr.cell? ⟨b, o + i * 8 + 3, none⟩ = some (.int .i64 m.state) := by rw [Nat.add_assoc]; exact hcc 3 _ rfl
      have c4 : wr.cell? ⟨b, o + i * 8 + 4, none⟩ = some (.int .i64 m.yes) := by rw [Nat.add_assoc]; exact hcc 4 _ rfl
      have c5 : wr.cell? ⟨b, o + i * 8 + 5, none⟩ = some (.int .i64 m.no) := by rw [Nat.add_assoc]; exact hcc 5 _ rfl
      have c6 : wr.cell? ⟨b, o + i * 8 + 6, none⟩ = some (.slice Av vl qv) := by rw [Nat.add_assoc]; exact hcc 6 _ rfl
      have c7 : wr.cell? ⟨b, o + i * 8 + 7, none⟩ = some (.int .i64 m.fact) := by rw [Nat.add_assoc]; exact hcc 7 _ rfl
      clear hcc
      have MB := Blk.new wr 76 #[.int .i64 m.target, .int .i64 m.act, .int .i64 m.opened, .int .i64 m.state, .int .i64 m.yes, .int .i64 m.no, (.slice Av vl qv), .int .i64 m.fact]
      have km := Kp.new wr (.cells #[.int .i64 m.target, .int .i64 m.act, .int .i64 m.opened, .int .i64 m.state, .int .i64 m.yes, .int .i64 m.no, (.slice Av vl qv), .int .i64 m.fact] 76)
      replace T := T.kpN km
      clear km
      go_upto_region 10 with (fail)
      clear c0 c1 c2 c3 c4 c5 c6 c7
      obtain ⟨mb, hmb⟩ : ∃ q, q = wr.heap.size := ⟨_, rfl⟩
      rw [← hmb] at MB ⊢
      clear hmb
      change Code.wp _ _ _ _ (wr.alloc (.cells #[.int .i64 m.target, .int .i64 m.act, .int .i64 m.opened, .int .i64 m.state, .int .i64 m.yes, .int .i64 m.no, (.slice Av vl qv), .int .i64 m.fact] 76))
      generalize wr.alloc (.cells #[.int .i64 m.target, .int .i64 m.act, .int .i64 m.opened, .int .i64 m.state, .int .i64 m.yes, .int .i64 m.no, (.slice Av vl qv), .int .i64 m.fact] 76) = w5 at T MB ⊢
      have U : BM w cb hb mb V c X x (some ⟨b, o, none⟩) zs m (.slice Av vl qv) w5 := ⟨T, MB⟩
      clear T MB
      go_cut [81] (fun v wx => v = .bool false ∧ BM w cb hb mb V c X x (some ⟨b, o, none⟩) zs m (.slice Av vl qv) wx)
      case first =>
        have cm := fun i => U.m.cell i
        have cc := fun i => U.t.s.cl.cell i
        by_cases h2 : m.state = 2
        · have e2 : (m.state == 2) = true := by simpa using h2
          have e3 : (m.state == 3) = false := by simp [h2]
          have hvt : votesB c m.act m.yes m.no = true := by rw [hmg.out.votes hok.chk]; exact hmg.out.good.1 h2
          clear h2
          go_wp2_with fail
          refine (council_Votes_any m.act m.yes m.no _ V c _ U.t.s.ca).mono ?_
          rintro e w6 ⟨rfl, k6⟩
          rw [hvt]
          replace U := U.kpN k6
          clear k6 cm cc
          have cm := fun i => U.m.cell i
          have cc := fun i => U.t.s.cl.cell i
          replace U := Lib.hid U
          go_wp2_with fail
          go_meet
          case rel => exact ⟨rfl, U.out⟩
        · have e2 : (m.state == 2) = false := by simpa using h2
          by_cases h3 : m.state = 3
          · have e3 : (m.state == 3) = true := by simpa using h3
            have hvt : votesB c m.act m.yes m.no = false := by rw [hmg.out.votes hok.chk]; exact hmg.out.good.2.1 h3
            clear h2 h3
            go_wp2_with fail
            refine (council_Votes_any m.act m.yes m.no _ V c _ U.t.s.ca).mono ?_
            rintro e w6 ⟨rfl, k6⟩
            rw [hvt]
            replace U := U.kpN k6
            clear k6 cm cc
            replace U := Lib.hid U
            go_wp2_with fail
            go_meet
            case rel => exact ⟨rfl, U.out⟩
          · have e3 : (m.state == 3) = false := by simpa using h3
            clear h2 h3
            replace U := Lib.hid U
            go_wp2_with fail
            go_meet
            case rel => exact ⟨rfl, U.out⟩
      case rest =>
      clear U
      rename World => w6
      obtain ⟨rfl, U⟩ := hcut
      have hvb : vl ≤ 16 := by have := hmg.out.vlen; have := hvl.out; omega
      go_wp2_with fail
      go_loopw [12, 13] (fun sm n wr => ∃ k2 : Nat, n = .int .i64 (k2 : Int) ∧ k2 ≤ vl ∧ sm = .int .i64 (votedW c m k2) ∧ BM w cb hb mb V c X x (some ⟨b, o, none⟩) zs m (.slice Av vl qv) wr) (fun _ n _ => ((vl : Int) - intOf n).toNat)
      case atStart => exact ⟨0, rfl, Nat.zero_le _, rfl, U⟩
      case round =>
        clear U
        obtain ⟨k2, rfl, hk, rfl, U⟩ := hrel
        have hw := votedW_bd hcc.out m k2 (by have := hvl.out; omega)
        by_cases hk' : k2 < vl
        · have hkk : (k2 : Int) < (vl : Int) := by omega
          have hk9 : k2 < m.voted.length := by have := hvl.out; omega
          obtain ⟨bv, ov, eAv, -, -, hcv⟩ := (hpb.out _ U.t).2 (by omega)
          have hcell : wr.cell? ⟨bv, ov + k2, none⟩ = some (.int .i64 m.voted[k2]) := by simpa using hcv k2 hk9 0 _ rfl
          have hsum := votedW_succ c m k2 hk9
          obtain ⟨tk, htk⟩ : ∃ q, q = m.voted.take k2 := ⟨_, rfl⟩
          have htl : tk.length = k2 := by rw [htk, List.length_take]; omega
          have hno : decide (m.voted[k2] ∈ tk) = false := by rw [htk]; exact decide_eq_false (nodup_take hmg.out.good.2.2.1 k2 hk9)
          obtain ⟨y, hy⟩ : ∃ y, y = m.voted[k2] := ⟨_, rfl⟩
          rw [← hy] at hcell hsum hno
          subst eAv
          have hrd : ∀ W, Both w cb hb V c X x (some ⟨b, o, none⟩) zs W → Rd none W 1 encI (some ⟨bv, ov, none⟩) tk.length tk := fun W T => by
            have h1 := (hpb.out W T).rdN
            refine ⟨rfl, fun hn => ?_⟩
            obtain ⟨b2, o2, e2, q1, q2, q3⟩ := h1.2 (by have := hvl.out; omega)
            exact ⟨b2, o2, e2, q1, q2, fun i hi j v hv => q3 i (by have := hvl.out; omega) j v (by rw [← hv]; subst htk; rw [List.getElem_take])⟩
          have hcl : ∀ W, Both w cb hb V c X x (some ⟨b, o, none⟩) zs W → W.cell? ⟨bv, ov + k2, none⟩ = some (.int .i64 y) := fun W T => by
            obtain ⟨b2, o2, e2, -, -, q3⟩ := (hpb.out W T).2 (by omega)
            simp only [Option.some.injEq, Addr.mk.injEq] at e2
            obtain ⟨rfl, rfl, -⟩ := e2
            rw [hy]
            simpa using q3 k2 hk9 0 _ rfl
          clear hcv hk9 hy
          replace hrd := Lib.hid hrd
          replace hcl := Lib.hid hcl
          replace hsum := Lib.hid hsum
          replace hno := Lib.hid hno
          replace htk := Lib.hid htk
          replace htl := Lib.hid htl
          have cm0 := fun i => U.m.cell i
          replace U := Lib.hid U
          replace hcell := Lib.hid hcell
          go_upto_region 16 with (fail)
          clear cm0
          replace U := U.out.kpN (Kp.refl _ _ _).drew
          replace hcell := hcell.out
          replace hcell : wr.drew.cell? ⟨bv, ov + k2, none⟩ = some (.int .i64 y) := hcell
          replace hw := Lib.hid hw
          obtain ⟨S, hS⟩ : ∃ S : Nat → World → Prop, S = fun n w' => if n = 0 then Blk w' mb 76 #[.int .i64 m.target, .int .i64 m.act, .int .i64 m.opened, .int .i64 m.state, .int .i64 m.yes, .int .i64 m.no, (.slice (some ⟨bv, ov, none⟩) vl qv), .int .i64 m.fact] ∧ w'.cell? ⟨bv, ov + k2, none⟩ = some (.int .i64 y) else True := ⟨_, rfl⟩
          have hS0 : ∀ w', S 0 w' ↔ (Blk w' mb 76 #[.int .i64 m.target, .int .i64 m.act, .int .i64 m.opened, .int .i64 m.state, .int .i64 m.yes, .int .i64 m.no, (.slice (some ⟨bv, ov, none⟩) vl qv), .int .i64 m.fact] ∧ w'.cell? ⟨bv, ov + k2, none⟩ = some (.int .i64 y)) := fun w' => by rw [hS]; exact Iff.rfl
          have hS1 : ∀ w', S 1 w' ↔ (True) := fun w' => by rw [hS]; exact Iff.rfl
          clear hS
          have cm := fun (q : Ev (S 0)) i => ((hS0 _).1 q.h).1.cell i
          have cv := fun (q : Ev (S 0)) => ((hS0 _).1 q.h).2
          have hevT := ev_true
          refine wp_region_ord S [(0, 0), (1, 1), (2, 0), (3, 0), (4, 0), (5, 1), (6, 0), (7, 0), (8, 1), (9, 2)] [] (by kernel_rfl) (by kernel_rfl) ((hS0 _).2 ⟨U.m, hcell⟩) ?_
          intro _hev
          iterate 9 (first | (refine wpOrd_v rfl rfl ?_; intro K hK; go_big_quiet_op; go_big_quiet_on) | (refine wpOrd_q rfl rfl ?_; intro K hK; go_big_quiet_op; go_big_quiet_on) | refine wpOrd_s (by decide) rfl rfl ?_)
          refine wpOrd_l rfl rfl ?_; intro K hK
          have hcall := hasInt_any (some ⟨bv, ov, none⟩) qv tk y _ (hrd.out _ U.t) (by have := htl.out; omega)
          rw [htl.out] at hcall
          go_step
          refine hcall.mono ?_
          rintro e w7 ⟨rfl, k7⟩
          rw [hno.out]
          replace U := U.kpN k7
          refine hK _ _ ((hS0 _).2 ⟨U.m, hcl.out _ U.t⟩) ?_
          clear hK K k7 hcall hcell
          refine wpOrd_nil ?_
          clear hevT _hev
          clear hS0 hS1 S cm cv hrd hno htk htl
          have hmem := hmm
          go_wp2_with fail
          go_loopw [12, 14] (fun sm n wr => ∃ j : Nat, n = .int .i64 (j : Int) ∧ j ≤ c.members.length ∧ sm = .int .i64 (votedW c m k2 + partW c y j) ∧ BM w cb hb mb V c X x (some ⟨b, o, none⟩) zs m (.slice (some ⟨bv, ov, none⟩) vl qv) wr) (fun _ n _ => ((c.members.length : Int) - intOf n).toNat)
          case atStart => exact ⟨0, rfl, Nat.zero_le _, by rw [partW_zero, Int.add_zero], U⟩
          case round =>
            clear U
            rename World => w8
            obtain ⟨j, rfl, hj, rfl, U⟩ := hrel
            have hpw := partW_bd hcc.out y j hj
            have hw2 := hw.out
            by_cases hj' : j < c.members.length
            · have hjj : (j : Int) < (c.members.length : Int) := by omega
              obtain ⟨b3, o3, eM, -, -, hc3⟩ := U.t.s.ca.m.2 (by omega)
              have hc4 := fun k u => hc3 j hj' k u
              have hps := partW_succ c y j hj'
              have hmb := (hcc.out.mem _ (List.getElem_mem hj')).2
              obtain ⟨mm, hmm2⟩ : ∃ q, q = c.members[j] := ⟨_, rfl⟩
              rw [← hmm2] at hc4 hps hmb
              clear hmm2 hc3
              obtain ⟨am, cm2, al, cl2, av, cv⟩ := V
              have eM' : am = some ⟨b3, o3, none⟩ := eM
              subst eM'
              clear eM
              have d0 : w8.cell? ⟨b3, o3 + j * 2, none⟩ = some (.int .i64 mm.id) := hc4 0 _ rfl
              have d1 : w8.cell? ⟨b3, o3 + j * 2 + 1, none⟩ = some (.int .i64 mm.weight) := by rw [Nat.add_assoc]; exact hc4 1 _ rfl
              clear hc4
              have dv := hcl.out _ U.t
              have U2 := U.kpN (Kp.refl _ _ _).drew
              have cc := fun i => U.t.s.cl.cell i
              have cm := fun i => U.m.cell i
              replace U2 := Lib.hid U2
              replace hps := Lib.hid hps
              clear U
              go_upto_region 21 with (fail)
              obtain ⟨S, hS⟩ : ∃ S : Nat → World → Prop, S = fun _ w' => w' = w8.drew := ⟨_, rfl⟩
              have hS0 : ∀ w', S 0 w' ↔ w' = w8.drew := fun w' => by rw [hS]
              clear hS
              have xc : ∀ (q : Ev (S 0)) i, q.w.cell? ⟨cb, i, none⟩ = (#[Value.slice (some ⟨b3, o3, none⟩) c.members.length cm2, .slice al c.laws.length cl2, .slice av c.levels.length cv] : Array Value)[i]? := fun q i => by rw [(hS0 _).1 q.h]; exact cc i
              have xm : ∀ (q : Ev (S 0)) i, q.w.cell? ⟨mb, i, none⟩ = (#[.int .i64 m.target, .int .i64 m.act, .int .i64 m.opened, .int .i64 m.state, .int .i64 m.yes, .int .i64 m.no, (.slice (some ⟨bv, ov, none⟩) vl qv), .int .i64 m.fact] : Array Value)[i]? := fun q i => by rw [(hS0 _).1 q.h]; exact cm i
              have xd : ∀ (q : Ev (S 0)), q.w.cell? ⟨b3, o3 + j * 2, none⟩ = some (.int .i64 mm.id) := fun q => by rw [(hS0 _).1 q.h]; exact d0
              have xv : ∀ (q : Ev (S 0)), q.w.cell? ⟨bv, ov + k2, none⟩ = some (.int .i64 y) := fun q => by rw [(hS0 _).1 q.h]; exact dv
              replace d1 : w8.drew.cell? ⟨b3, o3 + j * 2 + 1, none⟩ = some (.int .i64 mm.weight) := d1
              clear d0 dv cc cm
              by_cases he : mm.id = y
              · have he' : (mm.id == y) = true := by simpa using he
                rw [if_pos he] at hps
                clear he
                have hevT := ev_true
                refine wp_region_ord S [(0, 0), (1, 1), (2, 0), (3, 0), (4, 0), (5, 1), (6, 0), (7, 1), (8, 0), (9, 0), (10, 1), (11, 0)] [] (by kernel_rfl) (by kernel_rfl) ((hS0 _).2 rfl) ?_
                intro _hev
                iterate 12 (first | (refine wpOrd_v rfl rfl ?_; intro K hK; go_big_quiet_op; go_big_quiet_on) | (refine wpOrd_q rfl rfl ?_; intro K hK; go_big_quiet_op; go_big_quiet_on) | refine wpOrd_s (by decide) rfl rfl ?_)
                refine wpOrd_nil ?_
                clear hevT _hev
                clear hS0 S xc xm xd xv
                have cc := fun i => U2.out.t.s.cl.cell i
                go_wp2
                go_roundw
                case rel => exact ⟨j + 1, by congr 1, by omega, by rw [hps.out]; congr 1; omega, U2.out⟩
                case measure => simp [intOf]; omega
              · have he' : (mm.id == y) = false := by simpa using he
                rw [if_neg he] at hps
                clear he
                have hevT := ev_true
                refine wp_region_ord S [(0, 0), (1, 1), (2, 0), (3, 0), (4, 0), (5, 1), (6, 0), (7, 1), (8, 0), (9, 0), (10, 1), (11, 0)] [] (by kernel_rfl) (by kernel_rfl) ((hS0 _).2 rfl) ?_
                intro _hev
                iterate 12 (first | (refine wpOrd_v rfl rfl ?_; intro K hK; go_big_quiet_op; go_big_quiet_on) | (refine wpOrd_q rfl rfl ?_; intro K hK; go_big_quiet_op; go_big_quiet_on) | refine wpOrd_s (by decide) rfl rfl ?_)
                refine wpOrd_nil ?_
                clear hevT _hev
                clear hS0 S xc xm xd xv
                go_wp2
                go_roundw
                case rel => exact ⟨j + 1, by congr 1, by omega, by rw [hps.out], U2.out⟩
                case measure => simp [intOf]; omega
            · have hjj : ¬ (j : Int) < (c.members.length : Int) := by omega
              have hje : j = c.members.length := by omega
              have hpa := partW_all hok.chk y
              rw [← hje] at hpa
              have hs2 : votedW c m k2 + partW c y j = votedW c m (k2 + 1) := by rw [hpa, hsum.out]
              have cc := fun i => U.t.s.cl.cell i
              replace hs2 := Lib.hid hs2
              replace U := Lib.hid U
              clear hje hpa
              go_wp2
              go_roundw
              case rel => exact ⟨k2 + 1, by congr 1, by omega, by rw [hs2.out], U.out⟩
              case measure => simp [intOf]; omega
        · have hkk : ¬ (k2 : Int) < (vl : Int) := by omega
          have hke : k2 = m.voted.length := by have := hvl.out; omega
          have hyn : votedW c m k2 = m.yes + m.no := by
            rw [hmg.out.good.2.2.2.1, hke]
            unfold votedW
            rw [List.take_length]
          have y0 := hmg.out.y0
          have n0 := hmg.out.n0
          have yn := hmg.out.yn
          rw [hyn]
          have cm := fun i => U.m.cell i
          replace U := Lib.hid U
          replace hyn := Lib.hid hyn
          clear hke hw
          go_wp2
          go_roundw
          case rel => exact ⟨i + 1, by congr 1, by omega, U.out.t⟩
          case measure => simp [intOf]; omega
    · have hii : ¬ (i : Int) < (zs.length : Int) := by omega
      have S := T.s
      clear T hgz
      go_wp2_with fail
      go_loopw [15] (fun n wr => ∃ i : Nat, n = .int .i64 (i : Int) ∧ i ≤ x.real.motions.length ∧ Seen w cb hb V c X x wr) (fun n _ => (x.real.motions.length - intOf n).toNat)
      case atStart => exact ⟨0, rfl, Nat.zero_le _, S⟩
      case round =>
        clear S
        rename World => w5
        obtain ⟨p, rfl, hp, S⟩ := hrel
        have ch := fun i => S.hl.cell i
        by_cases hp' : p < x.real.motions.length
        · have hpp : (p : Int) < (x.real.motions.length : Int) := by omega
          obtain ⟨b, o, Am, qm, eM, -, -, hc⟩ := S.sa.r.mot p hp'
          have hpi : x.real.motions[p].state = 2 → (p : Int) ≤ passI (passP x.real.motions[p].target x.real.motions[p].act) x.real.motions x.real.motions.length := fun h2 => passI_of _ _ p hp' (by unfold passP; simp [h2]) _ hp'
          obtain ⟨m, hm⟩ : ∃ m, m = x.real.motions[p] := ⟨_, rfl⟩
          rw [← hm] at hc hpi
          clear hm
          obtain ⟨⟨fa, fc, ma, mc, sa, sc, vo⟩, xd⟩ := X
          have eM' : ma = some ⟨b, o, none⟩ := eM
          subst eM'
          clear eM
          obtain ⟨vl, hvl⟩ : ∃ q, q = m.voted.length := ⟨_, rfl⟩
          rw [← hvl] at hc
          clear hvl
          have c0 : w5.cell? ⟨b, o + p * 8, none⟩ = some (.int .i64 m.target) := hc 0 _ rfl
          have c1 : w5.cell? ⟨b, o + p * 8 + 1, none⟩ = some (.int .i64 m.act) := by rw [Nat.add_assoc]; exact hc 1 _ rfl
          have c2 : w5.cell? ⟨b, o + p * 8 + 2, none⟩ = some (.int .i64 m.opened) := by rw [Nat.add_assoc]; exact hc 2 _ rfl
          have c3 : w5.cell? ⟨b, o + p * 8 + 3, none⟩ = some (.int .i64 m.state) := by rw [Nat.add_assoc]; exact hc 3 _ rfl
          have c4 : w5.cell? ⟨b, o + p * 8 + 4, none⟩ = some (.int .i64 m.yes) := by rw [Nat.add_assoc]; exact hc 4 _ rfl
          have c5 : w5.cell? ⟨b, o + p * 8 + 5, none⟩ = some (.int .i64 m.no) := by rw [Nat.add_assoc]; exact hc 5 _ rfl
          have c6 : w5.cell? ⟨b, o + p * 8 + 6, none⟩ = some (.slice Am vl qm) := by rw [Nat.add_assoc]; exact hc 6 _ rfl
          have c7 : w5.cell? ⟨b, o + p * 8 + 7, none⟩ = some (.int .i64 m.fact) := by rw [Nat.add_assoc]; exact hc 7 _ rfl
          clear hc
          have MB := Blk.new w5 76 #[.int .i64 m.target, .int .i64 m.act, .int .i64 m.opened, .int .i64 m.state, .int .i64 m.yes, .int .i64 m.no, (.slice Am vl qm), .int .i64 m.fact]
          have km := Kp.new w5 (.cells #[.int .i64 m.target, .int .i64 m.act, .int .i64 m.opened, .int .i64 m.state, .int .i64 m.yes, .int .i64 m.no, (.slice Am vl qm), .int .i64 m.fact] 76)
          replace S := S.kpN km
          clear km
          go_upto_region 29 with (fail)
          clear c0 c1 c2 c3 c4 c5 c6 c7 ch
          obtain ⟨mb, hmb⟩ : ∃ q, q = w5.heap.size := ⟨_, rfl⟩
          rw [← hmb] at MB ⊢
          clear hmb
          change Code.wp _ _ _ _ (w5.alloc (.cells #[.int .i64 m.target, .int .i64 m.act, .int .i64 m.opened, .int .i64 m.state, .int .i64 m.yes, .int .i64 m.no, (.slice Am vl qm), .int .i64 m.fact] 76))
          generalize w5.alloc (.cells #[.int .i64 m.target, .int .i64 m.act, .int .i64 m.opened, .int .i64 m.state, .int .i64 m.yes, .int .i64 m.no, (.slice Am vl qm), .int .i64 m.fact] 76) = w6 at S MB ⊢
          have ch := fun i => S.hl.cell i
          have cm := fun i => MB.cell i
          go_wp2_with fail
          refine (council_Passed_any _ x.real m.target m.act w6 S.sa.r).mono ?_
          rintro e w7 ⟨rfl, k7⟩
          generalize passI (passP m.target m.act) x.real.motions x.real.motions.length = pr at hpi ⊢
          replace S := S.kpN k7
          replace MB := MB.kpN k7
          clear k7 ch cm
          have cm := fun i => MB.cell i
          replace S := Lib.hid S
          by_cases h2 : m.state = 2
          · have e2 : (m.state == 2) = true := by simpa using h2
            have hpr := hpi h2
            have hp0 : (0 : Int) ≤ pr := by omega
            have hp1 : ¬ pr < (p : Int) := by omega
            clear h2 hpi
            go_wp2
            go_roundw
            case rel => exact ⟨p + 1, by congr 1, by omega, S.out⟩
            case measure => simp [intOf]; omega
          · have e2 : (m.state == 2) = false := by simpa using h2
            clear h2 hpi
            go_wp2
            go_roundw
            case rel => exact ⟨p + 1, by congr 1, by omega, S.out⟩
            case measure => simp [intOf]; omega
        · have hpp : ¬ (p : Int) < (x.real.motions.length : Int) := by omega
          have hst := S.kp
          go_wp2_with fail
          refine (awake_any w5).mono ?_
          rintro e w6 ⟨rfl, k6⟩
          have K9 := hst.thenN k6 (Nat.le_refl _)
          clear S hst k6 ch
          go_wp2
          go_ret
          exact ⟨rfl, K9⟩
end Go.Proofs.Ytogpgnljomchcaa
