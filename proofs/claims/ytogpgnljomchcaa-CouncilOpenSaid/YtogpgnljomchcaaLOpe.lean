/- CouncilOpen: the walk. -/
import Derived.Test.YtogpgnljomchcaaSn
import Derived.Deep.DeepCutAuto
import Derived.Deep.CutBlock
namespace Go.Proofs.Ytogpgnljomchcaa
open Go.RowKit

/-- a house seen, a motion and what is known -/
structure SeenM (W : World) (cb hb mb kb : Nat) (V : CV) (c : Council) (X : HV) (x : House) (v : Value) (m : Motion) (k : Known) (w : World) : Prop where
  s : Seen W cb hb V c X x w
  m : Blk w mb 76 #[.int .i64 m.target, .int .i64 m.act, .int .i64 m.opened, .int .i64 m.state, .int .i64 m.yes, .int .i64 m.no, v, .int .i64 m.fact]
  k : Blk w kb 71 #[.int .i64 k.target, .int .i64 k.level, .int .i64 k.item, .int .i64 k.chance.least, .int .i64 k.chance.most, .int .i64 k.chance.all]
theorem SeenM.kpN {W : World} {cb hb mb kb : Nat} {V : CV} {c : Council} {X : HV} {x : House} {v : Value} {m : Motion} {k : Known} {w w' : World} (s : SeenM W cb hb mb kb V c X x v m k w) (q : Kp w.heap.size none w w') : SeenM W cb hb mb kb V c X x v m k w' :=
  ⟨s.s.kpN q, s.m.kpN q, s.k.kpN q⟩
set_option maxRecDepth 20000 in
set_option maxHeartbeats 8000000 in
theorem law_CouncilOpen_any (A : Option Addr) (cap : Nat) (nums : List Int) (w : World) (h : Rd none w 1 (fun x => [Value.int .i64 x]) A nums.length nums) (hn : nums.length ≤ 17592186044416) :
    Calls Try.prog 7 #[.slice A nums.length cap] w fun e w' => e = .returned (.bool true) ∧ Kp w.heap.size none w w' := by
  go_enter Try.func7, Try.ntmps7
  go_wp2_with fail
  refine (made_any A cap nums w h hn).mono ?_
  rintro e w1 ⟨g, V, c, A2, cap2, l, x, k, rfl, hok, hl, hD, hC, -, hrd, -, -, -, K1⟩
  clear h hn
  have CB := Blk.new w1 26 #[.slice V.am c.members.length V.cm, .slice V.al c.laws.length V.cl, .slice V.av c.levels.length V.cv]
  have kc := Kp.new w1 (.cells #[.slice V.am c.members.length V.cm, .slice V.al c.laws.length V.cl, .slice V.av c.levels.length V.cv] 26)
  replace hC := hC.next kc
  replace hrd := hrd.free.kpN kc
  replace K1 := K1.thenN kc (Nat.le_refl _)
  go_upto_region 2 with (fail)
  obtain ⟨cb, hcb⟩ : ∃ q, q = w1.heap.size := ⟨_, rfl⟩
  rw [← hcb] at CB ⊢
  change Code.wp _ _ _ _ (w1.alloc (.cells #[.slice V.am c.members.length V.cm, .slice V.al c.laws.length V.cl, .slice V.av c.levels.length V.cv] 26))
  generalize w1.alloc (.cells #[.slice V.am c.members.length V.cm, .slice V.al c.laws.length V.cl, .slice V.av c.levels.length V.cv] 26) = w2 at CB hC hrd K1 ⊢
  clear hcb kc
  have cc := fun i => CB.cell i
  go_wp2_with fail
  refine (build_see V c A2 cap2 l _ hC hrd (by omega)).mono ?_
  rintro e w3 ⟨v, X, -, rfl, -, hS, k3⟩
  rw [build_done hok.chk (by omega) hD] at hS ⊢
  simp only at hS ⊢
  replace hC := hC.next k3
  replace CB := CB.kpN k3
  replace K1 := K1.thenN k3 (Nat.le_refl _)
  clear k3 hrd cc
  have HB := Blk.new w3 46 #[.int .i64 x.tick, .int .i64 x.real.items, .slice X.r.fa x.real.facts.length X.r.fc, .slice X.r.ma x.real.motions.length X.r.mc, .slice X.r.sa x.real.sent.length X.r.sc, .int .i64 x.drill.items, .slice X.d.fa x.drill.facts.length X.d.fc, .slice X.d.ma x.drill.motions.length X.d.mc, .slice X.d.sa x.drill.sent.length X.d.sc]
  have kh := Kp.new w3 (.cells #[.int .i64 x.tick, .int .i64 x.real.items, .slice X.r.fa x.real.facts.length X.r.fc, .slice X.r.ma x.real.motions.length X.r.mc, .slice X.r.sa x.real.sent.length X.r.sc, .int .i64 x.drill.items, .slice X.d.fa x.drill.facts.length X.d.fc, .slice X.d.ma x.drill.motions.length X.d.mc, .slice X.d.sa x.drill.sent.length X.d.sc] 46)
  have S : Seen w cb w3.heap.size V c X x (w3.alloc (.cells #[.int .i64 x.tick, .int .i64 x.real.items, .slice X.r.fa x.real.facts.length X.r.fc, .slice X.r.ma x.real.motions.length X.r.mc, .slice X.r.sa x.real.sent.length X.r.sc, .int .i64 x.drill.items, .slice X.d.fa x.drill.facts.length X.d.fc, .slice X.d.ma x.drill.motions.length X.d.mc, .slice X.d.sa x.drill.sent.length X.d.sc] 46)) := ⟨CB.kpN kh, HB, hC.next kh, hS.next kh, K1.thenN kh (Nat.le_refl _)⟩
  clear CB HB hC hS K1 kh
  go_upto_region 3 with (fail)
  obtain ⟨hb, hhb⟩ : ∃ q, q = w3.heap.size := ⟨_, rfl⟩
  rw [← hhb] at S
  rw [← hhb]
  change Code.wp _ _ _ _ (w3.alloc (.cells #[.int .i64 x.tick, .int .i64 x.real.items, .slice X.r.fa x.real.facts.length X.r.fc, .slice X.r.ma x.real.motions.length X.r.mc, .slice X.r.sa x.real.sent.length X.r.sc, .int .i64 x.drill.items, .slice X.d.fa x.drill.facts.length X.d.fc, .slice X.d.ma x.drill.motions.length X.d.mc, .slice X.d.sa x.drill.sent.length X.d.sc] 46))
  generalize w3.alloc (.cells #[.int .i64 x.tick, .int .i64 x.real.items, .slice X.r.fa x.real.facts.length X.r.fc, .slice X.r.ma x.real.motions.length X.r.mc, .slice X.r.sa x.real.sent.length X.r.sc, .int .i64 x.drill.items, .slice X.d.fa x.drill.facts.length X.d.fc, .slice X.d.ma x.drill.motions.length X.d.mc, .slice X.d.sa x.drill.sent.length X.d.sc] 46) = w4 at S ⊢
  clear hhb
  have hoi := hD.openInv false
  change OpenInv c x.real at hoi
  have hox : HouseOk c (0 + l.length) x := hD.ok (councilOk_of hok.chk) (zeroHouse_ok c 0)
  have hml : x.real.motions.length ≤ 64 := (hox.led false).mlen
  have hll := (councilOk_of hok.chk).llen
  replace hoi := Lib.hid hoi
  go_wp2_with fail
  go_loopw [9] (fun n wr => ∃ i : Nat, n = .int .i64 (i : Int) ∧ i ≤ x.real.motions.length ∧ Seen w cb hb V c X x wr) (fun n _ => (x.real.motions.length - intOf n).toNat)
  case atStart => exact ⟨0, rfl, Nat.zero_le _, S⟩
  case round =>
    clear S
    obtain ⟨i, rfl, hi, S⟩ := hrel
    have ch := fun i => S.hl.cell i
    by_cases hi' : i < x.real.motions.length
    · have hii : (i : Int) < (x.real.motions.length : Int) := by omega
      obtain ⟨b, o, Am, qm, eM, -, -, hc⟩ := S.sa.r.mot i hi'
      have hopen := hoi.out.2.1 x.real.motions[i] (List.getElem_mem hi')
      have hpw := fun (j : Nat) (hj : j < i) => List.pairwise_iff_getElem.1 hoi.out.2.2 j i (by omega) hi' hj
      obtain ⟨m, hm⟩ : ∃ m, m = x.real.motions[i] := ⟨_, rfl⟩
      rw [← hm] at hc hopen hpw
      clear hm
      obtain ⟨⟨fa, fc, ma, mc, sa, sc, vo⟩, xd⟩ := X
      have eM' : ma = some ⟨b, o, none⟩ := eM
      subst eM'
      clear eM
      obtain ⟨vl, hvl⟩ : ∃ q, q = m.voted.length := ⟨_, rfl⟩
      rw [← hvl] at hc
      clear hvl
      have c0 : wr.cell? ⟨b, o + i * 8, none⟩ = some (.int .i64 m.target) := hc 0 _ rfl
      have c1 : wr.cell? ⟨b, o + i * 8 + 1, none⟩ = some (.int .i64 m.act) := by rw [Nat.add_assoc]; exact hc 1 _ rfl
      have c2 : wr.cell? ⟨b, o + i * 8 + 2, none⟩ = some (.int .i64 m.opened) := by rw [Nat.add_assoc]; exact hc 2 _ rfl
      have c3 : wr.cell? ⟨b, o + i * 8 + 3, none⟩ = some (.int .i64 m.state) := by rw [Nat.add_assoc]; exact hc 3 _ rfl
      have c4 : wr.cell? ⟨b, o + i * 8 + 4, none⟩ = some (.int .i64 m.yes) := by rw [Nat.add_assoc]; exact hc 4 _ rfl
      have c5 : wr.cell? ⟨b, o + i * 8 + 5, none⟩ = some (.int .i64 m.no) := by rw [Nat.add_assoc]; exact hc 5 _ rfl
      have c6 : wr.cell? ⟨b, o + i * 8 + 6, none⟩ = some (.slice Am vl qm) := by rw [Nat.add_assoc]; exact hc 6 _ rfl
      have c7 : wr.cell? ⟨b, o + i * 8 + 7, none⟩ = some (.int .i64 m.fact) := by rw [Nat.add_assoc]; exact hc 7 _ rfl
      clear hc
      replace hopen := Lib.hid hopen
      replace hpw := Lib.hid hpw
      have MB := Blk.new wr 76 #[.int .i64 m.target, .int .i64 m.act, .int .i64 m.opened, .int .i64 m.state, .int .i64 m.yes, .int .i64 m.no, (.slice Am vl qm), .int .i64 m.fact]
      have km := Kp.new wr (.cells #[.int .i64 m.target, .int .i64 m.act, .int .i64 m.opened, .int .i64 m.state, .int .i64 m.yes, .int .i64 m.no, (.slice Am vl qm), .int .i64 m.fact] 76)
      replace S := S.kpN km
      clear km
      go_upto_region 9 with (fail)
      clear c0 c1 c2 c3 c4 c5 c6 c7 ch
      obtain ⟨mb, hmb⟩ : ∃ q, q = wr.heap.size := ⟨_, rfl⟩
      rw [← hmb] at MB ⊢
      clear hmb
      change Code.wp _ _ _ _ (wr.alloc (.cells #[.int .i64 m.target, .int .i64 m.act, .int .i64 m.opened, .int .i64 m.state, .int .i64 m.yes, .int .i64 m.no, (.slice Am vl qm), .int .i64 m.fact] 76))
      generalize wr.alloc (.cells #[.int .i64 m.target, .int .i64 m.act, .int .i64 m.opened, .int .i64 m.state, .int .i64 m.yes, .int .i64 m.no, (.slice Am vl qm), .int .i64 m.fact] 76) = w5 at S MB ⊢
      have ch := fun i => S.hl.cell i
      have cm := fun i => MB.cell i
      go_wp2_with fail
      refine (council_Of_any _ x.real m.target w5 S.sa.r).mono ?_
      rintro e w6 ⟨k9, b9, rfl, hof, k6⟩
      have hlev : m.state = 1 → b9 = true ∧ ∀ y (hy : y < c.laws.length), c.laws[y].act = m.act → c.laws[y].level ≤ k9.level := fun h => by
        obtain ⟨k, h1, h2⟩ := hopen.out h
        rcases hof with ⟨h3, h4⟩ | ⟨h3, -, -⟩
        · rw [h1] at h3
          injection h3 with h3
          subst h3
          refine ⟨h4, fun y hy he => ?_⟩
          have h5 := lawD_at hok.chk y hy
          rw [he] at h5
          rw [← h5]
          exact h2
        · rw [h1] at h3; cases h3
      replace hlev := Lib.hid hlev
      clear hof hopen
      replace S := S.kpN k6
      replace MB := MB.kpN k6
      clear k6 ch cm
      have KB := Blk.new w6 71 #[.int .i64 k9.target, .int .i64 k9.level, .int .i64 k9.item, .int .i64 k9.chance.least, .int .i64 k9.chance.most, .int .i64 k9.chance.all]
      have kk := Kp.new w6 (.cells #[.int .i64 k9.target, .int .i64 k9.level, .int .i64 k9.item, .int .i64 k9.chance.least, .int .i64 k9.chance.most, .int .i64 k9.chance.all] 71)
      replace S := S.kpN kk
      replace MB := MB.kpN kk
      clear kk
      go_upto_region 10 with (fail)
      obtain ⟨kb, hkb⟩ : ∃ q, q = w6.heap.size := ⟨_, rfl⟩
      rw [← hkb] at KB ⊢
      clear hkb
      change Code.wp _ _ _ _ (w6.alloc (.cells #[.int .i64 k9.target, .int .i64 k9.level, .int .i64 k9.item, .int .i64 k9.chance.least, .int .i64 k9.chance.most, .int .i64 k9.chance.all] 71))
      generalize w6.alloc (.cells #[.int .i64 k9.target, .int .i64 k9.level, .int .i64 k9.item, .int .i64 k9.chance.least, .int .i64 k9.chance.most, .int .i64 k9.chance.all] 71) = w7 at S MB KB ⊢
      have T : SeenM w cb hb mb kb V c ⟨⟨fa, fc, some ⟨b, o, none⟩, mc, sa, sc, vo⟩, xd⟩ x (.slice Am vl qm) m k9 w7 := ⟨S, MB, KB⟩
      clear S MB KB
      go_upto_block 2 with (fail)
      go_cut [13] (fun _ wx => SeenM w cb hb mb kb V c ⟨⟨fa, fc, some ⟨b, o, none⟩, mc, sa, sc, vo⟩, xd⟩ x (.slice Am vl qm) m k9 wx)
      case first =>
        go_wp2_with fail
        go_loopw [13] (fun n wr => ∃ y : Nat, n = .int .i64 (y : Int) ∧ y ≤ c.laws.length ∧ SeenM w cb hb mb kb V c ⟨⟨fa, fc, some ⟨b, o, none⟩, mc, sa, sc, vo⟩, xd⟩ x (.slice Am vl qm) m k9 wr) (fun n _ => (c.laws.length - intOf n).toNat)
        case atStart => exact ⟨0, rfl, Nat.zero_le _, T⟩
        case round =>
          clear T
          rename World => w8
          obtain ⟨y, rfl, hy, T⟩ := hrel
          have cl := fun i => T.s.cl.cell i
          have cm := fun i => T.m.cell i
          have ck := fun i => T.k.cell i
          have kd := (Kp.refl w8.heap.size none w8).drew
          by_cases hy' : y < c.laws.length
          · have hyy : (y : Int) < (c.laws.length : Int) := by omega
            by_cases hst : m.state = 1
            · have hst' : (m.state == 1) = true := by simpa using hst
              obtain ⟨hb9, hlv⟩ := hlev.out hst
              subst hb9
              clear hst
              obtain ⟨b2, o2, eL, -, -, hc⟩ := T.s.ca.l.2 (by omega)
              have hcc := fun k u => hc y hy' k u
              have hlv' := hlv y hy'
              clear hc hlv
              obtain ⟨lw, hlw⟩ : ∃ q, q = c.laws[y] := ⟨_, rfl⟩
              rw [← hlw] at hcc hlv'
              clear hlw
              obtain ⟨am, cm2, al, cl2, av, cv⟩ := V
              have eL' : al = some ⟨b2, o2, none⟩ := eL
              subst eL'
              clear eL
              have d0 : w8.cell? ⟨b2, o2 + y * 5, none⟩ = some (.int .i64 lw.act) := hcc 0 _ rfl
              have d1 : w8.cell? ⟨b2, o2 + y * 5 + 1, none⟩ = some (.int .i64 lw.level) := by rw [Nat.add_assoc]; exact hcc 1 _ rfl
              clear hcc
              have hnext := T.kpN kd
              have e1 := hnext.s.cl
              have e2 := hnext.m
              have e3 := hnext.k
              have e4 : w8.drew.cell? ⟨b2, o2 + y * 5, none⟩ = some (.int .i64 lw.act) := d0
              have e5 : w8.drew.cell? ⟨b2, o2 + y * 5 + 1, none⟩ = some (.int .i64 lw.level) := d1
              replace hnext := Lib.hid hnext
              clear T kd
              go_upto_region 13 with (fail)
              clear d0 d1 cl cm ck
              obtain ⟨S, hS⟩ : ∃ S : Nat → World → Prop, S = fun n w' => if n = 0 then Blk w' cb 26 #[.slice am c.members.length cm2, .slice (some ⟨b2, o2, none⟩) c.laws.length cl2, .slice av c.levels.length cv] ∧ Blk w' mb 76 #[.int .i64 m.target, .int .i64 m.act, .int .i64 m.opened, .int .i64 m.state, .int .i64 m.yes, .int .i64 m.no, (.slice Am vl qm), .int .i64 m.fact] ∧ Blk w' kb 71 #[.int .i64 k9.target, .int .i64 k9.level, .int .i64 k9.item, .int .i64 k9.chance.least, .int .i64 k9.chance.most, .int .i64 k9.chance.all] ∧ w'.cell? ⟨b2, o2 + y * 5, none⟩ = some (.int .i64 lw.act) ∧ w'.cell? ⟨b2, o2 + y * 5 + 1, none⟩ = some (.int .i64 lw.level) else True := ⟨_, rfl⟩
              have hS0 : ∀ w', S 0 w' ↔ (Blk w' cb 26 #[.slice am c.members.length cm2, .slice (some ⟨b2, o2, none⟩) c.laws.length cl2, .slice av c.levels.length cv] ∧ Blk w' mb 76 #[.int .i64 m.target, .int .i64 m.act, .int .i64 m.opened, .int .i64 m.state, .int .i64 m.yes, .int .i64 m.no, (.slice Am vl qm), .int .i64 m.fact] ∧ Blk w' kb 71 #[.int .i64 k9.target, .int .i64 k9.level, .int .i64 k9.item, .int .i64 k9.chance.least, .int .i64 k9.chance.most, .int .i64 k9.chance.all] ∧ w'.cell? ⟨b2, o2 + y * 5, none⟩ = some (.int .i64 lw.act) ∧ w'.cell? ⟨b2, o2 + y * 5 + 1, none⟩ = some (.int .i64 lw.level)) := fun w' => by rw [hS]; exact Iff.rfl
              have hS1 : ∀ w', S 1 w' ↔ (True) := fun w' => by rw [hS]; exact Iff.rfl
              clear hS
              have cl := fun (q : Ev (S 0)) i => ((hS0 _).1 q.h).1.cell i
              have cm := fun (q : Ev (S 0)) i => ((hS0 _).1 q.h).2.1.cell i
              have ck := fun (q : Ev (S 0)) i => ((hS0 _).1 q.h).2.2.1.cell i
              have d0 := fun (q : Ev (S 0)) => ((hS0 _).1 q.h).2.2.2.1
              have d1 := fun (q : Ev (S 0)) => ((hS0 _).1 q.h).2.2.2.2
              by_cases hact : lw.act = m.act
              · have g1 : (lw.act == m.act) = true := by simpa using hact
                have g2 : ¬ k9.level < lw.level := by have := hlv' hact; omega
                clear hact hlv'
                have hevT := ev_true
                refine wp_region_ord S [(0, 0), (1, 1), (2, 0), (3, 0), (4, 0), (5, 1), (6, 0), (7, 1), (8, 0), (9, 0), (10, 0), (11, 0), (12, 0), (13, 0), (14, 1), (15, 0), (16, 0), (17, 0), (18, 1), (19, 0), (20, 1), (21, 0), (22, 0), (23, 0)] [] (by kernel_rfl) (by kernel_rfl) ((hS0 _).2 ⟨e1, e2, e3, e4, e5⟩) ?_
                intro _hev
                iterate 24 (first | (refine wpOrd_v rfl rfl ?_; intro K hK; go_big_quiet_op; go_big_quiet_on) | (refine wpOrd_q rfl rfl ?_; intro K hK; go_big_quiet_op; go_big_quiet_on) | refine wpOrd_s (by decide) rfl rfl ?_)
                refine wpOrd_nil ?_
                clear hevT _hev
                clear hS0 hS1 S cl cm ck d0 d1 e1 e2 e3 e4 e5
                go_wp2
                go_roundw
                case rel => exact ⟨y + 1, by congr 1, by omega, hnext.out⟩
                case measure => simp [intOf]; omega
              · have g1 : (lw.act == m.act) = false := by simpa using hact
                clear hact hlv'
                have hevT := ev_true
                refine wp_region_ord S [(0, 0), (1, 1), (2, 0), (3, 0), (4, 0), (5, 1), (6, 0), (7, 1), (8, 0), (9, 0), (10, 0), (11, 0), (12, 0), (13, 0), (14, 1), (15, 0), (16, 0), (17, 0), (18, 1), (19, 0), (20, 1), (21, 0), (22, 0), (23, 0)] [] (by kernel_rfl) (by kernel_rfl) ((hS0 _).2 ⟨e1, e2, e3, e4, e5⟩) ?_
                intro _hev
                first | (refine wpOrd_v rfl rfl ?_; intro K hK; go_big_quiet_op; go_big_quiet_on) | (refine wpOrd_q rfl rfl ?_; intro K hK; go_big_quiet_op; go_big_quiet_on)
                first | (refine wpOrd_v rfl rfl ?_; intro K hK; go_big_quiet_op; go_big_quiet_on) | (refine wpOrd_q rfl rfl ?_; intro K hK; go_big_quiet_op; go_big_quiet_on)
                first | (refine wpOrd_v rfl rfl ?_; intro K hK; go_big_quiet_op; go_big_quiet_on) | (refine wpOrd_q rfl rfl ?_; intro K hK; go_big_quiet_op; go_big_quiet_on)
                first | (refine wpOrd_v rfl rfl ?_; intro K hK; go_big_quiet_op; go_big_quiet_on) | (refine wpOrd_q rfl rfl ?_; intro K hK; go_big_quiet_op; go_big_quiet_on)
                first | (refine wpOrd_v rfl rfl ?_; intro K hK; go_big_quiet_op; go_big_quiet_on) | (refine wpOrd_q rfl rfl ?_; intro K hK; go_big_quiet_op; go_big_quiet_on)
                first | (refine wpOrd_v rfl rfl ?_; intro K hK; go_big_quiet_op; go_big_quiet_on) | (refine wpOrd_q rfl rfl ?_; intro K hK; go_big_quiet_op; go_big_quiet_on)
                first | (refine wpOrd_v rfl rfl ?_; intro K hK; go_big_quiet_op; go_big_quiet_on) | (refine wpOrd_q rfl rfl ?_; intro K hK; go_big_quiet_op; go_big_quiet_on)
                first | (refine wpOrd_v rfl rfl ?_; intro K hK; go_big_quiet_op; go_big_quiet_on) | (refine wpOrd_q rfl rfl ?_; intro K hK; go_big_quiet_op; go_big_quiet_on)
                first | (refine wpOrd_v rfl rfl ?_; intro K hK; go_big_quiet_op; go_big_quiet_on) | (refine wpOrd_q rfl rfl ?_; intro K hK; go_big_quiet_op; go_big_quiet_on)
                first | (refine wpOrd_v rfl rfl ?_; intro K hK; go_big_quiet_op; go_big_quiet_on) | (refine wpOrd_q rfl rfl ?_; intro K hK; go_big_quiet_op; go_big_quiet_on)
                refine wpOrd_s2 (by decide) rfl rfl rfl ?_; intro K hK; go_big_quiet_op; go_big_quiet_on
                refine wpOrd_s2 (by decide) rfl rfl rfl ?_; intro K hK; go_big_quiet_op; go_big_quiet_on
                refine wpOrd_s2 (by decide) rfl rfl rfl ?_; intro K hK; go_big_quiet_op; go_big_quiet_on
                refine wpOrd_s2 (by decide) rfl rfl rfl ?_; intro K hK; go_big_quiet_op; go_big_quiet_on
                refine wpOrd_s2 (by decide) rfl rfl rfl ?_; intro K hK; go_big_quiet_op; go_big_quiet_on
                refine wpOrd_s2 (by decide) rfl rfl rfl ?_; intro K hK; go_big_quiet_op; go_big_quiet_on
                refine wpOrd_s2 (by decide) rfl rfl rfl ?_; intro K hK; go_big_quiet_op; go_big_quiet_on
                refine wpOrd_s2 (by decide) rfl rfl rfl ?_; intro K hK; go_big_quiet_op; go_big_quiet_on
                refine wpOrd_s2 (by decide) rfl rfl rfl ?_; intro K hK; go_big_quiet_op; go_big_quiet_on
                refine wpOrd_s2 (by decide) rfl rfl rfl ?_; intro K hK; go_big_quiet_op; go_big_quiet_on
                refine wpOrd_s2 (by decide) rfl rfl rfl ?_; intro K hK; go_big_quiet_op; go_big_quiet_on
                refine wpOrd_s2 (by decide) rfl rfl rfl ?_; intro K hK; go_big_quiet_op; go_big_quiet_on
                refine wpOrd_s2 (by decide) rfl rfl rfl ?_; intro K hK; go_big_quiet_op; go_big_quiet_on
                first | (refine wpOrd_v rfl rfl ?_; intro K hK; go_big_quiet_op; go_big_quiet_on) | (refine wpOrd_q rfl rfl ?_; intro K hK; go_big_quiet_op; go_big_quiet_on)
                refine wpOrd_nil ?_
                clear hevT _hev
                clear hS0 hS1 S cl cm ck d0 d1 e1 e2 e3 e4 e5
                go_wp2
                go_roundw
                case rel => exact ⟨y + 1, by congr 1, by omega, hnext.out⟩
                case measure => simp [intOf]; omega
            · have hst' : (m.state == 1) = false := by simpa using hst
              replace T := Lib.hid T
              clear hst kd
              go_wp2_with fail
              go_meet
              case rel => exact T.out
          · have hyy : ¬ (y : Int) < (c.laws.length : Int) := by omega
            replace T := Lib.hid T
            clear kd
            go_wp2_with fail
            go_meet
            case rel => exact T.out
      case rest =>
        clear T
        rename World => w8
        have T := hcut
        clear hcut hlev
        go_wp2_with fail
        go_loopw [14] (fun n wr => ∃ j : Nat, n = .int .i64 (j : Int) ∧ j ≤ i ∧ SeenM w cb hb mb kb V c ⟨⟨fa, fc, some ⟨b, o, none⟩, mc, sa, sc, vo⟩, xd⟩ x (.slice Am vl qm) m k9 wr) (fun n _ => ((i : Int) - intOf n).toNat)
        case atStart => exact ⟨0, rfl, Nat.zero_le _, T⟩
        case round =>
          clear T
          obtain ⟨j, rfl, hj, T⟩ := hrel
          have chh := fun i => T.s.hl.cell i
          have cm := fun i => T.m.cell i
          by_cases hj' : j < i
          · have hjj : (j : Int) < (i : Int) := by omega
            by_cases hst : m.state = 1
            · have hst' : (m.state == 1) = true := by simpa using hst
              obtain ⟨b2, o2, Am2, qm2, eM, -, -, hc⟩ := T.s.sa.r.mot j (by omega)
              have hpj := hpw.out j hj'
              obtain ⟨n, hn⟩ : ∃ m, m = x.real.motions[j] := ⟨_, rfl⟩
              rw [← hn] at hc hpj
              clear hn
              have eM' : (some ⟨b, o, none⟩ : Option Addr) = some ⟨b2, o2, none⟩ := eM
              simp only [Option.some.injEq, Addr.mk.injEq] at eM'
              obtain ⟨rfl, rfl, -⟩ := eM'
              clear eM
              obtain ⟨vl2, hvl⟩ : ∃ q, q = n.voted.length := ⟨_, rfl⟩
              rw [← hvl] at hc
              clear hvl
              have c0 : wr.cell? ⟨b, o + j * 8, none⟩ = some (.int .i64 n.target) := hc 0 _ rfl
              have c1 : wr.cell? ⟨b, o + j * 8 + 1, none⟩ = some (.int .i64 n.act) := by rw [Nat.add_assoc]; exact hc 1 _ rfl
              have c2 : wr.cell? ⟨b, o + j * 8 + 2, none⟩ = some (.int .i64 n.opened) := by rw [Nat.add_assoc]; exact hc 2 _ rfl
              have c3 : wr.cell? ⟨b, o + j * 8 + 3, none⟩ = some (.int .i64 n.state) := by rw [Nat.add_assoc]; exact hc 3 _ rfl
              have c4 : wr.cell? ⟨b, o + j * 8 + 4, none⟩ = some (.int .i64 n.yes) := by rw [Nat.add_assoc]; exact hc 4 _ rfl
              have c5 : wr.cell? ⟨b, o + j * 8 + 5, none⟩ = some (.int .i64 n.no) := by rw [Nat.add_assoc]; exact hc 5 _ rfl
              have c6 : wr.cell? ⟨b, o + j * 8 + 6, none⟩ = some (.slice Am2 vl2 qm2) := by rw [Nat.add_assoc]; exact hc 6 _ rfl
              have c7 : wr.cell? ⟨b, o + j * 8 + 7, none⟩ = some (.int .i64 n.fact) := by rw [Nat.add_assoc]; exact hc 7 _ rfl
              clear hc
              have NB := Blk.new wr 76 #[.int .i64 n.target, .int .i64 n.act, .int .i64 n.opened, .int .i64 n.state, .int .i64 n.yes, .int .i64 n.no, (.slice Am2 vl2 qm2), .int .i64 n.fact]
              have kn := Kp.new wr (.cells #[.int .i64 n.target, .int .i64 n.act, .int .i64 n.opened, .int .i64 n.state, .int .i64 n.yes, .int .i64 n.no, (.slice Am2 vl2 qm2), .int .i64 n.fact] 76)
              have hjm : (j : Int) < (x.real.motions.length : Int) := by omega
              replace T := T.kpN kn
              clear kn
              replace hpj := Lib.hid hpj
              go_upto_region 19 with (fail)
              clear c0 c1 c2 c3 c4 c5 c6 c7 chh cm
              obtain ⟨nb, hnb⟩ : ∃ q, q = wr.heap.size := ⟨_, rfl⟩
              rw [← hnb] at NB ⊢
              clear hnb
              change Code.wp _ _ _ _ (wr.alloc (.cells #[.int .i64 n.target, .int .i64 n.act, .int .i64 n.opened, .int .i64 n.state, .int .i64 n.yes, .int .i64 n.no, (.slice Am2 vl2 qm2), .int .i64 n.fact] 76))
              generalize wr.alloc (.cells #[.int .i64 n.target, .int .i64 n.act, .int .i64 n.opened, .int .i64 n.state, .int .i64 n.yes, .int .i64 n.no, (.slice Am2 vl2 qm2), .int .i64 n.fact] 76) = w9 at T NB ⊢
              have cm := fun i => T.m.cell i
              have cn := fun i => NB.cell i
              replace T := Lib.hid T
              by_cases h1 : n.state = 1
              · have h1' : (n.state == 1) = true := by simpa using h1
                by_cases h2 : n.target = m.target
                · have h2' : (n.target == m.target) = true := by simpa using h2
                  have h3 : (n.act == m.act) = false := by simp only [beq_eq_false_iff_ne]; exact fun h3 => hpj.out h1 hst ⟨h2, h3⟩
                  clear h1 h2 hst
                  go_wp2
                  go_roundw
                  case rel => exact ⟨j + 1, by congr 1, by omega, T.out⟩
                  case measure => simp [intOf]; omega
                · have h2' : (n.target == m.target) = false := by simpa using h2
                  clear h1 h2 hst
                  go_wp2
                  go_roundw
                  case rel => exact ⟨j + 1, by congr 1, by omega, T.out⟩
                  case measure => simp [intOf]; omega
              · have h1' : (n.state == 1) = false := by simpa using h1
                clear h1 hst
                go_wp2
                go_roundw
                case rel => exact ⟨j + 1, by congr 1, by omega, T.out⟩
                case measure => simp [intOf]; omega
            · have hst' : (m.state == 1) = false := by simpa using hst
              replace T := Lib.hid T
              clear hst
              go_wp2
              go_roundw
              case rel => exact ⟨i + 1, by congr 1, by omega, T.out.s⟩
              case measure => simp [intOf]; omega
          · have hjj : ¬ (j : Int) < (i : Int) := by omega
            replace T := Lib.hid T
            go_wp2
            go_roundw
            case rel => exact ⟨i + 1, by congr 1, by omega, T.out.s⟩
            case measure => simp [intOf]; omega
    · have hii : ¬ (i : Int) < (x.real.motions.length : Int) := by omega
      have hst := S.kp
      go_wp2_with fail
      refine (awake_any wr).mono ?_
      rintro e w5 ⟨rfl, k5⟩
      have K9 := hst.thenN k5 (Nat.le_refl _)
      clear S hst k5 ch
      go_wp2
      go_ret
      exact ⟨rfl, K9⟩
end Go.Proofs.Ytogpgnljomchcaa
