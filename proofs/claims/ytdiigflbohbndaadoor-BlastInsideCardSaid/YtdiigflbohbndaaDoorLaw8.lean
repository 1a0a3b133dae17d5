/- The statement on rocks inside others: its walk. -/
import Derived.Test.YtdiigflbohbndaaDoorMade
namespace Go.Proofs.YtdiigflbohbndaaDoor
open Go.RowKit

def isIn (x y : Blow) : Bool := decide (x.layer = y.layer) && (decide (x.lo ≤ x.hi) && decide (y.lo ≤ x.lo) && decide (x.hi ≤ y.hi))
theorem any_succ {α : Type} (p : α → Bool) (l : List α) (j : Nat) (hj : j < l.length) : (l.take (j + 1)).any p = ((l.take j).any p || p l[j]) := by
  rw [List.take_succ_eq_append_getElem hj, List.any_append]
  simp
def InO (n : Nat) (w0 : World) (v15 : Value) (wr : World) : Prop := ∃ i : Nat, v15 = .int .i64 i ∧ i ≤ n ∧ Kp w0.heap.size none w0 wr
def InI (x : Blow) (bl : List Blow) (w0 : World) (v16 v17 : Value) (wr : World) : Prop :=
  ∃ j : Nat, v17 = .int .i64 j ∧ j ≤ bl.length ∧ v16 = .bool ((bl.take j).any (isIn x)) ∧ Kp w0.heap.size none w0 wr
set_option maxRecDepth 100000 in
set_option maxHeartbeats 4000000 in
theorem law_BlastInside_any (A : Option Addr) (cap : Nat) (nums : List Int) (w : World) (h : Rd none w 1 (fun x => [Value.int .i64 x]) A nums.length nums) (hn : nums.length ≤ 17592186044416) (hb : Bnd w) :
    Calls Tryd.prog 11 #[.slice A nums.length cap] w fun e w' => e = .returned (.bool true) ∧ Kp w.heap.size none w w' := by
  go_enter Tryd.func11, Tryd.ntmps11
  go_wp2_with fail
  refine (newRing_any A cap nums _ h hn).mono ?_
  rintro e w1 ⟨g, rfl, hg, hr, K1⟩
  go_wp2_with fail
  refine (rockOf_any g nums 0 _ hr (by omega)).mono ?_
  rintro e w2 ⟨v, rfl, ⟨r, f, rfl, hrk, -⟩, hr2, k2⟩
  have K2 := K1.thenOwn k2 (Nat.le_refl _) hg
  clear k2 K1 hr h hn
  have hz2 : g < w2.heap.size := hr2.lt
  have hw2 : w.heap.size ≤ w2.heap.size := K2.size
  have KQ := (K2.alloc K2.size (.cells #[.int .i64 r.size.lo, .int .i64 r.size.hi, .int .i64 r.dens.lo, .int .i64 r.dens.hi, .int .i64 r.strong.lo, .int .i64 r.strong.hi, .int .i64 r.spin.lo, .int .i64 r.spin.hi, .int .i64 r.shape.lo, .int .i64 r.shape.hi, .bool r.pile] 28)).alloc (alloc_ge K2.size _) (.cells #[.int .i64 f.speed.lo, .int .i64 f.speed.hi, .int .i64 f.slope.lo, .int .i64 f.slope.hi] 30)
  have HR := (hr2.alloc (.cells #[.int .i64 r.size.lo, .int .i64 r.size.hi, .int .i64 r.dens.lo, .int .i64 r.dens.hi, .int .i64 r.strong.lo, .int .i64 r.strong.hi, .int .i64 r.spin.lo, .int .i64 r.spin.hi, .int .i64 r.shape.lo, .int .i64 r.shape.hi, .bool r.pile] 28)).alloc (.cells #[.int .i64 f.speed.lo, .int .i64 f.speed.hi, .int .i64 f.slope.lo, .int .i64 f.slope.hi] 30)
  have RB := (Blk.new w2 28 #[.int .i64 r.size.lo, .int .i64 r.size.hi, .int .i64 r.dens.lo, .int .i64 r.dens.hi, .int .i64 r.strong.lo, .int .i64 r.strong.hi, .int .i64 r.spin.lo, .int .i64 r.spin.hi, .int .i64 r.shape.lo, .int .i64 r.shape.hi, .bool r.pile]).alloc (.cells #[.int .i64 f.speed.lo, .int .i64 f.speed.hi, .int .i64 f.slope.lo, .int .i64 f.slope.hi] 30)
  have FB := Blk.newAt (w2.alloc (.cells #[.int .i64 r.size.lo, .int .i64 r.size.hi, .int .i64 r.dens.lo, .int .i64 r.dens.hi, .int .i64 r.strong.lo, .int .i64 r.strong.hi, .int .i64 r.spin.lo, .int .i64 r.spin.hi, .int .i64 r.shape.lo, .int .i64 r.shape.hi, .bool r.pile] 28)) 30 #[.int .i64 f.speed.lo, .int .i64 f.speed.hi, .int .i64 f.slope.lo, .int .i64 f.slope.hi] (n := w2.heap.size + 1) (by simp)
  clear hr2 K2
  go_wp2_with fail
  obtain ⟨b1, hb1⟩ : ∃ q, q = w2.heap.size := ⟨_, rfl⟩
  rw [← hb1] at RB FB hz2 hw2 ⊢
  generalize (w2.alloc (.cells #[.int .i64 r.size.lo, .int .i64 r.size.hi, .int .i64 r.dens.lo, .int .i64 r.dens.hi, .int .i64 r.strong.lo, .int .i64 r.strong.hi, .int .i64 r.spin.lo, .int .i64 r.spin.hi, .int .i64 r.shape.lo, .int .i64 r.shape.hi, .bool r.pile] 28)).alloc (.cells #[.int .i64 f.speed.lo, .int .i64 f.speed.hi, .int .i64 f.slope.lo, .int .i64 f.slope.hi] 30) = w3 at *
  clear hb1
  have hne0 : some b1 ≠ some g := sne (by omega)
  have hne1 : some (b1 + 1) ≠ some g := sne (by omega)
  refine (layersOf_any g nums _ _ HR (by omega)).mono ?_
  rintro e w4 ⟨v, k4', rfl, ⟨A1, c1, ls, rfl, hL, hl6, hlo, -⟩, hk4, HR4, k4⟩
  replace RB := RB.kp k4 RB.lt hne0
  replace FB := FB.kp k4 FB.lt hne1
  replace KQ := KQ.thenOwn k4 (Nat.le_refl _) hg
  have hair := Lib.hid (air_made hl6 hlo)
  clear k4 HR hlo
  go_wp2_with fail
  refine (gradesOf_any g nums _ _ HR4 (by omega)).mono ?_
  rintro e w5 ⟨v, k5', rfl, ⟨A2, c2, gs, rfl, hG, hgs, -, -⟩, hk5, HR5, k5⟩
  replace hL := hL.kp k5
  replace RB := RB.kp k5 RB.lt hne0
  replace FB := FB.kp k5 FB.lt hne1
  replace KQ := KQ.thenOwn k5 (Nat.le_refl _) hg
  replace hgs := Lib.hid hgs
  clear k5 HR4
  go_wp2_with fail
  refine (landOf_any g nums _ _ HR5 (by omega)).mono ?_
  rintro e w6 ⟨v, k6', rfl, ⟨A3, c3, A4, c4, ps, bs, rfl, hP, hQ, hbl, hp1, hp16, hpp, hc3, -⟩, hk6, HR6, k6⟩
  replace hL := hL.kp k6
  replace hG := hG.kp k6
  replace RB := RB.kp k6 RB.lt hne0
  replace FB := FB.kp k6 FB.lt hne1
  replace KQ := KQ.thenOwn k6 (Nat.le_refl _) hg
  have hok := Lib.hid (land_made hbl hp1 hp16 hpp)
  clear k6 HR5 hbl hpp
  have LX := Blk.new w6 54 #[.slice A3 ps.length c3, .slice A4 bs.length c4]
  have k7 := (Kp.refl w6.heap.size none w6).alloc (Nat.le_refl _) (.cells #[.slice A3 ps.length c3, .slice A4 bs.length c4] 54)
  have hgb8 : g < w6.heap.size := HR6.lt
  replace hL := hL.kpN k7
  replace hG := hG.kpN k7
  replace hP := hP.kpN k7
  replace hQ := hQ.kpN k7
  replace RB := RB.kpN k7
  replace FB := FB.kpN k7
  replace HR6 := HR6.kpN k7
  replace KQ := KQ.thenN k7 (Nat.le_refl _)
  clear k7
  go_upto_region 4 with (fail)
  obtain ⟨b8, hb8⟩ : ∃ q, q = w6.heap.size := ⟨_, rfl⟩
  rw [← hb8] at LX hgb8 ⊢
  generalize w6.alloc (.cells #[.slice A3 ps.length c3, .slice A4 bs.length c4] 54) = w7 at *
  clear hb8
  have hkk : k6' ≤ 500 := by omega
  clear hk4 hk5 hk6
  have cl := fun i => LX.cell i
  have cr := fun i => RB.cell i
  have cf := fun i => FB.cell i
  go_wp2_with fail
  refine (lessRock_any g nums k6' r f _ HR6 (by omega) hrk).mono ?_
  rintro e w8 ⟨v, rfl, ⟨r', f', rfl, hrk', hin, hfin⟩, HR8, k8⟩
  replace hL := hL.kp k8
  replace hG := hG.kp k8
  replace hP := hP.kp k8
  replace hQ := hQ.kp k8
  replace RB := RB.kp k8 RB.lt hne0
  replace FB := FB.kp k8 FB.lt hne1
  replace LX := LX.kp k8 LX.lt (sne (by omega))
  replace KQ := KQ.thenOwn k8 (Nat.le_refl _) hg
  have hgw8 : g < w8.heap.size := HR8.lt
  have RL := (Blk.new w8 28 #[.int .i64 r'.size.lo, .int .i64 r'.size.hi, .int .i64 r'.dens.lo, .int .i64 r'.dens.hi, .int .i64 r'.strong.lo, .int .i64 r'.strong.hi, .int .i64 r'.spin.lo, .int .i64 r'.spin.hi, .int .i64 r'.shape.lo, .int .i64 r'.shape.hi, .bool r'.pile]).alloc (.cells #[.int .i64 f'.speed.lo, .int .i64 f'.speed.hi, .int .i64 f'.slope.lo, .int .i64 f'.slope.hi] 30)
  have FL := Blk.newAt (w8.alloc (.cells #[.int .i64 r'.size.lo, .int .i64 r'.size.hi, .int .i64 r'.dens.lo, .int .i64 r'.dens.hi, .int .i64 r'.strong.lo, .int .i64 r'.strong.hi, .int .i64 r'.spin.lo, .int .i64 r'.spin.hi, .int .i64 r'.shape.lo, .int .i64 r'.shape.hi, .bool r'.pile] 28)) 30 #[.int .i64 f'.speed.lo, .int .i64 f'.speed.hi, .int .i64 f'.slope.lo, .int .i64 f'.slope.hi] (n := w8.heap.size + 1) (by simp)
  have k9 := ((Kp.refl w8.heap.size none w8).alloc (Nat.le_refl _) (.cells #[.int .i64 r'.size.lo, .int .i64 r'.size.hi, .int .i64 r'.dens.lo, .int .i64 r'.dens.hi, .int .i64 r'.strong.lo, .int .i64 r'.strong.hi, .int .i64 r'.spin.lo, .int .i64 r'.spin.hi, .int .i64 r'.shape.lo, .int .i64 r'.shape.hi, .bool r'.pile] 28)).alloc (by simp) (.cells #[.int .i64 f'.speed.lo, .int .i64 f'.speed.hi, .int .i64 f'.slope.lo, .int .i64 f'.slope.hi] 30)
  replace hL := hL.kpN k9
  replace hG := hG.kpN k9
  replace hP := hP.kpN k9
  replace hQ := hQ.kpN k9
  replace RB := RB.kpN k9
  replace FB := FB.kpN k9
  replace LX := LX.kpN k9
  replace HR8 := HR8.kpN k9
  replace KQ := KQ.thenN k9 (Nat.le_refl _)
  replace hrk := Lib.hid hrk
  replace hrk' := Lib.hid hrk'
  replace hin := Lib.hid hin
  replace hfin := Lib.hid hfin
  clear k8 k9 HR6 cl cr cf
  have crl := fun i => RL.cell i
  have cfl := fun i => FL.cell i
  go_wp2_with fail
  obtain ⟨b9, hb9⟩ : ∃ q, q = w8.heap.size := ⟨_, rfl⟩
  rw [← hb9] at RL FL hgw8 ⊢
  generalize (w8.alloc (.cells #[.int .i64 r'.size.lo, .int .i64 r'.size.hi, .int .i64 r'.dens.lo, .int .i64 r'.dens.hi, .int .i64 r'.strong.lo, .int .i64 r'.strong.hi, .int .i64 r'.spin.lo, .int .i64 r'.spin.hi, .int .i64 r'.shape.lo, .int .i64 r'.shape.hi, .bool r'.pile] 28)).alloc (.cells #[.int .i64 f'.speed.lo, .int .i64 f'.speed.hi, .int .i64 f'.slope.lo, .int .i64 f'.slope.hi] 30) = w9 at *
  clear hb9
  refine (blows_made A1 c1 ls r' f' _ hL.free (hb.kpN KQ) hair.out hrk'.out).mono ?_
  rintro e w10 ⟨⟨B1, d1, rfl, hB1⟩, k10⟩
  replace hL := hL.kpN k10
  replace hG := hG.kpN k10
  replace hP := hP.kpN k10
  replace hQ := hQ.kpN k10
  replace RB := RB.kpN k10
  replace FB := FB.kpN k10
  replace RL := RL.kpN k10
  replace FL := FL.kpN k10
  replace LX := LX.kpN k10
  replace HR8 := HR8.kpN k10
  replace KQ := KQ.thenN k10 (Nat.le_refl _)
  clear k10 crl cfl
  have cr := fun i => RB.cell i
  have cf := fun i => FB.cell i
  go_wp2_with fail
  refine (blows_made A1 c1 ls r f _ hL.free (hb.kpN KQ) hair.out hrk.out).mono ?_
  rintro e w11 ⟨⟨B2, d2, rfl, hB2⟩, k11⟩
  replace hL := hL.kpN k11
  replace hG := hG.kpN k11
  replace hP := hP.kpN k11
  replace hQ := hQ.kpN k11
  replace RB := RB.kpN k11
  replace FB := FB.kpN k11
  replace RL := RL.kpN k11
  replace FL := FL.kpN k11
  replace LX := LX.kpN k11
  replace HR8 := HR8.kpN k11
  replace hB1 := hB1.kpN k11
  replace KQ := KQ.thenN k11 (Nat.le_refl _)
  clear k11 cr cf
  go_wp2_with fail
  have hall : ∀ x ∈ blowsOf ls r' f', (blowsOf ls r f).any (isIn x) = true := fun x hx => by
    obtain ⟨y, hy, q1, q2, q3, q4⟩ := blowsOf_inside (air_lay hair.out) hrk.out hrk'.out hin.out hfin.out x hx
    exact List.any_eq_true.2 ⟨y, hy, by simp [isIn, q1, q2, q3, q4]⟩
  have hlen : ∀ r f, (blowsOf ls r f).length ≤ 7 := fun r f => by
    have := blowsFrom_len (weakS r f) (strongS r f) ls 0 (f.speed.lo * f.speed.lo) (f.speed.hi * f.speed.hi)
    unfold blowsOf; omega
  have hl1 := hlen r' f'
  have hl2 := hlen r f
  have hpos := blowsOf_some (air_lay hair.out) hrk'.out
  clear hlen
  obtain ⟨bl, hbl⟩ : ∃ x, x = blowsOf ls r' f' := ⟨_, rfl⟩
  obtain ⟨bk, hbk⟩ : ∃ x, x = blowsOf ls r f := ⟨_, rfl⟩
  rw [← hbl, ← hbk] at hall
  rw [← hbl] at hB1 hl1 hpos ⊢
  rw [← hbk] at hB2 hl2 ⊢
  replace hbl := Lib.hid hbl
  replace hbk := Lib.hid hbk
  replace hall := Lib.hid hall
  go_loopw [15] (fun v15 wr => InO bl.length w11 v15 wr) (fun v _ => bl.length - (intOf v).toNat)
  case atStart => exact ⟨0, rfl, by omega, Kp.refl _ _ _⟩
  case round =>
    obtain ⟨i, rfl, hi1, KK⟩ := hrel
    by_cases h7 : i < bl.length
    · have h7' : (i : Int) < (bl.length : Int) := by omega
      have hix := hall.out bl[i] (List.getElem_mem h7)
      replace hB1 := hB1.kpN KK
      replace hB2 := hB2.kpN KK
      obtain ⟨b, o, rfl, hbx, -, hcc⟩ := hB1.at_ (by omega)
      have d0 : wr.cell? ⟨b, o + i * 3, none⟩ = some (.int .i64 bl[i].layer) := hcc i h7 0 _ rfl
      have d1' : wr.cell? ⟨b, o + i * 3 + 1, none⟩ = some (.int .i64 bl[i].lo) := hcc i h7 1 _ rfl
      have d2' : wr.cell? ⟨b, o + i * 3 + 2, none⟩ = some (.int .i64 bl[i].hi) := hcc i h7 2 _ rfl
      generalize bl[i] = x at hix d0 d1' d2'
      obtain ⟨x1, x2, x3⟩ := x
      dsimp only at d0 d1' d2'
      replace hix := Lib.hid hix
      clear hcc hB1
      go_wp2_with fail
      go_loopw [16, 17] (fun v16 v17 wx => InI ⟨x1, x2, x3⟩ bk wr v16 v17 wx) (fun _ v _ => bk.length - (intOf v).toNat)
      case atStart => exact ⟨0, rfl, by omega, rfl, Kp.refl _ _ _⟩
      case round =>
        obtain ⟨j, rfl, hj, rfl, KI⟩ := hrel
        by_cases h8 : j < bk.length
        · have hbx2 : b < wr.heap.size := Nat.lt_of_lt_of_le hbx KI.size
          have e0 := (KI.cell b _ hbx (by simp)).trans d0
          have e1 := (KI.cell b _ hbx (by simp)).trans d1'
          have e2 := (KI.cell b _ hbx (by simp)).trans d2'
          obtain ⟨b', o', rfl, hbx', -, hcc⟩ := (hB2.kpN KI).at_ (by omega)
          have f0 : wr.cell? ⟨b', o' + j * 3, none⟩ = some (.int .i64 bk[j].layer) := hcc j h8 0 _ rfl
          have f1' : wr.cell? ⟨b', o' + j * 3 + 1, none⟩ = some (.int .i64 bk[j].lo) := hcc j h8 1 _ rfl
          have f2' : wr.cell? ⟨b', o' + j * 3 + 2, none⟩ = some (.int .i64 bk[j].hi) := hcc j h8 2 _ rfl
          have hs := any_succ (isIn ⟨x1, x2, x3⟩) bk j h8
          generalize bk[j] = y at hs f0 f1' f2'
          obtain ⟨y1, y2, y3⟩ := y
          dsimp only at f0 f1' f2'
          have h8' : (j : Int) < (bk.length : Int) := by omega
          have hl1' : (bl.length : Int) ≤ 7 := by omega
          have hl2' : (bk.length : Int) ≤ 7 := by omega
          generalize (bk.take j).any (isIn ⟨x1, x2, x3⟩) = q at hs ⊢
          replace hs := Lib.hid hs
          clear hcc d0 d1' d2' hB2
          go_wp2_with fail
          cases q
          · by_cases hy : x1 = y1
            · subst hy
              replace e0 : wr.drew.cell? _ = _ := e0
              replace e1 : wr.drew.cell? _ = _ := e1
              replace e2 : wr.drew.cell? _ = _ := e2
              replace f0 : wr.drew.cell? _ = _ := f0
              replace f1' : wr.drew.cell? _ = _ := f1'
              replace f2' : wr.drew.cell? _ = _ := f2'
              replace KI := KI.drew
              obtain ⟨S, hS⟩ : ∃ S : Nat → World → Prop, S = fun _ w' => (w'.cell? ⟨b, o + i * 3, none⟩ = some (.int .i64 x1) ∧ w'.cell? ⟨b, o + i * 3 + 1, none⟩ = some (.int .i64 x2) ∧ w'.cell? ⟨b, o + i * 3 + 2, none⟩ = some (.int .i64 x3)) ∧ (w'.cell? ⟨b', o' + j * 3, none⟩ = some (.int .i64 x1) ∧ w'.cell? ⟨b', o' + j * 3 + 1, none⟩ = some (.int .i64 y2) ∧ w'.cell? ⟨b', o' + j * 3 + 2, none⟩ = some (.int .i64 y3)) := ⟨_, rfl⟩
              have hS0 : ∀ w', S 0 w' ↔ ((w'.cell? ⟨b, o + i * 3, none⟩ = some (.int .i64 x1) ∧ w'.cell? ⟨b, o + i * 3 + 1, none⟩ = some (.int .i64 x2) ∧ w'.cell? ⟨b, o + i * 3 + 2, none⟩ = some (.int .i64 x3)) ∧ (w'.cell? ⟨b', o' + j * 3, none⟩ = some (.int .i64 x1) ∧ w'.cell? ⟨b', o' + j * 3 + 1, none⟩ = some (.int .i64 y2) ∧ w'.cell? ⟨b', o' + j * 3 + 2, none⟩ = some (.int .i64 y3))) := fun w' => by rw [hS]
              clear hS
              have g0 := fun q : Ev (S 0) => ((hS0 _).1 q.h).1.1
              have g1 := fun q : Ev (S 0) => ((hS0 _).1 q.h).1.2.1
              have g2 := fun q : Ev (S 0) => ((hS0 _).1 q.h).1.2.2
              have g3 := fun q : Ev (S 0) => ((hS0 _).1 q.h).2.1
              have g4 := fun q : Ev (S 0) => ((hS0 _).1 q.h).2.2.1
              have g5 := fun q : Ev (S 0) => ((hS0 _).1 q.h).2.2.2
              have hevT := ev_true
              refine wp_region_ord S [(0, 0), (1, 0), (2, 0), (3, 0), (4, 0), (5, 0), (6, 1), (7, 0), (8, 0), (9, 0), (10, 0), (11, 1), (12, 0), (13, 0), (14, 0), (15, 0), (16, 0), (17, 0), (18, 1), (19, 0), (20, 0), (21, 0), (22, 0), (23, 1), (24, 2), (25, 0), (26, 0), (27, 0)] [] (by kernel_rfl) (by kernel_rfl) ((hS0 _).2 ⟨⟨e0, e1, e2⟩, ⟨f0, f1', f2'⟩⟩) ?_
              intro _hev
              iterate 24 (first | (refine wpOrd_v rfl rfl ?_; intro K hK; go_big_quiet_op; go_big_quiet_on) | (refine wpOrd_q rfl rfl ?_; intro K hK; go_big_quiet_op; go_big_quiet_on) | refine wpOrd_s (by decide) rfl rfl ?_)
              refine wpOrd_l rfl rfl ?_; intro K hK
              go_step
              refine (insideSpan_any ⟨x2, x3⟩ ⟨y2, y3⟩ _).mono ?_
              rintro e w5 ⟨rfl, k5⟩
              replace KI := KI.thenN k5 (Nat.le_refl _)
              replace e0 := (k5.cell _ _ (show b < wr.drew.heap.size from hbx2) (by simp)).trans e0
              replace e1 := (k5.cell _ _ (show b < wr.drew.heap.size from hbx2) (by simp)).trans e1
              replace e2 := (k5.cell _ _ (show b < wr.drew.heap.size from hbx2) (by simp)).trans e2
              replace f0 := (k5.cell _ _ (show b' < wr.drew.heap.size from hbx') (by simp)).trans f0
              replace f1' := (k5.cell _ _ (show b' < wr.drew.heap.size from hbx') (by simp)).trans f1'
              replace f2' := (k5.cell _ _ (show b' < wr.drew.heap.size from hbx') (by simp)).trans f2'
              refine hK _ _ ((hS0 _).2 ⟨⟨e0, e1, e2⟩, ⟨f0, f1', f2'⟩⟩) ?_
              clear hK K k5
              iterate 3 (first | (refine wpOrd_v rfl rfl ?_; intro K hK; go_big_quiet_op; go_big_quiet_on) | (refine wpOrd_q rfl rfl ?_; intro K hK; go_big_quiet_op; go_big_quiet_on) | refine wpOrd_s (by decide) rfl rfl ?_)
              refine wpOrd_nil ?_
              clear hevT _hev
              clear g0 g1 g2 g3 g4 g5 hS0 S
              go_wp2
              go_roundw
              case rel => exact ⟨j + 1, rfl, by omega, congrArg Value.bool (by rw [hs.out]; simp [isIn]), KI⟩
              case measure => simp [intOf]; omega
            · have hy2 : (x1 == y1) = false := by simp [hy]
              have hy3 : decide (x1 = y1) = false := by simp [hy]
              replace e0 : wr.drew.cell? _ = _ := e0
              replace e1 : wr.drew.cell? _ = _ := e1
              replace e2 : wr.drew.cell? _ = _ := e2
              replace f0 : wr.drew.cell? _ = _ := f0
              replace f1' : wr.drew.cell? _ = _ := f1'
              replace f2' : wr.drew.cell? _ = _ := f2'
              replace KI := KI.drew
              obtain ⟨S, hS⟩ : ∃ S : Nat → World → Prop, S = fun _ w' => (w'.cell? ⟨b, o + i * 3, none⟩ = some (.int .i64 x1) ∧ w'.cell? ⟨b, o + i * 3 + 1, none⟩ = some (.int .i64 x2) ∧ w'.cell? ⟨b, o + i * 3 + 2, none⟩ = some (.int .i64 x3)) ∧ (w'.cell? ⟨b', o' + j * 3, none⟩ = some (.int .i64 y1) ∧ w'.cell? ⟨b', o' + j * 3 + 1, none⟩ = some (.int .i64 y2) ∧ w'.cell? ⟨b', o' + j * 3 + 2, none⟩ = some (.int .i64 y3)) := ⟨_, rfl⟩
              have hS0 : ∀ w', S 0 w' ↔ ((w'.cell? ⟨b, o + i * 3, none⟩ = some (.int .i64 x1) ∧ w'.cell? ⟨b, o + i * 3 + 1, none⟩ = some (.int .i64 x2) ∧ w'.cell? ⟨b, o + i * 3 + 2, none⟩ = some (.int .i64 x3)) ∧ (w'.cell? ⟨b', o' + j * 3, none⟩ = some (.int .i64 y1) ∧ w'.cell? ⟨b', o' + j * 3 + 1, none⟩ = some (.int .i64 y2) ∧ w'.cell? ⟨b', o' + j * 3 + 2, none⟩ = some (.int .i64 y3))) := fun w' => by rw [hS]
              clear hS
              have g0 := fun q : Ev (S 0) => ((hS0 _).1 q.h).1.1
              have g1 := fun q : Ev (S 0) => ((hS0 _).1 q.h).1.2.1
              have g2 := fun q : Ev (S 0) => ((hS0 _).1 q.h).1.2.2
              have g3 := fun q : Ev (S 0) => ((hS0 _).1 q.h).2.1
              have g4 := fun q : Ev (S 0) => ((hS0 _).1 q.h).2.2.1
              have g5 := fun q : Ev (S 0) => ((hS0 _).1 q.h).2.2.2
              have hevT := ev_true
              refine wp_region_ord S [(0, 0), (1, 0), (2, 0), (3, 0), (4, 0), (5, 0), (6, 1), (7, 0), (8, 0), (9, 0), (10, 0), (11, 1), (12, 0), (13, 0), (14, 0), (15, 0), (16, 0), (17, 0), (18, 1), (19, 0), (20, 0), (21, 0), (22, 0), (23, 1), (24, 2), (25, 0), (26, 0), (27, 0)] [] (by kernel_rfl) (by kernel_rfl) ((hS0 _).2 ⟨⟨e0, e1, e2⟩, ⟨f0, f1', f2'⟩⟩) ?_
              intro _hev
              first | (refine wpOrd_v rfl rfl ?_; intro K hK; go_big_quiet_op; go_big_quiet_on) | (refine wpOrd_q rfl rfl ?_; intro K hK; go_big_quiet_op; go_big_quiet_on)
              first | (refine wpOrd_v rfl rfl ?_; intro K hK; go_big_quiet_op; go_big_quiet_on) | (refine wpOrd_q rfl rfl ?_; intro K hK; go_big_quiet_op; go_big_quiet_on)
              first | (refine wpOrd_v rfl rfl ?_; intro K hK; go_big_quiet_op; go_big_quiet_on) | (refine wpOrd_q rfl rfl ?_; intro K hK; go_big_quiet_op; go_big_quiet_on)
              first | (refine wpOrd_v rfl rfl ?_; intro K hK; go_big_quiet_op; go_big_quiet_on) | (refine wpOrd_q rfl rfl ?_; intro K hK; go_big_quiet_op; go_big_quiet_on)
              first | (refine wpOrd_v rfl rfl ?_; intro K hK; go_big_quiet_op; go_big_quiet_on) | (refine wpOrd_q rfl rfl ?_; intro K hK; go_big_quiet_op; go_big_quiet_on)
              first | (refine wpOrd_v rfl rfl ?_; intro K hK; go_big_quiet_op; go_big_quiet_on) | (refine wpOrd_q rfl rfl ?_; intro K hK; go_big_quiet_op; go_big_quiet_on)
              first | (refine wpOrd_v rfl rfl ?_; intro K hK; go_big_quiet_op; go_big_quiet_on) | (refine wpOrd_q rfl rfl ?_; intro K hK; go_big_quiet_op; go_big_quiet_on)
              first | (refine wpOrd_v rfl rfl ?_; intro K hK; go_big_quiet_op; go_big_quiet_on) | (refine wpOrd_q rfl rfl ?_; intro K hK; go_big_quiet_op; go_big_quiet_on)
              first | (refine wpOrd_v rfl rfl ?_; intro K hK; go_big_quiet_op; go_big_quiet_on) | (refine wpOrd_q rfl rfl ?_; intro K hK; go_big_quiet_op; go_big_quiet_on)
              first | (refine wpOrd_v rfl rfl ?_; intro K hK; go_big_quiet_op; go_big_quiet_on) | (refine wpOrd_q rfl rfl ?_; intro K hK; go_big_quiet_op; go_big_quiet_on)
              first | (refine wpOrd_v rfl rfl ?_; intro K hK; go_big_quiet_op; go_big_quiet_on) | (refine wpOrd_q rfl rfl ?_; intro K hK; go_big_quiet_op; go_big_quiet_on)
              first | (refine wpOrd_v rfl rfl ?_; intro K hK; go_big_quiet_op; go_big_quiet_on) | (refine wpOrd_q rfl rfl ?_; intro K hK; go_big_quiet_op; go_big_quiet_on)
              first | (refine wpOrd_v rfl rfl ?_; intro K hK; go_big_quiet_op; go_big_quiet_on) | (refine wpOrd_q rfl rfl ?_; intro K hK; go_big_quiet_op; go_big_quiet_on)
              first | (refine wpOrd_v rfl rfl ?_; intro K hK; go_big_quiet_op; go_big_quiet_on) | (refine wpOrd_q rfl rfl ?_; intro K hK; go_big_quiet_op; go_big_quiet_on)
              refine wpOrd_s2 (by decide) rfl rfl rfl ?_; intro K hK; go_big_quiet_op; go_big_quiet_on
              refine wpOrd_s2 (by decide) rfl rfl rfl ?_; intro K hK; go_big_quiet_op; go_big_quiet_on
              refine wpOrd_s2 (by decide) rfl rfl rfl ?_; intro K hK; go_big_quiet_op; go_big_quiet_on
              refine wpOrd_s2 (by decide) rfl rfl rfl ?_; intro K hK; go_big_quiet_op; go_big_quiet_on
              refine wpOrd_s2 (by decide) rfl rfl rfl ?_; intro K hK; go_big_quiet_op; go_big_quiet_on
              refine wpOrd_s2 (by decide) rfl rfl rfl ?_; intro K hK; go_big_quiet_op; go_big_quiet_on
              refine wpOrd_s2 (by decide) rfl rfl rfl ?_; intro K hK; go_big_quiet_op; go_big_quiet_on
              refine wpOrd_s2 (by decide) rfl rfl rfl ?_; intro K hK; go_big_quiet_op; go_big_quiet_on
              refine wpOrd_s2 (by decide) rfl rfl rfl ?_; intro K hK; go_big_quiet_op; go_big_quiet_on
              refine wpOrd_s2 (by decide) rfl rfl rfl ?_; intro K hK; go_big_quiet_op; go_big_quiet_on
              refine wpOrd_s2 (by decide) rfl rfl rfl ?_; intro K hK; go_big_quiet_op; go_big_quiet_on
              iterate 3 (first | (refine wpOrd_v rfl rfl ?_; intro K hK; go_big_quiet_op; go_big_quiet_on) | (refine wpOrd_q rfl rfl ?_; intro K hK; go_big_quiet_op; go_big_quiet_on) | refine wpOrd_s (by decide) rfl rfl ?_)
              refine wpOrd_nil ?_
              clear hevT _hev
              clear g0 g1 g2 g3 g4 g5 hS0 S
              go_wp2
              go_roundw
              case rel => exact ⟨j + 1, rfl, by omega, congrArg Value.bool (by rw [hs.out]; simp [isIn, hy]), KI⟩
              case measure => simp [intOf]; omega
          ·
            replace e0 : wr.drew.cell? _ = _ := e0
            replace e1 : wr.drew.cell? _ = _ := e1
            replace e2 : wr.drew.cell? _ = _ := e2
            replace f0 : wr.drew.cell? _ = _ := f0
            replace f1' : wr.drew.cell? _ = _ := f1'
            replace f2' : wr.drew.cell? _ = _ := f2'
            replace KI := KI.drew
            obtain ⟨S, hS⟩ : ∃ S : Nat → World → Prop, S = fun _ w' => (w'.cell? ⟨b, o + i * 3, none⟩ = some (.int .i64 x1) ∧ w'.cell? ⟨b, o + i * 3 + 1, none⟩ = some (.int .i64 x2) ∧ w'.cell? ⟨b, o + i * 3 + 2, none⟩ = some (.int .i64 x3)) ∧ (w'.cell? ⟨b', o' + j * 3, none⟩ = some (.int .i64 y1) ∧ w'.cell? ⟨b', o' + j * 3 + 1, none⟩ = some (.int .i64 y2) ∧ w'.cell? ⟨b', o' + j * 3 + 2, none⟩ = some (.int .i64 y3)) := ⟨_, rfl⟩
            have hS0 : ∀ w', S 0 w' ↔ ((w'.cell? ⟨b, o + i * 3, none⟩ = some (.int .i64 x1) ∧ w'.cell? ⟨b, o + i * 3 + 1, none⟩ = some (.int .i64 x2) ∧ w'.cell? ⟨b, o + i * 3 + 2, none⟩ = some (.int .i64 x3)) ∧ (w'.cell? ⟨b', o' + j * 3, none⟩ = some (.int .i64 y1) ∧ w'.cell? ⟨b', o' + j * 3 + 1, none⟩ = some (.int .i64 y2) ∧ w'.cell? ⟨b', o' + j * 3 + 2, none⟩ = some (.int .i64 y3))) := fun w' => by rw [hS]
            clear hS
            have g0 := fun q : Ev (S 0) => ((hS0 _).1 q.h).1.1
            have g1 := fun q : Ev (S 0) => ((hS0 _).1 q.h).1.2.1
            have g2 := fun q : Ev (S 0) => ((hS0 _).1 q.h).1.2.2
            have g3 := fun q : Ev (S 0) => ((hS0 _).1 q.h).2.1
            have g4 := fun q : Ev (S 0) => ((hS0 _).1 q.h).2.2.1
            have g5 := fun q : Ev (S 0) => ((hS0 _).1 q.h).2.2.2
            have hevT := ev_true
            refine wp_region_ord S [(0, 0), (1, 0), (2, 0), (3, 0), (4, 0), (5, 0), (6, 1), (7, 0), (8, 0), (9, 0), (10, 0), (11, 1), (12, 0), (13, 0), (14, 0), (15, 0), (16, 0), (17, 0), (18, 1), (19, 0), (20, 0), (21, 0), (22, 0), (23, 1), (24, 2), (25, 0), (26, 0), (27, 0)] [] (by kernel_rfl) (by kernel_rfl) ((hS0 _).2 ⟨⟨e0, e1, e2⟩, ⟨f0, f1', f2'⟩⟩) ?_
            intro _hev
            first | (refine wpOrd_v rfl rfl ?_; intro K hK; go_big_quiet_op; go_big_quiet_on) | (refine wpOrd_q rfl rfl ?_; intro K hK; go_big_quiet_op; go_big_quiet_on)
            first | (refine wpOrd_v rfl rfl ?_; intro K hK; go_big_quiet_op; go_big_quiet_on) | (refine wpOrd_q rfl rfl ?_; intro K hK; go_big_quiet_op; go_big_quiet_on)
            refine wpOrd_s2 (by decide) rfl rfl rfl ?_; intro K hK; go_big_quiet_op; go_big_quiet_on
            refine wpOrd_s2 (by decide) rfl rfl rfl ?_; intro K hK; go_big_quiet_op; go_big_quiet_on
            refine wpOrd_s2 (by decide) rfl rfl rfl ?_; intro K hK; go_big_quiet_op; go_big_quiet_on
            refine wpOrd_s2 (by decide) rfl rfl rfl ?_; intro K hK; go_big_quiet_op; go_big_quiet_on
            refine wpOrd_s2 (by decide) rfl rfl rfl ?_; intro K hK; go_big_quiet_op; go_big_quiet_on
            refine wpOrd_s2 (by decide) rfl rfl rfl ?_; intro K hK; go_big_quiet_op; go_big_quiet_on
            refine wpOrd_s2 (by decide) rfl rfl rfl ?_; intro K hK; go_big_quiet_op; go_big_quiet_on
            refine wpOrd_s2 (by decide) rfl rfl rfl ?_; intro K hK; go_big_quiet_op; go_big_quiet_on
            refine wpOrd_s2 (by decide) rfl rfl rfl ?_; intro K hK; go_big_quiet_op; go_big_quiet_on
            refine wpOrd_s2 (by decide) rfl rfl rfl ?_; intro K hK; go_big_quiet_op; go_big_quiet_on
            refine wpOrd_s2 (by decide) rfl rfl rfl ?_; intro K hK; go_big_quiet_op; go_big_quiet_on
            refine wpOrd_s2 (by decide) rfl rfl rfl ?_; intro K hK; go_big_quiet_op; go_big_quiet_on
            refine wpOrd_s2 (by decide) rfl rfl rfl ?_; intro K hK; go_big_quiet_op; go_big_quiet_on
            refine wpOrd_s2 (by decide) rfl rfl rfl ?_; intro K hK; go_big_quiet_op; go_big_quiet_on
            refine wpOrd_s2 (by decide) rfl rfl rfl ?_; intro K hK; go_big_quiet_op; go_big_quiet_on
            refine wpOrd_s2 (by decide) rfl rfl rfl ?_; intro K hK; go_big_quiet_op; go_big_quiet_on
            refine wpOrd_s2 (by decide) rfl rfl rfl ?_; intro K hK; go_big_quiet_op; go_big_quiet_on
            refine wpOrd_s2 (by decide) rfl rfl rfl ?_; intro K hK; go_big_quiet_op; go_big_quiet_on
            refine wpOrd_s2 (by decide) rfl rfl rfl ?_; intro K hK; go_big_quiet_op; go_big_quiet_on
            refine wpOrd_s2 (by decide) rfl rfl rfl ?_; intro K hK; go_big_quiet_op; go_big_quiet_on
            refine wpOrd_s2 (by decide) rfl rfl rfl ?_; intro K hK; go_big_quiet_op; go_big_quiet_on
            refine wpOrd_s2 (by decide) rfl rfl rfl ?_; intro K hK; go_big_quiet_op; go_big_quiet_on
            refine wpOrd_s2 (by decide) rfl rfl rfl ?_; intro K hK; go_big_quiet_op; go_big_quiet_on
            refine wpOrd_s2 (by decide) rfl rfl rfl ?_; intro K hK; go_big_quiet_op; go_big_quiet_on
            first | (refine wpOrd_v rfl rfl ?_; intro K hK; go_big_quiet_op; go_big_quiet_on) | (refine wpOrd_q rfl rfl ?_; intro K hK; go_big_quiet_op; go_big_quiet_on)
            first | (refine wpOrd_v rfl rfl ?_; intro K hK; go_big_quiet_op; go_big_quiet_on) | (refine wpOrd_q rfl rfl ?_; intro K hK; go_big_quiet_op; go_big_quiet_on)
            refine wpOrd_nil ?_
            clear hevT _hev
            clear g0 g1 g2 g3 g4 g5 hS0 S
            go_wp2
            go_roundw
            case rel => exact ⟨j + 1, rfl, by omega, congrArg Value.bool (by rw [hs.out]; rfl), KI⟩
            case measure => simp [intOf]; omega
        · obtain rfl : j = bk.length := by omega
          have h8' : ¬ (bk.length : Int) < (bk.length : Int) := by omega
          have hv : (bk.take bk.length).any (isIn ⟨x1, x2, x3⟩) = true := by rw [List.take_length]; exact hix.out
          have KW := KK.thenN KI (Nat.le_refl _)
          rw [hv]
          clear h8 hv
          go_wp2
          go_roundw
          case rel => exact ⟨i + 1, rfl, by omega, KW⟩
          case measure => simp [intOf]; omega
    · have h7' : ¬ (i : Int) < (bl.length : Int) := by omega
      replace HR8 := HR8.kpN KK
      replace hL := hL.kpN KK
      replace hG := hG.kpN KK
      replace hP := hP.kpN KK
      replace hQ := hQ.kpN KK
      replace RB := RB.kpN KK
      replace FB := FB.kpN KK
      replace RL := RL.kpN KK
      replace FL := FL.kpN KK
      replace LX := LX.kpN KK
      replace KQ := KQ.thenN KK (Nat.le_refl _)
      clear hall hB1 hB2
      have cl := fun i => LX.cell i
      have hpl16 : (ps.length : Int) ≤ 16 := by omega
      go_wp2_with fail
      refine (next_any g nums _ _ _ HR8 (by omega) (by omega) (by omega)).mono ?_
      rintro e w12 ⟨v, rfl, ⟨x, rfl, hx0, hx1⟩, HR9, k12⟩
      obtain ⟨fr, rfl⟩ := Int.eq_ofNat_of_zero_le hx0
      replace hL := hL.kp k12
      replace hG := hG.kp k12
      replace hP := hP.kp k12
      replace hQ := hQ.kp k12
      replace RB := RB.kp k12 RB.lt hne0
      replace FB := FB.kp k12 FB.lt hne1
      replace RL := RL.kp k12 RL.lt (sne (by omega))
      replace FL := FL.kp k12 FL.lt (sne (by omega))
      replace LX := LX.kp k12 LX.lt (sne (by omega))
      replace KQ := KQ.thenOwn k12 (Nat.le_refl _) hg
      clear k12 HR8 cl KK
      go_wp2_with fail
      refine (next_any g nums _ _ _ HR9 (by omega) (by omega) (by omega)).mono ?_
      rintro e w13 ⟨v, rfl, ⟨y, rfl, hy0, hy1⟩, HR10, k13⟩
      obtain ⟨dy, rfl⟩ := Int.eq_ofNat_of_zero_le hy0
      replace hL := (hL.kp k13).free
      replace hG := (hG.kp k13).free
      replace hP := (hP.kp k13).free
      replace hQ := (hQ.kp k13).free
      replace RB := RB.kp k13 RB.lt hne0
      replace FB := FB.kp k13 FB.lt hne1
      replace RL := RL.kp k13 RL.lt (sne (by omega))
      replace FL := FL.kp k13 FL.lt (sne (by omega))
      replace LX := LX.kp k13 LX.lt (sne (by omega))
      replace KQ := KQ.thenOwn k13 (Nat.le_refl _) hg
      clear k13 HR9 HR10
      have hq1 : (fr : Int) + (dy : Int) < (ps.length : Int) := by omega
      have cl := fun i => LX.cell i
      have cr := fun i => RL.cell i
      have cf := fun i => FL.cell i
      go_wp2_with fail
      obtain ⟨fi, hfi⟩ : ∃ fi, fi = fr + dy := ⟨_, rfl⟩
      have hfi2 : ((fr : Int) + (dy : Int)) = (fi : Int) := by omega
      have hff : fr ≤ fi := by omega
      have hfp : fi < ps.length := by omega
      rw [hfi2]
      clear hfi hfi2 hq1 hy0 hy1 hx0 hx1
      have g1 := toll_good (gs := gs) hair.out hrk'.out hok.out hff hfp
      have g2 := toll_good (gs := gs) hair.out hrk.out hok.out hff hfp
      have g3 := toll_good (gs := gs) (fr := 0) (fi := ps.length - 1) hair.out hrk.out hok.out (by omega) (by omega)
      have hm : ∀ (x en en' : Int) a, a < ps.length → en ≤ en' → harmsOf ls.length gs ps bs x en a ≤ harmsOf ls.length gs ps bs x en' a := fun _ _ _ _ ha hle => harmsOf_mono hgs.out hok.out ha hle
      have i1 := g1.inside g2 (fun a x ⟨hax, hxm⟩ => by
        obtain ⟨y, hy, q1, q2, q3, q4⟩ := blowsOf_inside (air_lay hair.out) hrk.out hrk'.out hin.out hfin.out x hxm
        exact ⟨y, ⟨hax, hy⟩, by rw [q1]; exact hm _ _ _ _ (by omega) q2, hm _ _ _ _ (by omega) q3, by rw [q1]; exact hm _ _ _ _ (by omega) q4⟩)
      have i2 := g2.inside g3 (fun a x ⟨hax, hxm⟩ => by
        obtain ⟨y, hy, q1, q2, q3, q4⟩ := blowsOf_inside (air_lay hair.out) hrk.out hrk.out ⟨⟨Int.le_refl _, Int.le_refl _⟩, ⟨Int.le_refl _, Int.le_refl _⟩, ⟨Int.le_refl _, Int.le_refl _⟩, ⟨Int.le_refl _, Int.le_refl _⟩, ⟨Int.le_refl _, Int.le_refl _⟩, rfl⟩ ⟨⟨Int.le_refl _, Int.le_refl _⟩, ⟨Int.le_refl _, Int.le_refl _⟩⟩ x hxm
        exact ⟨y, ⟨by omega, hy⟩, by rw [q1]; exact hm _ _ _ _ (by omega) q2, hm _ _ _ _ (by omega) q3, by rw [q1]; exact hm _ _ _ _ (by omega) q4⟩)
      clear g1 g2 g3 hm
      have t1 := toll_made A1 c1 ls A2 c2 gs A3 A4 c3 c4 ps bs r' f' fr fi
      have t2 := toll_made A1 c1 ls A2 c2 gs A3 A4 c3 c4 ps bs r f fr fi
      have t3 := toll_made A1 c1 ls A2 c2 gs A3 A4 c3 c4 ps bs r f 0 (ps.length - 1)
      generalize tollOf (harmsOf ls.length gs ps bs) (blowsOf ls r' f') fr fi = T1 at t1 i1
      generalize tollOf (harmsOf ls.length gs ps bs) (blowsOf ls r f) fr fi = T2 at t2 i1 i2
      generalize tollOf (harmsOf ls.length gs ps bs) (blowsOf ls r f) 0 (ps.length - 1) = T3 at t3 i2
      replace t2 := Lib.hid t2
      replace t3 := Lib.hid t3
      replace i1 := Lib.hid i1
      replace i2 := Lib.hid i2
      refine (t1 _ hL hG hP hQ hc3 (hb.kpN KQ) hair.out hrk'.out hgs.out hok.out hff hfp).mono ?_
      clear t1
      rintro e w14 ⟨rfl, k14⟩
      replace hL := hL.kpN k14
      replace hG := hG.kpN k14
      replace hP := hP.kpN k14
      replace hQ := hQ.kpN k14
      replace RB := RB.kpN k14
      replace FB := FB.kpN k14
      replace RL := RL.kpN k14
      replace FL := FL.kpN k14
      replace LX := LX.kpN k14
      replace KQ := KQ.thenN k14 (Nat.le_refl _)
      have S14 := Blk.new w14 26 #[.int .i64 T1.lo, .int .i64 T1.hi]
      have m14 := (Kp.refl w14.heap.size none w14).alloc (Nat.le_refl _) (.cells #[.int .i64 T1.lo, .int .i64 T1.hi] 26)
      replace hL := hL.kpN m14
      replace hG := hG.kpN m14
      replace hP := hP.kpN m14
      replace hQ := hQ.kpN m14
      replace RB := RB.kpN m14
      replace FB := FB.kpN m14
      replace RL := RL.kpN m14
      replace FL := FL.kpN m14
      replace LX := LX.kpN m14
      replace KQ := KQ.thenN m14 (Nat.le_refl _)
      clear k14 m14 cl cr cf
      have cl := fun i => LX.cell i
      have cr := fun i => RB.cell i
      have cf := fun i => FB.cell i
      go_wp2_with fail
      obtain ⟨v14, hv14⟩ : ∃ q, q = w14.heap.size := ⟨_, rfl⟩
      rw [← hv14] at S14 ⊢
      generalize w14.alloc (.cells #[.int .i64 T1.lo, .int .i64 T1.hi] 26) = z14 at *
      clear hv14
      refine (t2.out _ hL hG hP hQ hc3 (hb.kpN KQ) hair.out hrk.out hgs.out hok.out hff hfp).mono ?_
      clear t2
      rintro e w15 ⟨rfl, k15⟩
      replace hL := hL.kpN k15
      replace hG := hG.kpN k15
      replace hP := hP.kpN k15
      replace hQ := hQ.kpN k15
      replace RB := RB.kpN k15
      replace FB := FB.kpN k15
      replace RL := RL.kpN k15
      replace FL := FL.kpN k15
      replace LX := LX.kpN k15
      replace KQ := KQ.thenN k15 (Nat.le_refl _)
      replace S14 := S14.kpN k15
      have S15 := Blk.new w15 26 #[.int .i64 T2.lo, .int .i64 T2.hi]
      have m15 := (Kp.refl w15.heap.size none w15).alloc (Nat.le_refl _) (.cells #[.int .i64 T2.lo, .int .i64 T2.hi] 26)
      replace hL := hL.kpN m15
      replace hG := hG.kpN m15
      replace hP := hP.kpN m15
      replace hQ := hQ.kpN m15
      replace RB := RB.kpN m15
      replace FB := FB.kpN m15
      replace RL := RL.kpN m15
      replace FL := FL.kpN m15
      replace LX := LX.kpN m15
      replace KQ := KQ.thenN m15 (Nat.le_refl _)
      replace S14 := S14.kpN m15
      clear k15 m15 cl cr cf
      have cl := fun i => LX.cell i
      have cr := fun i => RB.cell i
      have cf := fun i => FB.cell i
      have hpm : ((ps.length : Int) - 1) = ((ps.length - 1 : Nat) : Int) := by omega
      go_wp2_with fail
      obtain ⟨v15, hv15⟩ : ∃ q, q = w15.heap.size := ⟨_, rfl⟩
      rw [← hv15] at S15 ⊢
      generalize w15.alloc (.cells #[.int .i64 T2.lo, .int .i64 T2.hi] 26) = z15 at *
      clear hv15
      refine (t3.out _ hL hG hP hQ hc3 (hb.kpN KQ) hair.out hrk.out hgs.out hok.out (by omega) (by omega)).mono ?_
      clear t3
      rintro e w16 ⟨rfl, k16⟩
      replace S14 := S14.kpN k16
      replace S15 := S15.kpN k16
      replace KQ := KQ.thenN k16 (Nat.le_refl _)
      have S16 := Blk.new w16 26 #[.int .i64 T3.lo, .int .i64 T3.hi]
      have m16 := (Kp.refl w16.heap.size none w16).alloc (Nat.le_refl _) (.cells #[.int .i64 T3.lo, .int .i64 T3.hi] 26)
      replace S14 := S14.kpN m16
      replace S15 := S15.kpN m16
      replace KQ := KQ.thenN m16 (Nat.le_refl _)
      clear k16 m16 cl cr cf hL hG hP hQ RB FB RL FL LX
      have c14 := fun i => S14.cell i
      have c15 := fun i => S15.cell i
      obtain ⟨a1, a2, a3⟩ := i1.out
      obtain ⟨b1', b2', b3'⟩ := i2.out
      have bb1 : (decide (T1.lo ≤ T1.hi) && decide (T2.lo ≤ T1.lo) && decide (T1.hi ≤ T2.hi)) = true := by simp [a1, a2, a3]
      have bb2 : (decide (T2.lo ≤ T2.hi) && decide (T3.lo ≤ T2.lo) && decide (T2.hi ≤ T3.hi)) = true := by simp [b1', b2', b3']
      replace bb1 := Lib.hid bb1
      replace bb2 := Lib.hid bb2
      clear a1 a2 a3 b1' b2' b3' i1 i2
      have hpos' : (0 : Int) < (bl.length : Int) := by omega
      go_wp2_with fail
      refine (insideSpan_any ⟨T1.lo, T1.hi⟩ ⟨T2.lo, T2.hi⟩ _).mono ?_
      rintro e w17 ⟨rfl, k17⟩
      dsimp only
      rw [bb1.out]
      replace S15 := S15.kpN k17
      replace S16 := S16.kpN k17
      replace KQ := KQ.thenN k17 (Nat.le_refl _)
      clear k17 c14 c15 S14
      have c15 := fun i => S15.cell i
      have c16 := fun i => S16.cell i
      go_wp2_with fail
      refine (insideSpan_any ⟨T2.lo, T2.hi⟩ ⟨T3.lo, T3.hi⟩ _).mono ?_
      rintro e w18 ⟨rfl, k18⟩
      dsimp only
      rw [bb2.out]
      replace KQ := KQ.thenN k18 (Nat.le_refl _)
      clear k18 c15 c16 S15 S16
      go_wp2_with fail
      refine (awake_any _ (hb.kpN KQ)).mono ?_
      rintro e w20 ⟨rfl, k20⟩
      have K20 := KQ.thenN k20 (Nat.le_refl _)
      go_wp2
      exact bodyPost_ret (v := .bool true) (by simp [results, Tryd.results11, go_sem]) rfl ⟨rfl, K20⟩
end Go.Proofs.YtdiigflbohbndaaDoor
