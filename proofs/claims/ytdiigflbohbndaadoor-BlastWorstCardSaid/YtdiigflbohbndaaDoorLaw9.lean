/- The statement on the worst cell: its walk. -/
import Derived.Test.YtdiigflbohbndaaDoorMade
namespace Go.Proofs.YtdiigflbohbndaaDoor
open Go.RowKit

/-- The greatest harm of the blows at a cell. -/
def mostOf (H : Int → Int → Nat → Int) (i : Nat) : List Blow → Int → Int
  | [], m => m
  | b :: bl, m => mostOf H i bl (max m (H b.layer b.hi i))
theorem most_ge (H : Int → Int → Nat → Int) (i : Nat) : ∀ (bl : List Blow) (m : Int), m ≤ mostOf H i bl m
  | [], _ => Int.le_refl _
  | _ :: bl, _ => Int.le_trans (Int.le_max_left _ _) (most_ge H i bl _)
theorem most_all (H : Int → Int → Nat → Int) (i : Nat) : ∀ (bl : List Blow) (m : Int), ∀ b ∈ bl, H b.layer b.hi i ≤ mostOf H i bl m
  | [], _, b, hb => by cases hb
  | c :: bl, m, b, hb => by
    rcases List.mem_cons.1 hb with rfl | hb
    · exact Int.le_trans (Int.le_max_right m _) (most_ge H i bl _)
    · exact most_all H i bl _ b hb
theorem most_one (H : Int → Int → Nat → Int) (i : Nat) : ∀ (bl : List Blow) (m : Int), mostOf H i bl m = m ∨ ∃ b ∈ bl, mostOf H i bl m = H b.layer b.hi i
  | [], _ => .inl rfl
  | b :: bl, m => by
    rcases most_one H i bl (max m (H b.layer b.hi i)) with h | ⟨c, hc, h⟩
    · rcases Int.le_total m (H b.layer b.hi i) with hm | hm
      · rw [Int.max_eq_right hm] at h
        exact .inr ⟨b, List.mem_cons_self, by unfold mostOf; rw [Int.max_eq_right hm]; exact h⟩
      · rw [Int.max_eq_left hm] at h
        exact .inl (by unfold mostOf; rw [Int.max_eq_left hm]; exact h)
    · exact .inr ⟨c, List.mem_cons_of_mem _ hc, h⟩
theorem most_worst {H : Int → Int → Nat → Int} {fr fi : Nat} {bl : List Blow} {s : TS} (h : Good H (fun a x => (fr ≤ a ∧ a ≤ fi) ∧ x ∈ bl) s) (h0 : ∀ a, fr ≤ a → a ≤ fi → ∀ x ∈ bl, 0 ≤ H x.layer x.hi a) {i : Nat} (h1 : fr ≤ i) (h2 : i ≤ s.wo) : mostOf H i bl (-1) = s.hi ↔ i = s.wo := by
  obtain ⟨b, ⟨hr, hb⟩, he⟩ := h.hi
  constructor
  · intro k
    rcases Nat.lt_or_ge i s.wo with hlt | hge
    · exfalso
      rcases most_one H i bl (-1) with q | ⟨c, hc, q⟩
      · have := h0 s.wo hr.1 hr.2 b hb
        omega
      · have := h.first i c ⟨⟨h1, by omega⟩, hc⟩ hlt
        omega
    · omega
  · rintro rfl
    have hge := most_all H s.wo bl (-1) b hb
    rcases most_one H s.wo bl (-1) with q | ⟨c, hc, q⟩
    · have := h0 s.wo hr.1 hr.2 b hb
      omega
    · have := (h.all s.wo c ⟨hr, hc⟩).2
      omega
def WorO (fr wo : Nat) (w0 : World) (v18 : Value) (wr : World) : Prop := ∃ i : Nat, v18 = .int .i64 i ∧ fr ≤ i ∧ i ≤ wo + 1 ∧ Kp w0.heap.size none w0 wr
def WorI (H : Int → Int → Nat → Int) (bl : List Blow) (i : Nat) (w0 : World) (v19 v20 : Value) (wr : World) : Prop :=
  ∃ (j : Nat) (m : Int), v20 = .int .i64 j ∧ j ≤ bl.length ∧ v19 = .int .i64 m ∧ mostOf H i bl (-1) = mostOf H i (bl.drop j) m ∧ Kp w0.heap.size none w0 wr
set_option maxRecDepth 100000 in
set_option maxHeartbeats 4000000 in
theorem law_BlastWorst_any (A : Option Addr) (cap : Nat) (nums : List Int) (w : World) (h : Rd none w 1 (fun x => [Value.int .i64 x]) A nums.length nums) (hn : nums.length ≤ 17592186044416) (hb : Bnd w) :
    Calls Tryd.prog 13 #[.slice A nums.length cap] w fun e w' => e = .returned (.bool true) ∧ Kp w.heap.size none w w' := by
  go_enter Tryd.func13, Tryd.ntmps13
  go_wp2_with fail
  refine (newRing_any A cap nums _ h hn).mono ?_
  rintro e w1 ⟨g, rfl, hg, hr, K1⟩
  go_wp2_with fail
  refine (rockOf_any g nums 0 _ hr (by omega)).mono ?_
  rintro e w2 ⟨v, rfl, ⟨r, f, rfl, hrk, -⟩, hr2, k2⟩
  have K2 := K1.thenOwn k2 (Nat.le_refl _) hg
  clear k2 K1 hr h hn
  have hz2 : g < w2.heap.size := hr2.lt
  have hw2 : w.heap.size ≤ w2.heap.size := K2.size
  have KQ := (K2.alloc K2.size (.cells #[.int .i64 r.size.lo, .int .i64 r.size.hi, .int .i64 r.dens.lo, .int .i64 r.dens.hi, .int .i64 r.strong.lo, .int .i64 r.strong.hi, .int .i64 r.spin.lo, .int .i64 r.spin.hi, .int .i64 r.shape.lo, .int .i64 r.shape.hi, .bool r.pile] 28)).alloc (alloc_ge K2.size _) (.cells #[.int .i64 f.speed.lo, .int .i64 f.speed.hi, .int .i64 f.slope.lo, .int .i64 f.slope.hi] 30)
  have HR := (hr2.alloc (.cells #[.int .i64 r.size.lo, .int .i64 r.size.hi, .int .i64 r.dens.lo, .int .i64 r.dens.hi, .int .i64 r.strong.lo, .int .i64 r.strong.hi, .int .i64 r.spin.lo, .int .i64 r.spin.hi, .int .i64 r.shape.lo, .int .i64 r.shape.hi, .bool r.pile] 28)).alloc (.cells #[.int .i64 f.speed.lo, .int .i64 f.speed.hi, .int .i64 f.slope.lo, .int .i64 f.slope.hi] 30)
  have RB := (Blk.new w2 28 #[.int .i64 r.size.lo, .int .i64 r.size.hi, .int .i64 r.dens.lo, .int .i64 r.dens.hi, .int .i64 r.strong.lo, .int .i64 r.strong.hi, .int .i64 r.spin.lo, .int .i64 r.spin.hi, .int .i64 r.shape.lo, .int .i64 r.shape.hi, .bool r.pile]).alloc (.cells #[.int .i64 f.speed.lo, .int .i64 f.speed.hi, .int .i64 f.slope.lo, .int .i64 f.slope.hi] 30)
  have FB := Blk.newAt (w2.alloc (.cells #[.int .i64 r.size.lo, .int .i64 r.size.hi, .int .i64 r.dens.lo, .int .i64 r.dens.hi, .int .i64 r.strong.lo, .int .i64 r.strong.hi, .int .i64 r.spin.lo, .int .i64 r.spin.hi, .int .i64 r.shape.lo, .int .i64 r.shape.hi, .bool r.pile] 28)) 30 #[.int .i64 f.speed.lo, .int .i64 f.speed.hi, .int .i64 f.slope.lo, .int .i64 f.slope.hi] (n := w2.heap.size + 1) (by simp)
  clear hr2 K2
  go_wp2_with fail
  obtain ⟨b1, hb1⟩ : ∃ q, q = w2.heap.size := ⟨_, rfl⟩
  rw [← hb1] at RB FB hz2 hw2 ⊢
  generalize (w2.alloc (.cells #[.int .i64 r.size.lo, .int .i64 r.size.hi, .int .i64 r.dens.lo, .int .i64 r.dens.hi, .int .i64 r.strong.lo, .int .i64 r.strong.hi, .int .i64 r.spin.lo, .int .i64 r.spin.hi, .int .i64 r.shape.lo, .int .i64 r.shape.hi, .bool r.pile] 28)).alloc (.cells #[.int .i64 f.speed.lo, .int .i64 f.speed.hi, .int .i64 f.slope.lo, .int .i64 f.slope.hi] 30) = w3 at *
  clear hb1
  have hne0 : some b1 ≠ some g := sne (by omega)
  have hne1 : some (b1 + 1) ≠ some g := sne (by omega)
  refine (layersOf_any g nums _ _ HR (by omega)).mono ?_
  rintro e w4 ⟨v, k4', rfl, ⟨A1, c1, ls, rfl, hL, hl6, hlo, -⟩, hk4, HR4, k4⟩
  replace RB := RB.kp k4 RB.lt hne0
  replace FB := FB.kp k4 FB.lt hne1
  replace KQ := KQ.thenOwn k4 (Nat.le_refl _) hg
  have hair := Lib.hid (air_made hl6 hlo)
  clear k4 HR hlo
  go_wp2_with fail
  refine (gradesOf_any g nums _ _ HR4 (by omega)).mono ?_
  rintro e w5 ⟨v, k5', rfl, ⟨A2, c2, gs, rfl, hG, hgs, -, -⟩, hk5, HR5, k5⟩
  replace hL := hL.kp k5
  replace RB := RB.kp k5 RB.lt hne0
  replace FB := FB.kp k5 FB.lt hne1
  replace KQ := KQ.thenOwn k5 (Nat.le_refl _) hg
  replace hgs := Lib.hid hgs
  clear k5 HR4
  go_wp2_with fail
  refine (landOf_any g nums _ _ HR5 (by omega)).mono ?_
  rintro e w6 ⟨v, k6', rfl, ⟨A3, c3, A4, c4, ps, bs, rfl, hP, hQ, hbl, hp1, hp16, hpp, hc3, -⟩, hk6, HR6, k6⟩
  replace hL := hL.kp k6
  replace hG := hG.kp k6
  replace RB := RB.kp k6 RB.lt hne0
  replace FB := FB.kp k6 FB.lt hne1
  replace KQ := KQ.thenOwn k6 (Nat.le_refl _) hg
  have hok := Lib.hid (land_made hbl hp1 hp16 hpp)
  clear k6 HR5 hbl hpp
  have LX := Blk.new w6 54 #[.slice A3 ps.length c3, .slice A4 bs.length c4]
  have k7 := (Kp.refl w6.heap.size none w6).alloc (Nat.le_refl _) (.cells #[.slice A3 ps.length c3, .slice A4 bs.length c4] 54)
  have hgb8 : g < w6.heap.size := HR6.lt
  replace hL := hL.kpN k7
  replace hG := hG.kpN k7
  replace hP := hP.kpN k7
  replace hQ := hQ.kpN k7
  replace RB := RB.kpN k7
  replace FB := FB.kpN k7
  replace HR6 := HR6.kpN k7
  replace KQ := KQ.thenN k7 (Nat.le_refl _)
  clear k7
  go_upto_region 4 with (fail)
  obtain ⟨b8, hb8⟩ : ∃ q, q = w6.heap.size := ⟨_, rfl⟩
  rw [← hb8] at LX hgb8 ⊢
  generalize w6.alloc (.cells #[.slice A3 ps.length c3, .slice A4 bs.length c4] 54) = w7 at *
  clear hb8
  have hkk : k6' ≤ 500 := by omega
  clear hk4 hk5 hk6
  have cl := fun i => LX.cell i
  go_wp2_with fail
  refine (next_any g nums k6' _ _ HR6 (by omega) (by omega) (by omega)).mono ?_
  rintro e w8 ⟨v, rfl, ⟨x, rfl, hx0, hx1⟩, HR8, k8⟩
  obtain ⟨fr, rfl⟩ := Int.eq_ofNat_of_zero_le hx0
  replace hL := hL.kp k8
  replace hG := hG.kp k8
  replace hP := hP.kp k8
  replace hQ := hQ.kp k8
  replace RB := RB.kp k8 RB.lt hne0
  replace FB := FB.kp k8 FB.lt hne1
  replace LX := LX.kp k8 LX.lt (sne (by omega))
  replace KQ := KQ.thenOwn k8 (Nat.le_refl _) hg
  clear k8 HR6 cl
  have cl := fun i => LX.cell i
  have hpl16 : (ps.length : Int) ≤ 16 := by omega
  go_wp2_with fail
  refine (next_any g nums _ _ _ HR8 (by omega) (by omega) (by omega)).mono ?_
  rintro e w9 ⟨v, rfl, ⟨y, rfl, hy0, hy1⟩, HR9, k9⟩
  obtain ⟨dy, rfl⟩ := Int.eq_ofNat_of_zero_le hy0
  replace hL := (hL.kp k9).free
  replace hG := (hG.kp k9).free
  replace hP := (hP.kp k9).free
  replace hQ := (hQ.kp k9).free
  replace RB := RB.kp k9 RB.lt hne0
  replace FB := FB.kp k9 FB.lt hne1
  replace LX := LX.kp k9 LX.lt (sne (by omega))
  replace KQ := KQ.thenOwn k9 (Nat.le_refl _) hg
  clear k9 HR8 HR9 cl
  have hq1 : (fr : Int) + (dy : Int) < (ps.length : Int) := by omega
  have cl := fun i => LX.cell i
  have cr := fun i => RB.cell i
  have cf := fun i => FB.cell i
  replace hrk := Lib.hid hrk
  go_wp2_with fail
  obtain ⟨fi, hfi⟩ : ∃ fi, fi = fr + dy := ⟨_, rfl⟩
  have hfi2 : ((fr : Int) + (dy : Int)) = (fi : Int) := by omega
  have hff : fr ≤ fi := by omega
  have hfp : fi < ps.length := by omega
  rw [hfi2]
  clear hfi hfi2 hq1 hy0 hy1 hx0 hx1
  have hgood := toll_good (gs := gs) hair.out hrk.out hok.out hff hfp
  have hnn : ∀ a, fr ≤ a → a ≤ fi → ∀ x ∈ blowsOf ls r f, 0 ≤ harmsOf ls.length gs ps bs x.layer x.hi a := fun a _ h2 x _ => harmsOf_nonneg hok.out (by omega)
  have hrow := (hgood.hi).choose_spec.1.1
  refine (toll_made A1 c1 ls A2 c2 gs A3 A4 c3 c4 ps bs r f fr fi _ hL hG hP hQ hc3 (hb.kpN KQ) hair.out hrk.out hgs.out hok.out hff hfp).mono ?_
  rintro e w10 ⟨rfl, k10⟩
  have wo := worst_made A1 c1 ls A2 c2 gs A3 A4 c3 c4 ps bs r f fr fi
  obtain ⟨T, hT⟩ : ∃ T, T = tollOf (harmsOf ls.length gs ps bs) (blowsOf ls r f) fr fi := ⟨_, rfl⟩
  rw [← hT] at hgood hrow wo ⊢
  replace wo := Lib.hid wo
  replace hgood := Lib.hid hgood
  replace hnn := Lib.hid hnn
  clear hT
  replace hL := hL.kpN k10
  replace hG := hG.kpN k10
  replace hP := hP.kpN k10
  replace hQ := hQ.kpN k10
  replace RB := RB.kpN k10
  replace FB := FB.kpN k10
  replace LX := LX.kpN k10
  replace KQ := KQ.thenN k10 (Nat.le_refl _)
  have SX := Blk.new w10 26 #[.int .i64 T.lo, .int .i64 T.hi]
  have k11 := (Kp.refl w10.heap.size none w10).alloc (Nat.le_refl _) (.cells #[.int .i64 T.lo, .int .i64 T.hi] 26)
  replace hL := hL.kpN k11
  replace hG := hG.kpN k11
  replace hP := hP.kpN k11
  replace hQ := hQ.kpN k11
  replace RB := RB.kpN k11
  replace FB := FB.kpN k11
  replace LX := LX.kpN k11
  replace KQ := KQ.thenN k11 (Nat.le_refl _)
  clear k10 k11 cl cr cf
  have cl := fun i => LX.cell i
  have cr := fun i => RB.cell i
  have cf := fun i => FB.cell i
  go_wp2_with fail
  obtain ⟨bt, hbt⟩ : ∃ q, q = w10.heap.size := ⟨_, rfl⟩
  rw [← hbt] at SX ⊢
  generalize w10.alloc (.cells #[.int .i64 T.lo, .int .i64 T.hi] 26) = w11 at *
  clear hbt
  refine (wo.out _ hL hG hP hQ hc3 (hb.kpN KQ) hair.out hrk.out hgs.out hok.out hff hfp).mono ?_
  rintro e w12 ⟨rfl, k12⟩
  replace hL := hL.kpN k12
  replace hG := hG.kpN k12
  replace hP := hP.kpN k12
  replace hQ := hQ.kpN k12
  replace RB := RB.kpN k12
  replace FB := FB.kpN k12
  replace LX := LX.kpN k12
  replace SX := SX.kpN k12
  replace KQ := KQ.thenN k12 (Nat.le_refl _)
  clear k12 cl cr cf wo
  have cr := fun i => RB.cell i
  have cf := fun i => FB.cell i
  go_wp2_with fail
  refine (blows_made A1 c1 ls r f _ hL (hb.kpN KQ) hair.out hrk.out).mono ?_
  rintro e w13 ⟨⟨A9, c9, rfl, hB9⟩, k13⟩
  have hlay : ∀ x ∈ blowsOf ls r f, 0 ≤ x.layer ∧ x.layer ≤ (ls.length : Int) := fun x hx => by
    have := blows_from (weakS r f) (strongS r f) ls 0 _ _ x hx
    omega
  have hblen : (blowsOf ls r f).length ≤ 7 := by
    have := blowsFrom_len (weakS r f) (strongS r f) ls 0 (f.speed.lo * f.speed.lo) (f.speed.hi * f.speed.hi)
    unfold blowsOf; omega
  have hgd := hgood.out
  have hn9 := hnn.out
  clear hgood hnn
  generalize blowsOf ls r f = bl at *
  replace hgood := Lib.hid hgd
  replace hnn := Lib.hid hn9
  replace hlay := Lib.hid hlay
  replace hL := hL.kpN k13
  replace hG := hG.kpN k13
  replace hP := hP.kpN k13
  replace hQ := hQ.kpN k13
  replace LX := LX.kpN k13
  replace SX := SX.kpN k13
  replace KQ := KQ.thenN k13 (Nat.le_refl _)
  clear k13 cr cf RB FB hgd hn9
  have hw1 : ¬ (T.wo : Int) < (fr : Int) := by omega
  have hw2' : ¬ (fi : Int) < (T.wo : Int) := by omega
  go_wp2_with fail
  go_loopw [18] (fun v18 wr => WorO fr T.wo w13 v18 wr) (fun v _ => T.wo + 1 - (intOf v).toNat)
  case atStart => exact ⟨fr, rfl, Nat.le_refl _, by omega, Kp.refl _ _ _⟩
  case round =>
    obtain ⟨i, rfl, hi1, hi2, KK⟩ := hrel
    by_cases h7 : i ≤ T.wo
    · have h7' : (i : Int) ≤ (T.wo : Int) := by omega
      have hmw := most_worst hgood.out hnn.out hi1 h7
      replace hL := hL.kpN KK
      replace hG := hG.kpN KK
      replace hP := hP.kpN KK
      replace hQ := hQ.kpN KK
      replace hB9 := hB9.kpN KK
      replace LX := LX.kpN KK
      replace SX := SX.kpN KK
      clear hgood hnn
      go_wp2_with fail
      go_loopw [19, 20] (fun v19 v20 wx => WorI (harmsOf ls.length gs ps bs) bl i wr v19 v20 wx) (fun _ v _ => bl.length - (intOf v).toNat)
      case atStart => exact ⟨0, -1, rfl, by omega, rfl, rfl, Kp.refl _ _ _⟩
      case round =>
        obtain ⟨j, m, rfl, hj, rfl, hm, KI⟩ := hrel
        by_cases h8 : j < bl.length
        · obtain ⟨b, o, rfl, hbl2, -, hcc⟩ := (hB9.kpN KI).at_ (by omega)
          have d0 : wr.cell? ⟨b, o + j * 3, none⟩ = some (.int .i64 bl[j].layer) := hcc j h8 0 _ rfl
          have d2 : wr.cell? ⟨b, o + j * 3 + 2, none⟩ = some (.int .i64 bl[j].hi) := hcc j h8 2 _ rfl
          rw [List.drop_eq_getElem_cons h8] at hm
          have hxl := hlay.out bl[j] (List.getElem_mem h8)
          generalize bl[j] = x at d0 d2 hm hxl
          obtain ⟨x1, x2, x3⟩ := x
          dsimp only at d0 d2 hm hxl
          obtain ⟨U, hU⟩ : ∃ U, U = harmsOf ls.length gs ps bs x1 x3 i := ⟨_, rfl⟩
          replace hm : mostOf (harmsOf ls.length gs ps bs) i bl (-1) = mostOf (harmsOf ls.length gs ps bs) i (bl.drop (j + 1)) (max m U) := by rw [hm, hU]; rfl
          replace hm := Lib.hid hm
          replace hU := Lib.hid hU
          have hL4 := hL.kpN KI
          have hG4 := hG.kpN KI
          have hP4 := hP.kpN KI
          have hQ4 := hQ.kpN KI
          have LX4 := LX.kpN KI
          have h8' : (j : Int) < (bl.length : Int) := by omega
          have hbl7 : (bl.length : Int) ≤ 7 := by omega
          have hip : i < ps.length := by omega
          clear hcc hB9 hmw hL hG hP hQ
          go_wp2_with fail
          replace LX4 := LX4.drew
          replace d0 : wr.drew.cell? _ = _ := d0
          replace d2 : wr.drew.cell? _ = _ := d2
          replace KI := KI.drew
          obtain ⟨S, hS⟩ : ∃ S : Nat → World → Prop, S = fun _ w' => Blk w' b8 54 #[.slice A3 ps.length c3, .slice A4 bs.length c4] ∧ w'.cell? ⟨b, o + j * 3, none⟩ = some (.int .i64 x1) ∧ w'.cell? ⟨b, o + j * 3 + 2, none⟩ = some (.int .i64 x3) := ⟨_, rfl⟩
          have hS0 : ∀ w', S 0 w' ↔ (Blk w' b8 54 #[.slice A3 ps.length c3, .slice A4 bs.length c4] ∧ w'.cell? ⟨b, o + j * 3, none⟩ = some (.int .i64 x1) ∧ w'.cell? ⟨b, o + j * 3 + 2, none⟩ = some (.int .i64 x3)) := fun w' => by rw [hS]
          clear hS
          have cA := fun (q : Ev (S 0)) i => ((hS0 _).1 q.h).1.cell i
          have cB : ∀ q : Ev (S 0), q.w.cell? ⟨b, o + j * 3, none⟩ = some (.int .i64 x1) := fun q => ((hS0 _).1 q.h).2.1
          have cC : ∀ q : Ev (S 0), q.w.cell? ⟨b, o + j * 3 + 2, none⟩ = some (.int .i64 x3) := fun q => ((hS0 _).1 q.h).2.2
          have hevT := ev_true
          refine wp_region_ord S [(0, 0), (1, 0), (2, 1), (3, 0), (4, 0), (5, 0), (6, 0), (7, 1), (8, 0), (9, 0), (10, 0), (11, 0), (12, 0), (13, 1), (14, 0), (15, 2), (16, 0), (17, 0), (18, 0), (19, 0), (20, 0)] [] (by kernel_rfl) (by kernel_rfl) ((hS0 _).2 ⟨LX4, d0, d2⟩) ?_
          intro _hev
          iterate 15 (first | (refine wpOrd_v rfl rfl ?_; intro K hK; go_big_quiet_op; go_big_quiet_on) | (refine wpOrd_q rfl rfl ?_; intro K hK; go_big_quiet_op; go_big_quiet_on) | refine wpOrd_s (by decide) rfl rfl ?_)
          refine wpOrd_l rfl rfl ?_; intro K hK
          go_step
          refine (harms_made A1 c1 ls A2 c2 gs A3 A4 c3 c4 ps bs x1 x3 i _ hL4.drew hG4.drew hP4.drew hQ4.drew hc3 hair.out hgs.out hok.out hxl hip).mono ?_
          rintro e w15 ⟨rfl, k15⟩
          rw [← hU.out]
          replace LX4 := LX4.kpN k15
          replace d0 := (k15.cell b _ (show b < wr.drew.heap.size from hbl2) (by simp)).trans d0
          replace d2 := (k15.cell b _ (show b < wr.drew.heap.size from hbl2) (by simp)).trans d2
          replace KI := KI.thenN k15 (Nat.le_refl _)
          refine hK _ _ ((hS0 _).2 ⟨LX4, d0, d2⟩) ?_
          clear hK K k15
          iterate 5 (first | (refine wpOrd_v rfl rfl ?_; intro K hK; go_big_quiet_op; go_big_quiet_on) | (refine wpOrd_q rfl rfl ?_; intro K hK; go_big_quiet_op; go_big_quiet_on) | refine wpOrd_s (by decide) rfl rfl ?_)
          refine wpOrd_nil ?_
          clear hevT _hev
          clear cA cB cC hS0 S hU hL4 hG4 hP4 hQ4 LX4 d0 d2
          go_wp2
          go_roundw
          case rel => exact ⟨j + 1, max m U, rfl, by omega, rfl, hm.out, KI⟩
          case measure => simp [intOf]; omega
        · obtain rfl : j = bl.length := by omega
          have h8' : ¬ (bl.length : Int) < (bl.length : Int) := by omega
          rw [List.drop_length] at hm
          replace hm : mostOf (harmsOf ls.length gs ps bs) i bl (-1) = m := hm
          rw [hm] at hmw
          have SX5 := SX.kpN KI
          have cs := fun i => SX5.cell i
          have KW := KK.thenN KI (Nat.le_refl _)
          clear h8 hm
          by_cases hiw : i = T.wo
          · have hme := hmw.2 hiw
            subst hme
            have hiw' : (i : Int) = (T.wo : Int) := by omega
            clear hmw
            go_wp2
            go_roundw
            case rel => exact ⟨T.wo + 1, rfl, by omega, by omega, KW⟩
            case measure => simp [intOf]; omega
          · have hme : ¬ m = T.hi := fun k => hiw (hmw.1 k)
            have hiw' : ¬ (i : Int) = (T.wo : Int) := by omega
            clear hmw
            have hb1 : (m == T.hi) = false := by simp [hme]
            have hb2 : ((i : Int) == (T.wo : Int)) = false := by simp; omega
            go_wp2
            go_roundw
            case rel => exact ⟨i + 1, rfl, by omega, by omega, KW⟩
            case measure => simp [intOf]; omega
    · have h7' : ¬ (i : Int) ≤ (T.wo : Int) := by omega
      have hb9 : Bnd wr := (hb.kpN KQ).kpN KK
      go_wp2_with fail
      refine (awake_any _ hb9).mono ?_
      rintro e w20 ⟨rfl, k20⟩
      have K20 := (KQ.thenN KK (Nat.le_refl _)).thenN k20 (Nat.le_refl _)
      go_wp2
      exact bodyPost_ret (v := .bool true) (by simp [results, Tryd.results13, go_sem]) rfl ⟨rfl, K20⟩
end Go.Proofs.YtdiigflbohbndaaDoor
