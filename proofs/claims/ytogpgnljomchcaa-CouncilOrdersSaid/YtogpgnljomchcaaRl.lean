/- Build: the reference. -/
import Derived.Test.YtogpgnljomchcaaRk
namespace Go.Proofs.Ytogpgnljomchcaa
open Go.RowKit

/-- in the course of the reference's Build -/
structure RBS (B hb cb rb : Nat) (V : CV) (c : Council) (v : Ky → Value) (h : House) (w w' : World) : Prop where
  p : RH B hb w' v h
  ca : CAt B w' V c
  cl : Lcl hb v w' cb 26 #[.slice V.am c.members.length V.cm, .slice V.al c.laws.length V.cl, .slice V.av c.levels.length V.cv]
  r : Lcl hb v w' rb 46 #[.int .i64 0, .int .i64 0, .slice none 0 0, .slice none 0 0, .slice none 0 0, .int .i64 0, .slice none 0 0, .slice none 0 0, .slice none 0 0]
  k : Kp w.heap.size none w w'
  b : B = w.heap.size
section
variable {B hb cb rb : Nat} {V : CV} {c : Council} {v v' : Ky → Value} {h h' : House} {w w1 w2 : World}
theorem RBS.kpN (s : RBS B hb cb rb V c v h w w1) (k : Kp w1.heap.size none w1 w2) : RBS B hb cb rb V c v h w w2 := ⟨s.p.kpN k, s.ca.kpN k, s.cl.kpN k, s.r.kpN k, s.k.thenN k (Nat.le_refl _), s.b⟩
theorem RBS.step (s : RBS B hb cb rb V c v h w w1) (q : RH B hb w2 v' h') (f : Fr hb v v' w1 w2) : RBS B hb cb rb V c v' h' w w2 :=
  ⟨q, s.ca.kp (s.p.kp f), s.cl.fr f, s.r.fr f, s.k.trans (by have := s.p.kp f; rw [← s.b]; exact this), s.b⟩
theorem rtold_fin (s : RBS B hb cb rb V c v h w w1) (hr : w.heap.size ≤ rb) (c0 c1 c2 c3 c4 c5 c6 c7 c8 : Value) :
    RowsAt w.heap.size hb (setR0 w1 rb c0 c1 c2 c3 c4 c5 c6 c7 c8) (rowOf h v) ∧ Kp w.heap.size none w (setR0 w1 rb c0 c1 c2 c3 c4 c5 c6 c7 c8) ∧ Blk (setR0 w1 rb c0 c1 c2 c3 c4 c5 c6 c7 c8) rb 46 #[c0, c1, c2, c3, c4, c5, c6, c7, c8] :=
  ⟨by rw [← s.b]; exact s.p.rows.other (setR0_grown _ _ _ _ _ _ _ _ _ _ _) s.r.apart, setR0_kp s.k hr _ _ _ _ _ _ _ _ _, Blk.setR0 s.r.blk _ _ _ _ _ _ _ _ _⟩
theorem rCells_form (p : RH B hb w v h) : ∃ A0 l0 q0 A1 l1 q1 A2 l2 q2 A3 l3 q3 A4 l4 q4 A5 l5 q5, rCells v h = #[.int .i64 h.tick, .int .i64 h.real.items, .slice A0 l0 q0, .slice A1 l1 q1, .slice A2 l2 q2, .int .i64 h.drill.items, .slice A3 l3 q3, .slice A4 l4 q4, .slice A5 l5 q5] := by
  have sl := slice_of p.rows
  obtain ⟨A0, l0, q0, e0⟩ := sl (.facts false)
  obtain ⟨A1, l1, q1, e1⟩ := sl (.motions false)
  obtain ⟨A2, l2, q2, e2⟩ := sl (.sent false)
  obtain ⟨A3, l3, q3, e3⟩ := sl (.facts true)
  obtain ⟨A4, l4, q4, e4⟩ := sl (.motions true)
  obtain ⟨A5, l5, q5, e5⟩ := sl (.sent true)
  exact ⟨A0, l0, q0, A1, l1, q1, A2, l2, q2, A3, l3, q3, A4, l4, q4, A5, l5, q5, by rw [rCells_eq, e0, e1, e2, e3, e4, e5]⟩
end
def RBuildAt (R : House × Int × Int) (cb rb hb : Nat) (V : CV) (c : Council) (l : List CItem) (w : World) (n : Value) (wr : World) : Prop :=
  ∃ (i : Nat) (v : Ky → Value) (h : House), n = .int .i64 i ∧ i ≤ l.length ∧ runItems c i h (l.drop i) = R ∧ HouseOk c i h ∧ RBS w.heap.size hb cb rb V c v h w wr
set_option maxRecDepth 20000 in
set_option maxHeartbeats 4000000 in
theorem ref_build_any (V : CV) (c : Council) (A : Option Addr) (cap : Nat) (l : List CItem) (w : World) (hc : CAt w.heap.size w V c) (hr : Rd none w 9 encItem A l.length l) (hl : l.length ≤ 1000000) :
    Calls Try.prog 18 #[.agg #[.slice V.am c.members.length V.cm, .slice V.al c.laws.length V.cl, .slice V.av c.levels.length V.cv], .slice A l.length cap] w (BuildPost c l w) := by
  obtain ⟨cb, hcb⟩ : ∃ q, q = w.heap.size := ⟨_, rfl⟩
  have C0 := (Blk.new w 26 #[.slice V.am c.members.length V.cm, .slice V.al c.laws.length V.cl, .slice V.av c.levels.length V.cv]).alloc (.cells #[.int .i64 0, .int .i64 0, .slice none 0 0, .slice none 0 0, .slice none 0 0, .int .i64 0, .slice none 0 0, .slice none 0 0, .slice none 0 0] 46)
  have R0 := Blk.newAt (w.alloc (.cells #[.slice V.am c.members.length V.cm, .slice V.al c.laws.length V.cl, .slice V.av c.levels.length V.cv] 26)) 46 #[.int .i64 0, .int .i64 0, .slice none 0 0, .slice none 0 0, .slice none 0 0, .int .i64 0, .slice none 0 0, .slice none 0 0, .slice none 0 0] (n := w.heap.size + 1) (by simp)
  have K0 := Kp.new2 w (.cells #[.slice V.am c.members.length V.cm, .slice V.al c.laws.length V.cl, .slice V.av c.levels.length V.cv] 26) (.cells #[.int .i64 0, .int .i64 0, .slice none 0 0, .slice none 0 0, .slice none 0 0, .int .i64 0, .slice none 0 0, .slice none 0 0, .slice none 0 0] 46)
  have hcw := hc.kpN K0
  go_enter Try.func18, Try.ntmps18
  go_upto_region 1 with (fail)
  rw [← hcb] at C0 R0 ⊢
  have hcbw : w.heap.size ≤ cb := by omega
  replace hcb := Lib.hid hcb
  obtain ⟨rb, hrb⟩ : ∃ q, q = cb + 1 := ⟨_, rfl⟩
  have hrw : w.heap.size ≤ rb := by omega
  have hne : cb ≠ rb := by omega
  rw [← hrb] at R0 ⊢
  replace hrb := Lib.hid hrb
  generalize (w.alloc (.cells #[.slice V.am c.members.length V.cm, .slice V.al c.laws.length V.cl, .slice V.av c.levels.length V.cv] 26)).alloc (.cells #[.int .i64 0, .int .i64 0, .slice none 0 0, .slice none 0 0, .slice none 0 0, .int .i64 0, .slice none 0 0, .slice none 0 0, .slice none 0 0] 46) = w1 at C0 R0 K0 hcw ⊢
  have cc := fun i => C0.cell i
  go_wp2_with fail
  refine (ref_Check_any _ V c _ hcw).mono ?_
  rintro e w2 ⟨rfl, k2⟩
  replace hcw := hcw.kpN k2
  replace C0 := C0.kpN k2
  replace R0 := R0.kpN k2
  replace K0 := K0.thenN k2 (Nat.le_refl _)
  clear k2 cc
  have cc := fun i => C0.cell i
  have cr := fun i => R0.cell i
  have fr := fun i => R0.frozen i
  by_cases h1 : checkC c = 0
  case neg =>
    have hb1 : buildC c l = (zeroHouse, -1, checkC c) := by unfold buildC; rw [if_pos h1]
    replace hb1 := Lib.hid hb1
    generalize checkC c = ce at h1 hb1 ⊢
    go_wp2_with fail
    have K9 := setR0_kp K0 hrw (.int .i64 0) (.int .i64 0) (.slice none 0 0) (.slice none 0 0) (.slice none 0 0) (.int .i64 0) (.slice none 0 0) (.slice none 0 0) (.slice none 0 0)
    have R9 := Blk.setR0 R0 (.int .i64 0) (.int .i64 0) (.slice none 0 0) (.slice none 0 0) (.slice none 0 0) (.int .i64 0) (.slice none 0 0) (.slice none 0 0) (.slice none 0 0)
    change bodyPost _ _ _ _ _ (setR0 w2 rb (.int .i64 0) (.int .i64 0) (.slice none 0 0) (.slice none 0 0) (.slice none 0 0) (.int .i64 0) (.slice none 0 0) (.slice none 0 0) (.slice none 0 0))
    generalize setR0 w2 rb (.int .i64 0) (.int .i64 0) (.slice none 0 0) (.slice none 0 0) (.slice none 0 0) (.int .i64 0) (.slice none 0 0) (.slice none 0 0) (.slice none 0 0) = w9 at K9 R9 ⊢
    have c9 := fun i => R9.cell i
    exact bodyPost_ret (v := .tuple #[.agg #[.int .i64 0, .int .i64 0, .slice none 0 0, .slice none 0 0, .slice none 0 0, .int .i64 0, .slice none 0 0, .slice none 0 0, .slice none 0 0], .int .i64 (-1), .int .i64 ce]) (by simp [results, Try.results18, go_sem, c9]) rfl ⟨nilV, by rw [hb1.out]; rfl, by rw [hb1.out]; exact ⟨0, RowsAt.zero _ _ _⟩, K9⟩
  case pos =>
    have hok := councilOk_of h1
    rw [h1]
    by_cases h2 : 2000 < l.length
    · have hb1 := Lib.hid (show buildC c l = (zeroHouse, -1, 8) by unfold buildC; rw [if_neg (by simpa using h1), if_pos h2])
      have h2' : 2000 < (l.length : Int) := by omega
      go_wp2_with fail
      have K9 := setR0_kp K0 hrw (.int .i64 0) (.int .i64 0) (.slice none 0 0) (.slice none 0 0) (.slice none 0 0) (.int .i64 0) (.slice none 0 0) (.slice none 0 0) (.slice none 0 0)
      have R9 := Blk.setR0 R0 (.int .i64 0) (.int .i64 0) (.slice none 0 0) (.slice none 0 0) (.slice none 0 0) (.int .i64 0) (.slice none 0 0) (.slice none 0 0) (.slice none 0 0)
      change bodyPost _ _ _ _ _ (setR0 w2 rb (.int .i64 0) (.int .i64 0) (.slice none 0 0) (.slice none 0 0) (.slice none 0 0) (.int .i64 0) (.slice none 0 0) (.slice none 0 0) (.slice none 0 0))
      generalize setR0 w2 rb (.int .i64 0) (.int .i64 0) (.slice none 0 0) (.slice none 0 0) (.slice none 0 0) (.int .i64 0) (.slice none 0 0) (.slice none 0 0) (.slice none 0 0) = w9 at K9 R9 ⊢
      have c9 := fun i => R9.cell i
      exact bodyPost_ret (v := .tuple #[.agg #[.int .i64 0, .int .i64 0, .slice none 0 0, .slice none 0 0, .slice none 0 0, .int .i64 0, .slice none 0 0, .slice none 0 0, .slice none 0 0], .int .i64 (-1), .int .i64 8]) (by simp [results, Try.results18, go_sem, c9]) rfl ⟨nilV, by rw [hb1.out]; rfl, by rw [hb1.out]; exact ⟨0, RowsAt.zero _ _ _⟩, K9⟩
    have hb1 : buildC c l = runItems c 0 zeroHouse l := by unfold buildC; rw [if_neg (by simpa using h1), if_neg h2]
    have h2' : ¬ 2000 < (l.length : Int) := by omega
    replace hok := Lib.hid hok
    replace h2 := Lib.hid h2
    clear h1
    go_upto_region 7 with (fail)
    have S : RBS w.heap.size w2.heap.size cb rb V c nilV zeroHouse w (w2.alloc (.cells (rCells nilV zeroHouse) 46)) :=
      ⟨⟨RowsAt.zero _ _ _, K0.size, Blk.new _ _ _⟩, hcw.kpN (Kp.new _ _), ⟨C0.kpN (Kp.new _ _), ⟨by have := C0.lt; omega, fun j e => by cases e⟩⟩, ⟨R0.kpN (Kp.new _ _), ⟨by have := R0.lt; omega, fun j e => by cases e⟩⟩, K0.thenN (Kp.new _ _) (Nat.le_refl _), rfl⟩
    change Code.wp _ _ _ _ (w2.alloc (.cells (rCells nilV zeroHouse) 46))
    obtain ⟨hbk, hhb⟩ : ∃ q, q = w2.heap.size := ⟨_, rfl⟩
    rw [← hhb] at S ⊢
    generalize World.alloc w2 (.cells (rCells nilV zeroHouse) 46) = w3 at S ⊢
    clear hhb K0 R0 C0 cc cr fr hcw hc hcb hrb hne hcbw
    replace hb1 := Lib.hid hb1
    replace h2 := Lib.hid (show l.length ≤ 2000 by have := h2.out; omega)
    go_wp2_with fail
    go_loopw [9] (fun n wr => RBuildAt (buildC c l) cb rb hbk V c l w n wr) (fun n _ => l.length - (intOf n).toNat)
    case atStart => exact ⟨0, nilV, zeroHouse, rfl, by omega, by rw [List.drop_zero]; exact hb1.out.symm, zeroHouse_ok c 0, S⟩
    case round =>
      clear S
      obtain ⟨i, v, h, rfl, hi, hj, hk, S⟩ := hrel
      by_cases h7 : i < l.length
      · obtain ⟨b, o, rfl, hb, -, hcc⟩ := hr.at_ (by omega)
        have hcell : ∀ W, Kp w.heap.size none w W → W.cell? ⟨b, o + i * 9, none⟩ = some (.int .i64 l[i].kind) ∧ W.cell? ⟨b, o + i * 9 + 1, none⟩ = some (.int .i64 l[i].tick) ∧ W.cell? ⟨b, o + i * 9 + 2, none⟩ = some (.bool l[i].drill) ∧ W.cell? ⟨b, o + i * 9 + 3, none⟩ = some (.int .i64 l[i].a) ∧ W.cell? ⟨b, o + i * 9 + 4, none⟩ = some (.int .i64 l[i].b) ∧ W.cell? ⟨b, o + i * 9 + 5, none⟩ = some (.bool l[i].yes) ∧ W.cell? ⟨b, o + i * 9 + 6, none⟩ = some (.int .i64 l[i].chance.least) ∧ W.cell? ⟨b, o + i * 9 + 7, none⟩ = some (.int .i64 l[i].chance.most) ∧ W.cell? ⟨b, o + i * 9 + 8, none⟩ = some (.int .i64 l[i].chance.all) := fun W k => by
          have q : ∀ j v, (encItem l[i])[j]? = some v → W.cell? ⟨b, o + (i * 9 + j), none⟩ = some v := fun j v hv => (k.cell b _ hb (by simp)).trans (hcc i h7 j v hv)
          refine ⟨q 0 _ rfl, ?_, ?_, ?_, ?_, ?_, ?_, ?_, ?_⟩ <;> rw [Nat.add_assoc]
          · exact q 1 _ rfl
          · exact q 2 _ rfl
          · exact q 3 _ rfl
          · exact q 4 _ rfl
          · exact q 5 _ rfl
          · exact q 6 _ rfl
          · exact q 7 _ rfl
          · exact q 8 _ rfl
        have hi' : (i : Int) < (l.length : Int) := by omega
        rw [runItems_drop c l i h7] at hj
        clear hcc hi
        generalize l[i] = x at hcell hj
        replace h7 := Lib.hid h7
        replace hj := Lib.hid hj
        replace hk := Lib.hid hk
        replace hr := Lib.hid hr
        go_upto_region 10 with (fail)
        have T := S.kpN (Kp.refl _ _ _).drew
        clear S
        obtain ⟨P, hP⟩ : ∃ P : World → Prop, P = fun W => W.cell? ⟨b, o + i * 9, none⟩ = some (.int .i64 x.kind) ∧ W.cell? ⟨b, o + i * 9 + 1, none⟩ = some (.int .i64 x.tick) ∧ W.cell? ⟨b, o + i * 9 + 2, none⟩ = some (.bool x.drill) ∧ W.cell? ⟨b, o + i * 9 + 3, none⟩ = some (.int .i64 x.a) ∧ W.cell? ⟨b, o + i * 9 + 4, none⟩ = some (.int .i64 x.b) ∧ W.cell? ⟨b, o + i * 9 + 5, none⟩ = some (.bool x.yes) ∧ W.cell? ⟨b, o + i * 9 + 6, none⟩ = some (.int .i64 x.chance.least) ∧ W.cell? ⟨b, o + i * 9 + 7, none⟩ = some (.int .i64 x.chance.most) ∧ W.cell? ⟨b, o + i * 9 + 8, none⟩ = some (.int .i64 x.chance.all) := ⟨_, rfl⟩
        have hPi : ∀ W, Kp w.heap.size none w W → P W := fun W k => by rw [hP]; exact hcell W k
        have hPo : ∀ W, P W → W.cell? ⟨b, o + i * 9, none⟩ = some (.int .i64 x.kind) ∧ W.cell? ⟨b, o + i * 9 + 1, none⟩ = some (.int .i64 x.tick) ∧ W.cell? ⟨b, o + i * 9 + 2, none⟩ = some (.bool x.drill) ∧ W.cell? ⟨b, o + i * 9 + 3, none⟩ = some (.int .i64 x.a) ∧ W.cell? ⟨b, o + i * 9 + 4, none⟩ = some (.int .i64 x.b) ∧ W.cell? ⟨b, o + i * 9 + 5, none⟩ = some (.bool x.yes) ∧ W.cell? ⟨b, o + i * 9 + 6, none⟩ = some (.int .i64 x.chance.least) ∧ W.cell? ⟨b, o + i * 9 + 7, none⟩ = some (.int .i64 x.chance.most) ∧ W.cell? ⟨b, o + i * 9 + 8, none⟩ = some (.int .i64 x.chance.all) := fun W k => by rw [hP] at k; exact k
        replace hPi := Lib.hid hPi
        replace hPo := Lib.hid hPo
        clear hP hcell
        obtain ⟨S, hS⟩ : ∃ S : Nat → World → Prop, S = fun _ w' => Blk w' cb 26 #[.slice V.am c.members.length V.cm, .slice V.al c.laws.length V.cl, .slice V.av c.levels.length V.cv] ∧ P w' := ⟨_, rfl⟩
        have hS0 : ∀ w', S 0 w' ↔ (Blk w' cb 26 #[.slice V.am c.members.length V.cm, .slice V.al c.laws.length V.cl, .slice V.av c.levels.length V.cv] ∧ P w') := fun w' => by rw [hS]
        clear hS
        have cc := fun (q : Ev (S 0)) i => ((hS0 _).1 q.h).1.cell i
        have x0 := fun (q : Ev (S 0)) => (hPo.out _ ((hS0 _).1 q.h).2).1
        have x1 := fun (q : Ev (S 0)) => (hPo.out _ ((hS0 _).1 q.h).2).2.1
        have x2 := fun (q : Ev (S 0)) => (hPo.out _ ((hS0 _).1 q.h).2).2.2.1
        have x3 := fun (q : Ev (S 0)) => (hPo.out _ ((hS0 _).1 q.h).2).2.2.2.1
        have x4 := fun (q : Ev (S 0)) => (hPo.out _ ((hS0 _).1 q.h).2).2.2.2.2.1
        have x5 := fun (q : Ev (S 0)) => (hPo.out _ ((hS0 _).1 q.h).2).2.2.2.2.2.1
        have x6 := fun (q : Ev (S 0)) => (hPo.out _ ((hS0 _).1 q.h).2).2.2.2.2.2.2.1
        have x7 := fun (q : Ev (S 0)) => (hPo.out _ ((hS0 _).1 q.h).2).2.2.2.2.2.2.2.1
        have x8 := fun (q : Ev (S 0)) => (hPo.out _ ((hS0 _).1 q.h).2).2.2.2.2.2.2.2.2
        have hevT := ev_true
        refine wp_region_ord S [(0, 1), (1, 0), (2, 0), (3, 0), (4, 1), (5, 2), (6, 0)] [] (by kernel_rfl) (by kernel_rfl) ((hS0 _).2 ⟨T.cl.blk, hPi.out _ T.k⟩) ?_
        intro _hev
        iterate 5 (first | (refine wpOrd_v rfl rfl ?_; intro K hK; go_big_quiet_op; go_big_quiet_on) | (refine wpOrd_q rfl rfl ?_; intro K hK; go_big_quiet_op; go_big_quiet_on) | refine wpOrd_s (by decide) rfl rfl ?_)
        refine wpOrd_l rfl rfl ?_; intro K hK
        go_step
        refine (ref_do_any w.heap.size hbk i V c v h x _ T.p T.ca hok.out hk.out (by have := h7.out; have := h2.out; omega)).mono ?_
        rintro e w4 ⟨rfl, v2, p4, f4⟩
        have T2 := T.step p4 f4
        refine hK _ _ ((hS0 _).2 ⟨T2.cl.blk, hPi.out _ T2.k⟩) ?_
        clear hK K
        iterate 1 (first | (refine wpOrd_v rfl rfl ?_; intro K hK; go_big_quiet_op; go_big_quiet_on) | (refine wpOrd_q rfl rfl ?_; intro K hK; go_big_quiet_op; go_big_quiet_on) | refine wpOrd_s (by decide) rfl rfl ?_)
        refine wpOrd_nil ?_
        clear hevT _hev
        clear hS0 S cc x0 x1 x2 x3 x4 x5 x6 x7 x8 p4 f4 T hPi hPo
        have dk : doE c h x = 0 → HouseOk c (i + 1) (doH c h x) := fun e => do_ok hok.out hk.out e
        generalize doE c h x = E at T2 hj dk ⊢
        by_cases q0 : E = 0
        · subst q0
          rw [if_pos rfl] at T2
          have hj2 := Lib.hid (show runItems c ((i + 1 : Nat) : Int) (doH c h x) (l.drop (i + 1)) = buildC c l by have := hj.out; rw [if_pos rfl] at this; exact this)
          have hk2 := Lib.hid (dk rfl)
          replace T2 := Lib.hid T2
          clear hj dk
          go_wp2
          go_roundw
          case rel => exact ⟨i + 1, v2, _, rfl, h7.out, hj2.out, hk2.out, T2.out⟩
          case measure => have := h7.out; simp [intOf]; omega
        · have S : RBS w.heap.size hbk cb rb V c v2 h w w4 := by rw [if_neg q0] at T2; exact T2
          have hj2 := Lib.hid (show (h, (i : Int), E) = buildC c l by have := hj.out; rw [if_neg q0] at this; exact this)
          clear hj T2 dk
          have q1 : (E != 0) = true := by simpa using q0
          obtain ⟨A0, l0, q0, A1, l1, q1, A2, l2, q2, A3, l3, q3, A4, l4, q4, A5, l5, q5, ec⟩ := rCells_form S.p
          have ch : ∀ i, w4.cell? ⟨hbk, i, none⟩ = (#[.int .i64 h.tick, .int .i64 h.real.items, .slice A0 l0 q0, .slice A1 l1 q1, .slice A2 l2 q2, .int .i64 h.drill.items, .slice A3 l3 q3, .slice A4 l4 q4, .slice A5 l5 q5] : Array Value)[i]? := fun i => by rw [← ec]; exact S.p.blk.cell i
          have cr := fun i => S.r.blk.cell i
          have fr := fun i => S.r.blk.frozen i
          have hbr : hbk ≠ rb := Ne.symm S.r.apart.1
          replace S := Lib.hid S
          replace ec := Lib.hid ec
          go_wp2_with fail
          replace S := S.out
          replace ec := ec.out
          obtain ⟨hr3, K9, R9⟩ := rtold_fin S hrw (.int .i64 h.tick) (.int .i64 h.real.items) (.slice A0 l0 q0) (.slice A1 l1 q1) (.slice A2 l2 q2) (.int .i64 h.drill.items) (.slice A3 l3 q3) (.slice A4 l4 q4) (.slice A5 l5 q5)
          change bodyPost _ _ _ _ _ (setR0 w4 rb (.int .i64 h.tick) (.int .i64 h.real.items) (.slice A0 l0 q0) (.slice A1 l1 q1) (.slice A2 l2 q2) (.int .i64 h.drill.items) (.slice A3 l3 q3) (.slice A4 l4 q4) (.slice A5 l5 q5))
          generalize setR0 w4 rb (.int .i64 h.tick) (.int .i64 h.real.items) (.slice A0 l0 q0) (.slice A1 l1 q1) (.slice A2 l2 q2) (.int .i64 h.drill.items) (.slice A3 l3 q3) (.slice A4 l4 q4) (.slice A5 l5 q5) = w9 at K9 R9 hr3 ⊢
          have c9 := fun i => R9.cell i
          exact bodyPost_ret (v := .tuple #[.agg #[.int .i64 h.tick, .int .i64 h.real.items, .slice A0 l0 q0, .slice A1 l1 q1, .slice A2 l2 q2, .int .i64 h.drill.items, .slice A3 l3 q3, .slice A4 l4 q4, .slice A5 l5 q5], .int .i64 i, .int .i64 E]) (by simp [results, Try.results18, go_sem, c9]) rfl ⟨v2, by rw [← hj2.out, ec], by rw [← hj2.out]; exact ⟨_, hr3⟩, K9⟩
      · have he : i = l.length := by omega
        have hi' : ¬ (i : Int) < (l.length : Int) := by omega
        have hj2 := Lib.hid (show (h, (-1 : Int), (0 : Int)) = buildC c l by rw [he, List.drop_length] at hj; exact hj)
        clear hj hi h7 hk
        rename (Ky → Value) => v2
        obtain ⟨A0, l0, q0, A1, l1, q1, A2, l2, q2, A3, l3, q3, A4, l4, q4, A5, l5, q5, ec⟩ := rCells_form S.p
        have ch : ∀ i, wr.cell? ⟨hbk, i, none⟩ = (#[.int .i64 h.tick, .int .i64 h.real.items, .slice A0 l0 q0, .slice A1 l1 q1, .slice A2 l2 q2, .int .i64 h.drill.items, .slice A3 l3 q3, .slice A4 l4 q4, .slice A5 l5 q5] : Array Value)[i]? := fun i => by rw [← ec]; exact S.p.blk.cell i
        have cr := fun i => S.r.blk.cell i
        have fr := fun i => S.r.blk.frozen i
        have hbr : hbk ≠ rb := Ne.symm S.r.apart.1
        replace S := Lib.hid S
        replace ec := Lib.hid ec
        go_wp2_with fail
        replace S := S.out
        replace ec := ec.out
        obtain ⟨hr3, K9, R9⟩ := rtold_fin S hrw (.int .i64 h.tick) (.int .i64 h.real.items) (.slice A0 l0 q0) (.slice A1 l1 q1) (.slice A2 l2 q2) (.int .i64 h.drill.items) (.slice A3 l3 q3) (.slice A4 l4 q4) (.slice A5 l5 q5)
        change bodyPost _ _ _ _ _ (setR0 wr rb (.int .i64 h.tick) (.int .i64 h.real.items) (.slice A0 l0 q0) (.slice A1 l1 q1) (.slice A2 l2 q2) (.int .i64 h.drill.items) (.slice A3 l3 q3) (.slice A4 l4 q4) (.slice A5 l5 q5))
        generalize setR0 wr rb (.int .i64 h.tick) (.int .i64 h.real.items) (.slice A0 l0 q0) (.slice A1 l1 q1) (.slice A2 l2 q2) (.int .i64 h.drill.items) (.slice A3 l3 q3) (.slice A4 l4 q4) (.slice A5 l5 q5) = w9 at K9 R9 hr3 ⊢
        have c9 := fun i => R9.cell i
        exact bodyPost_ret (v := .tuple #[.agg #[.int .i64 h.tick, .int .i64 h.real.items, .slice A0 l0 q0, .slice A1 l1 q1, .slice A2 l2 q2, .int .i64 h.drill.items, .slice A3 l3 q3, .slice A4 l4 q4, .slice A5 l5 q5], .int .i64 (-1), .int .i64 0]) (by simp [results, Try.results18, go_sem, c9]) rfl ⟨v2, by rw [← hj2.out, ec], by rw [← hj2.out]; exact ⟨_, hr3⟩, K9⟩
theorem ref_build_see (V : CV) (c : Council) (A : Option Addr) (cap : Nat) (l : List CItem) (w : World) (hc : CAt w.heap.size w V c) (hr : Rd none w 9 encItem A l.length l) (hl : l.length ≤ 1000000) :
    Calls Try.prog 18 #[.agg #[.slice V.am c.members.length V.cm, .slice V.al c.laws.length V.cl, .slice V.av c.levels.length V.cv], .slice A l.length cap] w (SeePost (buildC c l) w) := by
  refine (ref_build_any V c A cap l w hc hr hl).mono ?_
  rintro e w' ⟨v, he, ⟨hb, r⟩, k⟩
  refine ⟨v, hvOf v, rfl, ?_, ⟨hb, r⟩, ⟨r.see (buildC_ok c l) hl false, r.see (buildC_ok c l) hl true⟩, k⟩
  rw [he, rCells_see r (hvOf v) rfl]
end Go.Proofs.Ytogpgnljomchcaa
