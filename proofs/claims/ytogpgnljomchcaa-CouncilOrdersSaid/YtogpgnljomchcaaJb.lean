/- Build: the program. -/
import Derived.Test.YtogpgnljomchcaaJp
import Derived.LoopTactic
namespace Go.Proofs.Ytogpgnljomchcaa
open Go.RowKit

/-- the rows of a house that is told, all of them laid behind B -/
def HAt (B : Nat) (w : World) (v : Ky → Value) (h : House) : Prop := ∃ hb, RowsAt B hb w (rowOf h v)
theorem HAt.kpN {B : Nat} {w w' : World} {v : Ky → Value} {h : House} (p : HAt B w v h) (k : Kp w.heap.size none w w') : HAt B w' v h := by
  obtain ⟨hb, r⟩ := p
  exact ⟨hb, r.kpN k⟩
def BuildPost (c : Council) (l : List CItem) (w : World) (e : Ending) (w' : World) : Prop :=
  ∃ v, e = .returned (.tuple #[.agg (rCells v (buildC c l).1), .int .i64 (buildC c l).2.1, .int .i64 (buildC c l).2.2]) ∧ HAt w.heap.size w' v (buildC c l).1 ∧ Kp w.heap.size none w w'
theorem runItems_drop (c : Council) (l : List CItem) (i : Nat) (hi : i < l.length) (h : House) : runItems c i h (l.drop i) = if doE c h l[i] = 0 then runItems c ((i + 1 : Nat) : Int) (doH c h l[i]) (l.drop (i + 1)) else (h, (i : Int), doE c h l[i]) := by
  rw [List.drop_eq_getElem_cons hi]
  rfl
def nilV : Ky → Value := fun _ => .slice none 0 0
theorem rCells_zero : rCells nilV zeroHouse = #[.int .i64 0, .int .i64 0, .slice none 0 0, .slice none 0 0, .slice none 0 0, .int .i64 0, .slice none 0 0, .slice none 0 0, .slice none 0 0] := rfl
theorem plain_ex (B hb : Nat) (V : CV) (c : Council) (v : Ky → Value) (h : House) (w : World) (p : PH B hb w V c v h) :
    Calls Try.prog 49 #[.pointer (some ⟨hb, 0, none⟩)] w fun e w' => (∃ A0 l0 q0 A1 l1 q1 A2 l2 q2 A3 l3 q3 A4 l4 q4 A5 l5 q5, e = .returned (.agg #[.int .i64 h.tick, .int .i64 h.real.items, .slice A0 l0 q0, .slice A1 l1 q1, .slice A2 l2 q2, .int .i64 h.drill.items, .slice A3 l3 q3, .slice A4 l4 q4, .slice A5 l5 q5]) ∧ rCells v h = #[.int .i64 h.tick, .int .i64 h.real.items, .slice A0 l0 q0, .slice A1 l1 q1, .slice A2 l2 q2, .int .i64 h.drill.items, .slice A3 l3 q3, .slice A4 l4 q4, .slice A5 l5 q5]) ∧ Kp w.heap.size none w w' := by
  refine (plain_any B hb V c v h w p).mono ?_
  rintro e w' ⟨he, k⟩
  have sl := slice_of p.rows
  refine ⟨?_, k⟩
  obtain ⟨A0, l0, q0, e0⟩ := sl (.facts false)
  obtain ⟨A1, l1, q1, e1⟩ := sl (.motions false)
  obtain ⟨A2, l2, q2, e2⟩ := sl (.sent false)
  obtain ⟨A3, l3, q3, e3⟩ := sl (.facts true)
  obtain ⟨A4, l4, q4, e4⟩ := sl (.motions true)
  obtain ⟨A5, l5, q5, e5⟩ := sl (.sent true)
  have ec : rCells v h = #[.int .i64 h.tick, .int .i64 h.real.items, .slice A0 l0 q0, .slice A1 l1 q1, .slice A2 l2 q2, .int .i64 h.drill.items, .slice A3 l3 q3, .slice A4 l4 q4, .slice A5 l5 q5] := by rw [rCells_eq, e0, e1, e2, e3, e4, e5]
  exact ⟨A0, l0, q0, A1, l1, q1, A2, l2, q2, A3, l3, q3, A4, l4, q4, A5, l5, q5, by rw [he, ec], ec⟩
/-- in the course of Build -/
structure BS (B hb rb : Nat) (V : CV) (c : Council) (v : Ky → Value) (h : House) (w w' : World) : Prop where
  p : PH B hb w' V c v h
  r : Lcl hb v w' rb 46 #[.int .i64 0, .int .i64 0, .slice none 0 0, .slice none 0 0, .slice none 0 0, .int .i64 0, .slice none 0 0, .slice none 0 0, .slice none 0 0]
  k : Kp w.heap.size none w w'
  b : B = w.heap.size
section
variable {B hb rb : Nat} {V : CV} {c : Council} {v v' : Ky → Value} {h h' : House} {w w1 w2 : World}
theorem BS.kpN (s : BS B hb rb V c v h w w1) (k : Kp w1.heap.size none w1 w2) : BS B hb rb V c v h w w2 := ⟨s.p.kpN k, s.r.kpN k, s.k.thenN k (Nat.le_refl _), s.b⟩
theorem BS.step (s : BS B hb rb V c v h w w1) (q : PH B hb w2 V c v' h') (f : Fr hb v v' w1 w2) : BS B hb rb V c v' h' w w2 :=
  ⟨q, s.r.fr f, s.k.trans (by have := s.p.kp f; rw [← s.b]; exact this), s.b⟩
theorem told_fin (s : BS B hb rb V c v h w w1) (hr : w.heap.size ≤ rb) (c0 c1 c2 c3 c4 c5 c6 c7 c8 : Value) :
    RowsAt w.heap.size hb (setR0 w1 rb c0 c1 c2 c3 c4 c5 c6 c7 c8) (rowOf h v) ∧ Kp w.heap.size none w (setR0 w1 rb c0 c1 c2 c3 c4 c5 c6 c7 c8) ∧ Blk (setR0 w1 rb c0 c1 c2 c3 c4 c5 c6 c7 c8) rb 46 #[c0, c1, c2, c3, c4, c5, c6, c7, c8] :=
  ⟨by rw [← s.b]; exact s.p.rows.other (setR0_grown _ _ _ _ _ _ _ _ _ _ _) s.r.apart, setR0_kp s.k hr _ _ _ _ _ _ _ _ _, Blk.setR0 s.r.blk _ _ _ _ _ _ _ _ _⟩
end
def BuildAt (R : House × Int × Int) (rb hb : Nat) (V : CV) (c : Council) (l : List CItem) (w : World) (n : Value) (wr : World) : Prop :=
  ∃ (i : Nat) (v : Ky → Value) (h : House), n = .int .i64 i ∧ i ≤ l.length ∧ runItems c i h (l.drop i) = R ∧ HouseOk c i h ∧ BS w.heap.size hb rb V c v h w wr
set_option maxRecDepth 20000 in
set_option maxHeartbeats 4000000 in
theorem build_any (V : CV) (c : Council) (A : Option Addr) (cap : Nat) (l : List CItem) (w : World) (hc : CAt w.heap.size w V c) (hr : Rd none w 9 encItem A l.length l) (hl : l.length ≤ 1000000) :
    Calls Try.prog 20 #[.agg #[.slice V.am c.members.length V.cm, .slice V.al c.laws.length V.cl, .slice V.av c.levels.length V.cv], .slice A l.length cap] w (BuildPost c l w) := by
  obtain ⟨cb, hcb⟩ : ∃ q, q = w.heap.size := ⟨_, rfl⟩
  have C0 := (Blk.new w 26 #[.slice V.am c.members.length V.cm, .slice V.al c.laws.length V.cl, .slice V.av c.levels.length V.cv]).alloc (.cells #[.int .i64 0, .int .i64 0, .slice none 0 0, .slice none 0 0, .slice none 0 0, .int .i64 0, .slice none 0 0, .slice none 0 0, .slice none 0 0] 46)
  have R0 := Blk.newAt (w.alloc (.cells #[.slice V.am c.members.length V.cm, .slice V.al c.laws.length V.cl, .slice V.av c.levels.length V.cv] 26)) 46 #[.int .i64 0, .int .i64 0, .slice none 0 0, .slice none 0 0, .slice none 0 0, .int .i64 0, .slice none 0 0, .slice none 0 0, .slice none 0 0] (n := w.heap.size + 1) (by simp)
  have K0 := Kp.new2 w (.cells #[.slice V.am c.members.length V.cm, .slice V.al c.laws.length V.cl, .slice V.av c.levels.length V.cv] 26) (.cells #[.int .i64 0, .int .i64 0, .slice none 0 0, .slice none 0 0, .slice none 0 0, .int .i64 0, .slice none 0 0, .slice none 0 0, .slice none 0 0] 46)
  have hcw := hc.kpN K0
  go_enter Try.func20, Try.ntmps20
  go_upto_region 1 with (fail)
  rw [← hcb] at C0 R0 ⊢
  have hcbw : w.heap.size ≤ cb := by omega
  replace hcb := Lib.hid hcb
  obtain ⟨rb, hrb⟩ : ∃ q, q = cb + 1 := ⟨_, rfl⟩
  have hrw : w.heap.size ≤ rb := by omega
  have hne : cb ≠ rb := by omega
  rw [← hrb] at R0 ⊢
  replace hrb := Lib.hid hrb
  generalize (w.alloc (.cells #[.slice V.am c.members.length V.cm, .slice V.al c.laws.length V.cl, .slice V.av c.levels.length V.cv] 26)).alloc (.cells #[.int .i64 0, .int .i64 0, .slice none 0 0, .slice none 0 0, .slice none 0 0, .int .i64 0, .slice none 0 0, .slice none 0 0, .slice none 0 0] 46) = w1 at C0 R0 K0 hcw ⊢
  have cc := fun i => C0.cell i
  go_wp2_with fail
  refine (council_Check_any _ V c _ hcw).mono ?_
  rintro e w2 ⟨rfl, k2⟩
  replace hcw := hcw.kpN k2
  replace C0 := C0.kpN k2
  replace R0 := R0.kpN k2
  replace K0 := K0.thenN k2 (Nat.le_refl _)
  clear k2 cc
  have cc := fun i => C0.cell i
  have cr := fun i => R0.cell i
  have fr := fun i => R0.frozen i
  by_cases h1 : checkC c = 0
  case neg =>
    have hb1 : buildC c l = (zeroHouse, -1, checkC c) := by unfold buildC; rw [if_pos h1]
    replace hb1 := Lib.hid hb1
    generalize checkC c = ce at h1 hb1 ⊢
    go_wp2_with fail
    have K9 := setR0_kp K0 hrw (.int .i64 0) (.int .i64 0) (.slice none 0 0) (.slice none 0 0) (.slice none 0 0) (.int .i64 0) (.slice none 0 0) (.slice none 0 0) (.slice none 0 0)
    have R9 := Blk.setR0 R0 (.int .i64 0) (.int .i64 0) (.slice none 0 0) (.slice none 0 0) (.slice none 0 0) (.int .i64 0) (.slice none 0 0) (.slice none 0 0) (.slice none 0 0)
    change bodyPost _ _ _ _ _ (setR0 w2 rb (.int .i64 0) (.int .i64 0) (.slice none 0 0) (.slice none 0 0) (.slice none 0 0) (.int .i64 0) (.slice none 0 0) (.slice none 0 0) (.slice none 0 0))
    generalize setR0 w2 rb (.int .i64 0) (.int .i64 0) (.slice none 0 0) (.slice none 0 0) (.slice none 0 0) (.int .i64 0) (.slice none 0 0) (.slice none 0 0) (.slice none 0 0) = w9 at K9 R9 ⊢
    have c9 := fun i => R9.cell i
    exact bodyPost_ret (v := .tuple #[.agg #[.int .i64 0, .int .i64 0, .slice none 0 0, .slice none 0 0, .slice none 0 0, .int .i64 0, .slice none 0 0, .slice none 0 0, .slice none 0 0], .int .i64 (-1), .int .i64 ce]) (by simp [results, Try.results20, go_sem, c9]) rfl ⟨nilV, by rw [hb1.out]; rfl, by rw [hb1.out]; exact ⟨0, RowsAt.zero _ _ _⟩, K9⟩
  case pos =>
    have hok := councilOk_of h1
    rw [h1]
    by_cases h2 : 2000 < l.length
    · have hb1 := Lib.hid (show buildC c l = (zeroHouse, -1, 8) by unfold buildC; rw [if_neg (by simpa using h1), if_pos h2])
      have h2' : 2000 < (l.length : Int) := by omega
      go_wp2_with fail
      have K9 := setR0_kp K0 hrw (.int .i64 0) (.int .i64 0) (.slice none 0 0) (.slice none 0 0) (.slice none 0 0) (.int .i64 0) (.slice none 0 0) (.slice none 0 0) (.slice none 0 0)
      have R9 := Blk.setR0 R0 (.int .i64 0) (.int .i64 0) (.slice none 0 0) (.slice none 0 0) (.slice none 0 0) (.int .i64 0) (.slice none 0 0) (.slice none 0 0) (.slice none 0 0)
      change bodyPost _ _ _ _ _ (setR0 w2 rb (.int .i64 0) (.int .i64 0) (.slice none 0 0) (.slice none 0 0) (.slice none 0 0) (.int .i64 0) (.slice none 0 0) (.slice none 0 0) (.slice none 0 0))
      generalize setR0 w2 rb (.int .i64 0) (.int .i64 0) (.slice none 0 0) (.slice none 0 0) (.slice none 0 0) (.int .i64 0) (.slice none 0 0) (.slice none 0 0) (.slice none 0 0) = w9 at K9 R9 ⊢
      have c9 := fun i => R9.cell i
      exact bodyPost_ret (v := .tuple #[.agg #[.int .i64 0, .int .i64 0, .slice none 0 0, .slice none 0 0, .slice none 0 0, .int .i64 0, .slice none 0 0, .slice none 0 0, .slice none 0 0], .int .i64 (-1), .int .i64 8]) (by simp [results, Try.results20, go_sem, c9]) rfl ⟨nilV, by rw [hb1.out]; rfl, by rw [hb1.out]; exact ⟨0, RowsAt.zero _ _ _⟩, K9⟩
    have hb1 : buildC c l = runItems c 0 zeroHouse l := by unfold buildC; rw [if_neg (by simpa using h1), if_neg h2]
    have h2' : ¬ 2000 < (l.length : Int) := by omega
    replace hok := Lib.hid hok
    replace h2 := Lib.hid h2
    clear h1
    go_upto_region 7 with (fail)
    have S : BS w.heap.size w2.heap.size rb V c nilV zeroHouse w (w2.alloc (.cells (pCells V c nilV zeroHouse) 103)) :=
      ⟨⟨RowsAt.zero _ _ _, K0.size, Blk.new _ _ _, hcw.kpN (Kp.new _ _)⟩, ⟨R0.kpN (Kp.new _ _), ⟨by have := R0.lt; omega, fun j e => by cases e⟩⟩, K0.thenN (Kp.new _ _) (Nat.le_refl _), rfl⟩
    change Code.wp _ _ _ _ (w2.alloc (.cells (pCells V c nilV zeroHouse) 103))
    obtain ⟨hbk, hhb⟩ : ∃ q, q = w2.heap.size := ⟨_, rfl⟩
    rw [← hhb] at S ⊢
    generalize World.alloc w2 (.cells (pCells V c nilV zeroHouse) 103) = w3 at S ⊢
    clear hhb K0 R0 C0 cc cr fr hcw hc hcb hrb hne hcbw
    replace hb1 := Lib.hid hb1
    replace h2 := Lib.hid (show l.length ≤ 2000 by have := h2.out; omega)
    go_wp2_with fail
    go_loopw [27] (fun n wr => BuildAt (buildC c l) rb hbk V c l w n wr) (fun n _ => l.length - (intOf n).toNat)
    case atStart => exact ⟨0, nilV, zeroHouse, rfl, by omega, by rw [List.drop_zero]; exact hb1.out.symm, zeroHouse_ok c 0, S⟩
    case round =>
      clear S
      obtain ⟨i, v, h, rfl, hi, hj, hk, S⟩ := hrel
      by_cases h7 : i < l.length
      · obtain ⟨b, o, rfl, hb, -, hcc⟩ := (hr.kpN S.k).at_ (by omega)
        have c0 : wr.cell? ⟨b, o + i * 9 + 0, none⟩ = some (.int .i64 l[i].kind) := by rw [Nat.add_assoc]; exact hcc i h7 0 _ rfl
        have c1 : wr.cell? ⟨b, o + i * 9 + 1, none⟩ = some (.int .i64 l[i].tick) := by rw [Nat.add_assoc]; exact hcc i h7 1 _ rfl
        have c2 : wr.cell? ⟨b, o + i * 9 + 2, none⟩ = some (.bool l[i].drill) := by rw [Nat.add_assoc]; exact hcc i h7 2 _ rfl
        have c3 : wr.cell? ⟨b, o + i * 9 + 3, none⟩ = some (.int .i64 l[i].a) := by rw [Nat.add_assoc]; exact hcc i h7 3 _ rfl
        have c4 : wr.cell? ⟨b, o + i * 9 + 4, none⟩ = some (.int .i64 l[i].b) := by rw [Nat.add_assoc]; exact hcc i h7 4 _ rfl
        have c5 : wr.cell? ⟨b, o + i * 9 + 5, none⟩ = some (.bool l[i].yes) := by rw [Nat.add_assoc]; exact hcc i h7 5 _ rfl
        have c6 : wr.cell? ⟨b, o + i * 9 + 6, none⟩ = some (.int .i64 l[i].chance.least) := by rw [Nat.add_assoc]; exact hcc i h7 6 _ rfl
        have c7 : wr.cell? ⟨b, o + i * 9 + 7, none⟩ = some (.int .i64 l[i].chance.most) := by rw [Nat.add_assoc]; exact hcc i h7 7 _ rfl
        have c8 : wr.cell? ⟨b, o + i * 9 + 8, none⟩ = some (.int .i64 l[i].chance.all) := by rw [Nat.add_assoc]; exact hcc i h7 8 _ rfl
        simp only [Nat.add_zero] at c0
        have hi' : (i : Int) < (l.length : Int) := by omega
        rw [runItems_drop c l i h7] at hj
        clear hcc hi
        generalize l[i] = x at c0 c1 c2 c3 c4 c5 c6 c7 c8 hj
        have S2 := S.kpN (Kp.new wr (.cells #[.int .i64 x.kind, .int .i64 x.tick, .bool x.drill, .int .i64 x.a, .int .i64 x.b, .bool x.yes, .int .i64 x.chance.least, .int .i64 x.chance.most, .int .i64 x.chance.all] 31))
        have X := Blk.new wr 31 #[.int .i64 x.kind, .int .i64 x.tick, .bool x.drill, .int .i64 x.a, .int .i64 x.b, .bool x.yes, .int .i64 x.chance.least, .int .i64 x.chance.most, .int .i64 x.chance.all]
        replace h7 := Lib.hid h7
        replace hj := Lib.hid hj
        replace hk := Lib.hid hk
        replace hr := Lib.hid hr
        replace S2 := Lib.hid S2
        clear S
        go_wp2_with fail
        refine (do_any w.heap.size hbk i V c v h x _ S2.out.p hok.out hk.out (by have := h7.out; have := h2.out; omega)).mono ?_
        rintro e w4 ⟨rfl, v2, p4, f4⟩
        replace S2 := S2.out.step p4 f4
        clear p4 f4 X
        have dk : doE c h x = 0 → HouseOk c (i + 1) (doH c h x) := fun e => do_ok hok.out hk.out e
        generalize doE c h x = E at S2 hj dk ⊢
        by_cases q0 : E = 0
        · subst q0
          rw [if_pos rfl] at S2
          have hj2 := Lib.hid (show runItems c ((i + 1 : Nat) : Int) (doH c h x) (l.drop (i + 1)) = buildC c l by have := hj.out; rw [if_pos rfl] at this; exact this)
          have hk2 := Lib.hid (dk rfl)
          replace S2 := Lib.hid S2
          clear hj dk
          go_wp2
          go_roundw
          case rel => exact ⟨i + 1, v2, _, rfl, h7.out, hj2.out, hk2.out, S2.out⟩
          case measure => have := h7.out; simp [intOf]; omega
        · have S : BS w.heap.size hbk rb V c v2 h w w4 := by rw [if_neg q0] at S2; exact S2
          have hj2 := Lib.hid (show (h, (i : Int), E) = buildC c l by have := hj.out; rw [if_neg q0] at this; exact this)
          clear hj S2 dk
          have q1 : (E != 0) = true := by simpa using q0
          go_wp2_with fail
          refine (plain_ex _ _ _ _ _ _ _ S.p).mono ?_
          rintro e w6 ⟨⟨A0, l0, q0, A1, l1, q1, A2, l2, q2, A3, l3, q3, A4, l4, q4, A5, l5, q5, rfl, ec⟩, k6⟩
          replace S := S.kpN k6
          clear k6
          have cr := fun i => S.r.blk.cell i
          have fr := fun i => S.r.blk.frozen i
          replace S := Lib.hid S
          replace ec := Lib.hid ec
          go_wp2_with fail
          replace S := S.out
          obtain ⟨hr3, K9, R9⟩ := told_fin S hrw (.int .i64 h.tick) (.int .i64 h.real.items) (.slice A0 l0 q0) (.slice A1 l1 q1) (.slice A2 l2 q2) (.int .i64 h.drill.items) (.slice A3 l3 q3) (.slice A4 l4 q4) (.slice A5 l5 q5)
          change bodyPost _ _ _ _ _ (setR0 w6 rb (.int .i64 h.tick) (.int .i64 h.real.items) (.slice A0 l0 q0) (.slice A1 l1 q1) (.slice A2 l2 q2) (.int .i64 h.drill.items) (.slice A3 l3 q3) (.slice A4 l4 q4) (.slice A5 l5 q5))
          generalize setR0 w6 rb (.int .i64 h.tick) (.int .i64 h.real.items) (.slice A0 l0 q0) (.slice A1 l1 q1) (.slice A2 l2 q2) (.int .i64 h.drill.items) (.slice A3 l3 q3) (.slice A4 l4 q4) (.slice A5 l5 q5) = w9 at K9 R9 hr3 ⊢
          have c9 := fun i => R9.cell i
          exact bodyPost_ret (v := .tuple #[.agg #[.int .i64 h.tick, .int .i64 h.real.items, .slice A0 l0 q0, .slice A1 l1 q1, .slice A2 l2 q2, .int .i64 h.drill.items, .slice A3 l3 q3, .slice A4 l4 q4, .slice A5 l5 q5], .int .i64 i, .int .i64 E]) (by simp [results, Try.results20, go_sem, c9]) rfl ⟨v2, by rw [← hj2.out, ec.out], by rw [← hj2.out]; exact ⟨_, hr3⟩, K9⟩
      · have he : i = l.length := by omega
        have hi' : ¬ (i : Int) < (l.length : Int) := by omega
        have hj2 := Lib.hid (show (h, (-1 : Int), (0 : Int)) = buildC c l by rw [he, List.drop_length] at hj; exact hj)
        clear hj hi h7 hk
        rename (Ky → Value) => v2
        go_wp2_with fail
        refine (plain_ex _ _ _ _ _ _ _ S.p).mono ?_
        rintro e w6 ⟨⟨A0, l0, q0, A1, l1, q1, A2, l2, q2, A3, l3, q3, A4, l4, q4, A5, l5, q5, rfl, ec⟩, k6⟩
        replace S := S.kpN k6
        clear k6
        have cr := fun i => S.r.blk.cell i
        have fr := fun i => S.r.blk.frozen i
        replace S := Lib.hid S
        replace ec := Lib.hid ec
        go_wp2_with fail
        replace S := S.out
        obtain ⟨hr3, K9, R9⟩ := told_fin S hrw (.int .i64 h.tick) (.int .i64 h.real.items) (.slice A0 l0 q0) (.slice A1 l1 q1) (.slice A2 l2 q2) (.int .i64 h.drill.items) (.slice A3 l3 q3) (.slice A4 l4 q4) (.slice A5 l5 q5)
        change bodyPost _ _ _ _ _ (setR0 w6 rb (.int .i64 h.tick) (.int .i64 h.real.items) (.slice A0 l0 q0) (.slice A1 l1 q1) (.slice A2 l2 q2) (.int .i64 h.drill.items) (.slice A3 l3 q3) (.slice A4 l4 q4) (.slice A5 l5 q5))
        generalize setR0 w6 rb (.int .i64 h.tick) (.int .i64 h.real.items) (.slice A0 l0 q0) (.slice A1 l1 q1) (.slice A2 l2 q2) (.int .i64 h.drill.items) (.slice A3 l3 q3) (.slice A4 l4 q4) (.slice A5 l5 q5) = w9 at K9 R9 hr3 ⊢
        have c9 := fun i => R9.cell i
        exact bodyPost_ret (v := .tuple #[.agg #[.int .i64 h.tick, .int .i64 h.real.items, .slice A0 l0 q0, .slice A1 l1 q1, .slice A2 l2 q2, .int .i64 h.drill.items, .slice A3 l3 q3, .slice A4 l4 q4, .slice A5 l5 q5], .int .i64 (-1), .int .i64 0]) (by simp [results, Try.results20, go_sem, c9]) rfl ⟨v2, by rw [← hj2.out, ec.out], by rw [← hj2.out]; exact ⟨_, hr3⟩, K9⟩
end Go.Proofs.Ytogpgnljomchcaa
