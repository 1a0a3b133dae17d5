/- Which rocks are valid, which stones are of a rock. -/
import Derived.Test.YtdiigflbohbndaaDoorAir
namespace Go.Proofs.YtdiigflbohbndaaDoor
open Go.RowKit

/-- an operation whose guard says no, its slot written out -/
theorem wpOrd_s2 {P : Program} {l : List Oper} {S : Nat → World → Prop} {Q : Act → World → Prop} {p i k : Nat} {r : List (Nat × Nat)} {a : Act} {w : World} {o : Oper} {d : Option Nat} (hk : k ≠ 3)
    (ho : nthOp l i = some o) (hw : Region.wanted o (yielded l.toArray a.tmps) = false) (hd : o.dst = d)
    (h : ∀ K : Act → Prop, (∀ a, wpOrd P l S Q r p a w → K a) → Oper.quiet P { dst := d, op := .move (.const undef), type := 0, pos := "", after := #[], guard := none } a (fun w' => w' = w) K) :
    wpOrd P l S Q ((i, k) :: r) p a w := by
  refine wpOrd_s hk ho hw ?_
  obtain ⟨v, h1, h2⟩ := h _ fun _ h => h
  have h3 : Oper.quietUpon P (fun w' => w' = w) w v (.ok (.value undef) w) := h1 w rfl
  obtain ⟨_, h4⟩ := h3
  subst h4 hd
  exact h2
/-- The spans of a rock with a fall, by their place. -/
def rockSpan (r : Rock) (f : Fall) : Nat → Span
  | 0 => r.size | 1 => r.dens | 2 => r.strong | 3 => r.spin | 4 => r.shape | 5 => f.speed | _ => f.slope
def arr14 (f : Nat → Span) : Array Value := #[.int .i64 (f 0).lo, .int .i64 (f 0).hi, .int .i64 (f 1).lo, .int .i64 (f 1).hi, .int .i64 (f 2).lo, .int .i64 (f 2).hi, .int .i64 (f 3).lo, .int .i64 (f 3).hi, .int .i64 (f 4).lo, .int .i64 (f 4).hi, .int .i64 (f 5).lo, .int .i64 (f 5).hi, .int .i64 (f 6).lo, .int .i64 (f 6).hi]
theorem index7s (f : Nat → Span) (i : Nat) (hi : i < 7) (w : World) : (Instr.index 114 (.agg (arr14 f)) (.int .i64 (i : Int))).run Tryd.prog w = .ok (.agg #[.int .i64 (f i).lo, .int .i64 (f i).hi]) w := by
  rcases i with _ | _ | _ | _ | _ | _ | _ | i
  all_goals first | omega | kernel_rfl
/-- The error of the span at place i, if there is one. -/
def rockErr (r : Rock) (f : Fall) (i : Nat) : Option Int :=
  if (rockSpan r f i).hi < (rockSpan r f i).lo then some 11 else if (rockSpan r f i).lo < bLo i ∨ bHi i < (rockSpan r f i).hi then some 2 else none
def RockAll (r : Rock) (f : Fall) : Prop := ∀ i, i < 7 → rockErr r f i = none
def RockChk (r : Rock) (f : Fall) (n : Int) : Prop := (n = 0 ∧ RockAll r f) ∨ ∃ i, i < 7 ∧ rockErr r f i = some n ∧ ∀ j, j < i → rockErr r f j = none
theorem rockErr_val {r : Rock} {f : Fall} {i : Nat} {n : Int} (h : rockErr r f i = some n) : n ≠ 0 := by
  unfold rockErr at h
  split at h
  · injection h with h; omega
  · split at h
    · injection h with h; omega
    · cases h
theorem rockChk_one {r : Rock} {f : Fall} {n m : Int} (h : RockChk r f n) (k : RockChk r f m) : n = m := by
  rcases h with ⟨rfl, h⟩ | ⟨i, hi, hn, h⟩ <;> rcases k with ⟨rfl, k⟩ | ⟨j, hj, km, k⟩
  · rfl
  · rw [h j hj] at km; cases km
  · rw [k i hi] at hn; cases hn
  · rcases Nat.lt_trichotomy i j with hij | hij | hij
    · rw [k i hij] at hn; cases hn
    · subst hij; rw [hn] at km; injection km
    · rw [h j hij] at km; cases km
theorem rockOk_all {r : Rock} {f : Fall} (h : RockOk r f) : RockAll r f := by
  obtain ⟨⟨r1, r2, r3⟩, ⟨s1, s2, s3⟩, ⟨t1, t2, t3⟩, ⟨n1, n2, n3⟩, ⟨h1, h2, h3⟩, ⟨v1, v2, v3⟩, ⟨l1, l2, l3⟩⟩ := h
  intro i hi
  rcases i with _ | _ | _ | _ | _ | _ | _ | i
  all_goals first | (unfold rockErr; simp only [rockSpan, bLo, bHi]; rw [if_neg (by omega), if_neg (by omega)]) | omega
set_option maxHeartbeats 400000 in
theorem blast_spans_any (r : Rock) (f : Fall) (w : World) :
    Calls Tryd.prog 84 #[.agg #[.int .i64 r.size.lo, .int .i64 r.size.hi, .int .i64 r.dens.lo, .int .i64 r.dens.hi, .int .i64 r.strong.lo, .int .i64 r.strong.hi, .int .i64 r.spin.lo, .int .i64 r.spin.hi, .int .i64 r.shape.lo, .int .i64 r.shape.hi, .bool r.pile], .agg #[.int .i64 f.speed.lo, .int .i64 f.speed.hi, .int .i64 f.slope.lo, .int .i64 f.slope.hi]] w fun e w' => e = .returned (.agg (arr14 (rockSpan r f))) ∧ Kp w.heap.size none w w' := by
  have K := (((Kp.refl w.heap.size none w).alloc (Nat.le_refl _) (.cells #[.int .i64 r.size.lo, .int .i64 r.size.hi, .int .i64 r.dens.lo, .int .i64 r.dens.hi, .int .i64 r.strong.lo, .int .i64 r.strong.hi, .int .i64 r.spin.lo, .int .i64 r.spin.hi, .int .i64 r.shape.lo, .int .i64 r.shape.hi, .bool r.pile] 28)).alloc (by simp) (.cells #[.int .i64 f.speed.lo, .int .i64 f.speed.hi, .int .i64 f.slope.lo, .int .i64 f.slope.hi] 30)).alloc (by simp <;> omega) (.cells (arr14 (rockSpan r f)) 114)
  go_enter Tryd.func84, Tryd.ntmps84
  go_wp2
  exact bodyPost_ret (v := .agg (arr14 (rockSpan r f))) (by simp [results, Tryd.results84, go_sem, arr14, rockSpan]) rfl ⟨rfl, K⟩
def RockAt (r : Rock) (f : Fall) (w : World) (v : Value) (wr : World) : Prop := ∃ i : Nat, v = .int .i64 i ∧ i ≤ 7 ∧ (∀ j, j < i → rockErr r f j = none) ∧ Kp w.heap.size none w wr
set_option maxRecDepth 100000 in
set_option maxHeartbeats 1000000 in
theorem blast_CheckRock_any (r : Rock) (f : Fall) (w : World) (hb : Bnd w) :
    Calls Tryd.prog 31 #[.agg #[.int .i64 r.size.lo, .int .i64 r.size.hi, .int .i64 r.dens.lo, .int .i64 r.dens.hi, .int .i64 r.strong.lo, .int .i64 r.strong.hi, .int .i64 r.spin.lo, .int .i64 r.spin.hi, .int .i64 r.shape.lo, .int .i64 r.shape.hi, .bool r.pile], .agg #[.int .i64 f.speed.lo, .int .i64 f.speed.hi, .int .i64 f.slope.lo, .int .i64 f.slope.hi]] w fun e w' => (∃ n, e = .returned (.int .i64 n) ∧ RockChk r f n) ∧ Kp w.heap.size none w w' := by
  have K0 := ((Kp.refl w.heap.size none w).alloc (Nat.le_refl _) (.cells #[.int .i64 r.size.lo, .int .i64 r.size.hi, .int .i64 r.dens.lo, .int .i64 r.dens.hi, .int .i64 r.strong.lo, .int .i64 r.strong.hi, .int .i64 r.spin.lo, .int .i64 r.spin.hi, .int .i64 r.shape.lo, .int .i64 r.shape.hi, .bool r.pile] 28)).alloc (by simp) (.cells #[.int .i64 f.speed.lo, .int .i64 f.speed.hi, .int .i64 f.slope.lo, .int .i64 f.slope.hi] 30)
  go_enter Tryd.func31, Tryd.ntmps31
  go_wp2_with fail
  refine (blast_spans_any r f _).mono ?_
  rintro e w1 ⟨rfl, k1⟩
  have K1 := K0.then_ k1 (by simp <;> omega)
  clear k1 K0
  go_wp2_with fail
  go_loopw [10] (fun v wr => RockAt r f w v wr) (fun v _ => 7 - (intOf v).toNat)
  case atStart => exact ⟨0, rfl, by omega, fun j hj => absurd hj (by omega), K1⟩
  case round =>
    obtain ⟨i, rfl, hi, hj, KK⟩ := hrel
    by_cases h7 : i < 7
    · have ha := index7s (rockSpan r f) i h7
      obtain ⟨hl, hh⟩ := (hb.kpN KK).2 i h7
      have hB0 : 0 < wr.heap.size := (hb.kpN KK).1
      have hst : rockErr r f i = none → ∀ j, j < i + 1 → rockErr r f j = none := fun h j hj' => by
        rcases Nat.lt_or_ge j i with h1 | h1
        · exact hj j h1
        · rw [show j = i from by omega]; exact h
      have hbad : ∀ n, rockErr r f i = some n → RockChk r f n := fun n h => .inr ⟨i, h7, h, hj⟩
      have hre : rockErr r f i = if (rockSpan r f i).hi < (rockSpan r f i).lo then some 11 else if (rockSpan r f i).lo < bLo i ∨ bHi i < (rockSpan r f i).hi then some 2 else none := rfl
      generalize rockErr r f i = re at hst hbad hre
      generalize arr14 (rockSpan r f) = cs at ha
      generalize rockSpan r f i = sp at ha hre
      generalize bLo i = lo at hl hre
      generalize bHi i = hi2 at hh hre
      obtain ⟨a, b⟩ := sp
      simp only at ha hre
      have B1 := Blk.new wr 26 #[.int .i64 a, .int .i64 b]
      have K2 := KK.alloc KK.size (.cells #[.int .i64 a, .int .i64 b] 26)
      have hl2 := (World.cell?_alloc_lt wr (.cells #[.int .i64 a, .int .i64 b] 26) ⟨0, i * 2, none⟩ hB0).trans hl
      have hh2 := (World.cell?_alloc_lt wr (.cells #[.int .i64 a, .int .i64 b] 26) ⟨0, i * 2 + 1, none⟩ hB0).trans hh
      replace hst := Lib.hid hst
      replace hbad := Lib.hid hbad
      have hb := Lib.hid hb
      have h7' : (i : Int) < 7 := by omega
      have hi0 : (0 : Int) ≤ (i : Int) := by omega
      clear hi hj hl hh
      replace h7 := Lib.hid h7
      by_cases h1 : b < a
      · have hno := Lib.hid (hbad.out 11 (by rw [hre, if_pos h1]))
        clear hre
        go_wp2
        exact bodyPost_ret (v := .int .i64 11) (by simp [results, Tryd.results31, go_sem]) rfl ⟨⟨11, rfl, hno.out⟩, K2⟩
      · rw [if_neg h1] at hre
        have c1 := fun i => B1.cell i
        by_cases h2 : a < lo
        · have hno := Lib.hid (hbad.out 2 (by rw [hre, if_pos (.inl h2)]))
          have d2 : (a < lo) = True := eq_true h2
          clear hre
          go_wp2_with fail
          obtain ⟨S, hS⟩ : ∃ S : Nat → World → Prop, S = fun _ w' => Blk w' wr.heap.size 26 #[.int .i64 a, .int .i64 b] ∧ w'.cell? ⟨0, i * 2, none⟩ = some (.int .i64 lo) ∧ w'.cell? ⟨0, i * 2 + 1, none⟩ = some (.int .i64 hi2) := ⟨_, rfl⟩
          have hS0 : ∀ w', S 0 w' ↔ (Blk w' wr.heap.size 26 #[.int .i64 a, .int .i64 b] ∧ w'.cell? ⟨0, i * 2, none⟩ = some (.int .i64 lo) ∧ w'.cell? ⟨0, i * 2 + 1, none⟩ = some (.int .i64 hi2)) := fun w' => by rw [hS]
          clear hS
          have cx := fun (x : Ev (S 0)) i => ((hS0 _).1 x.h).1.cell i
          have cy := fun (x : Ev (S 0)) => ((hS0 _).1 x.h).2.1
          have cz := fun (x : Ev (S 0)) => ((hS0 _).1 x.h).2.2
          clear c1
          have hevT := ev_true
          refine wp_region_ord S [(0, 0), (1, 1), (2, 0), (3, 0), (4, 0), (5, 1), (6, 0), (7, 0), (8, 0), (9, 1), (10, 0), (11, 0), (12, 0), (13, 1), (14, 0), (15, 0), (16, 0)] [] (by kernel_rfl) (by kernel_rfl) ((hS0 _).2 ⟨B1, hl2, hh2⟩) ?_
          intro _hev
          first | (refine wpOrd_v rfl rfl ?_; intro K hK; go_big_quiet_op; go_big_quiet_on) | (refine wpOrd_q rfl rfl ?_; intro K hK; go_big_quiet_op; go_big_quiet_on)
          first | (refine wpOrd_v rfl rfl ?_; intro K hK; go_big_quiet_op; go_big_quiet_on) | (refine wpOrd_q rfl rfl ?_; intro K hK; go_big_quiet_op; go_big_quiet_on)
          first | (refine wpOrd_v rfl rfl ?_; intro K hK; go_big_quiet_op; go_big_quiet_on) | (refine wpOrd_q rfl rfl ?_; intro K hK; go_big_quiet_op; go_big_quiet_on)
          first | (refine wpOrd_v rfl rfl ?_; intro K hK; go_big_quiet_op; go_big_quiet_on) | (refine wpOrd_q rfl rfl ?_; intro K hK; go_big_quiet_op; go_big_quiet_on)
          first | (refine wpOrd_v rfl rfl ?_; intro K hK; go_big_quiet_op; go_big_quiet_on) | (refine wpOrd_q rfl rfl ?_; intro K hK; go_big_quiet_op; go_big_quiet_on)
          first | (refine wpOrd_v rfl rfl ?_; intro K hK; go_big_quiet_op; go_big_quiet_on) | (refine wpOrd_q rfl rfl ?_; intro K hK; go_big_quiet_op; go_big_quiet_on)
          first | (refine wpOrd_v rfl rfl ?_; intro K hK; go_big_quiet_op; go_big_quiet_on) | (refine wpOrd_q rfl rfl ?_; intro K hK; go_big_quiet_op; go_big_quiet_on)
          first | (refine wpOrd_v rfl rfl ?_; intro K hK; go_big_quiet_op; go_big_quiet_on) | (refine wpOrd_q rfl rfl ?_; intro K hK; go_big_quiet_op; go_big_quiet_on)
          refine wpOrd_s2 (by decide) rfl rfl rfl ?_; intro K hK; go_big_quiet_op; go_big_quiet_on
          refine wpOrd_s2 (by decide) rfl rfl rfl ?_; intro K hK; go_big_quiet_op; go_big_quiet_on
          refine wpOrd_s2 (by decide) rfl rfl rfl ?_; intro K hK; go_big_quiet_op; go_big_quiet_on
          refine wpOrd_s2 (by decide) rfl rfl rfl ?_; intro K hK; go_big_quiet_op; go_big_quiet_on
          refine wpOrd_s2 (by decide) rfl rfl rfl ?_; intro K hK; go_big_quiet_op; go_big_quiet_on
          refine wpOrd_s2 (by decide) rfl rfl rfl ?_; intro K hK; go_big_quiet_op; go_big_quiet_on
          refine wpOrd_s2 (by decide) rfl rfl rfl ?_; intro K hK; go_big_quiet_op; go_big_quiet_on
          first | (refine wpOrd_v rfl rfl ?_; intro K hK; go_big_quiet_op; go_big_quiet_on) | (refine wpOrd_q rfl rfl ?_; intro K hK; go_big_quiet_op; go_big_quiet_on)
          first | (refine wpOrd_v rfl rfl ?_; intro K hK; go_big_quiet_op; go_big_quiet_on) | (refine wpOrd_q rfl rfl ?_; intro K hK; go_big_quiet_op; go_big_quiet_on)
          refine wpOrd_nil ?_
          clear hevT _hev
          clear cx cy cz hS0 S
          go_wp2
          exact bodyPost_ret (v := .int .i64 2) (by simp [results, Tryd.results31, go_sem]) rfl ⟨⟨2, rfl, hno.out⟩, K2.drew⟩
        · by_cases h3 : hi2 < b
          · have hno := Lib.hid (hbad.out 2 (by rw [hre, if_pos (.inr h3)]))
            have d2 : (a < lo) = False := eq_false h2
            have d3 : (hi2 < b) = True := eq_true h3
            clear hre
            go_wp2_with fail
            obtain ⟨S, hS⟩ : ∃ S : Nat → World → Prop, S = fun _ w' => Blk w' wr.heap.size 26 #[.int .i64 a, .int .i64 b] ∧ w'.cell? ⟨0, i * 2, none⟩ = some (.int .i64 lo) ∧ w'.cell? ⟨0, i * 2 + 1, none⟩ = some (.int .i64 hi2) := ⟨_, rfl⟩
            have hS0 : ∀ w', S 0 w' ↔ (Blk w' wr.heap.size 26 #[.int .i64 a, .int .i64 b] ∧ w'.cell? ⟨0, i * 2, none⟩ = some (.int .i64 lo) ∧ w'.cell? ⟨0, i * 2 + 1, none⟩ = some (.int .i64 hi2)) := fun w' => by rw [hS]
            clear hS
            have cx := fun (x : Ev (S 0)) i => ((hS0 _).1 x.h).1.cell i
            have cy := fun (x : Ev (S 0)) => ((hS0 _).1 x.h).2.1
            have cz := fun (x : Ev (S 0)) => ((hS0 _).1 x.h).2.2
            clear c1
            have hevT := ev_true
            refine wp_region_ord S [(0, 0), (1, 1), (2, 0), (3, 0), (4, 0), (5, 1), (6, 0), (7, 0), (8, 0), (9, 1), (10, 0), (11, 0), (12, 0), (13, 1), (14, 0), (15, 0), (16, 0)] [] (by kernel_rfl) (by kernel_rfl) ((hS0 _).2 ⟨B1, hl2, hh2⟩) ?_
            intro _hev
            iterate 17 (first | (refine wpOrd_v rfl rfl ?_; intro K hK; go_big_quiet_op; go_big_quiet_on) | (refine wpOrd_q rfl rfl ?_; intro K hK; go_big_quiet_op; go_big_quiet_on) | refine wpOrd_s (by decide) rfl rfl ?_)
            refine wpOrd_nil ?_
            clear hevT _hev
            clear cx cy cz hS0 S
            go_wp2
            exact bodyPost_ret (v := .int .i64 2) (by simp [results, Tryd.results31, go_sem]) rfl ⟨⟨2, rfl, hno.out⟩, K2.drew⟩
          · have hok := Lib.hid (hst.out (by rw [hre, if_neg (fun k => k.elim h2 h3)]))
            have d2 : (a < lo) = False := eq_false h2
            have d3 : (hi2 < b) = False := eq_false h3
            clear hre
            go_wp2_with fail
            obtain ⟨S, hS⟩ : ∃ S : Nat → World → Prop, S = fun _ w' => Blk w' wr.heap.size 26 #[.int .i64 a, .int .i64 b] ∧ w'.cell? ⟨0, i * 2, none⟩ = some (.int .i64 lo) ∧ w'.cell? ⟨0, i * 2 + 1, none⟩ = some (.int .i64 hi2) := ⟨_, rfl⟩
            have hS0 : ∀ w', S 0 w' ↔ (Blk w' wr.heap.size 26 #[.int .i64 a, .int .i64 b] ∧ w'.cell? ⟨0, i * 2, none⟩ = some (.int .i64 lo) ∧ w'.cell? ⟨0, i * 2 + 1, none⟩ = some (.int .i64 hi2)) := fun w' => by rw [hS]
            clear hS
            have cx := fun (x : Ev (S 0)) i => ((hS0 _).1 x.h).1.cell i
            have cy := fun (x : Ev (S 0)) => ((hS0 _).1 x.h).2.1
            have cz := fun (x : Ev (S 0)) => ((hS0 _).1 x.h).2.2
            clear c1
            have hevT := ev_true
            refine wp_region_ord S [(0, 0), (1, 1), (2, 0), (3, 0), (4, 0), (5, 1), (6, 0), (7, 0), (8, 0), (9, 1), (10, 0), (11, 0), (12, 0), (13, 1), (14, 0), (15, 0), (16, 0)] [] (by kernel_rfl) (by kernel_rfl) ((hS0 _).2 ⟨B1, hl2, hh2⟩) ?_
            intro _hev
            iterate 17 (first | (refine wpOrd_v rfl rfl ?_; intro K hK; go_big_quiet_op; go_big_quiet_on) | (refine wpOrd_q rfl rfl ?_; intro K hK; go_big_quiet_op; go_big_quiet_on) | refine wpOrd_s (by decide) rfl rfl ?_)
            refine wpOrd_nil ?_
            clear hevT _hev
            clear cx cy cz hS0 S
            go_wp2
            go_roundw
            case rel => exact ⟨i + 1, rfl, h7.out, hok.out, K2.drew⟩
            case measure => have := h7.out; simp [intOf]; omega
    · have he : i = 7 := by omega
      subst he
      have hok := Lib.hid hj
      clear hj hi h7
      go_wp2
      exact bodyPost_ret (v := .int .i64 0) (by simp [results, Tryd.results31, go_sem]) rfl ⟨⟨0, rfl, .inl ⟨rfl, hok.out⟩⟩, KK⟩
/-- What Of asks. -/
def OfAll (s : Stone) (r : Rock) (f : Fall) : Prop := StoneOk s ∧ RockAll r f ∧ s.pile = r.pile ∧ ∀ i, i < 7 → (rockSpan r f i).lo ≤ stoneNum s i ∧ stoneNum s i ≤ (rockSpan r f i).hi
def OfAt (s : Stone) (r : Rock) (f : Fall) (w : World) (b : Nat) (v : Value) (wr : World) : Prop := ∃ i : Nat, v = .int .i64 i ∧ i ≤ 7 ∧ (∀ j, j < i → (rockSpan r f j).lo ≤ stoneNum s j ∧ stoneNum s j ≤ (rockSpan r f j).hi) ∧
  Blk wr b 114 (arr14 (rockSpan r f)) ∧ Kp w.heap.size none w wr
theorem arr14_at (f : Nat → Span) (i : Nat) (hi : i < 7) : (arr14 f)[i * 2]? = some (.int .i64 (f i).lo) ∧ (arr14 f)[i * 2 + 1]? = some (.int .i64 (f i).hi) := by
  rcases i with _ | _ | _ | _ | _ | _ | _ | i
  all_goals first | exact ⟨rfl, rfl⟩ | omega
end Go.Proofs.YtdiigflbohbndaaDoor
