/- The reference: the blows of a rock. -/
import Derived.Test.YtdiigflbohbndaaDoorRefBlow
import Derived.Test.YtdiigflbohbndaaDoorBlow3
import Derived.Maps.AppendAt
namespace Go.Proofs.YtdiigflbohbndaaDoor
open Go.RowKit

/-- The boxes: rock, fall, and what is left of w. -/
structure RB (r : Rock) (f : Fall) (bk bf bw : Nat) (va vb : Int) (w : World) : Prop where
  k : Blk w bk 28 #[.int .i64 r.size.lo, .int .i64 r.size.hi, .int .i64 r.dens.lo, .int .i64 r.dens.hi, .int .i64 r.strong.lo, .int .i64 r.strong.hi, .int .i64 r.spin.lo, .int .i64 r.spin.hi, .int .i64 r.shape.lo, .int .i64 r.shape.hi, .bool r.pile]
  f : Blk w bf 30 #[.int .i64 f.speed.lo, .int .i64 f.speed.hi, .int .i64 f.slope.lo, .int .i64 f.slope.hi]
  w : Blk w bw 26 #[.int .i64 va, .int .i64 vb]
theorem RB.kpN {r : Rock} {f : Fall} {bk bf bw : Nat} {va vb : Int} {w w' : World} (h : RB r f bk bf bw va vb w) (k : Kp w.heap.size none w w') : RB r f bk bf bw va vb w' := ⟨h.k.kpN k, h.f.kpN k, h.w.kpN k⟩
def SpanAny (W : World) (p : Nat) (w : World) : Prop := W.heap.size ≤ p ∧ ∃ x y, Blk w p 26 #[x, y]
def SpanIs (W : World) (p : Nat) (x y : Int) (w : World) : Prop := W.heap.size ≤ p ∧ Blk w p 26 #[.int .i64 x, .int .i64 y]
theorem SpanAny.kpN {W w w' : World} {p : Nat} (h : SpanAny W p w) (k : Kp w.heap.size none w w') : SpanAny W p w' := ⟨h.1, h.2.imp fun _ h => h.imp fun _ h => h.kpN k⟩
theorem Blk.grown {w w' : World} {b : Nat} {t : TypeId} {cs : Array Value} {row : Option Nat} (h : Blk w b t cs) (hg : w.grownBy w' row) (hn : row ≠ some b) : Blk w' b t cs := (hg.block b h.lt (fun e => hn e.symm)).trans h
theorem weak_held (r : Rock) (f : Fall) : holdOf r.strong.lo r.spin.hi r.pile = heldBy (weakS r f) := rfl
theorem strong_held (r : Rock) (f : Fall) : holdOf r.strong.hi r.spin.lo r.pile = heldBy (strongS r f) := rfl
def RefBAt (ls : List Layer) (r : Rock) (f : Fall) (bk bf bw bh bm : Nat) (W : World) (vo vi : Value) (wr : World) : Prop :=
  ∃ (i : Nat) (va vb : Int) (pre : List Blow), vi = .int .i64 i ∧ i ≤ ls.length ∧ pre.length ≤ i ∧ Vok va ∧ Vok vb ∧ blowsOf ls r f = pre ++ blowsFrom (weakS r f) (strongS r f) (ls.drop i) i va vb ∧
    Own wr W.heap.size 83 3 encBlow vo pre ∧ RB r f bk bf bw va vb wr ∧ Blk wr bh 26 #[.int .i64 (heldBy (weakS r f)), .int .i64 (heldBy (strongS r f))] ∧ Blk wr bm 26 #[.int .i64 (massOf (weakS r f).size (weakS r f).dens), .int .i64 (massOf (strongS r f).size (strongS r f).dens)] ∧ Kp W.heap.size none W wr
set_option maxRecDepth 100000 in
set_option maxHeartbeats 4000000 in
theorem ref_Blows_any (A : Option Addr) (cap : Nat) (ls : List Layer) (r : Rock) (f : Fall) (W : World) (h : Rd none W 2 encLayer A ls.length ls) :
    Calls Tryd.prog 55 #[.slice A ls.length cap, .agg #[.int .i64 r.size.lo, .int .i64 r.size.hi, .int .i64 r.dens.lo, .int .i64 r.dens.hi, .int .i64 r.strong.lo, .int .i64 r.strong.hi, .int .i64 r.spin.lo, .int .i64 r.spin.hi, .int .i64 r.shape.lo, .int .i64 r.shape.hi, .bool r.pile], .agg #[.int .i64 f.speed.lo, .int .i64 f.speed.hi, .int .i64 f.slope.lo, .int .i64 f.slope.hi]] W (BlowsPost ls r f W) := by
  obtain ⟨i0, hi0, hz0, hz1, hz2⟩ := info_parts blow_info
  have K0 := ((Kp.refl W.heap.size none W).alloc (Nat.le_refl _) (.cells #[.int .i64 r.size.lo, .int .i64 r.size.hi, .int .i64 r.dens.lo, .int .i64 r.dens.hi, .int .i64 r.strong.lo, .int .i64 r.strong.hi, .int .i64 r.spin.lo, .int .i64 r.spin.hi, .int .i64 r.shape.lo, .int .i64 r.shape.hi, .bool r.pile] 28)).alloc (by simp) (.cells #[.int .i64 f.speed.lo, .int .i64 f.speed.hi, .int .i64 f.slope.lo, .int .i64 f.slope.hi] 30)
  have RB0 := (Blk.new W 28 #[.int .i64 r.size.lo, .int .i64 r.size.hi, .int .i64 r.dens.lo, .int .i64 r.dens.hi, .int .i64 r.strong.lo, .int .i64 r.strong.hi, .int .i64 r.spin.lo, .int .i64 r.spin.hi, .int .i64 r.shape.lo, .int .i64 r.shape.hi, .bool r.pile]).alloc (.cells #[.int .i64 f.speed.lo, .int .i64 f.speed.hi, .int .i64 f.slope.lo, .int .i64 f.slope.hi] 30)
  have FB0 := Blk.newAt (W.alloc (.cells #[.int .i64 r.size.lo, .int .i64 r.size.hi, .int .i64 r.dens.lo, .int .i64 r.dens.hi, .int .i64 r.strong.lo, .int .i64 r.strong.hi, .int .i64 r.spin.lo, .int .i64 r.spin.hi, .int .i64 r.shape.lo, .int .i64 r.shape.hi, .bool r.pile] 28)) 30 #[.int .i64 f.speed.lo, .int .i64 f.speed.hi, .int .i64 f.slope.lo, .int .i64 f.slope.hi] (n := W.heap.size + 1) (by simp)
  go_enter Tryd.func55, Tryd.ntmps55
  go_wp2_with fail
  generalize hw0 : (W.alloc (.cells #[.int .i64 r.size.lo, .int .i64 r.size.hi, .int .i64 r.dens.lo, .int .i64 r.dens.hi, .int .i64 r.strong.lo, .int .i64 r.strong.hi, .int .i64 r.spin.lo, .int .i64 r.spin.hi, .int .i64 r.shape.lo, .int .i64 r.shape.hi, .bool r.pile] 28)).alloc (.cells #[.int .i64 f.speed.lo, .int .i64 f.speed.hi, .int .i64 f.slope.lo, .int .i64 f.slope.hi] 30) = w0 at *
  clear hw0
  refine (ref_CheckAir_any A cap ls _ (h.kpN K0)).mono ?_
  rintro e w1 ⟨⟨n, rfl, hn⟩, k1⟩
  have K1 := K0.thenN k1 (Nat.le_refl _)
  replace RB0 := RB0.kpN k1
  replace FB0 := FB0.kpN k1
  clear k1 K0
  by_cases hn0 : n = 0
  case neg =>
    have hc : BlowsChk ls r f [] n := .inr ⟨hn0, rfl, .inl hn⟩
    replace hc := Lib.hid hc
    clear hn RB0 FB0
    go_wp2
    exact bodyPost_ret (v := .tuple #[.slice none 0 0, .int .i64 n]) (by simp [results, Tryd.results55, go_sem]) rfl ⟨⟨none, 0, [], n, rfl, Rd.nil _ _ _ _ _, hc.out⟩, K1⟩
  case pos =>
    subst hn0
    have ha : AirOk ls := by
      rcases hn with ⟨_, h⟩ | ⟨h, _⟩ | ⟨h, _⟩
      · exact h
      · cases h
      · cases h
    clear hn
    replace ha := Lib.hid ha
    have cR := fun i => RB0.cell i
    have cF := fun i => FB0.cell i
    go_wp2_with fail
    refine (ref_CheckRock_any r f _).mono ?_
    rintro e w2 ⟨⟨m, rfl, hm⟩, k2⟩
    have K2 := K1.thenN k2 (Nat.le_refl _)
    replace RB0 := RB0.kpN k2
    replace FB0 := FB0.kpN k2
    clear k2 K1 cR cF
    by_cases hm0 : m = 0
    case neg =>
      have hc : BlowsChk ls r f [] m := .inr ⟨hm0, rfl, .inr ⟨ha.out, hm⟩⟩
      replace hc := Lib.hid hc
      clear hm RB0 FB0
      go_wp2
      exact bodyPost_ret (v := .tuple #[.slice none 0 0, .int .i64 m]) (by simp [results, Tryd.results55, go_sem]) rfl ⟨⟨none, 0, [], m, rfl, Rd.nil _ _ _ _ _, hc.out⟩, K2⟩
    case pos =>
      subst hm0
      have hr : RockAll r f := by
        rcases hm with ⟨_, h⟩ | ⟨i, _, hi, _⟩
        · exact h
        · exact absurd rfl (rockErr_val hi)
      clear hm
      have hok := rockOk_of_all hr
      have hbd : (0 ≤ r.strong.lo ∧ r.strong.lo ≤ 1099511627776) ∧ (0 ≤ r.spin.hi ∧ r.spin.hi ≤ 1000) ∧ (0 ≤ r.strong.hi ∧ r.strong.hi ≤ 1099511627776) ∧ (0 ≤ r.spin.lo ∧ r.spin.lo ≤ 1000) ∧
          (1 ≤ r.size.lo ∧ r.size.lo ≤ 1000) ∧ (1 ≤ r.dens.lo ∧ r.dens.lo ≤ 9000) ∧ (1 ≤ r.size.hi ∧ r.size.hi ≤ 1000) ∧ (1 ≤ r.dens.hi ∧ r.dens.hi ≤ 9000) := by
        obtain ⟨⟨r1, r2, r3⟩, ⟨s1, s2, s3⟩, ⟨t1, t2, t3⟩, ⟨n1, n2, n3⟩, _⟩ := hok
        omega
      have hwk := Lib.hid (weak_ok hok)
      have hsk := Lib.hid (strong_ok hok)
      have hv0 : Vok (f.speed.lo * f.speed.lo) := vok_sq (weak_ok hok)
      have hv1 : Vok (f.speed.hi * f.speed.hi) := vok_sq (strong_ok hok)
      have e0 := Lib.hid (wrap64_of hv0.1 (by have := hv0.2; omega))
      have e1 := Lib.hid (wrap64_of hv1.1 (by have := hv1.2; omega))
      obtain ⟨v0, hv0e⟩ : ∃ v, v = f.speed.lo * f.speed.lo := ⟨_, rfl⟩
      obtain ⟨v1, hv1e⟩ : ∃ v, v = f.speed.hi * f.speed.hi := ⟨_, rfl⟩
      replace hr := Lib.hid hr
      replace hbd := Lib.hid hbd
      replace hv0 := Lib.hid hv0
      replace hv1 := Lib.hid hv1
      clear hok
      obtain ⟨bk, hbk⟩ : ∃ b, b = W.heap.size := ⟨_, rfl⟩
      obtain ⟨bf, hbf⟩ : ∃ b, b = W.heap.size + 1 := ⟨_, rfl⟩
      obtain ⟨bw, hbw⟩ : ∃ b, b = w2.heap.size := ⟨_, rfl⟩
      have cR := fun i => RB0.cell i
      have cF := fun i => FB0.cell i
      replace hbk := Lib.hid hbk
      replace hbf := Lib.hid hbf
      replace hbw := Lib.hid hbw
      replace hv0e := Lib.hid hv0e
      replace hv1e := Lib.hid hv1e
      go_wp2_with fail
      rw [e0.out, e1.out, ← hv0e.out, ← hv1e.out]
      have WB := Blk.new w2 26 #[.int .i64 v0, .int .i64 v1]
      have K3 := K2.alloc K2.size (.cells #[.int .i64 v0, .int .i64 v1] 26)
      have hz3 : w2.heap.size < (w2.alloc (.cells #[.int .i64 v0, .int .i64 v1] 26)).heap.size := WB.lt
      replace RB0 := RB0.alloc (.cells #[.int .i64 v0, .int .i64 v1] 26)
      replace FB0 := FB0.alloc (.cells #[.int .i64 v0, .int .i64 v1] 26)
      have hK2s := K2.size
      rw [← hbf.out] at FB0 ⊢
      rw [← hbk.out] at RB0 ⊢
      rw [← hbw.out] at WB hz3 ⊢
      clear cR cF e0 e1
      generalize w2.alloc (.cells #[.int .i64 v0, .int .i64 v1] 26) = W8 at *
      have HB : RB r f bk bf bw v0 v1 W8 := ⟨RB0, FB0, WB⟩
      have HBw : bw < W8.heap.size := hz3
      clear RB0 FB0 WB hz3
      refine wp_region_inv (Γ := Nat) [none, none, none, none, none, none, none, none, none, none, none, some 19, none, none, none, none, none, none, none, none, none, none, none, none, none, none, none, none, none, none, none, none, none, none, none, none, none, none, none, none, none, none, none, some 0, some 1, some 2, some 3, some 4, some 5, some 6, some 7, some 8, some 9, some 10, some 11, some 12, some 13, some 14, some 15, some 16, some 17, some 18] [[], [0], [0, 1], [], [3], [3, 4], [], [6], [0, 1, 2, 3, 4, 5, 6, 7], [], [9], [9, 10], [], [12], [12, 13], [], [15], [0, 1, 2, 3, 4, 5, 6, 7, 8, 9, 10, 11, 12, 13, 14, 15, 16], [0, 1, 2, 3, 4, 5, 6, 7, 8, 9, 10, 11, 12, 13, 14, 15, 16, 17], [], [0, 1, 2, 3, 4, 5, 6, 7, 8, 9, 10, 11, 12, 13, 14, 15, 16, 17, 18, 19]] [[3, 4, 5, 6, 7, 9, 10, 11, 12, 13, 14, 15, 16, 19], [0, 3, 4, 5, 6, 7, 9, 10, 11, 12, 13, 14, 15, 16, 19], [0, 1, 3, 4, 5, 6, 7, 9, 10, 11, 12, 13, 14, 15, 16, 19], [0, 1, 2, 6, 7, 9, 10, 11, 12, 13, 14, 15, 16, 19], [0, 1, 2, 3, 6, 7, 9, 10, 11, 12, 13, 14, 15, 16, 19], [0, 1, 2, 3, 4, 6, 7, 9, 10, 11, 12, 13, 14, 15, 16, 19], [0, 1, 2, 3, 4, 5, 9, 10, 11, 12, 13, 14, 15, 16, 19], [0, 1, 2, 3, 4, 5, 6, 9, 10, 11, 12, 13, 14, 15, 16, 19], [0, 1, 2, 3, 4, 5, 6, 7, 9, 10, 11, 12, 13, 14, 15, 16, 19], [0, 1, 2, 3, 4, 5, 6, 7, 8, 12, 13, 14, 15, 16, 19], [0, 1, 2, 3, 4, 5, 6, 7, 8, 9, 12, 13, 14, 15, 16, 19], [0, 1, 2, 3, 4, 5, 6, 7, 8, 9, 10, 12, 13, 14, 15, 16, 19], [0, 1, 2, 3, 4, 5, 6, 7, 8, 9, 10, 11, 15, 16, 19], [0, 1, 2, 3, 4, 5, 6, 7, 8, 9, 10, 11, 12, 15, 16, 19], [0, 1, 2, 3, 4, 5, 6, 7, 8, 9, 10, 11, 12, 13, 15, 16, 19], [0, 1, 2, 3, 4, 5, 6, 7, 8, 9, 10, 11, 12, 13, 14, 19], [0, 1, 2, 3, 4, 5, 6, 7, 8, 9, 10, 11, 12, 13, 14, 15, 19], [0, 1, 2, 3, 4, 5, 6, 7, 8, 9, 10, 11, 12, 13, 14, 15, 16, 19], [0, 1, 2, 3, 4, 5, 6, 7, 8, 9, 10, 11, 12, 13, 14, 15, 16, 17, 19], [0, 1, 2, 3, 4, 5, 6, 7, 8, 9, 10, 11, 12, 13, 14, 15, 16, 17, 18], [0, 1, 2, 3, 4, 5, 6, 7, 8, 9, 10, 11, 12, 13, 14, 15, 16, 17, 18, 19]] (fun γ => [.pointer (some ⟨bk, 4, none⟩), .pointer (some ⟨bk, 4, none⟩), .int .i64 r.strong.lo, .pointer (some ⟨bk, 6, none⟩), .pointer (some ⟨bk, 7, none⟩), .int .i64 r.spin.hi, .pointer (some ⟨bk, 10, none⟩), .bool r.pile, .int .i64 (holdOf r.strong.lo r.spin.hi r.pile), .pointer (some ⟨bk, 4, none⟩), .pointer (some ⟨bk, 5, none⟩), .int .i64 r.strong.hi, .pointer (some ⟨bk, 6, none⟩), .pointer (some ⟨bk, 6, none⟩), .int .i64 r.spin.lo, .pointer (some ⟨bk, 10, none⟩), .bool r.pile, .int .i64 (holdOf r.strong.hi r.spin.lo r.pile), .agg #[.int .i64 (holdOf r.strong.lo r.spin.hi r.pile), .int .i64 (holdOf r.strong.hi r.spin.lo r.pile)], .pointer (some ⟨γ, 0, none⟩), undef]) (fun γ => [none, none, none, none, none, none, none, none, none, none, none, some (.pointer (some ⟨γ, 0, none⟩)), none, none, none, none, none, none, none, none, none, none, none, none, none, none, none, none, none, none, none, none, none, none, none, none, none, none, none, none, none, none, none, some (.pointer (some ⟨bk, 4, none⟩)), some (.pointer (some ⟨bk, 4, none⟩)), some (.int .i64 r.strong.lo), some (.pointer (some ⟨bk, 6, none⟩)), some (.pointer (some ⟨bk, 7, none⟩)), some (.int .i64 r.spin.hi), some (.pointer (some ⟨bk, 10, none⟩)), some (.bool r.pile), some (.int .i64 (holdOf r.strong.lo r.spin.hi r.pile)), some (.pointer (some ⟨bk, 4, none⟩)), some (.pointer (some ⟨bk, 5, none⟩)), some (.int .i64 r.strong.hi), some (.pointer (some ⟨bk, 6, none⟩)), some (.pointer (some ⟨bk, 6, none⟩)), some (.int .i64 r.spin.lo), some (.pointer (some ⟨bk, 10, none⟩)), some (.bool r.pile), some (.int .i64 (holdOf r.strong.hi r.spin.lo r.pile)), some (.agg #[.int .i64 (holdOf r.strong.lo r.spin.hi r.pile), .int .i64 (holdOf r.strong.hi r.spin.lo r.pile)])]) ?A8_1 (fun n D γ w => RB r f bk bf bw v0 v1 w ∧ Kp W8.heap.size none W8 w) (fun k γ w => match k with | 19 => SpanAny W8 γ w | 20 => SpanIs W8 γ (holdOf r.strong.lo r.spin.hi r.pile) (holdOf r.strong.hi r.spin.lo r.pile) w | _ => True) 0 (by kernel_rfl) (fun _ => rfl) ?hA8_1 (by kernel_rfl) ?hB08_1 ?hop8_1 ?hend8_1
      case hA8_1 => intro γ; dsimp only [fullV]; rfl
      case hB08_1 =>
        exact ⟨HB.kpN (Kp.refl _ none _).drew, (Kp.refl _ none _).drew⟩
      case hop8_1 =>
        intro hA
        refine ⟨?_, ?_, ?_, ?_, ?_, ?_, ?_, ?_, ?_, ?_, ?_, ?_, ?_, ?_, ?_, ?_, ?_, ?_, ?_, ?_, ?_, trivial⟩
        · refine opOk_v hA (fun _ => rfl) (fun _ _ => trivial) ?_ ?_
          · intro n D γ w hn h
            replace hn : n < 21 := hn
            try dsimp only at h
            exact h
          intro n D γ w hB hU K hK
          try dsimp only at hB
          try dsimp only
          clear hB hU
          go_step
          exact hK _ rfl
        · refine opOk_v hA (fun _ => rfl) (fun _ _ => trivial) ?_ ?_
          · intro n D γ w hn h
            replace hn : n < 21 := hn
            try dsimp only at h
            exact h
          intro n D γ w hB hU K hK
          try dsimp only at hB
          try dsimp only
          clear hB hU
          go_step
          exact hK _ rfl
        · refine opOk_v hA (fun _ => rfl) (fun _ _ => trivial) ?_ ?_
          · intro n D γ w hn h
            replace hn : n < 21 := hn
            try dsimp only at h
            exact h
          intro n D γ w hB hU K hK
          try dsimp only at hB
          try dsimp only
          have d1 := fun i => hB.1.k.cell i
          clear hB hU
          go_step
          exact hK _ rfl
        · refine opOk_v hA (fun _ => rfl) (fun _ _ => trivial) ?_ ?_
          · intro n D γ w hn h
            replace hn : n < 21 := hn
            try dsimp only at h
            exact h
          intro n D γ w hB hU K hK
          try dsimp only at hB
          try dsimp only
          clear hB hU
          go_step
          exact hK _ rfl
        · refine opOk_v hA (fun _ => rfl) (fun _ _ => trivial) ?_ ?_
          · intro n D γ w hn h
            replace hn : n < 21 := hn
            try dsimp only at h
            exact h
          intro n D γ w hB hU K hK
          try dsimp only at hB
          try dsimp only
          clear hB hU
          go_step
          exact hK _ rfl
        · refine opOk_v hA (fun _ => rfl) (fun _ _ => trivial) ?_ ?_
          · intro n D γ w hn h
            replace hn : n < 21 := hn
            try dsimp only at h
            exact h
          intro n D γ w hB hU K hK
          try dsimp only at hB
          try dsimp only
          have d1 := fun i => hB.1.k.cell i
          clear hB hU
          go_step
          exact hK _ rfl
        · refine opOk_v hA (fun _ => rfl) (fun _ _ => trivial) ?_ ?_
          · intro n D γ w hn h
            replace hn : n < 21 := hn
            try dsimp only at h
            exact h
          intro n D γ w hB hU K hK
          try dsimp only at hB
          try dsimp only
          clear hB hU
          go_step
          exact hK _ rfl
        · refine opOk_v hA (fun _ => rfl) (fun _ _ => trivial) ?_ ?_
          · intro n D γ w hn h
            replace hn : n < 21 := hn
            try dsimp only at h
            exact h
          intro n D γ w hB hU K hK
          try dsimp only at hB
          try dsimp only
          have d1 := fun i => hB.1.k.cell i
          clear hB hU
          go_step
          exact hK _ rfl
        · refine opOk_l hA (fun _ => rfl) ?_
          intro n D γ w hn hD hB hU K hK
          try dsimp only at hB
          try simp only [allP, List.getD_cons_zero, List.getD_cons_succ, and_true, true_and] at hU
          replace hn : n < 21 := hn
          try dsimp only
          go_step
          refine (ref_holds_any r.strong.lo r.spin.hi r.pile hbd.out.1 hbd.out.2.1 _).mono ?_
          rintro e w5 ⟨rfl, k5⟩
          have s1 : SpanAny W8 γ w → SpanAny W8 γ w5 := fun h => h.kpN k5
          refine hK _ _ γ rfl ⟨hB.1.kpN k5, hB.2.thenN k5 (Nat.le_refl _)⟩ trivial ?_
          try dsimp only [allP, List.getD_cons_zero, List.getD_cons_succ]
          (repeat' apply And.intro) <;> first | exact rfl | exact trivial | exact id | assumption
        · refine opOk_v hA (fun _ => rfl) (fun _ _ => trivial) ?_ ?_
          · intro n D γ w hn h
            replace hn : n < 21 := hn
            try dsimp only at h
            exact h
          intro n D γ w hB hU K hK
          try dsimp only at hB
          try dsimp only
          clear hB hU
          go_step
          exact hK _ rfl
        · refine opOk_v hA (fun _ => rfl) (fun _ _ => trivial) ?_ ?_
          · intro n D γ w hn h
            replace hn : n < 21 := hn
            try dsimp only at h
            exact h
          intro n D γ w hB hU K hK
          try dsimp only at hB
          try dsimp only
          clear hB hU
          go_step
          exact hK _ rfl
        · refine opOk_v hA (fun _ => rfl) (fun _ _ => trivial) ?_ ?_
          · intro n D γ w hn h
            replace hn : n < 21 := hn
            try dsimp only at h
            exact h
          intro n D γ w hB hU K hK
          try dsimp only at hB
          try dsimp only
          have d1 := fun i => hB.1.k.cell i
          clear hB hU
          go_step
          exact hK _ rfl
        · refine opOk_v hA (fun _ => rfl) (fun _ _ => trivial) ?_ ?_
          · intro n D γ w hn h
            replace hn : n < 21 := hn
            try dsimp only at h
            exact h
          intro n D γ w hB hU K hK
          try dsimp only at hB
          try dsimp only
          clear hB hU
          go_step
          exact hK _ rfl
        · refine opOk_v hA (fun _ => rfl) (fun _ _ => trivial) ?_ ?_
          · intro n D γ w hn h
            replace hn : n < 21 := hn
            try dsimp only at h
            exact h
          intro n D γ w hB hU K hK
          try dsimp only at hB
          try dsimp only
          clear hB hU
          go_step
          exact hK _ rfl
        · refine opOk_v hA (fun _ => rfl) (fun _ _ => trivial) ?_ ?_
          · intro n D γ w hn h
            replace hn : n < 21 := hn
            try dsimp only at h
            exact h
          intro n D γ w hB hU K hK
          try dsimp only at hB
          try dsimp only
          have d1 := fun i => hB.1.k.cell i
          clear hB hU
          go_step
          exact hK _ rfl
        · refine opOk_v hA (fun _ => rfl) (fun _ _ => trivial) ?_ ?_
          · intro n D γ w hn h
            replace hn : n < 21 := hn
            try dsimp only at h
            exact h
          intro n D γ w hB hU K hK
          try dsimp only at hB
          try dsimp only
          clear hB hU
          go_step
          exact hK _ rfl
        · refine opOk_v hA (fun _ => rfl) (fun _ _ => trivial) ?_ ?_
          · intro n D γ w hn h
            replace hn : n < 21 := hn
            try dsimp only at h
            exact h
          intro n D γ w hB hU K hK
          try dsimp only at hB
          try dsimp only
          have d1 := fun i => hB.1.k.cell i
          clear hB hU
          go_step
          exact hK _ rfl
        · refine opOk_l hA (fun _ => rfl) ?_
          intro n D γ w hn hD hB hU K hK
          try dsimp only at hB
          try simp only [allP, List.getD_cons_zero, List.getD_cons_succ, and_true, true_and] at hU
          replace hn : n < 21 := hn
          try dsimp only
          go_step
          refine (ref_holds_any r.strong.hi r.spin.lo r.pile hbd.out.2.2.1 hbd.out.2.2.2.1 _).mono ?_
          rintro e w5 ⟨rfl, k5⟩
          have s1 : SpanAny W8 γ w → SpanAny W8 γ w5 := fun h => h.kpN k5
          refine hK _ _ γ rfl ⟨hB.1.kpN k5, hB.2.thenN k5 (Nat.le_refl _)⟩ trivial ?_
          try dsimp only [allP, List.getD_cons_zero, List.getD_cons_succ]
          (repeat' apply And.intro) <;> first | exact rfl | exact trivial | exact id | assumption
        · refine opOk_v hA (fun _ => rfl) (fun _ _ => trivial) ?_ ?_
          · intro n D γ w hn h
            replace hn : n < 21 := hn
            try dsimp only at h
            exact h
          intro n D γ w hB hU K hK
          try dsimp only at hB
          try dsimp only
          clear hB hU
          go_step
          exact hK _ rfl
        · refine opOk_l hA (fun _ => rfl) ?_
          intro n D γ w hn hD hB hU K hK
          try dsimp only at hB
          try simp only [allP, List.getD_cons_zero, List.getD_cons_succ, and_true, true_and] at hU
          replace hn : n < 21 := hn
          try dsimp only
          go_step
          have k5 := (Kp.refl w.heap.size none w).alloc (Nat.le_refl _) (.cells #[.int .i64 0, .int .i64 0] 26)
          refine hK _ _ w.heap.size rfl ⟨hB.1.kpN k5, hB.2.thenN k5 (Nat.le_refl _)⟩ ⟨hB.2.size, _, _, Blk.new _ _ _⟩ ?_
          try dsimp only [allP, List.getD_cons_zero, List.getD_cons_succ]
          (repeat' apply And.intro) <;> first | exact rfl | exact trivial | exact id | assumption
        · refine opOk_l hA (fun _ => rfl) ?_
          intro n D γ w hn hD hB hU K hK
          try dsimp only at hB
          try simp only [allP, List.getD_cons_zero, List.getD_cons_succ, and_true, true_and] at hU
          replace hn : n < 21 := hn
          try dsimp only
          obtain ⟨hz, x0, x1, hb0⟩ := hU
          have cP := fun i => hb0.cell i
          have fP := fun i => hb0.frozen i
          go_step
          have hb5 := (hb0.set_ 0 (.int .i64 (holdOf r.strong.lo r.spin.hi r.pile))).set_ 1 (.int .i64 (holdOf r.strong.hi r.spin.lo r.pile))
          simp only [List.setIfInBounds_toArray, List.set_cons_zero, List.set_cons_succ] at hb5
          have k5 := ((Kp.refl w.heap.size (some γ) w).setRow (p := ⟨γ, 0, none⟩) rfl (.int .i64 (holdOf r.strong.lo r.spin.hi r.pile))).setRow (p := ⟨γ, 1, none⟩) rfl (.int .i64 (holdOf r.strong.hi r.spin.lo r.pile))
          have e1 := hb0.ne_of hB.1.k (by decide)
          have e2 := hb0.ne_of hB.1.f (by decide)
          have e3 : γ ≠ bw := by have := HBw; omega
          refine hK _ _ γ rfl ⟨⟨hB.1.k.kp k5 hB.1.k.lt (sne (Ne.symm e1)), hB.1.f.kp k5 hB.1.f.lt (sne (Ne.symm e2)), hB.1.w.kp k5 hB.1.w.lt (sne (Ne.symm e3))⟩, hB.2.thenOwn k5 (Nat.le_refl _) hz⟩ ⟨hz, hb5⟩ ?_
          try dsimp only [allP, List.getD_cons_zero, List.getD_cons_succ]
          (repeat' apply And.intro) <;> first | exact rfl | exact trivial | exact id | (exact fun _ => ⟨hz, _, _, hb5⟩)
      case hend8_1 =>
        intro n D γ w hn hD hB hF
        replace hF := fun k (hk : k < 21) => hF k hk
        replace hF := (⟨hF 19 (by decide), hF 20 (by decide)⟩ : _ ∧ _)
        try dsimp only at hB
        try dsimp only at hF
        replace hn : n ≤ 21 := hn
        try dsimp only
        obtain ⟨HB9, K9⟩ := hB
        obtain ⟨-, hzh, HH⟩ := hF
        have HHw := HH.lt
        have HBw9 : bw < w.heap.size := HB9.w.lt
        have hne1 : bw ≠ γ := by omega
        clear hD HB hn
        rename World => w9
        rename Nat => bh
        have K9' := K3.thenN K9 (Nat.le_refl _)
        clear K9 K3 K2
        go_wp2_with fail
        refine wp_region_inv (Γ := Nat) [none, none, none, none, none, none, none, none, none, none, none, none, some 15, none, none, none, none, none, none, none, none, none, none, none, none, none, none, none, none, none, none, none, none, none, none, none, none, none, none, none, none, none, none, none, none, none, none, none, none, none, none, none, none, none, none, none, none, none, none, none, none, none, some 0, some 1, some 2, some 3, some 4, some 5, some 6, some 7, some 8, some 9, some 10, some 11, some 12, some 13, some 14] [[], [0], [0, 1], [], [3], [3, 4], [0, 1, 2, 3, 4, 5], [], [7], [7, 8], [], [10], [10, 11], [0, 1, 2, 3, 4, 5, 6, 7, 8, 9, 10, 11, 12], [0, 1, 2, 3, 4, 5, 6, 7, 8, 9, 10, 11, 12, 13], [], [0, 1, 2, 3, 4, 5, 6, 7, 8, 9, 10, 11, 12, 13, 14, 15]] [[3, 4, 5, 7, 8, 9, 10, 11, 12, 15], [0, 3, 4, 5, 7, 8, 9, 10, 11, 12, 15], [0, 1, 3, 4, 5, 7, 8, 9, 10, 11, 12, 15], [0, 1, 2, 7, 8, 9, 10, 11, 12, 15], [0, 1, 2, 3, 7, 8, 9, 10, 11, 12, 15], [0, 1, 2, 3, 4, 7, 8, 9, 10, 11, 12, 15], [0, 1, 2, 3, 4, 5, 7, 8, 9, 10, 11, 12, 15], [0, 1, 2, 3, 4, 5, 6, 10, 11, 12, 15], [0, 1, 2, 3, 4, 5, 6, 7, 10, 11, 12, 15], [0, 1, 2, 3, 4, 5, 6, 7, 8, 10, 11, 12, 15], [0, 1, 2, 3, 4, 5, 6, 7, 8, 9, 15], [0, 1, 2, 3, 4, 5, 6, 7, 8, 9, 10, 15], [0, 1, 2, 3, 4, 5, 6, 7, 8, 9, 10, 11, 15], [0, 1, 2, 3, 4, 5, 6, 7, 8, 9, 10, 11, 12, 15], [0, 1, 2, 3, 4, 5, 6, 7, 8, 9, 10, 11, 12, 13, 15], [0, 1, 2, 3, 4, 5, 6, 7, 8, 9, 10, 11, 12, 13, 14], [0, 1, 2, 3, 4, 5, 6, 7, 8, 9, 10, 11, 12, 13, 14, 15]] (fun γ => [.pointer (some ⟨bk, 0, none⟩), .pointer (some ⟨bk, 0, none⟩), .int .i64 r.size.lo, .pointer (some ⟨bk, 2, none⟩), .pointer (some ⟨bk, 2, none⟩), .int .i64 r.dens.lo, .int .i64 (massOf r.size.lo r.dens.lo), .pointer (some ⟨bk, 0, none⟩), .pointer (some ⟨bk, 1, none⟩), .int .i64 r.size.hi, .pointer (some ⟨bk, 2, none⟩), .pointer (some ⟨bk, 3, none⟩), .int .i64 r.dens.hi, .int .i64 (massOf r.size.hi r.dens.hi), .agg #[.int .i64 (massOf r.size.lo r.dens.lo), .int .i64 (massOf r.size.hi r.dens.hi)], .pointer (some ⟨γ, 0, none⟩), undef]) (fun γ => [none, none, none, none, none, none, none, none, none, none, none, none, some (.pointer (some ⟨γ, 0, none⟩)), none, none, none, none, none, none, none, none, none, none, none, none, none, none, none, none, none, none, none, none, none, none, none, none, none, none, none, none, none, none, none, none, none, none, none, none, none, none, none, none, none, none, none, none, none, none, none, none, none, some (.pointer (some ⟨bk, 0, none⟩)), some (.pointer (some ⟨bk, 0, none⟩)), some (.int .i64 r.size.lo), some (.pointer (some ⟨bk, 2, none⟩)), some (.pointer (some ⟨bk, 2, none⟩)), some (.int .i64 r.dens.lo), some (.int .i64 (massOf r.size.lo r.dens.lo)), some (.pointer (some ⟨bk, 0, none⟩)), some (.pointer (some ⟨bk, 1, none⟩)), some (.int .i64 r.size.hi), some (.pointer (some ⟨bk, 2, none⟩)), some (.pointer (some ⟨bk, 3, none⟩)), some (.int .i64 r.dens.hi), some (.int .i64 (massOf r.size.hi r.dens.hi)), some (.agg #[.int .i64 (massOf r.size.lo r.dens.lo), .int .i64 (massOf r.size.hi r.dens.hi)])]) ?A9_2 (fun n D γ w => RB r f bk bf bw v0 v1 w ∧ Kp w9.heap.size none w9 w ∧ Blk w bh 26 #[.int .i64 (holdOf r.strong.lo r.spin.hi r.pile), .int .i64 (holdOf r.strong.hi r.spin.lo r.pile)]) (fun k γ w => match k with | 15 => SpanAny w9 γ w | 16 => SpanIs w9 γ (massOf r.size.lo r.dens.lo) (massOf r.size.hi r.dens.hi) w | _ => True) 0 (by kernel_rfl) (fun _ => rfl) ?hA9_2 (by kernel_rfl) ?hB09_2 ?hop9_2 ?hend9_2
        case hA9_2 => intro γ; dsimp only [fullV]; rfl
        case hB09_2 =>
          exact ⟨HB9.kpN (Kp.refl _ none _).drew, (Kp.refl _ none _).drew, HH.kpN (Kp.refl _ none _).drew⟩
        case hop9_2 =>
          intro hA
          refine ⟨?_, ?_, ?_, ?_, ?_, ?_, ?_, ?_, ?_, ?_, ?_, ?_, ?_, ?_, ?_, ?_, ?_, trivial⟩
          · refine opOk_v hA (fun _ => rfl) (fun _ _ => trivial) ?_ ?_
            · intro n D γ w hn h
              replace hn : n < 17 := hn
              try dsimp only at h
              exact h
            intro n D γ w hB hU K hK
            try dsimp only at hB
            try dsimp only
            clear hB hU
            go_step
            exact hK _ rfl
          · refine opOk_v hA (fun _ => rfl) (fun _ _ => trivial) ?_ ?_
            · intro n D γ w hn h
              replace hn : n < 17 := hn
              try dsimp only at h
              exact h
            intro n D γ w hB hU K hK
            try dsimp only at hB
            try dsimp only
            clear hB hU
            go_step
            exact hK _ rfl
          · refine opOk_v hA (fun _ => rfl) (fun _ _ => trivial) ?_ ?_
            · intro n D γ w hn h
              replace hn : n < 17 := hn
              try dsimp only at h
              exact h
            intro n D γ w hB hU K hK
            try dsimp only at hB
            try dsimp only
            have d1 := fun i => hB.1.k.cell i
            clear hB hU
            go_step
            exact hK _ rfl
          · refine opOk_v hA (fun _ => rfl) (fun _ _ => trivial) ?_ ?_
            · intro n D γ w hn h
              replace hn : n < 17 := hn
              try dsimp only at h
              exact h
            intro n D γ w hB hU K hK
            try dsimp only at hB
            try dsimp only
            clear hB hU
            go_step
            exact hK _ rfl
          · refine opOk_v hA (fun _ => rfl) (fun _ _ => trivial) ?_ ?_
            · intro n D γ w hn h
              replace hn : n < 17 := hn
              try dsimp only at h
              exact h
            intro n D γ w hB hU K hK
            try dsimp only at hB
            try dsimp only
            clear hB hU
            go_step
            exact hK _ rfl
          · refine opOk_v hA (fun _ => rfl) (fun _ _ => trivial) ?_ ?_
            · intro n D γ w hn h
              replace hn : n < 17 := hn
              try dsimp only at h
              exact h
            intro n D γ w hB hU K hK
            try dsimp only at hB
            try dsimp only
            have d1 := fun i => hB.1.k.cell i
            clear hB hU
            go_step
            exact hK _ rfl
          · refine opOk_l hA (fun _ => rfl) ?_
            intro n D γ w hn hD hB hU K hK
            try dsimp only at hB
            try simp only [allP, List.getD_cons_zero, List.getD_cons_succ, and_true, true_and] at hU
            replace hn : n < 17 := hn
            try dsimp only
            go_step
            refine (ref_mass_any r.size.lo r.dens.lo hbd.out.2.2.2.2.1 hbd.out.2.2.2.2.2.1 _).mono ?_
            rintro e w5 ⟨rfl, k5⟩
            have s1 : SpanAny w9 γ w → SpanAny w9 γ w5 := fun h => h.kpN k5
            refine hK _ _ γ rfl ⟨hB.1.kpN k5, hB.2.1.thenN k5 (Nat.le_refl _), hB.2.2.kpN k5⟩ trivial ?_
            try dsimp only [allP, List.getD_cons_zero, List.getD_cons_succ]
            (repeat' apply And.intro) <;> first | exact rfl | exact trivial | exact id | assumption
          · refine opOk_v hA (fun _ => rfl) (fun _ _ => trivial) ?_ ?_
            · intro n D γ w hn h
              replace hn : n < 17 := hn
              try dsimp only at h
              exact h
            intro n D γ w hB hU K hK
            try dsimp only at hB
            try dsimp only
            clear hB hU
            go_step
            exact hK _ rfl
          · refine opOk_v hA (fun _ => rfl) (fun _ _ => trivial) ?_ ?_
            · intro n D γ w hn h
              replace hn : n < 17 := hn
              try dsimp only at h
              exact h
            intro n D γ w hB hU K hK
            try dsimp only at hB
            try dsimp only
            clear hB hU
            go_step
            exact hK _ rfl
          · refine opOk_v hA (fun _ => rfl) (fun _ _ => trivial) ?_ ?_
            · intro n D γ w hn h
              replace hn : n < 17 := hn
              try dsimp only at h
              exact h
            intro n D γ w hB hU K hK
            try dsimp only at hB
            try dsimp only
            have d1 := fun i => hB.1.k.cell i
            clear hB hU
            go_step
            exact hK _ rfl
          · refine opOk_v hA (fun _ => rfl) (fun _ _ => trivial) ?_ ?_
            · intro n D γ w hn h
              replace hn : n < 17 := hn
              try dsimp only at h
              exact h
            intro n D γ w hB hU K hK
            try dsimp only at hB
            try dsimp only
            clear hB hU
            go_step
            exact hK _ rfl
          · refine opOk_v hA (fun _ => rfl) (fun _ _ => trivial) ?_ ?_
            · intro n D γ w hn h
              replace hn : n < 17 := hn
              try dsimp only at h
              exact h
            intro n D γ w hB hU K hK
            try dsimp only at hB
            try dsimp only
            clear hB hU
            go_step
            exact hK _ rfl
          · refine opOk_v hA (fun _ => rfl) (fun _ _ => trivial) ?_ ?_
            · intro n D γ w hn h
              replace hn : n < 17 := hn
              try dsimp only at h
              exact h
            intro n D γ w hB hU K hK
            try dsimp only at hB
            try dsimp only
            have d1 := fun i => hB.1.k.cell i
            clear hB hU
            go_step
            exact hK _ rfl
          · refine opOk_l hA (fun _ => rfl) ?_
            intro n D γ w hn hD hB hU K hK
            try dsimp only at hB
            try simp only [allP, List.getD_cons_zero, List.getD_cons_succ, and_true, true_and] at hU
            replace hn : n < 17 := hn
            try dsimp only
            go_step
            refine (ref_mass_any r.size.hi r.dens.hi hbd.out.2.2.2.2.2.2.1 hbd.out.2.2.2.2.2.2.2 _).mono ?_
            rintro e w5 ⟨rfl, k5⟩
            have s1 : SpanAny w9 γ w → SpanAny w9 γ w5 := fun h => h.kpN k5
            refine hK _ _ γ rfl ⟨hB.1.kpN k5, hB.2.1.thenN k5 (Nat.le_refl _), hB.2.2.kpN k5⟩ trivial ?_
            try dsimp only [allP, List.getD_cons_zero, List.getD_cons_succ]
            (repeat' apply And.intro) <;> first | exact rfl | exact trivial | exact id | assumption
          · refine opOk_v hA (fun _ => rfl) (fun _ _ => trivial) ?_ ?_
            · intro n D γ w hn h
              replace hn : n < 17 := hn
              try dsimp only at h
              exact h
            intro n D γ w hB hU K hK
            try dsimp only at hB
            try dsimp only
            clear hB hU
            go_step
            exact hK _ rfl
          · refine opOk_l hA (fun _ => rfl) ?_
            intro n D γ w hn hD hB hU K hK
            try dsimp only at hB
            try simp only [allP, List.getD_cons_zero, List.getD_cons_succ, and_true, true_and] at hU
            replace hn : n < 17 := hn
            try dsimp only
            go_step
            have k5 := (Kp.refl w.heap.size none w).alloc (Nat.le_refl _) (.cells #[.int .i64 0, .int .i64 0] 26)
            refine hK _ _ w.heap.size rfl ⟨hB.1.kpN k5, hB.2.1.thenN k5 (Nat.le_refl _), hB.2.2.kpN k5⟩ ⟨hB.2.1.size, _, _, Blk.new _ _ _⟩ ?_
            try dsimp only [allP, List.getD_cons_zero, List.getD_cons_succ]
            (repeat' apply And.intro) <;> first | exact rfl | exact trivial | exact id | assumption
          · refine opOk_l hA (fun _ => rfl) ?_
            intro n D γ w hn hD hB hU K hK
            try dsimp only at hB
            try simp only [allP, List.getD_cons_zero, List.getD_cons_succ, and_true, true_and] at hU
            replace hn : n < 17 := hn
            try dsimp only
            obtain ⟨hz, x0, x1, hb0⟩ := hU
            have cP := fun i => hb0.cell i
            have fP := fun i => hb0.frozen i
            go_step
            have hb5 := (hb0.set_ 0 (.int .i64 (massOf r.size.lo r.dens.lo))).set_ 1 (.int .i64 (massOf r.size.hi r.dens.hi))
            simp only [List.setIfInBounds_toArray, List.set_cons_zero, List.set_cons_succ] at hb5
            have k5 := ((Kp.refl w.heap.size (some γ) w).setRow (p := ⟨γ, 0, none⟩) rfl (.int .i64 (massOf r.size.lo r.dens.lo))).setRow (p := ⟨γ, 1, none⟩) rfl (.int .i64 (massOf r.size.hi r.dens.hi))
            have e1 := hb0.ne_of hB.1.k (by decide)
            have e2 := hb0.ne_of hB.1.f (by decide)
            have e3 : γ ≠ bw := by have := HBw9; omega
            refine hK _ _ γ rfl ⟨⟨hB.1.k.kp k5 hB.1.k.lt (sne (Ne.symm e1)), hB.1.f.kp k5 hB.1.f.lt (sne (Ne.symm e2)), hB.1.w.kp k5 hB.1.w.lt (sne (Ne.symm e3))⟩, hB.2.1.thenOwn k5 (Nat.le_refl _) hz, hB.2.2.kp k5 hB.2.2.lt (sne (by have := HHw; omega))⟩ ⟨hz, hb5⟩ ?_
            try dsimp only [allP, List.getD_cons_zero, List.getD_cons_succ]
            (repeat' apply And.intro) <;> first | exact rfl | exact trivial | exact id | (exact fun _ => ⟨hz, _, _, hb5⟩)
        case hend9_2 =>
          intro n D γ w hn hD hB hF
          replace hF := fun k (hk : k < 17) => hF k hk
          replace hF := (⟨hF 15 (by decide), hF 16 (by decide)⟩ : _ ∧ _)
          try dsimp only at hB
          try dsimp only at hF
          replace hn : n ≤ 17 := hn
          try dsimp only
          obtain ⟨HB10, K10, HH10⟩ := hB
          obtain ⟨-, hzm, HM10⟩ := hF
          have hne2 : bw ≠ γ := by omega
          clear hD hn
          rename World => w10
          rename Nat => bm
          have K11 := K9'.thenN K10 (Nat.le_refl _)
          clear K10 K9' HB9 HH hzh hzm HBw HBw9 HHw
          rw [hv0e.out, hv1e.out] at HB10
          have hWw := Lib.hid (show W.heap.size ≤ bw by rw [hbw.out]; exact hK2s)
          clear hK2s
          replace hne1 := Lib.hid hne1
          replace hne2 := Lib.hid hne2
          go_wp2_with fail
          go_loopw [13, 14] (fun vo vi wr => RefBAt ls r f bk bf bw bh bm W vo vi wr) (fun _ v _ => ls.length - (intOf v).toNat)
          case atStart => exact ⟨0, _, _, [], rfl, Nat.zero_le _, Nat.zero_le _, hv0e.out ▸ hv0.out, hv1e.out ▸ hv1.out, rfl, Own.nil _ _ _ _ _, HB10, HH10, HM10, K11⟩
          case round =>
            clear HB10 HH10 HM10 K11
            obtain ⟨i, va, vb, pre, rfl, hi, hpl, hva, hvb, hf, hown, HB, HH, HM, KK⟩ := hrel
            by_cases h7 : i < ls.length
            · obtain ⟨b, o, rfl, hbl, -, hc⟩ := (h.kpN KK).at_ (by omega)
              have c0 : wr.cell? ⟨b, o + i * 2, none⟩ = some (.int .i64 ls[i].thick) := hc i h7 0 _ rfl
              have c1 : wr.cell? ⟨b, o + i * 2 + 1, none⟩ = some (.int .i64 ls[i].dens) := hc i h7 1 _ rfl
              have hi' : (i : Int) < (ls.length : Int) := by omega
              have hlen : (ls.length : Int) ≤ 32 := by have := ha.out.1; omega
              have hx := Lib.hid (ha.out.2 i h7)
              rw [List.drop_eq_getElem_cons h7, blowsFrom_cons] at hf
              generalize ls[i] = x at c0 c1 hx hf
              clear hc
              obtain ⟨pb, hpb⟩ : ∃ p, p = x.dens * vb := ⟨_, rfl⟩
              have bpb := (step_ok hsk.out hx.out hvb).p
              rw [← hpb] at bpb
              have ewb : wrap64 (x.dens * vb) = pb := by rw [← hpb]; exact wrap64_of bpb.1 (by omega)
              obtain ⟨pa, hpa⟩ : ∃ p, p = x.dens * va := ⟨_, rfl⟩
              have bpa := (step_ok hwk.out hx.out hva).p
              rw [← hpa] at bpa
              have ewa : wrap64 (x.dens * va) = pa := by rw [← hpa]; exact wrap64_of bpa.1 (by omega)
              obtain ⟨ha1, hha⟩ : ∃ q, q = heldBy (weakS r f) := ⟨_, rfl⟩
              obtain ⟨ha2, hha2⟩ : ∃ q, q = heldBy (strongS r f) := ⟨_, rfl⟩
              have hbu : burstsAt x.dens vb (heldBy (weakS r f)) = (decide (ha1 ≤ pb) && decide (0 < pb)) := by rw [hpb, hha]; rfl
              have hbv : burstsAt x.dens va (heldBy (strongS r f)) = (decide (ha2 ≤ pa) && decide (0 < pa)) := by rw [hpa, hha2]; rfl
              rw [← hha, ← hha2] at HH
              replace hha := Lib.hid hha
              replace hha2 := Lib.hid hha2
              replace hva := Lib.hid hva
              replace hvb := Lib.hid hvb
              replace hpa := Lib.hid hpa
              replace hpb := Lib.hid hpb
              replace ewa := Lib.hid ewa
              replace ewb := Lib.hid ewb
              replace hf := Lib.hid hf
              replace h7 := Lib.hid h7
              replace h := Lib.hid h
              replace hbu := Lib.hid hbu
              replace hbv := Lib.hid hbv
              go_wp2_with fail
              replace HB : RB r f bk bf bw va vb wr.drew := HB.kpN (Kp.refl _ none _).drew
              replace HH := HH.drew
              replace HM := HM.drew
              replace KK := KK.drew
              replace hown := hown.drew
              replace c0 : wr.drew.cell? _ = _ := c0
              replace c1 : wr.drew.cell? _ = _ := c1
              replace hbl : b < wr.drew.heap.size := hbl
              obtain ⟨S, hS⟩ : ∃ S : Nat → World → Prop, S = fun _ w' => Blk w' bw 26 #[.int .i64 va, .int .i64 vb] ∧ w'.cell? ⟨b, o + i * 2 + 1, none⟩ = some (.int .i64 x.dens) := ⟨_, rfl⟩
              have hS0 : ∀ w', S 0 w' ↔ (Blk w' bw 26 #[.int .i64 va, .int .i64 vb] ∧ w'.cell? ⟨b, o + i * 2 + 1, none⟩ = some (.int .i64 x.dens)) := fun w' => by rw [hS]
              clear hS
              have cx := fun (q : Ev (S 0)) i => ((hS0 _).1 q.h).1.cell i
              have cz := fun (q : Ev (S 0)) => ((hS0 _).1 q.h).2
              have hevT := ev_true
              refine wp_region_ord S [(0, 0), (1, 0), (2, 0), (3, 0), (4, 1), (5, 0), (6, 1), (7, 0), (8, 0)] [] (by kernel_rfl) (by kernel_rfl) ((hS0 _).2 ⟨HB.w, c1⟩) ?_
              intro _hev
              iterate 9 (first | (refine wpOrd_v rfl rfl ?_; intro K hK; go_big_quiet_op; go_big_quiet_on) | (refine wpOrd_q rfl rfl ?_; intro K hK; go_big_quiet_op; go_big_quiet_on) | refine wpOrd_s (by decide) rfl rfl ?_)
              refine wpOrd_nil ?_
              clear hevT _hev
              clear cx cz hS0 S
              rw [ewb.out]
              clear ewb
              generalize wr.drew = wr at *
              have cH := fun i => HH.cell i
              rcases (show 0 < pb ∨ ¬ 0 < pb by omega) with hp0 | hp0
              · rcases (show ha1 ≤ pb ∨ ¬ ha1 ≤ pb by omega) with hp1 | hp1
                · have hbt : burstsAt x.dens vb (heldBy (weakS r f)) = true := by rw [hbu.out]; simp [hp0, hp1]
                  have cB := fun i => HB.w.cell i
                  have cM := fun i => HM.cell i
                  have en1 := energy_in hwk.out hva.out
                  have en2 := energy_in hsk.out hvb.out
                  have ee1 := wrap64_of en1.1 (by omega)
                  have ee2 := wrap64_of en2.1 (by omega)
                  replace ee1 := Lib.hid ee1
                  replace ee2 := Lib.hid ee2
                  replace hbt := Lib.hid hbt
                  clear en1 en2
                  have hpl32 : pre.length ≤ 32 := by omega
                  go_upto_region 17 with (at_builtin; refine wpList_append_own_at _ (by rfl) (.tmp 99) (.tmp 113) 76 (by rfl) W.heap.size 83 i0 _ 3 24 Tryd.underlying76 hi0 hz0 hz1 hz2 (by rfl) (by omega) u13 pre.length (pre.flatMap encBlow) (by rfl) (hown.alloc _) ⟨wr.heap.size, 0, none⟩ 1 1 [.int .i64 i, .int .i64 (wrap64 (massOf (weakS r f).size (weakS r f).dens * va)), .int .i64 (wrap64 (massOf (strongS r f).size (strongS r f).dens * vb))] (by rfl) (by rfl) (three_new _ _ _ _ _) (three_int _ _ _ _) (maxLen_of (by omega)) (by omega) (alloc_ge KK.size _) ?_; intro v7 w7 hown7 hgrow _ hat)
                  have own7 : Own w7 W.heap.size 83 3 encBlow v7 (pre ++ [blowAt (weakS r f) (strongS r f) i va vb]) := by
                    rw [ee1.out, ee2.out] at hown7
                    unfold Own; simpa [encBlow, blowAt] using hown7
                  have KK7 := (KK.alloc KK.size _).trans (Kp.of_own (row := none) (hown.alloc _) hgrow (alloc_ge KK.size _))
                  have HB7 : RB r f bk bf bw va vb w7 := ⟨(HB.k.alloc _).grown hgrow (hown.ne_blk HB.k (by decide)), (HB.f.alloc _).grown hgrow (hown.ne_blk HB.f (by decide)), (HB.w.alloc _).grown hgrow (hown.ne_blk HB.w (by decide))⟩
                  have HH7 := (HH.alloc _).grown hgrow (hown.ne_blk HH (by decide))
                  have HM7 := (HM.alloc _).grown hgrow (hown.ne_blk HM (by decide))
                  have hbW : b < W.heap.size := by
                    obtain ⟨b', o', e', hb', _⟩ := h.out.2 (by omega)
                    injection e' with e'; injection e' with e1 e2
                    subst e1; exact hb'
                  have c07 : w7.cell? ⟨b, o + i * 2, none⟩ = some (.int .i64 x.thick) := (World.cell?_of_block ((hgrow.block b (by simp; omega) (fun e => by have := (hown.ge b e.symm).1; omega)).trans (Below.heap_alloc _ _ _ hbl))).trans c0
                  have c17 : w7.cell? ⟨b, o + i * 2 + 1, none⟩ = some (.int .i64 x.dens) := (World.cell?_of_block ((hgrow.block b (by simp; omega) (fun e => by have := (hown.ge b e.symm).1; omega)).trans (Below.heap_alloc _ _ _ hbl))).trans c1
                  have hbl7 : b < w7.heap.size := Nat.lt_of_lt_of_le hbW KK7.size
                  have hpl7 : (pre ++ [blowAt (weakS r f) (strongS r f) i va vb]).length ≤ i + 1 := by simp; omega
                  replace hpl7 := Lib.hid hpl7
                  clear hown7 hgrow hat HB HH HM KK hown c0 c1 hbl hbW ee1 ee2 cB cM cH
                  have HB := HB7
                  have HH := HH7
                  have HM := HM7
                  have KK := KK7
                  have hown := own7
                  have c0 := c07
                  have c1 := c17
                  have hbl := hbl7
                  clear HB7 HH7 HM7 KK7 own7 c07 c17 hbl7
                  have cH := fun i => HH.cell i
                  replace hbt := hbt.out
                  have cB := fun i => HB.w.cell i
                  have hf2 : blowsOf ls r f = (pre ++ [blowAt (weakS r f) (strongS r f) i va vb]) ++ (if burstsAt x.dens va (heldBy (strongS r f)) then [] else blowsFrom (weakS r f) (strongS r f) (ls.drop (i + 1)) (i + 1) (slowedOf (weakS r f) x va) (slowedOf (strongS r f) x vb)) := by rw [hf.out, hbt]; simp
                  replace hf2 := Lib.hid hf2
                  clear hf hbt hbu hpb
                  go_wp2_with fail
                  clear cH
                  replace HB : RB r f bk bf bw va vb w7.drew := HB.kpN (Kp.refl _ none _).drew
                  replace HH := HH.drew
                  replace HM := HM.drew
                  replace KK := KK.drew
                  replace hown := hown.drew
                  replace c0 : w7.drew.cell? _ = _ := c0
                  replace c1 : w7.drew.cell? _ = _ := c1
                  replace hbl : b < w7.drew.heap.size := hbl
                  clear cB
                  obtain ⟨S, hS⟩ : ∃ S : Nat → World → Prop, S = fun _ w' => Blk w' bw 26 #[.int .i64 va, .int .i64 vb] ∧ w'.cell? ⟨b, o + i * 2 + 1, none⟩ = some (.int .i64 x.dens) := ⟨_, rfl⟩
                  have hS0 : ∀ w', S 0 w' ↔ (Blk w' bw 26 #[.int .i64 va, .int .i64 vb] ∧ w'.cell? ⟨b, o + i * 2 + 1, none⟩ = some (.int .i64 x.dens)) := fun w' => by rw [hS]
                  clear hS
                  have cx := fun (q : Ev (S 0)) i => ((hS0 _).1 q.h).1.cell i
                  have cz := fun (q : Ev (S 0)) => ((hS0 _).1 q.h).2
                  have hevT := ev_true
                  refine wp_region_ord S [(0, 0), (1, 0), (2, 0), (3, 0), (4, 1), (5, 0), (6, 1), (7, 0), (8, 0)] [] (by kernel_rfl) (by kernel_rfl) ((hS0 _).2 ⟨HB.w, c1⟩) ?_
                  intro _hev
                  iterate 9 (first | (refine wpOrd_v rfl rfl ?_; intro K hK; go_big_quiet_op; go_big_quiet_on) | (refine wpOrd_q rfl rfl ?_; intro K hK; go_big_quiet_op; go_big_quiet_on) | refine wpOrd_s (by decide) rfl rfl ?_)
                  refine wpOrd_nil ?_
                  clear hevT _hev
                  clear cx cz hS0 S
                  rw [ewa.out]
                  clear ewa
                  generalize w7.drew = wq at *
                  have cH := fun i => HH.cell i
                  rcases (show 0 < pa ∨ ¬ 0 < pa by omega) with hq0 | hq0
                  · rcases (show ha2 ≤ pa ∨ ¬ ha2 ≤ pa by omega) with hq1 | hq1
                    · have hbw : burstsAt x.dens va (heldBy (strongS r f)) = true := by rw [hbv.out]; simp [hq0, hq1]
                      have hfin : BlowsChk ls r f ((pre ++ [blowAt (weakS r f) (strongS r f) i va vb])) 0 := .inl ⟨ha.out, hr.out, rfl, by rw [hf2.out, hbw]; simp⟩
                      replace hfin := Lib.hid hfin
                      obtain ⟨A', c', he', hrd, -⟩ := hown.rd (row := none) (fun _ => rfl) (by simp)
                      subst he'
                      clear hbw hf2 hown
                      go_wp2
                      exact bodyPost_ret (v := .tuple #[.slice A' ((pre ++ [blowAt (weakS r f) (strongS r f) i va vb])).length c', .int .i64 0]) (by simp [results, Tryd.results55, go_sem]) rfl ⟨⟨A', c', _, 0, rfl, hrd, hfin.out⟩, KK⟩
                    · have hbw : burstsAt x.dens va (heldBy (strongS r f)) = false := by rw [hbv.out]; simp [hq1]
                      have hf4 := hf2.out
                      rw [hbw, if_neg (by simp)] at hf4
                      replace hf4 := Lib.hid hf4
                      have hv4 := Lib.hid (show Vok (slowedOf (weakS r f) x va) from slowed_bd (step_ok hwk.out hx.out hva.out) hva.out)
                      have hv5 := Lib.hid (show Vok (slowedOf (strongS r f) x vb) from slowed_bd (step_ok hsk.out hx.out hvb.out) hvb.out)
                      clear hbw hf2 hbv hpa
                      go_wp2_with fail
                      clear cH
                      replace HB : RB r f bk bf bw va vb wq.drew := HB.kpN (Kp.refl _ none _).drew
                      replace HH := HH.drew
                      replace HM := HM.drew
                      replace KK := KK.drew
                      replace hown := hown.drew
                      replace c0 : wq.drew.cell? _ = _ := c0
                      replace c1 : wq.drew.cell? _ = _ := c1
                      replace hbl : b < wq.drew.heap.size := hbl
                      obtain ⟨S, hS⟩ : ∃ S : Nat → World → Prop, S = fun n w' => if n = 0 then RB r f bk bf bw va vb w' ∧ w'.cell? ⟨b, o + i * 2, none⟩ = some (.int .i64 x.thick) ∧ w'.cell? ⟨b, o + i * 2 + 1, none⟩ = some (.int .i64 x.dens) else True := ⟨_, rfl⟩
                      have hS0 : ∀ w', S 0 w' ↔ (RB r f bk bf bw va vb w' ∧ w'.cell? ⟨b, o + i * 2, none⟩ = some (.int .i64 x.thick) ∧ w'.cell? ⟨b, o + i * 2 + 1, none⟩ = some (.int .i64 x.dens)) := fun w' => by rw [hS]; exact Iff.rfl
                      have hS1 : ∀ w', S 1 w' ↔ (True) := fun w' => by rw [hS]; exact Iff.rfl
                      clear hS
                      have cx := fun (q : Ev (S 0)) i => ((hS0 _).1 q.h).1.w.cell i
                      have ck := fun (q : Ev (S 0)) i => ((hS0 _).1 q.h).1.k.cell i
                      have cf := fun (q : Ev (S 0)) i => ((hS0 _).1 q.h).1.f.cell i
                      have cy := fun (q : Ev (S 0)) => ((hS0 _).1 q.h).2.1
                      have cz := fun (q : Ev (S 0)) => ((hS0 _).1 q.h).2.2
                      have hevT := ev_true
                      refine wp_region_ord S [(0, 0), (1, 1), (2, 0), (3, 0), (4, 0), (5, 1), (6, 0), (7, 0), (8, 1), (9, 0), (10, 0), (11, 1), (12, 0), (13, 0), (14, 1), (15, 0), (16, 0), (17, 1), (19, 0), (20, 1), (21, 0), (22, 0), (23, 0), (24, 1), (25, 0), (26, 0), (27, 1), (28, 0), (29, 0), (30, 1), (31, 0), (32, 0), (33, 1), (34, 0), (35, 0), (36, 1), (18, 2), (37, 2), (38, 0), (39, 3)] [39] (by kernel_rfl) (by kernel_rfl) ((hS0 _).2 ⟨HB, c0, c1⟩) ?_
                      intro _hev
                      iterate 36 (first | (refine wpOrd_v rfl rfl ?_; intro K hK; go_big_quiet_op; go_big_quiet_on) | (refine wpOrd_q rfl rfl ?_; intro K hK; go_big_quiet_op; go_big_quiet_on) | refine wpOrd_s (by decide) rfl rfl ?_)
                      refine wpOrd_l rfl rfl ?_; intro K hK
                      go_step
                      refine (ref_slowed_any (weakS r f) va x _ hwk.out hx.out hva.out).mono ?_
                      rintro e w6 ⟨rfl, k6⟩
                      replace HB := HB.kpN k6
                      replace HH := HH.kpN k6
                      replace HM := HM.kpN k6
                      replace KK := KK.thenN k6 (Nat.le_refl _)
                      replace hown := hown.kpN k6
                      replace c0 := (k6.cell b _ hbl (by simp)).trans c0
                      replace c1 := (k6.cell b _ hbl (by simp)).trans c1
                      replace hbl := Nat.lt_of_lt_of_le hbl k6.size
                      refine hK _ _ ((hS0 _).2 ⟨HB, c0, c1⟩) ?_
                      clear hK K k6
                      refine wpOrd_l rfl rfl ?_; intro K hK
                      go_step
                      refine (ref_slowed_any (strongS r f) vb x _ hsk.out hx.out hvb.out).mono ?_
                      rintro e w6 ⟨rfl, k6⟩
                      replace HB := HB.kpN k6
                      replace HH := HH.kpN k6
                      replace HM := HM.kpN k6
                      replace KK := KK.thenN k6 (Nat.le_refl _)
                      replace hown := hown.kpN k6
                      replace c0 := (k6.cell b _ hbl (by simp)).trans c0
                      replace c1 := (k6.cell b _ hbl (by simp)).trans c1
                      replace hbl := Nat.lt_of_lt_of_le hbl k6.size
                      refine hK _ _ ((hS0 _).2 ⟨HB, c0, c1⟩) ?_
                      clear hK K k6
                      iterate 1 (first | (refine wpOrd_v rfl rfl ?_; intro K hK; go_big_quiet_op; go_big_quiet_on) | (refine wpOrd_q rfl rfl ?_; intro K hK; go_big_quiet_op; go_big_quiet_on) | refine wpOrd_s (by decide) rfl rfl ?_)
                      refine wpOrd_a rfl rfl ?_; intro K hK
                      have cw := fun i => HB.w.cell i
                      have fw := fun i => HB.w.frozen i
                      go_step
                      refine hK _ _ ((hS1 _).2 trivial) ?_
                      clear hK K cw fw
                      change wpOrd _ _ _ _ _ 1 _ _
                      refine wpOrd_nil ?_
                      clear hevT _hev
                      clear cx ck cf cy cz hS0 hS1 S c0 c1
                      have hW5 := (HB.w.set_ 0 (.int .i64 (slowedOf (weakS r f) x va))).set_ 1 (.int .i64 (slowedOf (strongS r f) x vb))
                      simp only [List.setIfInBounds_toArray, List.set_cons_zero, List.set_cons_succ] at hW5
                      have k9 := ((Kp.refl w6.heap.size (some bw) w6).setRow (p := ⟨bw, 0, none⟩) rfl (.int .i64 (slowedOf (weakS r f) x va))).setRow (p := ⟨bw, 1, none⟩) rfl (.int .i64 (slowedOf (strongS r f) x vb))
                      have e1 := HB.w.ne_of HB.k (by decide)
                      have e2 := HB.w.ne_of HB.f (by decide)
                      have HB9 : RB r f bk bf bw (slowedOf (weakS r f) x va) (slowedOf (strongS r f) x vb) _ := ⟨HB.k.kp k9 HB.k.lt (sne (by first | exact e1 | exact Ne.symm e1)), HB.f.kp k9 HB.f.lt (sne (by first | exact e2 | exact Ne.symm e2)), hW5⟩
                      have HH9 := HH.kp k9 HH.lt (sne (Ne.symm hne1.out))
                      have HM9 := HM.kp k9 HM.lt (sne (Ne.symm hne2.out))
                      have KK9 := KK.thenOwn k9 (Nat.le_refl _) hWw.out
                      have own9 : Own _ W.heap.size 83 3 encBlow v7 ((pre ++ [blowAt (weakS r f) (strongS r f) i va vb])) := World.ownsRow.kept hown ⟨k9.os, k9.tape, k9.output, k9.size, k9.block⟩ (by
                        cases hvb9 : (v7).ownBlock with
                        | none => exact .inl rfl
                        | some q => exact .inr (fun e => hown.ne_blk HB.w (by decide) (by rw [hvb9]; exact e)))
                      clear k9 hW5 e1 e2 HB HH HM KK hown
                      rw [hha.out, hha2.out] at HH9
                      go_wp2
                      go_roundw
                      case rel => exact ⟨i + 1, _, _, (pre ++ [blowAt (weakS r f) (strongS r f) i va vb]), rfl, h7.out, hpl7.out, hv4.out, hv5.out, hf4.out, own9, HB9, HH9, HM9, KK9⟩
                      case measure => have := h7.out; simp [intOf]; omega
                  · have hbw : burstsAt x.dens va (heldBy (strongS r f)) = false := by rw [hbv.out]; simp [hq0]
                    have hf4 := hf2.out
                    rw [hbw, if_neg (by simp)] at hf4
                    replace hf4 := Lib.hid hf4
                    have hv4 := Lib.hid (show Vok (slowedOf (weakS r f) x va) from slowed_bd (step_ok hwk.out hx.out hva.out) hva.out)
                    have hv5 := Lib.hid (show Vok (slowedOf (strongS r f) x vb) from slowed_bd (step_ok hsk.out hx.out hvb.out) hvb.out)
                    clear hbw hf2 hbv hpa
                    go_wp2_with fail
                    clear cH
                    replace HB : RB r f bk bf bw va vb wq.drew := HB.kpN (Kp.refl _ none _).drew
                    replace HH := HH.drew
                    replace HM := HM.drew
                    replace KK := KK.drew
                    replace hown := hown.drew
                    replace c0 : wq.drew.cell? _ = _ := c0
                    replace c1 : wq.drew.cell? _ = _ := c1
                    replace hbl : b < wq.drew.heap.size := hbl
                    obtain ⟨S, hS⟩ : ∃ S : Nat → World → Prop, S = fun n w' => if n = 0 then RB r f bk bf bw va vb w' ∧ w'.cell? ⟨b, o + i * 2, none⟩ = some (.int .i64 x.thick) ∧ w'.cell? ⟨b, o + i * 2 + 1, none⟩ = some (.int .i64 x.dens) else True := ⟨_, rfl⟩
                    have hS0 : ∀ w', S 0 w' ↔ (RB r f bk bf bw va vb w' ∧ w'.cell? ⟨b, o + i * 2, none⟩ = some (.int .i64 x.thick) ∧ w'.cell? ⟨b, o + i * 2 + 1, none⟩ = some (.int .i64 x.dens)) := fun w' => by rw [hS]; exact Iff.rfl
                    have hS1 : ∀ w', S 1 w' ↔ (True) := fun w' => by rw [hS]; exact Iff.rfl
                    clear hS
                    have cx := fun (q : Ev (S 0)) i => ((hS0 _).1 q.h).1.w.cell i
                    have ck := fun (q : Ev (S 0)) i => ((hS0 _).1 q.h).1.k.cell i
                    have cf := fun (q : Ev (S 0)) i => ((hS0 _).1 q.h).1.f.cell i
                    have cy := fun (q : Ev (S 0)) => ((hS0 _).1 q.h).2.1
                    have cz := fun (q : Ev (S 0)) => ((hS0 _).1 q.h).2.2
                    have hevT := ev_true
                    refine wp_region_ord S [(0, 0), (1, 1), (2, 0), (3, 0), (4, 0), (5, 1), (6, 0), (7, 0), (8, 1), (9, 0), (10, 0), (11, 1), (12, 0), (13, 0), (14, 1), (15, 0), (16, 0), (17, 1), (19, 0), (20, 1), (21, 0), (22, 0), (23, 0), (24, 1), (25, 0), (26, 0), (27, 1), (28, 0), (29, 0), (30, 1), (31, 0), (32, 0), (33, 1), (34, 0), (35, 0), (36, 1), (18, 2), (37, 2), (38, 0), (39, 3)] [39] (by kernel_rfl) (by kernel_rfl) ((hS0 _).2 ⟨HB, c0, c1⟩) ?_
                    intro _hev
                    iterate 36 (first | (refine wpOrd_v rfl rfl ?_; intro K hK; go_big_quiet_op; go_big_quiet_on) | (refine wpOrd_q rfl rfl ?_; intro K hK; go_big_quiet_op; go_big_quiet_on) | refine wpOrd_s (by decide) rfl rfl ?_)
                    refine wpOrd_l rfl rfl ?_; intro K hK
                    go_step
                    refine (ref_slowed_any (weakS r f) va x _ hwk.out hx.out hva.out).mono ?_
                    rintro e w6 ⟨rfl, k6⟩
                    replace HB := HB.kpN k6
                    replace HH := HH.kpN k6
                    replace HM := HM.kpN k6
                    replace KK := KK.thenN k6 (Nat.le_refl _)
                    replace hown := hown.kpN k6
                    replace c0 := (k6.cell b _ hbl (by simp)).trans c0
                    replace c1 := (k6.cell b _ hbl (by simp)).trans c1
                    replace hbl := Nat.lt_of_lt_of_le hbl k6.size
                    refine hK _ _ ((hS0 _).2 ⟨HB, c0, c1⟩) ?_
                    clear hK K k6
                    refine wpOrd_l rfl rfl ?_; intro K hK
                    go_step
                    refine (ref_slowed_any (strongS r f) vb x _ hsk.out hx.out hvb.out).mono ?_
                    rintro e w6 ⟨rfl, k6⟩
                    replace HB := HB.kpN k6
                    replace HH := HH.kpN k6
                    replace HM := HM.kpN k6
                    replace KK := KK.thenN k6 (Nat.le_refl _)
                    replace hown := hown.kpN k6
                    replace c0 := (k6.cell b _ hbl (by simp)).trans c0
                    replace c1 := (k6.cell b _ hbl (by simp)).trans c1
                    replace hbl := Nat.lt_of_lt_of_le hbl k6.size
                    refine hK _ _ ((hS0 _).2 ⟨HB, c0, c1⟩) ?_
                    clear hK K k6
                    iterate 1 (first | (refine wpOrd_v rfl rfl ?_; intro K hK; go_big_quiet_op; go_big_quiet_on) | (refine wpOrd_q rfl rfl ?_; intro K hK; go_big_quiet_op; go_big_quiet_on) | refine wpOrd_s (by decide) rfl rfl ?_)
                    refine wpOrd_a rfl rfl ?_; intro K hK
                    have cw := fun i => HB.w.cell i
                    have fw := fun i => HB.w.frozen i
                    go_step
                    refine hK _ _ ((hS1 _).2 trivial) ?_
                    clear hK K cw fw
                    change wpOrd _ _ _ _ _ 1 _ _
                    refine wpOrd_nil ?_
                    clear hevT _hev
                    clear cx ck cf cy cz hS0 hS1 S c0 c1
                    have hW5 := (HB.w.set_ 0 (.int .i64 (slowedOf (weakS r f) x va))).set_ 1 (.int .i64 (slowedOf (strongS r f) x vb))
                    simp only [List.setIfInBounds_toArray, List.set_cons_zero, List.set_cons_succ] at hW5
                    have k9 := ((Kp.refl w6.heap.size (some bw) w6).setRow (p := ⟨bw, 0, none⟩) rfl (.int .i64 (slowedOf (weakS r f) x va))).setRow (p := ⟨bw, 1, none⟩) rfl (.int .i64 (slowedOf (strongS r f) x vb))
                    have e1 := HB.w.ne_of HB.k (by decide)
                    have e2 := HB.w.ne_of HB.f (by decide)
                    have HB9 : RB r f bk bf bw (slowedOf (weakS r f) x va) (slowedOf (strongS r f) x vb) _ := ⟨HB.k.kp k9 HB.k.lt (sne (by first | exact e1 | exact Ne.symm e1)), HB.f.kp k9 HB.f.lt (sne (by first | exact e2 | exact Ne.symm e2)), hW5⟩
                    have HH9 := HH.kp k9 HH.lt (sne (Ne.symm hne1.out))
                    have HM9 := HM.kp k9 HM.lt (sne (Ne.symm hne2.out))
                    have KK9 := KK.thenOwn k9 (Nat.le_refl _) hWw.out
                    have own9 : Own _ W.heap.size 83 3 encBlow v7 ((pre ++ [blowAt (weakS r f) (strongS r f) i va vb])) := World.ownsRow.kept hown ⟨k9.os, k9.tape, k9.output, k9.size, k9.block⟩ (by
                      cases hvb9 : (v7).ownBlock with
                      | none => exact .inl rfl
                      | some q => exact .inr (fun e => hown.ne_blk HB.w (by decide) (by rw [hvb9]; exact e)))
                    clear k9 hW5 e1 e2 HB HH HM KK hown
                    rw [hha.out, hha2.out] at HH9
                    go_wp2
                    go_roundw
                    case rel => exact ⟨i + 1, _, _, (pre ++ [blowAt (weakS r f) (strongS r f) i va vb]), rfl, h7.out, hpl7.out, hv4.out, hv5.out, hf4.out, own9, HB9, HH9, HM9, KK9⟩
                    case measure => have := h7.out; simp [intOf]; omega
                · have hbt : burstsAt x.dens vb (heldBy (weakS r f)) = false := by rw [hbu.out]; simp [hp1]
                  have cB := fun i => HB.w.cell i
                  have hf2 : blowsOf ls r f = pre ++ (if burstsAt x.dens va (heldBy (strongS r f)) then [] else blowsFrom (weakS r f) (strongS r f) (ls.drop (i + 1)) (i + 1) (slowedOf (weakS r f) x va) (slowedOf (strongS r f) x vb)) := by rw [hf.out, hbt]; simp
                  replace hf2 := Lib.hid hf2
                  clear hf hbt hbu hpb
                  go_wp2_with fail
                  clear cH
                  replace HB : RB r f bk bf bw va vb wr.drew := HB.kpN (Kp.refl _ none _).drew
                  replace HH := HH.drew
                  replace HM := HM.drew
                  replace KK := KK.drew
                  replace hown := hown.drew
                  replace c0 : wr.drew.cell? _ = _ := c0
                  replace c1 : wr.drew.cell? _ = _ := c1
                  replace hbl : b < wr.drew.heap.size := hbl
                  clear cB
                  obtain ⟨S, hS⟩ : ∃ S : Nat → World → Prop, S = fun _ w' => Blk w' bw 26 #[.int .i64 va, .int .i64 vb] ∧ w'.cell? ⟨b, o + i * 2 + 1, none⟩ = some (.int .i64 x.dens) := ⟨_, rfl⟩
                  have hS0 : ∀ w', S 0 w' ↔ (Blk w' bw 26 #[.int .i64 va, .int .i64 vb] ∧ w'.cell? ⟨b, o + i * 2 + 1, none⟩ = some (.int .i64 x.dens)) := fun w' => by rw [hS]
                  clear hS
                  have cx := fun (q : Ev (S 0)) i => ((hS0 _).1 q.h).1.cell i
                  have cz := fun (q : Ev (S 0)) => ((hS0 _).1 q.h).2
                  have hevT := ev_true
                  refine wp_region_ord S [(0, 0), (1, 0), (2, 0), (3, 0), (4, 1), (5, 0), (6, 1), (7, 0), (8, 0)] [] (by kernel_rfl) (by kernel_rfl) ((hS0 _).2 ⟨HB.w, c1⟩) ?_
                  intro _hev
                  iterate 9 (first | (refine wpOrd_v rfl rfl ?_; intro K hK; go_big_quiet_op; go_big_quiet_on) | (refine wpOrd_q rfl rfl ?_; intro K hK; go_big_quiet_op; go_big_quiet_on) | refine wpOrd_s (by decide) rfl rfl ?_)
                  refine wpOrd_nil ?_
                  clear hevT _hev
                  clear cx cz hS0 S
                  rw [ewa.out]
                  clear ewa
                  generalize wr.drew = wq at *
                  have cH := fun i => HH.cell i
                  rcases (show 0 < pa ∨ ¬ 0 < pa by omega) with hq0 | hq0
                  · rcases (show ha2 ≤ pa ∨ ¬ ha2 ≤ pa by omega) with hq1 | hq1
                    · have hbw : burstsAt x.dens va (heldBy (strongS r f)) = true := by rw [hbv.out]; simp [hq0, hq1]
                      have hfin : BlowsChk ls r f (pre) 0 := .inl ⟨ha.out, hr.out, rfl, by rw [hf2.out, hbw]; simp⟩
                      replace hfin := Lib.hid hfin
                      obtain ⟨A', c', he', hrd, -⟩ := hown.rd (row := none) (fun _ => rfl) (by simp)
                      subst he'
                      clear hbw hf2 hown
                      go_wp2
                      exact bodyPost_ret (v := .tuple #[.slice A' (pre).length c', .int .i64 0]) (by simp [results, Tryd.results55, go_sem]) rfl ⟨⟨A', c', _, 0, rfl, hrd, hfin.out⟩, KK⟩
                    · have hbw : burstsAt x.dens va (heldBy (strongS r f)) = false := by rw [hbv.out]; simp [hq1]
                      have hf4 := hf2.out
                      rw [hbw, if_neg (by simp)] at hf4
                      replace hf4 := Lib.hid hf4
                      have hv4 := Lib.hid (show Vok (slowedOf (weakS r f) x va) from slowed_bd (step_ok hwk.out hx.out hva.out) hva.out)
                      have hv5 := Lib.hid (show Vok (slowedOf (strongS r f) x vb) from slowed_bd (step_ok hsk.out hx.out hvb.out) hvb.out)
                      clear hbw hf2 hbv hpa
                      go_wp2_with fail
                      clear cH
                      replace HB : RB r f bk bf bw va vb wq.drew := HB.kpN (Kp.refl _ none _).drew
                      replace HH := HH.drew
                      replace HM := HM.drew
                      replace KK := KK.drew
                      replace hown := hown.drew
                      replace c0 : wq.drew.cell? _ = _ := c0
                      replace c1 : wq.drew.cell? _ = _ := c1
                      replace hbl : b < wq.drew.heap.size := hbl
                      obtain ⟨S, hS⟩ : ∃ S : Nat → World → Prop, S = fun n w' => if n = 0 then RB r f bk bf bw va vb w' ∧ w'.cell? ⟨b, o + i * 2, none⟩ = some (.int .i64 x.thick) ∧ w'.cell? ⟨b, o + i * 2 + 1, none⟩ = some (.int .i64 x.dens) else True := ⟨_, rfl⟩
                      have hS0 : ∀ w', S 0 w' ↔ (RB r f bk bf bw va vb w' ∧ w'.cell? ⟨b, o + i * 2, none⟩ = some (.int .i64 x.thick) ∧ w'.cell? ⟨b, o + i * 2 + 1, none⟩ = some (.int .i64 x.dens)) := fun w' => by rw [hS]; exact Iff.rfl
                      have hS1 : ∀ w', S 1 w' ↔ (True) := fun w' => by rw [hS]; exact Iff.rfl
                      clear hS
                      have cx := fun (q : Ev (S 0)) i => ((hS0 _).1 q.h).1.w.cell i
                      have ck := fun (q : Ev (S 0)) i => ((hS0 _).1 q.h).1.k.cell i
                      have cf := fun (q : Ev (S 0)) i => ((hS0 _).1 q.h).1.f.cell i
                      have cy := fun (q : Ev (S 0)) => ((hS0 _).1 q.h).2.1
                      have cz := fun (q : Ev (S 0)) => ((hS0 _).1 q.h).2.2
                      have hevT := ev_true
                      refine wp_region_ord S [(0, 0), (1, 1), (2, 0), (3, 0), (4, 0), (5, 1), (6, 0), (7, 0), (8, 1), (9, 0), (10, 0), (11, 1), (12, 0), (13, 0), (14, 1), (15, 0), (16, 0), (17, 1), (19, 0), (20, 1), (21, 0), (22, 0), (23, 0), (24, 1), (25, 0), (26, 0), (27, 1), (28, 0), (29, 0), (30, 1), (31, 0), (32, 0), (33, 1), (34, 0), (35, 0), (36, 1), (18, 2), (37, 2), (38, 0), (39, 3)] [39] (by kernel_rfl) (by kernel_rfl) ((hS0 _).2 ⟨HB, c0, c1⟩) ?_
                      intro _hev
                      iterate 36 (first | (refine wpOrd_v rfl rfl ?_; intro K hK; go_big_quiet_op; go_big_quiet_on) | (refine wpOrd_q rfl rfl ?_; intro K hK; go_big_quiet_op; go_big_quiet_on) | refine wpOrd_s (by decide) rfl rfl ?_)
                      refine wpOrd_l rfl rfl ?_; intro K hK
                      go_step
                      refine (ref_slowed_any (weakS r f) va x _ hwk.out hx.out hva.out).mono ?_
                      rintro e w6 ⟨rfl, k6⟩
                      replace HB := HB.kpN k6
                      replace HH := HH.kpN k6
                      replace HM := HM.kpN k6
                      replace KK := KK.thenN k6 (Nat.le_refl _)
                      replace hown := hown.kpN k6
                      replace c0 := (k6.cell b _ hbl (by simp)).trans c0
                      replace c1 := (k6.cell b _ hbl (by simp)).trans c1
                      replace hbl := Nat.lt_of_lt_of_le hbl k6.size
                      refine hK _ _ ((hS0 _).2 ⟨HB, c0, c1⟩) ?_
                      clear hK K k6
                      refine wpOrd_l rfl rfl ?_; intro K hK
                      go_step
                      refine (ref_slowed_any (strongS r f) vb x _ hsk.out hx.out hvb.out).mono ?_
                      rintro e w6 ⟨rfl, k6⟩
                      replace HB := HB.kpN k6
                      replace HH := HH.kpN k6
                      replace HM := HM.kpN k6
                      replace KK := KK.thenN k6 (Nat.le_refl _)
                      replace hown := hown.kpN k6
                      replace c0 := (k6.cell b _ hbl (by simp)).trans c0
                      replace c1 := (k6.cell b _ hbl (by simp)).trans c1
                      replace hbl := Nat.lt_of_lt_of_le hbl k6.size
                      refine hK _ _ ((hS0 _).2 ⟨HB, c0, c1⟩) ?_
                      clear hK K k6
                      iterate 1 (first | (refine wpOrd_v rfl rfl ?_; intro K hK; go_big_quiet_op; go_big_quiet_on) | (refine wpOrd_q rfl rfl ?_; intro K hK; go_big_quiet_op; go_big_quiet_on) | refine wpOrd_s (by decide) rfl rfl ?_)
                      refine wpOrd_a rfl rfl ?_; intro K hK
                      have cw := fun i => HB.w.cell i
                      have fw := fun i => HB.w.frozen i
                      go_step
                      refine hK _ _ ((hS1 _).2 trivial) ?_
                      clear hK K cw fw
                      change wpOrd _ _ _ _ _ 1 _ _
                      refine wpOrd_nil ?_
                      clear hevT _hev
                      clear cx ck cf cy cz hS0 hS1 S c0 c1
                      have hW5 := (HB.w.set_ 0 (.int .i64 (slowedOf (weakS r f) x va))).set_ 1 (.int .i64 (slowedOf (strongS r f) x vb))
                      simp only [List.setIfInBounds_toArray, List.set_cons_zero, List.set_cons_succ] at hW5
                      have k9 := ((Kp.refl w6.heap.size (some bw) w6).setRow (p := ⟨bw, 0, none⟩) rfl (.int .i64 (slowedOf (weakS r f) x va))).setRow (p := ⟨bw, 1, none⟩) rfl (.int .i64 (slowedOf (strongS r f) x vb))
                      have e1 := HB.w.ne_of HB.k (by decide)
                      have e2 := HB.w.ne_of HB.f (by decide)
                      have HB9 : RB r f bk bf bw (slowedOf (weakS r f) x va) (slowedOf (strongS r f) x vb) _ := ⟨HB.k.kp k9 HB.k.lt (sne (by first | exact e1 | exact Ne.symm e1)), HB.f.kp k9 HB.f.lt (sne (by first | exact e2 | exact Ne.symm e2)), hW5⟩
                      have HH9 := HH.kp k9 HH.lt (sne (Ne.symm hne1.out))
                      have HM9 := HM.kp k9 HM.lt (sne (Ne.symm hne2.out))
                      have KK9 := KK.thenOwn k9 (Nat.le_refl _) hWw.out
                      have own9 : Own _ W.heap.size 83 3 encBlow u13 (pre) := World.ownsRow.kept hown ⟨k9.os, k9.tape, k9.output, k9.size, k9.block⟩ (by
                        cases hvb9 : (u13).ownBlock with
                        | none => exact .inl rfl
                        | some q => exact .inr (fun e => hown.ne_blk HB.w (by decide) (by rw [hvb9]; exact e)))
                      clear k9 hW5 e1 e2 HB HH HM KK hown
                      rw [hha.out, hha2.out] at HH9
                      go_wp2
                      go_roundw
                      case rel => exact ⟨i + 1, _, _, pre, rfl, h7.out, Nat.le_succ_of_le hpl, hv4.out, hv5.out, hf4.out, own9, HB9, HH9, HM9, KK9⟩
                      case measure => have := h7.out; simp [intOf]; omega
                  · have hbw : burstsAt x.dens va (heldBy (strongS r f)) = false := by rw [hbv.out]; simp [hq0]
                    have hf4 := hf2.out
                    rw [hbw, if_neg (by simp)] at hf4
                    replace hf4 := Lib.hid hf4
                    have hv4 := Lib.hid (show Vok (slowedOf (weakS r f) x va) from slowed_bd (step_ok hwk.out hx.out hva.out) hva.out)
                    have hv5 := Lib.hid (show Vok (slowedOf (strongS r f) x vb) from slowed_bd (step_ok hsk.out hx.out hvb.out) hvb.out)
                    clear hbw hf2 hbv hpa
                    go_wp2_with fail
                    clear cH
                    replace HB : RB r f bk bf bw va vb wq.drew := HB.kpN (Kp.refl _ none _).drew
                    replace HH := HH.drew
                    replace HM := HM.drew
                    replace KK := KK.drew
                    replace hown := hown.drew
                    replace c0 : wq.drew.cell? _ = _ := c0
                    replace c1 : wq.drew.cell? _ = _ := c1
                    replace hbl : b < wq.drew.heap.size := hbl
                    obtain ⟨S, hS⟩ : ∃ S : Nat → World → Prop, S = fun n w' => if n = 0 then RB r f bk bf bw va vb w' ∧ w'.cell? ⟨b, o + i * 2, none⟩ = some (.int .i64 x.thick) ∧ w'.cell? ⟨b, o + i * 2 + 1, none⟩ = some (.int .i64 x.dens) else True := ⟨_, rfl⟩
                    have hS0 : ∀ w', S 0 w' ↔ (RB r f bk bf bw va vb w' ∧ w'.cell? ⟨b, o + i * 2, none⟩ = some (.int .i64 x.thick) ∧ w'.cell? ⟨b, o + i * 2 + 1, none⟩ = some (.int .i64 x.dens)) := fun w' => by rw [hS]; exact Iff.rfl
                    have hS1 : ∀ w', S 1 w' ↔ (True) := fun w' => by rw [hS]; exact Iff.rfl
                    clear hS
                    have cx := fun (q : Ev (S 0)) i => ((hS0 _).1 q.h).1.w.cell i
                    have ck := fun (q : Ev (S 0)) i => ((hS0 _).1 q.h).1.k.cell i
                    have cf := fun (q : Ev (S 0)) i => ((hS0 _).1 q.h).1.f.cell i
                    have cy := fun (q : Ev (S 0)) => ((hS0 _).1 q.h).2.1
                    have cz := fun (q : Ev (S 0)) => ((hS0 _).1 q.h).2.2
                    have hevT := ev_true
                    refine wp_region_ord S [(0, 0), (1, 1), (2, 0), (3, 0), (4, 0), (5, 1), (6, 0), (7, 0), (8, 1), (9, 0), (10, 0), (11, 1), (12, 0), (13, 0), (14, 1), (15, 0), (16, 0), (17, 1), (19, 0), (20, 1), (21, 0), (22, 0), (23, 0), (24, 1), (25, 0), (26, 0), (27, 1), (28, 0), (29, 0), (30, 1), (31, 0), (32, 0), (33, 1), (34, 0), (35, 0), (36, 1), (18, 2), (37, 2), (38, 0), (39, 3)] [39] (by kernel_rfl) (by kernel_rfl) ((hS0 _).2 ⟨HB, c0, c1⟩) ?_
                    intro _hev
                    iterate 36 (first | (refine wpOrd_v rfl rfl ?_; intro K hK; go_big_quiet_op; go_big_quiet_on) | (refine wpOrd_q rfl rfl ?_; intro K hK; go_big_quiet_op; go_big_quiet_on) | refine wpOrd_s (by decide) rfl rfl ?_)
                    refine wpOrd_l rfl rfl ?_; intro K hK
                    go_step
                    refine (ref_slowed_any (weakS r f) va x _ hwk.out hx.out hva.out).mono ?_
                    rintro e w6 ⟨rfl, k6⟩
                    replace HB := HB.kpN k6
                    replace HH := HH.kpN k6
                    replace HM := HM.kpN k6
                    replace KK := KK.thenN k6 (Nat.le_refl _)
                    replace hown := hown.kpN k6
                    replace c0 := (k6.cell b _ hbl (by simp)).trans c0
                    replace c1 := (k6.cell b _ hbl (by simp)).trans c1
                    replace hbl := Nat.lt_of_lt_of_le hbl k6.size
                    refine hK _ _ ((hS0 _).2 ⟨HB, c0, c1⟩) ?_
                    clear hK K k6
                    refine wpOrd_l rfl rfl ?_; intro K hK
                    go_step
                    refine (ref_slowed_any (strongS r f) vb x _ hsk.out hx.out hvb.out).mono ?_
                    rintro e w6 ⟨rfl, k6⟩
                    replace HB := HB.kpN k6
                    replace HH := HH.kpN k6
                    replace HM := HM.kpN k6
                    replace KK := KK.thenN k6 (Nat.le_refl _)
                    replace hown := hown.kpN k6
                    replace c0 := (k6.cell b _ hbl (by simp)).trans c0
                    replace c1 := (k6.cell b _ hbl (by simp)).trans c1
                    replace hbl := Nat.lt_of_lt_of_le hbl k6.size
                    refine hK _ _ ((hS0 _).2 ⟨HB, c0, c1⟩) ?_
                    clear hK K k6
                    iterate 1 (first | (refine wpOrd_v rfl rfl ?_; intro K hK; go_big_quiet_op; go_big_quiet_on) | (refine wpOrd_q rfl rfl ?_; intro K hK; go_big_quiet_op; go_big_quiet_on) | refine wpOrd_s (by decide) rfl rfl ?_)
                    refine wpOrd_a rfl rfl ?_; intro K hK
                    have cw := fun i => HB.w.cell i
                    have fw := fun i => HB.w.frozen i
                    go_step
                    refine hK _ _ ((hS1 _).2 trivial) ?_
                    clear hK K cw fw
                    change wpOrd _ _ _ _ _ 1 _ _
                    refine wpOrd_nil ?_
                    clear hevT _hev
                    clear cx ck cf cy cz hS0 hS1 S c0 c1
                    have hW5 := (HB.w.set_ 0 (.int .i64 (slowedOf (weakS r f) x va))).set_ 1 (.int .i64 (slowedOf (strongS r f) x vb))
                    simp only [List.setIfInBounds_toArray, List.set_cons_zero, List.set_cons_succ] at hW5
                    have k9 := ((Kp.refl w6.heap.size (some bw) w6).setRow (p := ⟨bw, 0, none⟩) rfl (.int .i64 (slowedOf (weakS r f) x va))).setRow (p := ⟨bw, 1, none⟩) rfl (.int .i64 (slowedOf (strongS r f) x vb))
                    have e1 := HB.w.ne_of HB.k (by decide)
                    have e2 := HB.w.ne_of HB.f (by decide)
                    have HB9 : RB r f bk bf bw (slowedOf (weakS r f) x va) (slowedOf (strongS r f) x vb) _ := ⟨HB.k.kp k9 HB.k.lt (sne (by first | exact e1 | exact Ne.symm e1)), HB.f.kp k9 HB.f.lt (sne (by first | exact e2 | exact Ne.symm e2)), hW5⟩
                    have HH9 := HH.kp k9 HH.lt (sne (Ne.symm hne1.out))
                    have HM9 := HM.kp k9 HM.lt (sne (Ne.symm hne2.out))
                    have KK9 := KK.thenOwn k9 (Nat.le_refl _) hWw.out
                    have own9 : Own _ W.heap.size 83 3 encBlow u13 (pre) := World.ownsRow.kept hown ⟨k9.os, k9.tape, k9.output, k9.size, k9.block⟩ (by
                      cases hvb9 : (u13).ownBlock with
                      | none => exact .inl rfl
                      | some q => exact .inr (fun e => hown.ne_blk HB.w (by decide) (by rw [hvb9]; exact e)))
                    clear k9 hW5 e1 e2 HB HH HM KK hown
                    rw [hha.out, hha2.out] at HH9
                    go_wp2
                    go_roundw
                    case rel => exact ⟨i + 1, _, _, pre, rfl, h7.out, Nat.le_succ_of_le hpl, hv4.out, hv5.out, hf4.out, own9, HB9, HH9, HM9, KK9⟩
                    case measure => have := h7.out; simp [intOf]; omega
              · have hbt : burstsAt x.dens vb (heldBy (weakS r f)) = false := by rw [hbu.out]; simp [hp0]
                have cB := fun i => HB.w.cell i
                have hf2 : blowsOf ls r f = pre ++ (if burstsAt x.dens va (heldBy (strongS r f)) then [] else blowsFrom (weakS r f) (strongS r f) (ls.drop (i + 1)) (i + 1) (slowedOf (weakS r f) x va) (slowedOf (strongS r f) x vb)) := by rw [hf.out, hbt]; simp
                replace hf2 := Lib.hid hf2
                clear hf hbt hbu hpb
                go_wp2_with fail
                clear cH
                replace HB : RB r f bk bf bw va vb wr.drew := HB.kpN (Kp.refl _ none _).drew
                replace HH := HH.drew
                replace HM := HM.drew
                replace KK := KK.drew
                replace hown := hown.drew
                replace c0 : wr.drew.cell? _ = _ := c0
                replace c1 : wr.drew.cell? _ = _ := c1
                replace hbl : b < wr.drew.heap.size := hbl
                clear cB
                obtain ⟨S, hS⟩ : ∃ S : Nat → World → Prop, S = fun _ w' => Blk w' bw 26 #[.int .i64 va, .int .i64 vb] ∧ w'.cell? ⟨b, o + i * 2 + 1, none⟩ = some (.int .i64 x.dens) := ⟨_, rfl⟩
                have hS0 : ∀ w', S 0 w' ↔ (Blk w' bw 26 #[.int .i64 va, .int .i64 vb] ∧ w'.cell? ⟨b, o + i * 2 + 1, none⟩ = some (.int .i64 x.dens)) := fun w' => by rw [hS]
                clear hS
                have cx := fun (q : Ev (S 0)) i => ((hS0 _).1 q.h).1.cell i
                have cz := fun (q : Ev (S 0)) => ((hS0 _).1 q.h).2
                have hevT := ev_true
                refine wp_region_ord S [(0, 0), (1, 0), (2, 0), (3, 0), (4, 1), (5, 0), (6, 1), (7, 0), (8, 0)] [] (by kernel_rfl) (by kernel_rfl) ((hS0 _).2 ⟨HB.w, c1⟩) ?_
                intro _hev
                iterate 9 (first | (refine wpOrd_v rfl rfl ?_; intro K hK; go_big_quiet_op; go_big_quiet_on) | (refine wpOrd_q rfl rfl ?_; intro K hK; go_big_quiet_op; go_big_quiet_on) | refine wpOrd_s (by decide) rfl rfl ?_)
                refine wpOrd_nil ?_
                clear hevT _hev
                clear cx cz hS0 S
                rw [ewa.out]
                clear ewa
                generalize wr.drew = wq at *
                have cH := fun i => HH.cell i
                rcases (show 0 < pa ∨ ¬ 0 < pa by omega) with hq0 | hq0
                · rcases (show ha2 ≤ pa ∨ ¬ ha2 ≤ pa by omega) with hq1 | hq1
                  · have hbw : burstsAt x.dens va (heldBy (strongS r f)) = true := by rw [hbv.out]; simp [hq0, hq1]
                    have hfin : BlowsChk ls r f (pre) 0 := .inl ⟨ha.out, hr.out, rfl, by rw [hf2.out, hbw]; simp⟩
                    replace hfin := Lib.hid hfin
                    obtain ⟨A', c', he', hrd, -⟩ := hown.rd (row := none) (fun _ => rfl) (by simp)
                    subst he'
                    clear hbw hf2 hown
                    go_wp2
                    exact bodyPost_ret (v := .tuple #[.slice A' (pre).length c', .int .i64 0]) (by simp [results, Tryd.results55, go_sem]) rfl ⟨⟨A', c', _, 0, rfl, hrd, hfin.out⟩, KK⟩
                  · have hbw : burstsAt x.dens va (heldBy (strongS r f)) = false := by rw [hbv.out]; simp [hq1]
                    have hf4 := hf2.out
                    rw [hbw, if_neg (by simp)] at hf4
                    replace hf4 := Lib.hid hf4
                    have hv4 := Lib.hid (show Vok (slowedOf (weakS r f) x va) from slowed_bd (step_ok hwk.out hx.out hva.out) hva.out)
                    have hv5 := Lib.hid (show Vok (slowedOf (strongS r f) x vb) from slowed_bd (step_ok hsk.out hx.out hvb.out) hvb.out)
                    clear hbw hf2 hbv hpa
                    go_wp2_with fail
                    clear cH
                    replace HB : RB r f bk bf bw va vb wq.drew := HB.kpN (Kp.refl _ none _).drew
                    replace HH := HH.drew
                    replace HM := HM.drew
                    replace KK := KK.drew
                    replace hown := hown.drew
                    replace c0 : wq.drew.cell? _ = _ := c0
                    replace c1 : wq.drew.cell? _ = _ := c1
                    replace hbl : b < wq.drew.heap.size := hbl
                    obtain ⟨S, hS⟩ : ∃ S : Nat → World → Prop, S = fun n w' => if n = 0 then RB r f bk bf bw va vb w' ∧ w'.cell? ⟨b, o + i * 2, none⟩ = some (.int .i64 x.thick) ∧ w'.cell? ⟨b, o + i * 2 + 1, none⟩ = some (.int .i64 x.dens) else True := ⟨_, rfl⟩
                    have hS0 : ∀ w', S 0 w' ↔ (RB r f bk bf bw va vb w' ∧ w'.cell? ⟨b, o + i * 2, none⟩ = some (.int .i64 x.thick) ∧ w'.cell? ⟨b, o + i * 2 + 1, none⟩ = some (.int .i64 x.dens)) := fun w' => by rw [hS]; exact Iff.rfl
                    have hS1 : ∀ w', S 1 w' ↔ (True) := fun w' => by rw [hS]; exact Iff.rfl
                    clear hS
                    have cx := fun (q : Ev (S 0)) i => ((hS0 _).1 q.h).1.w.cell i
                    have ck := fun (q : Ev (S 0)) i => ((hS0 _).1 q.h).1.k.cell i
                    have cf := fun (q : Ev (S 0)) i => ((hS0 _).1 q.h).1.f.cell i
                    have cy := fun (q : Ev (S 0)) => ((hS0 _).1 q.h).2.1
                    have cz := fun (q : Ev (S 0)) => ((hS0 _).1 q.h).2.2
                    have hevT := ev_true
                    refine wp_region_ord S [(0, 0), (1, 1), (2, 0), (3, 0), (4, 0), (5, 1), (6, 0), (7, 0), (8, 1), (9, 0), (10, 0), (11, 1), (12, 0), (13, 0), (14, 1), (15, 0), (16, 0), (17, 1), (19, 0), (20, 1), (21, 0), (22, 0), (23, 0), (24, 1), (25, 0), (26, 0), (27, 1), (28, 0), (29, 0), (30, 1), (31, 0), (32, 0), (33, 1), (34, 0), (35, 0), (36, 1), (18, 2), (37, 2), (38, 0), (39, 3)] [39] (by kernel_rfl) (by kernel_rfl) ((hS0 _).2 ⟨HB, c0, c1⟩) ?_
                    intro _hev
                    iterate 36 (first | (refine wpOrd_v rfl rfl ?_; intro K hK; go_big_quiet_op; go_big_quiet_on) | (refine wpOrd_q rfl rfl ?_; intro K hK; go_big_quiet_op; go_big_quiet_on) | refine wpOrd_s (by decide) rfl rfl ?_)
                    refine wpOrd_l rfl rfl ?_; intro K hK
                    go_step
                    refine (ref_slowed_any (weakS r f) va x _ hwk.out hx.out hva.out).mono ?_
                    rintro e w6 ⟨rfl, k6⟩
                    replace HB := HB.kpN k6
                    replace HH := HH.kpN k6
                    replace HM := HM.kpN k6
                    replace KK := KK.thenN k6 (Nat.le_refl _)
                    replace hown := hown.kpN k6
                    replace c0 := (k6.cell b _ hbl (by simp)).trans c0
                    replace c1 := (k6.cell b _ hbl (by simp)).trans c1
                    replace hbl := Nat.lt_of_lt_of_le hbl k6.size
                    refine hK _ _ ((hS0 _).2 ⟨HB, c0, c1⟩) ?_
                    clear hK K k6
                    refine wpOrd_l rfl rfl ?_; intro K hK
                    go_step
                    refine (ref_slowed_any (strongS r f) vb x _ hsk.out hx.out hvb.out).mono ?_
                    rintro e w6 ⟨rfl, k6⟩
                    replace HB := HB.kpN k6
                    replace HH := HH.kpN k6
                    replace HM := HM.kpN k6
                    replace KK := KK.thenN k6 (Nat.le_refl _)
                    replace hown := hown.kpN k6
                    replace c0 := (k6.cell b _ hbl (by simp)).trans c0
                    replace c1 := (k6.cell b _ hbl (by simp)).trans c1
                    replace hbl := Nat.lt_of_lt_of_le hbl k6.size
                    refine hK _ _ ((hS0 _).2 ⟨HB, c0, c1⟩) ?_
                    clear hK K k6
                    iterate 1 (first | (refine wpOrd_v rfl rfl ?_; intro K hK; go_big_quiet_op; go_big_quiet_on) | (refine wpOrd_q rfl rfl ?_; intro K hK; go_big_quiet_op; go_big_quiet_on) | refine wpOrd_s (by decide) rfl rfl ?_)
                    refine wpOrd_a rfl rfl ?_; intro K hK
                    have cw := fun i => HB.w.cell i
                    have fw := fun i => HB.w.frozen i
                    go_step
                    refine hK _ _ ((hS1 _).2 trivial) ?_
                    clear hK K cw fw
                    change wpOrd _ _ _ _ _ 1 _ _
                    refine wpOrd_nil ?_
                    clear hevT _hev
                    clear cx ck cf cy cz hS0 hS1 S c0 c1
                    have hW5 := (HB.w.set_ 0 (.int .i64 (slowedOf (weakS r f) x va))).set_ 1 (.int .i64 (slowedOf (strongS r f) x vb))
                    simp only [List.setIfInBounds_toArray, List.set_cons_zero, List.set_cons_succ] at hW5
                    have k9 := ((Kp.refl w6.heap.size (some bw) w6).setRow (p := ⟨bw, 0, none⟩) rfl (.int .i64 (slowedOf (weakS r f) x va))).setRow (p := ⟨bw, 1, none⟩) rfl (.int .i64 (slowedOf (strongS r f) x vb))
                    have e1 := HB.w.ne_of HB.k (by decide)
                    have e2 := HB.w.ne_of HB.f (by decide)
                    have HB9 : RB r f bk bf bw (slowedOf (weakS r f) x va) (slowedOf (strongS r f) x vb) _ := ⟨HB.k.kp k9 HB.k.lt (sne (by first | exact e1 | exact Ne.symm e1)), HB.f.kp k9 HB.f.lt (sne (by first | exact e2 | exact Ne.symm e2)), hW5⟩
                    have HH9 := HH.kp k9 HH.lt (sne (Ne.symm hne1.out))
                    have HM9 := HM.kp k9 HM.lt (sne (Ne.symm hne2.out))
                    have KK9 := KK.thenOwn k9 (Nat.le_refl _) hWw.out
                    have own9 : Own _ W.heap.size 83 3 encBlow u13 (pre) := World.ownsRow.kept hown ⟨k9.os, k9.tape, k9.output, k9.size, k9.block⟩ (by
                      cases hvb9 : (u13).ownBlock with
                      | none => exact .inl rfl
                      | some q => exact .inr (fun e => hown.ne_blk HB.w (by decide) (by rw [hvb9]; exact e)))
                    clear k9 hW5 e1 e2 HB HH HM KK hown
                    rw [hha.out, hha2.out] at HH9
                    go_wp2
                    go_roundw
                    case rel => exact ⟨i + 1, _, _, pre, rfl, h7.out, Nat.le_succ_of_le hpl, hv4.out, hv5.out, hf4.out, own9, HB9, HH9, HM9, KK9⟩
                    case measure => have := h7.out; simp [intOf]; omega
                · have hbw : burstsAt x.dens va (heldBy (strongS r f)) = false := by rw [hbv.out]; simp [hq0]
                  have hf4 := hf2.out
                  rw [hbw, if_neg (by simp)] at hf4
                  replace hf4 := Lib.hid hf4
                  have hv4 := Lib.hid (show Vok (slowedOf (weakS r f) x va) from slowed_bd (step_ok hwk.out hx.out hva.out) hva.out)
                  have hv5 := Lib.hid (show Vok (slowedOf (strongS r f) x vb) from slowed_bd (step_ok hsk.out hx.out hvb.out) hvb.out)
                  clear hbw hf2 hbv hpa
                  go_wp2_with fail
                  clear cH
                  replace HB : RB r f bk bf bw va vb wq.drew := HB.kpN (Kp.refl _ none _).drew
                  replace HH := HH.drew
                  replace HM := HM.drew
                  replace KK := KK.drew
                  replace hown := hown.drew
                  replace c0 : wq.drew.cell? _ = _ := c0
                  replace c1 : wq.drew.cell? _ = _ := c1
                  replace hbl : b < wq.drew.heap.size := hbl
                  obtain ⟨S, hS⟩ : ∃ S : Nat → World → Prop, S = fun n w' => if n = 0 then RB r f bk bf bw va vb w' ∧ w'.cell? ⟨b, o + i * 2, none⟩ = some (.int .i64 x.thick) ∧ w'.cell? ⟨b, o + i * 2 + 1, none⟩ = some (.int .i64 x.dens) else True := ⟨_, rfl⟩
                  have hS0 : ∀ w', S 0 w' ↔ (RB r f bk bf bw va vb w' ∧ w'.cell? ⟨b, o + i * 2, none⟩ = some (.int .i64 x.thick) ∧ w'.cell? ⟨b, o + i * 2 + 1, none⟩ = some (.int .i64 x.dens)) := fun w' => by rw [hS]; exact Iff.rfl
                  have hS1 : ∀ w', S 1 w' ↔ (True) := fun w' => by rw [hS]; exact Iff.rfl
                  clear hS
                  have cx := fun (q : Ev (S 0)) i => ((hS0 _).1 q.h).1.w.cell i
                  have ck := fun (q : Ev (S 0)) i => ((hS0 _).1 q.h).1.k.cell i
                  have cf := fun (q : Ev (S 0)) i => ((hS0 _).1 q.h).1.f.cell i
                  have cy := fun (q : Ev (S 0)) => ((hS0 _).1 q.h).2.1
                  have cz := fun (q : Ev (S 0)) => ((hS0 _).1 q.h).2.2
                  have hevT := ev_true
                  refine wp_region_ord S [(0, 0), (1, 1), (2, 0), (3, 0), (4, 0), (5, 1), (6, 0), (7, 0), (8, 1), (9, 0), (10, 0), (11, 1), (12, 0), (13, 0), (14, 1), (15, 0), (16, 0), (17, 1), (19, 0), (20, 1), (21, 0), (22, 0), (23, 0), (24, 1), (25, 0), (26, 0), (27, 1), (28, 0), (29, 0), (30, 1), (31, 0), (32, 0), (33, 1), (34, 0), (35, 0), (36, 1), (18, 2), (37, 2), (38, 0), (39, 3)] [39] (by kernel_rfl) (by kernel_rfl) ((hS0 _).2 ⟨HB, c0, c1⟩) ?_
                  intro _hev
                  iterate 36 (first | (refine wpOrd_v rfl rfl ?_; intro K hK; go_big_quiet_op; go_big_quiet_on) | (refine wpOrd_q rfl rfl ?_; intro K hK; go_big_quiet_op; go_big_quiet_on) | refine wpOrd_s (by decide) rfl rfl ?_)
                  refine wpOrd_l rfl rfl ?_; intro K hK
                  go_step
                  refine (ref_slowed_any (weakS r f) va x _ hwk.out hx.out hva.out).mono ?_
                  rintro e w6 ⟨rfl, k6⟩
                  replace HB := HB.kpN k6
                  replace HH := HH.kpN k6
                  replace HM := HM.kpN k6
                  replace KK := KK.thenN k6 (Nat.le_refl _)
                  replace hown := hown.kpN k6
                  replace c0 := (k6.cell b _ hbl (by simp)).trans c0
                  replace c1 := (k6.cell b _ hbl (by simp)).trans c1
                  replace hbl := Nat.lt_of_lt_of_le hbl k6.size
                  refine hK _ _ ((hS0 _).2 ⟨HB, c0, c1⟩) ?_
                  clear hK K k6
                  refine wpOrd_l rfl rfl ?_; intro K hK
                  go_step
                  refine (ref_slowed_any (strongS r f) vb x _ hsk.out hx.out hvb.out).mono ?_
                  rintro e w6 ⟨rfl, k6⟩
                  replace HB := HB.kpN k6
                  replace HH := HH.kpN k6
                  replace HM := HM.kpN k6
                  replace KK := KK.thenN k6 (Nat.le_refl _)
                  replace hown := hown.kpN k6
                  replace c0 := (k6.cell b _ hbl (by simp)).trans c0
                  replace c1 := (k6.cell b _ hbl (by simp)).trans c1
                  replace hbl := Nat.lt_of_lt_of_le hbl k6.size
                  refine hK _ _ ((hS0 _).2 ⟨HB, c0, c1⟩) ?_
                  clear hK K k6
                  iterate 1 (first | (refine wpOrd_v rfl rfl ?_; intro K hK; go_big_quiet_op; go_big_quiet_on) | (refine wpOrd_q rfl rfl ?_; intro K hK; go_big_quiet_op; go_big_quiet_on) | refine wpOrd_s (by decide) rfl rfl ?_)
                  refine wpOrd_a rfl rfl ?_; intro K hK
                  have cw := fun i => HB.w.cell i
                  have fw := fun i => HB.w.frozen i
                  go_step
                  refine hK _ _ ((hS1 _).2 trivial) ?_
                  clear hK K cw fw
                  change wpOrd _ _ _ _ _ 1 _ _
                  refine wpOrd_nil ?_
                  clear hevT _hev
                  clear cx ck cf cy cz hS0 hS1 S c0 c1
                  have hW5 := (HB.w.set_ 0 (.int .i64 (slowedOf (weakS r f) x va))).set_ 1 (.int .i64 (slowedOf (strongS r f) x vb))
                  simp only [List.setIfInBounds_toArray, List.set_cons_zero, List.set_cons_succ] at hW5
                  have k9 := ((Kp.refl w6.heap.size (some bw) w6).setRow (p := ⟨bw, 0, none⟩) rfl (.int .i64 (slowedOf (weakS r f) x va))).setRow (p := ⟨bw, 1, none⟩) rfl (.int .i64 (slowedOf (strongS r f) x vb))
                  have e1 := HB.w.ne_of HB.k (by decide)
                  have e2 := HB.w.ne_of HB.f (by decide)
                  have HB9 : RB r f bk bf bw (slowedOf (weakS r f) x va) (slowedOf (strongS r f) x vb) _ := ⟨HB.k.kp k9 HB.k.lt (sne (by first | exact e1 | exact Ne.symm e1)), HB.f.kp k9 HB.f.lt (sne (by first | exact e2 | exact Ne.symm e2)), hW5⟩
                  have HH9 := HH.kp k9 HH.lt (sne (Ne.symm hne1.out))
                  have HM9 := HM.kp k9 HM.lt (sne (Ne.symm hne2.out))
                  have KK9 := KK.thenOwn k9 (Nat.le_refl _) hWw.out
                  have own9 : Own _ W.heap.size 83 3 encBlow u13 (pre) := World.ownsRow.kept hown ⟨k9.os, k9.tape, k9.output, k9.size, k9.block⟩ (by
                    cases hvb9 : (u13).ownBlock with
                    | none => exact .inl rfl
                    | some q => exact .inr (fun e => hown.ne_blk HB.w (by decide) (by rw [hvb9]; exact e)))
                  clear k9 hW5 e1 e2 HB HH HM KK hown
                  rw [hha.out, hha2.out] at HH9
                  go_wp2
                  go_roundw
                  case rel => exact ⟨i + 1, _, _, pre, rfl, h7.out, Nat.le_succ_of_le hpl, hv4.out, hv5.out, hf4.out, own9, HB9, HH9, HM9, KK9⟩
                  case measure => have := h7.out; simp [intOf]; omega
            · have he : i = ls.length := by omega
              subst he
              have hni : ¬ (ls.length : Int) < (ls.length : Int) := by omega
              rw [List.drop_length] at hf
              have hfin : BlowsChk ls r f (pre ++ [blowAt (weakS r f) (strongS r f) ls.length va vb]) 0 := .inl ⟨ha.out, hr.out, rfl, hf.symm⟩
              replace hfin := Lib.hid hfin
              have en1 := energy_in hwk.out hva
              have en2 := energy_in hsk.out hvb
              have ee1 := Lib.hid (wrap64_of en1.1 (by omega))
              have ee2 := Lib.hid (wrap64_of en2.1 (by omega))
              have hpl32 : pre.length ≤ 32 := by have := ha.out.1; omega
              clear hf h7 hi hva hvb en1 en2 hpl
              have cB := fun i => HB.w.cell i
              have cM := fun i => HM.cell i
              go_wp2_with (at_builtin; refine wpList_append_own_at _ (by rfl) (.tmp 171) (.tmp 186) 76 (by rfl) W.heap.size 83 i0 _ 3 24 Tryd.underlying76 hi0 hz0 hz1 hz2 (by rfl) (by omega) u13 pre.length (pre.flatMap encBlow) (by rfl) (hown.alloc _) ⟨wr.heap.size, 0, none⟩ 1 1 [.int .i64 ls.length, .int .i64 (wrap64 (massOf (weakS r f).size (weakS r f).dens * va)), .int .i64 (wrap64 (massOf (strongS r f).size (strongS r f).dens * vb))] (by rfl) (by rfl) (three_new _ _ _ _ _) (three_int _ _ _ _) (maxLen_of (by omega)) (by omega) (alloc_ge KK.size _) ?_; intro v7 w7 hown7 hgrow _ hat)
              have own7 : Own w7 W.heap.size 83 3 encBlow v7 (pre ++ [blowAt (weakS r f) (strongS r f) ls.length va vb]) := by
                rw [ee1.out, ee2.out] at hown7
                unfold Own; simpa [encBlow, blowAt] using hown7
              have KK7 := (KK.alloc KK.size _).trans (Kp.of_own (row := none) (hown.alloc _) hgrow (alloc_ge KK.size _))
              obtain ⟨A', c', he', hrd, -⟩ := own7.rd (row := none) (fun _ => rfl) (by simp)
              clear hown7 hgrow hat
              subst he'
              exact bodyPost_ret (v := .tuple #[.slice A' (pre ++ [blowAt (weakS r f) (strongS r f) ls.length va vb]).length c', .int .i64 0]) (by simp [results, Tryd.results55, go_sem]) rfl ⟨⟨A', c', _, 0, rfl, hrd, hfin.out⟩, KK7⟩
end Go.Proofs.YtdiigflbohbndaaDoor
