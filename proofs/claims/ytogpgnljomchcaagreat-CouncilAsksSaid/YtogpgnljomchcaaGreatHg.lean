/- books, has, known, find, send: the program. -/
import Derived.Test.YtogpgnljomchcaaGreatHfAll
namespace Go.Proofs.YtogpgnljomchcaaGreat
open Go.RowKit

set_option maxHeartbeats 400000 in
theorem books_any (hb : Nat) (d : Bool) (w : World) :
    Calls Tryz.prog 56 #[.pointer (some ⟨hb, 0, none⟩), .bool d] w fun e w' => e = .returned (.tuple #[.pointer (some ⟨hb, oD d, none⟩), .pointer (some ⟨hb, oD (!d), none⟩)]) ∧ Kp w.heap.size none w w' := by
  cases d
  · go_enter Tryz.func56, Tryz.ntmps56
    go_wp2
    go_quiet (fail)
    go_wp2
    exact bodyPost_ret (v := .tuple #[.pointer (some ⟨hb, oD false, none⟩), .pointer (some ⟨hb, oD (!false), none⟩)]) (by simp [results, Tryz.results56, go_sem, oD]) rfl ⟨by simp [oD], (Kp.refl _ _ w).drewN _⟩
  · go_enter Tryz.func56, Tryz.ntmps56
    go_wp2
    go_quiet (fail)
    go_wp2
    exact bodyPost_ret (v := .tuple #[.pointer (some ⟨hb, oD true, none⟩), .pointer (some ⟨hb, oD (!true), none⟩)]) (by simp [results, Tryz.results56, go_sem, oD]) rfl ⟨by simp [oD], (Kp.refl _ _ w).drewN _⟩
set_option maxHeartbeats 400000 in
theorem has_any (hb o : Nat) (A : Option Addr) (len cap : Nat) (n : Int) (w : World) (hc : w.cell? ⟨hb, o + 3, none⟩ = some (.slice A len cap)) :
    Calls Tryz.prog 106 #[.pointer (some ⟨hb, o, none⟩), .int .i64 n] w fun e w' => e = .returned (.bool (decide (0 ≤ n) && decide (n < len))) ∧ Kp w.heap.size none w w' := by
  go_enter Tryz.func106, Tryz.ntmps106
  go_wp2
  all_goals
    go_ret
    refine ⟨ret_bool ?_, Kp.refl _ _ _⟩
    rw [Bool.eq_iff_iff]
    simp
    try omega
def KnownPost (A : Option Addr) (fs : List Known) (t : Int) (w : World) (e : Ending) (w' : World) : Prop :=
  ((e = .returned (.pointer none) ∧ fs.find? (fun k => k.target == t) = none) ∨ ∃ (g i : Nat) (hi : i < fs.length), A = some ⟨g, 0, none⟩ ∧ e = .returned (.pointer (some ⟨g, i * 6, none⟩)) ∧ fs.find? (fun k => k.target == t) = some fs[i] ∧ fs[i].target = t ∧ ∀ j (hj : j < i), fs[j].target ≠ t) ∧ Kp w.heap.size none w w'
set_option maxHeartbeats 400000 in
theorem known_any (hb o : Nat) (A : Option Addr) (cap : Nat) (fs : List Known) (t : Int) (w : World) (hc : w.cell? ⟨hb, o + 2, none⟩ = some (.slice A fs.length cap)) (hr : Rd none w 6 encKnown A fs.length fs) (hn : fs.length ≤ 17592186044416)
    (hA : (A = none ∧ fs = [] ∧ cap = 0) ∨ ∃ g, A = some ⟨g, 0, none⟩) :
    Calls Tryz.prog 78 #[.pointer (some ⟨hb, o, none⟩), .int .i64 t] w (KnownPost A fs t w) := by
  have hBX := Blk.new w 3 #[.int .i64 t]
  have KK := Kp.new w (.cells #[.int .i64 t] 3)
  have eg : ∀ args w, (callFunc 100 args).run Tryz.prog w = .ok (.enter 100 args) w := enters_of Tryz.func100 (by kernel_rfl) rfl
  have hhb : hb < w.heap.size := World.block_lt_of_cell? w ⟨hb, o + 2, none⟩ hc
  go_enter Tryz.func78, Tryz.ntmps78
  go_wp2_with fail
  replace hr := hr.kpN KK
  replace hc := (KK.cellN hc)
  generalize w.alloc (.cells #[.int .i64 t] 3) = w0 at hBX KK hr hc ⊢
  refine (indexKnown_any 100 _ (fun x => x.target == t) eg A cap fs w0 (known1_pred _ _ _ (hBX.cell 0)) hr hn).mono ?_
  rintro e w1 ⟨rfl, k1⟩
  replace hc := k1.cellN hc
  replace KK := KK.thenN k1 (Nat.le_refl _)
  clear hr k1 hBX
  rcases idx_spec (fun x : Known => x.target == t) fs 0 with ⟨h1, h2⟩ | ⟨i, hi, h1, h2, h3, h4⟩
  · rw [h1]
    replace h2 := Lib.hid h2
    clear h1
    go_wp2
    go_ret
    show KnownPost _ _ _ _ _ _
    unfold KnownPost
    exact ⟨.inl ⟨rfl, h2.out⟩, KK⟩
  · rw [h1]
    rcases hA with ⟨-, rfl, -⟩ | ⟨g, rfl⟩
    · simp at hi
    · have hi' : (i : Int) < (fs.length : Int) := by omega
      replace h2 := Lib.hid h2
      replace h3 := Lib.hid h3
      replace h4 := Lib.hid h4
      clear h1
      simp only [Int.zero_add]
      go_wp2
      go_ret
      unfold KnownPost
      exact ⟨.inr ⟨g, i, hi, rfl, by simp, h2.out, by simpa using h3.out, fun j hj => by simpa using h4.out j hj⟩, KK⟩
theorem info_alarm : (Tryz.prog.info? 106).map (fun i => (i.zero, i.size, i.bytes)) = some (some (.agg #[.int .i64 0, .int .i64 0, .int .i64 0, .bool false]), 4, 32) := by kernel_rfl
theorem list_new (w : World) (xs : List Value) (t : TypeId) : ∀ j u, xs[j]? = some u → (w.alloc (.cells xs.toArray t)).cell? ((⟨w.heap.size, 0, none⟩ : Addr).add j) = some u := by
  intro j u hj
  have hB := Blk.new w t xs.toArray
  have : (⟨w.heap.size, 0, none⟩ : Addr).add j = ⟨w.heap.size, j, none⟩ := by
    unfold Addr.add
    split
    · rename_i h0; rw [h0]
    · simp
  rw [this, hB.cell j]
  simpa using hj
theorem ownsRow_succ {w : World} {B e sz m : Nat} {v : Value} {n : Nat} {xs : List Value} (h : w.ownsRow B e sz v (n + (m + 1)) xs) : ∃ g cap, v = .slice (some ⟨g, 0, none⟩) (n + (m + 1)) cap := by
  rcases h.2 with ⟨_, h0⟩ | ⟨g, cap, _, rfl, _⟩
  · omega
  · exact ⟨g, cap, rfl⟩
theorem one_alarm (x : Alarm) : ∀ u ∈ encAlarm x, u.oneCell' = true := by
  intro u hu
  simp [encAlarm] at hu
  rcases hu with rfl | rfl | rfl | rfl <;> rfl
def sentAt (before now tick a : Int) (s : List Alarm) : List Alarm := if before = now then s else s ++ [⟨tick, a, now, decide (now < before)⟩]
set_option maxRecDepth 20000 in
set_option maxHeartbeats 1000000 in
/-- the alarm, sent in ledger d -/
theorem send_any (B hb : Nat) (V : CV) (c : Council) (v : Ky → Value) (h : House) (d : Bool) (tick a before now : Int) (w : World) (p : PH B hb w V c v h) (hn : (h.led d).sent.length ≤ 5000) :
    Calls Tryz.prog 81 #[.pointer (some ⟨hb, oD d, none⟩), .int .i64 tick, .int .i64 a, .int .i64 before, .int .i64 now] w fun e w' =>
      e = .returned (.tuple #[]) ∧ ∃ v', PH B hb w' V c v' (h.put d { h.led d with sent := sentAt before now tick a (h.led d).sent }) ∧ Fr hb v v' w w' := by
  obtain ⟨i0, hi, hz0, hz1, hz2⟩ := info_parts info_alarm
  by_cases hbn : before = now
  · have e1 : h.put d { h.led d with sent := sentAt before now tick a (h.led d).sent } = h := by
      unfold sentAt; rw [if_pos hbn]
      cases d <;> rfl
    rw [e1]
    go_enter Tryz.func81, Tryz.ntmps81
    go_wp2
    exact bodyPost_end (v := .tuple #[]) (by simp [results, Tryz.results81, go_sem]) rfl ⟨rfl, v, p, Fr.refl _ _ _⟩
  · have own := p.rows.sent d
    obtain ⟨s, hs⟩ : ∃ s, s = v (.sent d) := ⟨_, rfl⟩
    rw [← hs] at own
    have hsc : (pCells V c v h)[oD d]? = some s := by rw [hs]; cases d <;> rfl
    have hc : w.cell? ⟨hb, oD d, none⟩ = some s := (p.blk.cell _).trans hsc
    have hhb := p.lt
    have hBw : B ≤ w.heap.size := by have := p.low; omega
    replace hs := Lib.hid hs
    go_enter Tryz.func81, Tryz.ntmps81
    obtain ⟨o, ho⟩ : ∃ o, o = oD d := ⟨_, rfl⟩
    rw [← ho] at hc hsc ⊢
    have hsc' := Lib.hid hsc
    replace ho := Lib.hid ho
    clear hsc
    have hne : s.ownBlock ≠ some hb := fun e => p.rows.hb (.sent d) hb (by rw [rowOf_v, ← hs.out]; exact e) rfl
    replace p := Lib.hid p
    have B0 := Lib.hid p.out.blk
    go_wp2_with (at_builtin; refine wpList_append_own_at _ (by rfl) (.tmp 17) (.tmp 25) 39 (by rfl) B 106 i0 _ 4 32 Tryz.underlying39 hi hz0 hz1 hz2 (by rfl) (by omega) s (h.led d).sent.length ((h.led d).sent.flatMap encAlarm) (by rfl) (Own.alloc own _) ⟨w.heap.size, 0, none⟩ 1 1 [.int .i64 tick, .int .i64 a, .int .i64 now, .bool (decide (now < before))] (by rfl) (by rfl) (list_new _ _ _) (one_alarm ⟨tick, a, now, decide (now < before)⟩) (maxLen_of (by omega)) (by omega) (alloc_ge hBw _) ?_; intro v4 w4 hown4 hgrow _ hat; obtain ⟨g7, cap7, rfl⟩ := ownsRow_succ hown4; have B4 : Blk w4 hb 84 (pCells V c v h) := (hgrow.block hb (by simp; omega) (fun e => hne e.symm)).trans (B0.out.alloc _); have c4 : w4.cell? ⟨hb, o, none⟩ = some s := (B4.cell o).trans hsc'.out; have f4 := B4.frozen o)
    have p1 := p.out.alloc (.cells #[.int .i64 tick, .int .i64 a, .int .i64 now, .bool (decide (now < before))] 106)
    have st := p1.sentStep (d := d) ((h.led d).sent ++ [⟨tick, a, now, decide (now < before)⟩]) (.slice (some ⟨g7, 0, none⟩) ((h.led d).sent.length + 1) cap7) (by rw [← hs.out]; exact hgrow)
      (by unfold Own; rw [List.length_append, List.flatMap_append]; exact hown4)
      (by rw [← hs.out]; rcases hat with h1 | h1
          · exact .inl h1
          · right; intro b hb'; rw [h1] at hb'; injection hb' with hb'; omega)
    rw [Nat.add_zero, ← ho.out] at st
    have e1 : sentAt before now tick a (h.led d).sent = (h.led d).sent ++ [⟨tick, a, now, decide (now < before)⟩] := by unfold sentAt; rw [if_neg hbn]
    refine bodyPost_end (v := .tuple #[]) (by simp [results, Tryz.results81, go_sem]) rfl ⟨rfl, _, ?_, ((Fr.refl _ _ _).alloc _).trans st.2⟩
    rw [e1]
    exact st.1
def FindPost (B hb : Nat) (V : CV) (c : Council) (v : Ky → Value) (own other : Ledger) (d : Bool) (n : Int) (w : World) (e : Ending) (w' : World) : Prop :=
  ((hasM own n = true ∧ ∃ g cap, v (.motions d) = .slice (some ⟨g, 0, none⟩) own.motions.length cap ∧ e = .returned (.tuple #[.pointer (some ⟨g, n.toNat * 8, none⟩), .int .i64 0])) ∨
   (hasM own n = false ∧ hasM other n = true ∧ e = .returned (.tuple #[.pointer none, .int .i64 15])) ∨
   (hasM own n = false ∧ hasM other n = false ∧ e = .returned (.tuple #[.pointer none, .int .i64 7]))) ∧ Kp w.heap.size none w w'
theorem pCells_mot (V : CV) (c : Council) (v : Ky → Value) (h : House) (d : Bool) : (pCells V c v h)[oD d + 3]? = some (v (.motions d)) := by cases d <;> rfl
theorem pCells_facts (V : CV) (c : Council) (v : Ky → Value) (h : House) (d : Bool) : (pCells V c v h)[oD d + 2]? = some (v (.facts d)) := by cases d <;> rfl
theorem pCells_items (V : CV) (c : Council) (v : Ky → Value) (h : House) (d : Bool) : (pCells V c v h)[oD d + 1]? = some (.int .i64 (h.led d).items) := by cases d <;> rfl
set_option maxHeartbeats 1000000 in
theorem find_any (B hb : Nat) (V : CV) (c : Council) (v : Ky → Value) (h : House) (x : CItem) (w : World) (p : PH B hb w V c v h) :
    Calls Tryz.prog 85 #[.pointer (some ⟨hb, 0, none⟩), .agg #[.int .i64 x.kind, .int .i64 x.tick, .bool x.drill, .int .i64 x.a, .int .i64 x.b, .bool x.yes, .int .i64 x.chance.least, .int .i64 x.chance.most, .int .i64 x.chance.all]] w (FindPost B hb V c v (h.led x.drill) (h.led (!x.drill)) x.drill x.a w) := by
  have hX := Blk.new w 36 #[.int .i64 x.kind, .int .i64 x.tick, .bool x.drill, .int .i64 x.a, .int .i64 x.b, .bool x.yes, .int .i64 x.chance.least, .int .i64 x.chance.most, .int .i64 x.chance.all]
  have KK := Kp.new w (.cells #[.int .i64 x.kind, .int .i64 x.tick, .bool x.drill, .int .i64 x.a, .int .i64 x.b, .bool x.yes, .int .i64 x.chance.least, .int .i64 x.chance.most, .int .i64 x.chance.all] 36)
  have p1 := p.kpN KK
  have hX1 : w.heap.size ≠ hb := by have := p.lt; omega
  obtain ⟨A1, cap1, e1, r1, g1⟩ := (p1.rows.motions x.drill).rd0 (fun _ => rfl)
  obtain ⟨A2, cap2, e2, r2, g2⟩ := (p1.rows.motions (!x.drill)).rd0 (fun _ => rfl)
  rw [zipV_len] at e1 e2
  have m1 := p1.rows.motions x.drill
  have q1 : (pCells V c v h)[oD x.drill + 3]? = some (.slice A1 (h.led x.drill).motions.length cap1) := by rw [← e1]; exact pCells_mot V c v h x.drill
  have q2 : (pCells V c v h)[oD (!x.drill) + 3]? = some (.slice A2 (h.led (!x.drill)).motions.length cap2) := by rw [← e2]; exact pCells_mot V c v h (!x.drill)
  replace q1 := Lib.hid q1
  replace q2 := Lib.hid q2
  have eA : ∀ b, hasM (h.led x.drill) x.a = b → (decide (0 ≤ x.a) && decide (x.a < ((h.led x.drill).motions.length : Int))) = b := fun b hb => hb
  have eB : ∀ b, hasM (h.led (!x.drill)) x.a = b → (decide (0 ≤ x.a) && decide (x.a < ((h.led (!x.drill)).motions.length : Int))) = b := fun b hb => hb
  replace e1 := Lib.hid e1
  replace eA := Lib.hid eA
  replace eB := Lib.hid eB
  clear r1 r2 g2 e2 m1
  go_enter Tryz.func85, Tryz.ntmps85
  go_wp2_with fail
  generalize w.alloc (.cells #[.int .i64 x.kind, .int .i64 x.tick, .bool x.drill, .int .i64 x.a, .int .i64 x.b, .bool x.yes, .int .i64 x.chance.least, .int .i64 x.chance.most, .int .i64 x.chance.all] 36) = w0 at hX KK p1 ⊢
  refine (books_any hb x.drill _).mono ?_
  rintro e w1 ⟨rfl, k1⟩
  replace hX := hX.kpN k1
  replace KK := KK.thenN k1 (Nat.le_refl _)
  replace p1 := p1.kpN k1
  clear k1
  have cx := fun i => hX.cell i
  go_wp2_with fail
  refine (has_any hb (oD x.drill) A1 _ cap1 x.a _ ((p1.blk.cell _).trans q1.out)).mono ?_
  rintro e w2 ⟨rfl, k2⟩
  replace hX := hX.kpN k2
  replace KK := KK.thenN k2 (Nat.le_refl _)
  replace p1 := p1.kpN k2
  clear k2
  have cx := fun i => hX.cell i
  cases hh1 : hasM (h.led x.drill) x.a
  · rw [eA.out _ hh1]
    go_wp2_with fail
    refine (has_any hb (oD (!x.drill)) A2 _ cap2 x.a _ ((p1.blk.cell _).trans q2.out)).mono ?_
    rintro e w3 ⟨rfl, k3⟩
    replace KK := KK.thenN k3 (Nat.le_refl _)
    cases hh2 : hasM (h.led (!x.drill)) x.a
    · rw [eB.out _ hh2]
      have hz := Lib.hid hh1
      have hz2 := Lib.hid hh2
      clear hh1 hh2
      go_wp2
      exact bodyPost_ret (v := .tuple #[.pointer none, .int .i64 7]) (by simp [results, Tryz.results85, go_sem]) rfl ⟨.inr (.inr ⟨hz.out, hz2.out, rfl⟩), KK⟩
    · rw [eB.out _ hh2]
      have hz := Lib.hid hh1
      have hz2 := Lib.hid hh2
      clear hh1 hh2
      go_wp2
      exact bodyPost_ret (v := .tuple #[.pointer none, .int .i64 15]) (by simp [results, Tryz.results85, go_sem]) rfl ⟨.inr (.inl ⟨hz.out, hz2.out, rfl⟩), KK⟩
  · rw [eA.out _ hh1]
    have hz := Lib.hid hh1
    have cm : w2.cell? ⟨hb, oD x.drill + 3, none⟩ = some (.slice A1 (h.led x.drill).motions.length cap1) := (p1.blk.cell _).trans q1.out
    have hb0 : 0 ≤ x.a ∧ x.a < ((h.led x.drill).motions.length : Int) := by
      have := hh1; unfold hasM at this; simpa using this
    clear hh1
    rcases g1 with ⟨-, hnil, -⟩ | ⟨g, rfl, -⟩
    · have := congrArg List.length hnil
      rw [zipV_len] at this
      simp at this
      rw [this] at hb0
      simp at hb0
      omega
    · go_wp2
      go_quiet (fail)
      go_wp2
      exact bodyPost_ret (v := .tuple #[.pointer (some ⟨g, x.a.toNat * 8, none⟩), .int .i64 0]) (by simp [results, Tryz.results85, go_sem]) rfl ⟨.inl ⟨hz.out, g, cap1, e1.out, rfl⟩, KK.drewN _⟩
end Go.Proofs.YtogpgnljomchcaaGreat
