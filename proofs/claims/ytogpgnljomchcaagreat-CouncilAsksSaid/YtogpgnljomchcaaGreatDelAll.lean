/- slices.IndexFunc, Clone, DeleteFunc at the items; the closures of AsOf and Why. slices.Clone of items. slices.DeleteFunc of items. -/
import Derived.Test.YtogpgnljomchcaaGreatOr
import Derived.Test.YtogpgnljomchcaaGreatDy
import Derived.Lib.SliceRun
namespace Go.Proofs.YtogpgnljomchcaaGreat
open Go.RowKit

/-- clear(s), s a slice of n > 0 elements of sz cells each -/
theorem run_clear_rows {P : Program} (w : World) (t e ty : TypeId) (z : Value) (sz : Nat) (ht : P.underlying t = some (.slice e)) (hv : ∀ w, (zeroValue e).run P w = .ok z w) (hz : z.cells.size = sz) (h1 : ∀ i (hi : i < z.cells.size), z.cells[i].oneCell' = true) (b o n c : Nat) (hn : 0 < n)
    (hc : ∀ j, j < n * sz → (w.cell? ⟨b, o + j, none⟩).isSome = true) (hf : ∀ j, j < n * sz → w.frozen? ⟨b, o + j, none⟩ = false) :
    (Builtin.clear_ #[t] ty #[.slice (some ⟨b, o, none⟩) n c]).run P w = .ok (.tuple #[]) (w.setCells b o (Builtin.zeroCells z.cells n).toList) := by
  have hlen : (Builtin.zeroCells z.cells n).toList.length = n * sz := by simp [Builtin.zeroCells, hz]
  have hone : ∀ v ∈ (Builtin.zeroCells z.cells n).toList, v.oneCell' = true := by
    intro v hv
    simp only [Builtin.zeroCells, Array.toList_map, List.mem_map] at hv
    obtain ⟨i, hi, rfl⟩ := hv
    have hi2 : i < n * z.cells.size := by simpa using hi
    have h0 : 0 < z.cells.size := by
      rcases Nat.eq_zero_or_pos z.cells.size with h | h
      · rw [h] at hi2; omega
      · exact h
    have hm := Nat.mod_lt i h0
    rw [getElem!_pos z.cells _ hm]
    exact h1 _ hm
  have hst := run_storeCells_cells (P := P) b o (Builtin.zeroCells z.cells n).toList 0 w (by rw [hlen]; simpa using hc) (by rw [hlen]; simpa using hf) hone
  simp only [Nat.add_zero] at hst
  obtain ⟨m, rfl⟩ : ∃ m, n = m + 1 := ⟨n - 1, by omega⟩
  simp [Builtin.clear_, run_underlying ht, hv, hst]

theorem item_zero : ∀ w, (zeroValue 36).run Tryz.prog w = .ok (.agg (encItem zItem).toArray) w := by
  intro w
  obtain ⟨i0, hi0, hz0, hz1, hz2⟩ := info_parts info_item
  simp [zeroValue, hi0, hz0, go_sem]
  rfl
set_option maxHeartbeats 400000 in
theorem indexItem_any (g : Nat) (lb : Array Value) (p : CItem → Bool) (eg : ∀ args w, (callFunc g args).run Tryz.prog w = .ok (.enter g args) w) (A : Option Addr) (cap : Nat) (xs : List CItem) (w : World)
    (hp : PredK g lb encItem p w) (hr : Rd none w 9 encItem A xs.length xs) (hn : xs.length ≤ 1000000) :
    Calls Tryz.prog 31 #[.slice A xs.length cap, .func (.func g) #[] lb] w fun e w' => e = .returned (.int .i64 (idxI p xs 0)) ∧ Kp w.heap.size none w w' := by
  obtain ⟨V, hV⟩ : ∃ V, V = idxI p xs 0 := ⟨_, rfl⟩
  rw [← hV]
  go_enter Tryz.func31, Tryz.ntmps31
  go_wp2_with fail
  go_loopw [8] (fun v wr => IdxAt V p xs w v wr) (fun v _ => xs.length - (intOf v).toNat)
  case atStart => exact ⟨0, rfl, by omega, by rw [hV]; rfl, Kp.refl _ _ _⟩
  case round =>
    obtain ⟨i, rfl, hi, hj, KK⟩ := hrel
    by_cases h7 : i < xs.length
    · obtain ⟨b, o, rfl, hb, -, hc⟩ := (hr.kpN KK).at_ (by omega)
      have c0 : wr.cell? ⟨b, o + i * 9 + 0, none⟩ = some (.int .i64 xs[i].kind) := by rw [Nat.add_assoc]; exact hc i h7 0 _ rfl
      have c1 : wr.cell? ⟨b, o + i * 9 + 1, none⟩ = some (.int .i64 xs[i].tick) := by rw [Nat.add_assoc]; exact hc i h7 1 _ rfl
      have c2 : wr.cell? ⟨b, o + i * 9 + 2, none⟩ = some (.bool xs[i].drill) := by rw [Nat.add_assoc]; exact hc i h7 2 _ rfl
      have c3 : wr.cell? ⟨b, o + i * 9 + 3, none⟩ = some (.int .i64 xs[i].a) := by rw [Nat.add_assoc]; exact hc i h7 3 _ rfl
      have c4 : wr.cell? ⟨b, o + i * 9 + 4, none⟩ = some (.int .i64 xs[i].b) := by rw [Nat.add_assoc]; exact hc i h7 4 _ rfl
      have c5 : wr.cell? ⟨b, o + i * 9 + 5, none⟩ = some (.bool xs[i].yes) := by rw [Nat.add_assoc]; exact hc i h7 5 _ rfl
      have c6 : wr.cell? ⟨b, o + i * 9 + 6, none⟩ = some (.int .i64 xs[i].chance.least) := by rw [Nat.add_assoc]; exact hc i h7 6 _ rfl
      have c7 : wr.cell? ⟨b, o + i * 9 + 7, none⟩ = some (.int .i64 xs[i].chance.most) := by rw [Nat.add_assoc]; exact hc i h7 7 _ rfl
      have c8 : wr.cell? ⟨b, o + i * 9 + 8, none⟩ = some (.int .i64 xs[i].chance.all) := by rw [Nat.add_assoc]; exact hc i h7 8 _ rfl
      have hcall := hp wr xs[i] KK
      have hi' : (i : Int) < (xs.length : Int) := by omega
      rw [idx_drop p xs i h7] at hj
      replace hr := Lib.hid hr
      replace hp := Lib.hid hp
      clear hc
      generalize xs[i] = x at c0 c1 c2 c3 c4 c5 c6 c7 c8 hcall hj
      simp only [Nat.add_zero] at c0
      rw [show (encItem x).toArray = #[.int .i64 x.kind, .int .i64 x.tick, .bool x.drill, .int .i64 x.a, .int .i64 x.b, .bool x.yes, .int .i64 x.chance.least, .int .i64 x.chance.most, .int .i64 x.chance.all] from rfl] at hcall
      cases hq : p x with
      | true =>
        rw [hq] at hcall hj
        rw [if_pos rfl] at hj
        replace hj := Lib.hid hj
        go_wp2_with (go_at_fn g; refine hcall.mono ?_; rintro e w2 ⟨rfl, k2⟩)
        go_ret
        exact ⟨ret_int hj.out, KK.thenN k2 (Nat.le_refl _)⟩
      | false =>
        rw [hq] at hcall hj
        rw [if_neg (by simp)] at hj
        replace hj := Lib.hid hj
        replace h7 := Lib.hid h7
        clear hi
        go_wp2_with (go_at_fn g; refine hcall.mono ?_; rintro e w2 ⟨rfl, k2⟩)
        go_roundw
        case rel => exact ⟨i + 1, rfl, h7.out, hj.out, KK.thenN k2 (Nat.le_refl _)⟩
        case measure => have := h7.out; simp [intOf]; omega
    · have he : i = xs.length := by omega
      have hi' : ¬ (i : Int) < (xs.length : Int) := by omega
      rw [he, List.drop_length] at hj
      replace hj := Lib.hid hj
      clear h7 hi
      subst he
      go_wp2
      go_ret
      exact ⟨ret_int (hj.out.trans hV), KK⟩

/-- the closure of AsOf -/
theorem asOf1_pred (B : Nat) (n : Int) (w : World) (hc : w.cell? ⟨B, 0, none⟩ = some (.int .i64 n)) :
    PredK 32 #[.pointer (some ⟨B, 0, none⟩)] encItem (fun x => decide (n < x.tick)) w := fun W x hk => by
  have hc' := hk.cellN hc
  have hB : B < W.heap.size := World.block_lt_of_cell? W ⟨B, 0, none⟩ hc'
  have hne : B ≠ W.heap.size := by omega
  show Calls Tryz.prog 32 #[.agg #[.int .i64 x.kind, .int .i64 x.tick, .bool x.drill, .int .i64 x.a, .int .i64 x.b, .bool x.yes, .int .i64 x.chance.least, .int .i64 x.chance.most, .int .i64 x.chance.all], .pointer (some ⟨B, 0, none⟩)] W _
  go_enter Tryz.func32, Tryz.ntmps32
  go_wp2
  all_goals (go_ret; exact ⟨ret_bool (by simp_all), Kp.new _ _⟩)
/-- the closure of Why -/
theorem why1_call (W : World) (x : CItem) : Calls Tryz.prog 38 #[.agg #[.int .i64 x.kind, .int .i64 x.tick, .bool x.drill, .int .i64 x.a, .int .i64 x.b, .bool x.yes, .int .i64 x.chance.least, .int .i64 x.chance.most, .int .i64 x.chance.all]] W fun e w' => e = .returned (.bool x.drill) ∧ Kp W.heap.size none W w' := by
  go_enter Tryz.func38, Tryz.ntmps38
  go_wp2
  all_goals (go_ret; exact ⟨rfl, Kp.new _ _⟩)
theorem why1_pred (w : World) : PredK 38 #[] encItem (fun x => x.drill) w := fun W x _ => why1_call W x

/-! ### DeleteFunc in plain Lean: what the loop keeps -/
structure DInv (p : CItem → Bool) (xs dk : List CItem) (i j : Nat) : Prop where
  len : dk.length = xs.length
  lt : i < j
  le : j ≤ xs.length
  low : dk.take i = (xs.take j).filter p
  high : ∀ m, j ≤ m → dk[m]? = xs[m]?
theorem take_filter_succ (p : CItem → Bool) (xs : List CItem) (j : Nat) (hj : j < xs.length) : (xs.take (j + 1)).filter p = if p xs[j] = true then (xs.take j).filter p ++ [xs[j]] else (xs.take j).filter p := by
  rw [List.take_succ_eq_append_getElem hj, List.filter_append, List.filter_cons, List.filter_nil]
  split <;> simp
theorem DInv.keep {p : CItem → Bool} {xs dk : List CItem} {i j : Nat} (h : DInv p xs dk i j) (hj : j < xs.length) (hp : p xs[j] = true) : DInv p xs (dk.set i xs[j]) (i + 1) (j + 1) := by
  have hl := h.len
  have hi := h.lt
  refine ⟨by rw [List.length_set]; exact hl, by omega, by omega, ?_, fun m hm => ?_⟩
  · rw [take_filter_succ p xs j hj, if_pos hp, ← h.low]
    have hi2 : i < (dk.set i xs[j]).length := by rw [List.length_set]; omega
    rw [List.take_succ_eq_append_getElem hi2, List.getElem_set_self]
    congr 1
    exact List.take_set_of_le (Nat.le_refl _)
  · rw [List.getElem?_set_ne (by omega)]
    exact h.high m (by omega)
theorem DInv.skip {p : CItem → Bool} {xs dk : List CItem} {i j : Nat} (h : DInv p xs dk i j) (hj : j < xs.length) (hp : p xs[j] = false) : DInv p xs dk i (j + 1) :=
  ⟨h.len, by have := h.lt; omega, by omega, by rw [take_filter_succ p xs j hj, if_neg (by rw [hp]; decide)]; exact h.low, fun m hm => h.high m (by omega)⟩
theorem DInv.start {p : CItem → Bool} {xs : List CItem} {k : Nat} (hk : k < xs.length) (hall : ∀ j (hj : j < k), p (xs[j]'(by omega)) = true) (hp : p xs[k] = false) : DInv p xs xs k (k + 1) := by
  refine ⟨rfl, by omega, by omega, ?_, fun m _ => rfl⟩
  rw [take_filter_succ p xs k hk, if_neg (by rw [hp]; decide), List.filter_eq_self.2]
  intro x hx
  obtain ⟨j, hj, rfl⟩ := List.mem_iff_getElem.1 hx
  rw [List.length_take] at hj
  rw [List.getElem_take]
  exact hall j (by omega)
theorem DInv.fin {p : CItem → Bool} {xs dk : List CItem} {i : Nat} (h : DInv p xs dk i xs.length) : dk.take i = xs.filter p ∧ (xs.filter p).length = i := by
  have h1 := h.low
  rw [List.take_of_length_le (Nat.le_refl _)] at h1
  refine ⟨h1, ?_⟩
  rw [← h1, List.length_take, h.len]
  have := h.lt
  omega
theorem DInv.at_ {p : CItem → Bool} {xs dk : List CItem} {i j : Nat} (h : DInv p xs dk i j) (hj : j < xs.length) : dk[j]'(by rw [h.len]; exact hj) = xs[j] := by
  have := h.high j (Nat.le_refl _)
  rw [List.getElem?_eq_getElem hj, List.getElem?_eq_getElem (by rw [h.len]; exact hj)] at this
  exact Option.some.inj this

end Go.Proofs.YtogpgnljomchcaaGreat
namespace Go.Proofs.YtogpgnljomchcaaGreat
open Go.RowKit

/-! ### Clone -/
def ClonePost (l : List CItem) (w : World) (e : Ending) (w' : World) : Prop := ∃ v, e = .returned v ∧ Own w' w.heap.size 36 9 encItem v l ∧ Kp w.heap.size none w w'
set_option maxRecDepth 20000 in
set_option maxHeartbeats 2000000 in
theorem cloneItem_any (A : Option Addr) (cap : Nat) (l : List CItem) (w : World) (hr : Rd none w 9 encItem A l.length l) (hn : l.length ≤ 1000000) :
    Calls Tryz.prog 37 #[.slice A l.length cap] w (ClonePost l w) := by
  obtain ⟨i0, hi0, hz0, hz1, hz2⟩ := info_parts info_item
  have q29 : ∀ (w : World) (a : Option Addr) (n c n2 c2 : Nat), (binOp .eql 29 (.slice a n c) (.slice none n2 c2)).run Tryz.prog w = .ok (.bool a.isNone) w := fun w a n c n2 c2 => Lib.run_eql_slice_nil w _ _ a n c n2 c2 Tryz.underlying29
  cases A with
  | none =>
    have hl0 : l = [] := by
      rcases Nat.eq_zero_or_pos l.length with h1 | h1
      · exact List.eq_nil_of_length_eq_zero h1
      · obtain ⟨b, o, e, _⟩ := hr.2 h1
        cases e
    subst hl0
    go_enter Tryz.func37, Tryz.ntmps37
    go_wp2
    go_ret
    exact ⟨_, rfl, Own.nil _ _ _ _ _, Kp.refl _ _ _⟩
  | some ad =>
    have hr1 := hr.alloc (.cells #[] 36)
    have K1 := Kp.new w (.cells #[] 36)
    replace hr := Lib.hid hr
    go_enter Tryz.func37, Tryz.ntmps37
    go_wp2_with (at_builtin; refine wpList_append_own_at _ (by rfl) (.tmp 5) (.tmp 6) 29 (by rfl) w.heap.size 36 i0 _ 9 72 Tryz.underlying29 hi0 hz0 hz1 hz2 (by rfl) (by omega) (.slice (some ⟨w.heap.size, 0, none⟩) 0 0) 0 [] (by rfl) (emptyItems w w.heap.size (Nat.le_refl _)) ad l.length cap (l.flatMap encItem) (by rfl) (flat_len (enc := encItem) (sz := 9) (fun _ => rfl) l) (hr1.flat (fun _ => rfl)) (one_items l) (maxLen_of (by omega)) (by omega) (alloc_ge (Nat.le_refl _) _) ?_; intro u4 w4 hown gu _ au; clear au)
    go_ret
    refine ⟨u4, rfl, ?_, K1.grown gu (alloc_ge (Nat.le_refl _) _) (fun b e => by have e2 : w.heap.size = b := (by simpa [Value.ownBlock] using e); omega)⟩
    unfold Own
    simpa using hown

end Go.Proofs.YtogpgnljomchcaaGreat
namespace Go.Proofs.YtogpgnljomchcaaGreat
open Go.RowKit

/-! ### DeleteFunc -/
def keepB (x : CItem) : Bool := x.drill == false
def DelPost (B : Nat) (l : List CItem) (w : World) (e : Ending) (w' : World) : Prop :=
  ∃ A2 cap2, e = .returned (.slice A2 l.length cap2) ∧ Rd none w' 9 encItem A2 l.length l ∧ Kp B none w w'
theorem kp_setCells {B b : Nat} (hb : B ≤ b) {w0 : World} : ∀ (vs : List Value) (o : Nat) {w : World}, Kp B none w0 w → Kp B none w0 (w.setCells b o vs)
  | [], _, _, k => k
  | v :: vs, o, w, k => kp_setCells hb vs (o + 1) (k.setNew (p := ⟨b, o, none⟩) hb v)
theorem size_setCells (b : Nat) : ∀ (vs : List Value) (o : Nat) (w : World), w.heap.size ≤ (w.setCells b o vs).heap.size
  | [], _, _ => Nat.le_refl _
  | v :: vs, o, w => Nat.le_trans (by simp [World.setCell]) (size_setCells b vs (o + 1) (w.setCell ⟨b, o, none⟩ v))
theorem Own.itemAt {w : World} {B g n cap : Nat} {xs : List CItem} (h : Own w B 36 9 encItem (.slice (some ⟨g, 0, none⟩) n cap) xs) (i : Nat) (hi : i < xs.length) :
    ∀ k u, (encItem xs[i])[k]? = some u → w.cell? ⟨g, i * 9 + k, none⟩ = some u := by
  obtain ⟨A, cap', e, rd, -⟩ := h.rd0 (fun _ => rfl)
  simp only [Value.slice.injEq] at e
  obtain ⟨rfl, rfl, rfl⟩ := e
  obtain ⟨b, o', e2, -, -, hcc⟩ := rd.at_ (by omega)
  simp only [Option.some.injEq, Addr.mk.injEq] at e2
  obtain ⟨rfl, rfl, -⟩ := e2
  intro k u hk
  have := hcc i hi k u hk
  rwa [Nat.zero_add] at this
def DelAt (B g : Nat) (cap : Nat) (xs : List CItem) (w : World) (a b : Value) (wr : World) : Prop :=
  ∃ (i j : Nat) (dk : List CItem), a = .int .i64 (i : Int) ∧ b = .int .i64 (j : Int) ∧ DInv keepB xs dk i j ∧ Own wr B 36 9 encItem (.slice (some ⟨g, 0, none⟩) xs.length cap) dk ∧ Kp B none w wr
theorem putI_kp {B : Nat} {w wr : World} {g : Nat} (k : Kp B none w wr) (hB : B ≤ g) (hw : B ≤ wr.heap.size) (o : Nat) (x : CItem) : Kp B none w (putI wr g o x) :=
  k.grown (putI_grown _ _ _ _) hw (fun b e => by injection e with e; omega)
set_option maxRecDepth 20000 in
set_option maxHeartbeats 4000000 in
theorem deleteItem_any (B : Nat) (v : Value) (xs : List CItem) (w : World) (own : Own w B 36 9 encItem v xs) (hB : B ≤ w.heap.size) (hn : xs.length ≤ 1000000) :
    Calls Tryz.prog 36 #[v, .func (.func 38) #[] #[]] w (DelPost B (realOf xs) w) := by
  have eg : ∀ args w, (callFunc 38 args).run Tryz.prog w = .ok (.enter 38 args) w := enters_of Tryz.func38 (by kernel_rfl) rfl
  obtain ⟨A, cap, rfl, hrd, hA⟩ := own.rd (row := none) (fun _ => rfl) (fun b hb e => by cases e)
  rcases idx_spec (fun x : CItem => x.drill) xs 0 with ⟨h1, h2⟩ | ⟨k, hk, h1, h2, h3, h4⟩
  · have hall : realOf xs = xs := List.filter_eq_self.2 fun x hx => by
      have := List.find?_eq_none.1 h2 x hx
      simpa using this
    go_enter Tryz.func36, Tryz.ntmps36
    go_wp2_with fail
    refine (indexItem_any 38 #[] (fun x => x.drill) eg A cap xs w (why1_pred _) hrd hn).mono ?_
    rintro e w2 ⟨rfl, k2⟩
    rw [h1]
    replace hrd := hrd.kpN k2
    have K2 := k2.mono hB
    clear k2 h1 h2 own hA
    replace hrd := Lib.hid hrd
    replace hall := Lib.hid hall
    go_wp2
    go_ret
    exact ⟨A, cap, by rw [hall.out]; rfl, by rw [hall.out]; exact hrd.out, K2⟩
  · rcases own.2 with ⟨e, h0⟩ | ⟨g, cap', cur, e, hg, -, hle, -⟩
    · omega
    simp only [Value.slice.injEq] at e
    obtain ⟨rfl, -, rfl⟩ := e
    have hgw := (own.ge g rfl).2
    have st := DInv.start (p := keepB) (k := k) hk (fun j hj => by have := h4 j hj; simpa [keepB] using this) (by simpa [keepB] using h3)
    have hk2 : (k : Int) + 1 ≤ (xs.length : Int) := by omega
    replace st := Lib.hid st
    clear hA h3 h4 h2
    go_enter Tryz.func36, Tryz.ntmps36
    go_wp2_with fail
    refine (indexItem_any 38 #[] (fun x => x.drill) eg (some ⟨g, 0, none⟩) cap xs w (why1_pred _) hrd hn).mono ?_
    rintro e w2 ⟨rfl, k2⟩
    rw [h1]
    simp only [Int.zero_add]
    have own2 := own.kpN k2
    have K2 := k2.mono hB
    have hgw2 : w.heap.size ≤ w2.heap.size := k2.size
    clear k2 h1 own hrd
    have hkn : ((k : Int) == -1) = false := beq_eq_false_iff_ne.2 (by omega)
    go_wp2_with fail
    go_loopw [5, 6] (fun a b wr => DelAt B g cap xs w a b wr) (fun _ b _ => ((xs.length : Int) - intOf b).toNat)
    case atStart => exact ⟨k, k + 1, xs, rfl, by congr 1, st.out, own2, K2⟩
    case round =>
      clear own2 K2 st hk2 hkn hgw2
      obtain ⟨i, j, dk, rfl, rfl, D, O, K⟩ := hrel
      have hij := D.lt
      have hjl := D.le
      have hdl := D.len
      have hws : w.heap.size ≤ wr.heap.size := K.size
      by_cases hj : j < xs.length
      · have hjj : (j : Int) < (xs.length : Int) := by omega
        have hcc := O.itemAt j (by omega)
        rw [D.at_ hj] at hcc
        have dkeep := D.keep hj
        have dskip := D.skip hj
        clear D
        generalize xs[j] = x at hcc dkeep dskip
        have c0 : wr.cell? ⟨g, j * 9 + 0, none⟩ = some (.int .i64 x.kind) := hcc 0 _ rfl
        have c1 : wr.cell? ⟨g, j * 9 + 1, none⟩ = some (.int .i64 x.tick) := hcc 1 _ rfl
        have c2 : wr.cell? ⟨g, j * 9 + 2, none⟩ = some (.bool x.drill) := hcc 2 _ rfl
        have c3 : wr.cell? ⟨g, j * 9 + 3, none⟩ = some (.int .i64 x.a) := hcc 3 _ rfl
        have c4 : wr.cell? ⟨g, j * 9 + 4, none⟩ = some (.int .i64 x.b) := hcc 4 _ rfl
        have c5 : wr.cell? ⟨g, j * 9 + 5, none⟩ = some (.bool x.yes) := hcc 5 _ rfl
        have c6 : wr.cell? ⟨g, j * 9 + 6, none⟩ = some (.int .i64 x.chance.least) := hcc 6 _ rfl
        have c7 : wr.cell? ⟨g, j * 9 + 7, none⟩ = some (.int .i64 x.chance.most) := hcc 7 _ rfl
        have c8 : wr.cell? ⟨g, j * 9 + 8, none⟩ = some (.int .i64 x.chance.all) := hcc 8 _ rfl
        simp only [Nat.add_zero] at c0
        clear hcc
        have XB := Blk.new wr 36 #[.int .i64 x.kind, .int .i64 x.tick, .bool x.drill, .int .i64 x.a, .int .i64 x.b, .bool x.yes, .int .i64 x.chance.least, .int .i64 x.chance.most, .int .i64 x.chance.all]
        have kx := Kp.new wr (.cells #[.int .i64 x.kind, .int .i64 x.tick, .bool x.drill, .int .i64 x.a, .int .i64 x.b, .bool x.yes, .int .i64 x.chance.least, .int .i64 x.chance.most, .int .i64 x.chance.all] 36)
        have O5 := O.kpN kx
        have K5 := K.then_ (kx.mono (Nat.le_refl _)) hB
        replace dkeep := Lib.hid dkeep
        replace dskip := Lib.hid dskip
        replace O5 := Lib.hid O5
        clear kx K O
        go_upto_region 8 with (fail)
        clear c0 c1 c2 c3 c4 c5 c6 c7 c8
        change Code.wp _ _ _ _ (wr.alloc (.cells #[.int .i64 x.kind, .int .i64 x.tick, .bool x.drill, .int .i64 x.a, .int .i64 x.b, .bool x.yes, .int .i64 x.chance.least, .int .i64 x.chance.most, .int .i64 x.chance.all] 36))
        obtain ⟨xb, hxb⟩ : ∃ q, q = wr.heap.size := ⟨_, rfl⟩
        have hxg : xb ≠ g := by omega
        rw [← hxb] at XB
        try rw [← hxb]
        generalize wr.alloc (.cells #[.int .i64 x.kind, .int .i64 x.tick, .bool x.drill, .int .i64 x.a, .int .i64 x.b, .bool x.yes, .int .i64 x.chance.least, .int .i64 x.chance.most, .int .i64 x.chance.all] 36) = w5 at XB O5 K5 ⊢
        clear hxb hws
        have cx := fun i => XB.cell i
        have hcall := fun W => why1_call W x
        go_wp2_with fail
        go_at_fn 38
        refine (hcall _).mono ?_
        rintro e w6 ⟨rfl, k6⟩
        replace XB := XB.kpN k6
        replace O5 := O5.out.kpN k6
        replace K5 := K5.then_ k6 hB
        have hw6 : w.heap.size ≤ w6.heap.size := K5.size
        clear k6 cx
        have cx := fun i => XB.cell i
        cases hd : x.drill with
        | false =>
          have hkp := dkeep.out (by simp [keepB, hd])
          have O6 := O5.setItem i (by omega) x
          have K6 := putI_kp K5 (O5.ge g rfl).1 (by omega) (i * 9) x
          have fr := fun j => O5.frz (fun _ => rfl) j
          obtain ⟨py, ph⟩ := O5.itemCells i (by omega)
          have p0 : w6.cell? ⟨g, i * 9 + 0, none⟩ = some (.int .i64 py.kind) := ph 0 _ rfl
          have p1 : w6.cell? ⟨g, i * 9 + 1, none⟩ = some (.int .i64 py.tick) := ph 1 _ rfl
          have p2 : w6.cell? ⟨g, i * 9 + 2, none⟩ = some (.bool py.drill) := ph 2 _ rfl
          have p3 : w6.cell? ⟨g, i * 9 + 3, none⟩ = some (.int .i64 py.a) := ph 3 _ rfl
          have p4 : w6.cell? ⟨g, i * 9 + 4, none⟩ = some (.int .i64 py.b) := ph 4 _ rfl
          have p5 : w6.cell? ⟨g, i * 9 + 5, none⟩ = some (.bool py.yes) := ph 5 _ rfl
          have p6 : w6.cell? ⟨g, i * 9 + 6, none⟩ = some (.int .i64 py.chance.least) := ph 6 _ rfl
          have p7 : w6.cell? ⟨g, i * 9 + 7, none⟩ = some (.int .i64 py.chance.most) := ph 7 _ rfl
          have p8 : w6.cell? ⟨g, i * 9 + 8, none⟩ = some (.int .i64 py.chance.all) := ph 8 _ rfl
          simp only [Nat.add_zero] at p0
          clear ph dkeep dskip O5 K5
          replace hkp := Lib.hid hkp
          have hii : (i : Int) < (xs.length : Int) := by omega
          obtain ⟨of, hof⟩ : ∃ q, q = i * 9 := ⟨_, rfl⟩
          rw [← hof] at p0 p1 p2 p3 p4 p5 p6 p7 p8 O6 K6
          replace O6 := Lib.hid O6
          replace K6 := Lib.hid K6
          replace hof := hof.symm
          go_upto_region 9 with (fail)
          clear hd
          go_upto_region 10 with (fail)
          change Code.wp _ _ _ _ (putI w6 g of x)
          replace O6 := O6.out
          replace K6 := K6.out
          generalize putI w6 g of x = w7 at O6 K6 ⊢
          clear p0 p1 p2 p3 p4 p5 p6 p7 p8 fr cx XB hof
          replace O6 := Lib.hid O6
          replace K6 := Lib.hid K6
          go_wp2
          go_roundw
          case rel => exact ⟨i + 1, j + 1, dk.set i x, by congr 1, by congr 1, hkp.out, O6.out, K6.out⟩
          case measure => simp [intOf]; omega
        | true =>
          have hkp := Lib.hid (dskip.out (by simp [keepB, hd]))
          clear dkeep dskip
          replace O5 := Lib.hid O5
          replace K5 := Lib.hid K5
          go_wp2
          go_roundw
          case rel => exact ⟨i, j + 1, dk, rfl, by congr 1, hkp.out, O5.out, K5.out⟩
          case measure => simp [intOf]; omega
      · have hjj : ¬ (j : Int) < (xs.length : Int) := by omega
        obtain rfl : j = xs.length := by omega
        obtain ⟨hf1, hf2⟩ := D.fin
        have hgB := (O.ge g rfl).1
        obtain ⟨zs, hzs⟩ : ∃ zs, zs = (Builtin.zeroCells (Value.agg (encItem zItem).toArray).cells (xs.length - i)).toList := ⟨_, rfl⟩
        have hcl : ∀ ty cc, (Builtin.clear_ #[29] ty #[.slice (some ⟨g, i * 9, none⟩) (xs.length - i) cc]).run Tryz.prog wr = .ok (.tuple #[]) (wr.setCells g (i * 9) zs) := fun ty cc => by
          rw [hzs]
          refine run_clear_rows wr _ 36 ty (.agg (encItem zItem).toArray) 9 Tryz.underlying29 item_zero rfl (fun k hk => ?_) g (i * 9) (xs.length - i) cc (by omega) (fun k hk => ?_) (fun k _ => O.frz (fun _ => rfl) _)
          · have hk9 : k < 9 := hk
            match k, hk9 with
            | 0, _ => rfl
            | 1, _ => rfl
            | 2, _ => rfl
            | 3, _ => rfl
            | 4, _ => rfl
            | 5, _ => rfl
            | 6, _ => rfl
            | 7, _ => rfl
            | 8, _ => rfl
          · have e9 : i * 9 + k = (i + k / 9) * 9 + k % 9 := by omega
            have hl9 : k % 9 < (encItem (dk[i + k / 9]'(by omega))).length := Nat.mod_lt _ (by omega)
            have := O.itemAt (i + k / 9) (by omega) (k % 9) _ (List.getElem?_eq_getElem hl9)
            rw [e9, this]
            rfl
        have K9 : Kp B none w (wr.setCells g (i * 9) zs) := kp_setCells hgB zs (i * 9) K
        have R9 : Rd none (wr.setCells g (i * 9) zs) 9 encItem (some ⟨g, 0, none⟩) (realOf xs).length (realOf xs) := by
          refine ⟨rfl, fun h0 => ⟨g, 0, rfl, Nat.lt_of_lt_of_le (O.ge g rfl).2 (size_setCells g zs (i * 9) wr), by simp, fun m hm k v hv => ?_⟩⟩
          have hm2 : m < i := by rw [← hf2]; exact hm
          have em : (realOf xs)[m] = dk[m]'(by omega) := by
            have e1 : (realOf xs)[m]? = (dk.take i)[m]? := by rw [hf1]; rfl
            rw [List.getElem?_eq_getElem hm, List.getElem?_take, if_pos hm2, List.getElem?_eq_getElem (by omega)] at e1
            exact Option.some.inj e1
          have hk9 : k < 9 := (List.getElem?_eq_some_iff.1 hv).1
          rw [em] at hv
          have := O.itemAt m (by omega) k v hv
          rw [Nat.zero_add, ← this]
          exact World.cell?_setCells_out g zs (i * 9) wr ⟨g, m * 9 + k, none⟩ fun _ _ => .inl (by show m * 9 + k < i * 9; omega)
        have hlen : (realOf xs).length = i := hf2
        replace K9 := Lib.hid K9
        replace R9 := Lib.hid R9
        replace hlen := Lib.hid hlen
        clear D K O hf1 hf2 hzs
        have hin : (i : Int) ≤ (xs.length : Int) := by omega
        have hin2 : i ≤ xs.length := by omega
        have hcap1 : ¬ (cap = i) := by omega
        have hcap2 : (i : Int) ≤ (cap : Int) := by omega
        have hcap3 : i ≤ cap := by omega
        go_wp2
        go_ret
        exact ⟨some ⟨g, 0, none⟩, cap, by rw [hlen.out]; rfl, R9.out, K9.out⟩
end Go.Proofs.YtogpgnljomchcaaGreat
