/- deeds and do: the program. -/
import Derived.Test.YtogpgnljomchcaaJc
import Derived.MapKept
import Derived.Carry
namespace Go.Proofs.Ytogpgnljomchcaa
open Go.RowKit

/-! ### The map of the deeds -/
theorem run_insert_int {P : Program} {w : World} (mty kt et : TypeId) (r clock : Nat) (es : Array MapEntry) (a : Int) (v : Value) (hm : P.underlying mty = some (.map kt et)) (hk : P.underlying kt = some (.int .i64)) (hb : w.heap[r]? = some (.map es clock))
    (hf : Instr.findNow (.int .i64) (.int .i64 a) es.toList 0 = some none) :
    (Instr.mapUpdate mty (.map (some r)) (.int .i64 a) v).run P w = .ok () { w with heap := w.heap.setIfInBounds r (.map (es.push { key := .int .i64 a, val := v, born := clock }) (clock + 1)) } := by
  have hc : (Instr.checkKey false 10000 kt (.int .i64 a)).run P w = .ok () w := MapKept.run_checkKey (k := .int .i64 a) hk (by simp [MapKept.IsKey]) false 9999
  simp [Instr.mapUpdate, run_underlying hm, MapKept.run_getObj_map hb, hc, MapKept.run_findKey hk hf, MapKept.run_setObj_map _ hb, Result.andThen]
theorem run_lookup_int {P : Program} {w : World} (mty kt et : TypeId) (r clock i : Nat) (es : Array MapEntry) (a : Int) (v : Value) (hm : P.underlying mty = some (.map kt et)) (hk : P.underlying kt = some (.int .i64)) (hb : w.heap[r]? = some (.map es clock))
    (hf : Instr.findNow (.int .i64) (.int .i64 a) es.toList 0 = some (some (i, v))) :
    (Instr.lookup mty (.map (some r)) (.int .i64 a) true).run P w = .ok (.tuple #[v, .bool true]) w := by
  have hc : (Instr.checkKey es.isEmpty 10000 kt (.int .i64 a)).run P w = .ok () w := MapKept.run_checkKey (k := .int .i64 a) hk (by simp [MapKept.IsKey]) _ 9999
  simp [Instr.lookup, run_underlying hm, MapKept.run_getObj_map hb, hc, MapKept.run_findKey hk hf, Result.andThen]
theorem run_lookup_int_no {P : Program} {w : World} (mty kt et : TypeId) (r clock : Nat) (es : Array MapEntry) (a : Int) (z : Value) (hm : P.underlying mty = some (.map kt et)) (hk : P.underlying kt = some (.int .i64)) (hb : w.heap[r]? = some (.map es clock))
    (hz : (zeroValue et).run P w = .ok z w) (hf : Instr.findNow (.int .i64) (.int .i64 a) es.toList 0 = some none) :
    (Instr.lookup mty (.map (some r)) (.int .i64 a) true).run P w = .ok (.tuple #[z, .bool false]) w := by
  have hc : (Instr.checkKey es.isEmpty 10000 kt (.int .i64 a)).run P w = .ok () w := MapKept.run_checkKey (k := .int .i64 a) hk (by simp [MapKept.IsKey]) _ 9999
  simp [Instr.lookup, run_underlying hm, MapKept.run_getObj_map hb, hc, MapKept.run_findKey hk hf, Result.andThen, hz]
def deedMap : Array MapEntry := #[{ key := .int .i64 1, val := .func (.func 88) #[] #[], born := 0 }, { key := .int .i64 2, val := .func (.func 89) #[] #[], born := 1 },
  { key := .int .i64 3, val := .func (.func 90) #[] #[], born := 2 }, { key := .int .i64 4, val := .func (.func 91) #[] #[], born := 3 }]
theorem setMap_next {w : World} {r : Nat} {o o' : Obj} (hb : w.heap[r]? = some o) : ({ w with heap := w.heap.setIfInBounds r o' } : World).heap[r]? = some o' := (MapKept.heap_set hb).1
def mapW (w : World) (r : Nat) (o : Obj) : World := { w with heap := w.heap.setIfInBounds r o }
theorem mapW_kp {w0 w : World} {r : Nat} (k : Kp w0.heap.size none w0 w) (hr : w0.heap.size ≤ r) (o : Obj) : Kp w0.heap.size none w0 (mapW w r o) :=
  ⟨k.os, k.tape, k.output, by have := k.size; simpa [mapW] using this, fun i hi hn => by
    rw [← k.block i hi hn]
    unfold mapW
    have : r ≠ i := by omega
    simp [this]⟩
theorem deeds_any (w : World) : Calls Try.prog 68 #[] w fun e w' => e = .returned (.map (some w.heap.size)) ∧ w'.heap[w.heap.size]? = some (.map deedMap 4) ∧ Kp w.heap.size none w w' := by
  have hmm := @run_makeMap Try.prog
  have k0 := Kp.new w (.map #[] 0)
  have b0 : (w.alloc (.map #[] 0)).heap[w.heap.size]? = some (.map #[] 0) := (Array.getElem?_push_size : (w.heap.push (.map #[] 0))[w.heap.size]? = _)
  have hmt : Try.prog.underlying 122 = some (.map 3 120) := by kernel_rfl
  have hkt : Try.prog.underlying 3 = some (.int .i64) := by kernel_rfl
  have i1 := run_insert_int (P := Try.prog) 122 _ _ w.heap.size 0 #[] 1 (.func (.func 88) #[] #[]) hmt hkt b0 rfl
  have b1 := setMap_next (o' := .map #[{ key := .int .i64 1, val := .func (.func 88) #[] #[], born := 0 }] 1) b0
  have k1 := mapW_kp k0 (Nat.le_refl _) (.map #[{ key := .int .i64 1, val := .func (.func 88) #[] #[], born := 0 }] 1)
  obtain ⟨W1, hW1⟩ : ∃ q, q = mapW (w.alloc (.map #[] 0)) w.heap.size (.map #[{ key := .int .i64 1, val := .func (.func 88) #[] #[], born := 0 }] 1) := ⟨_, rfl⟩
  rw [← hW1] at k1
  change _ = Result.ok () (mapW (w.alloc (.map #[] 0)) w.heap.size (.map #[{ key := .int .i64 1, val := .func (.func 88) #[] #[], born := 0 }] 1)) at i1
  change (mapW (w.alloc (.map #[] 0)) w.heap.size (.map #[{ key := .int .i64 1, val := .func (.func 88) #[] #[], born := 0 }] 1)).heap[_]? = _ at b1
  rw [← hW1] at i1 b1
  clear hW1
  have i2 := run_insert_int (P := Try.prog) 122 _ _ w.heap.size 1 (deedMap.extract 0 1) 2 (.func (.func 89) #[] #[]) hmt hkt b1 rfl
  have k2 := mapW_kp k1 (Nat.le_refl _) (.map ((deedMap.extract 0 1).push { key := .int .i64 2, val := .func (.func 89) #[] #[], born := 1 }) (1 + 1))
  have b2 := setMap_next (o' := .map ((deedMap.extract 0 1).push { key := .int .i64 2, val := .func (.func 89) #[] #[], born := 1 }) (1 + 1)) b1
  obtain ⟨W2, hW2⟩ : ∃ q, q = mapW W1 w.heap.size (.map ((deedMap.extract 0 1).push { key := .int .i64 2, val := .func (.func 89) #[] #[], born := 1 }) (1 + 1)) := ⟨_, rfl⟩
  rw [← hW2] at k2
  change _ = Result.ok () (mapW W1 w.heap.size (.map ((deedMap.extract 0 1).push { key := .int .i64 2, val := .func (.func 89) #[] #[], born := 1 }) (1 + 1))) at i2
  change (mapW W1 w.heap.size (.map ((deedMap.extract 0 1).push { key := .int .i64 2, val := .func (.func 89) #[] #[], born := 1 }) (1 + 1))).heap[_]? = _ at b2
  rw [← hW2] at i2 b2
  clear hW2
  have i3 := run_insert_int (P := Try.prog) 122 _ _ w.heap.size 2 (deedMap.extract 0 2) 3 (.func (.func 90) #[] #[]) hmt hkt b2 rfl
  have k3 := mapW_kp k2 (Nat.le_refl _) (.map ((deedMap.extract 0 2).push { key := .int .i64 3, val := .func (.func 90) #[] #[], born := 2 }) (2 + 1))
  have b3 := setMap_next (o' := .map ((deedMap.extract 0 2).push { key := .int .i64 3, val := .func (.func 90) #[] #[], born := 2 }) (2 + 1)) b2
  obtain ⟨W3, hW3⟩ : ∃ q, q = mapW W2 w.heap.size (.map ((deedMap.extract 0 2).push { key := .int .i64 3, val := .func (.func 90) #[] #[], born := 2 }) (2 + 1)) := ⟨_, rfl⟩
  rw [← hW3] at k3
  change _ = Result.ok () (mapW W2 w.heap.size (.map ((deedMap.extract 0 2).push { key := .int .i64 3, val := .func (.func 90) #[] #[], born := 2 }) (2 + 1))) at i3
  change (mapW W2 w.heap.size (.map ((deedMap.extract 0 2).push { key := .int .i64 3, val := .func (.func 90) #[] #[], born := 2 }) (2 + 1))).heap[_]? = _ at b3
  rw [← hW3] at i3 b3
  clear hW3
  have i4 := run_insert_int (P := Try.prog) 122 _ _ w.heap.size 3 (deedMap.extract 0 3) 4 (.func (.func 91) #[] #[]) hmt hkt b3 rfl
  have k4 := mapW_kp k3 (Nat.le_refl _) (.map ((deedMap.extract 0 3).push { key := .int .i64 4, val := .func (.func 91) #[] #[], born := 3 }) (3 + 1))
  have b4 := setMap_next (o' := .map ((deedMap.extract 0 3).push { key := .int .i64 4, val := .func (.func 91) #[] #[], born := 3 }) (3 + 1)) b3
  obtain ⟨W4, hW4⟩ : ∃ q, q = mapW W3 w.heap.size (.map ((deedMap.extract 0 3).push { key := .int .i64 4, val := .func (.func 91) #[] #[], born := 3 }) (3 + 1)) := ⟨_, rfl⟩
  rw [← hW4] at k4
  change _ = Result.ok () (mapW W3 w.heap.size (.map ((deedMap.extract 0 3).push { key := .int .i64 4, val := .func (.func 91) #[] #[], born := 3 }) (3 + 1))) at i4
  change (mapW W3 w.heap.size (.map ((deedMap.extract 0 3).push { key := .int .i64 4, val := .func (.func 91) #[] #[], born := 3 }) (3 + 1))).heap[_]? = _ at b4
  rw [← hW4] at i4 b4
  clear hW4
  clear b0 b1 b2 b3 k0 k1 k2 k3 hmt hkt
  go_enter Try.func68, Try.ntmps68
  go_wp2
  go_ret
  exact ⟨rfl, b4, k4⟩
/-! ### A deed by its kind -/
theorem find_deed (a : Int) : (a ≠ 1 ∧ a ≠ 2 ∧ a ≠ 3 ∧ a ≠ 4 ∧ Instr.findNow (.int .i64) (.int .i64 a) deedMap.toList 0 = some none) ∨ ∃ F i, Instr.findNow (.int .i64) (.int .i64 a) deedMap.toList 0 = some (some (i, .func (.func F) #[] #[])) ∧
    ((a = 1 ∧ F = 88) ∨ (a = 2 ∧ F = 89) ∨ (a = 3 ∧ F = 90) ∨ (a = 4 ∧ F = 91)) := by
  by_cases h1 : a = 1
  · subst h1; exact .inr ⟨_, 0, rfl, .inl ⟨rfl, rfl⟩⟩
  by_cases h2 : a = 2
  · subst h2; exact .inr ⟨_, 1, rfl, .inr (.inl ⟨rfl, rfl⟩)⟩
  by_cases h3 : a = 3
  · subst h3; exact .inr ⟨_, 2, rfl, .inr (.inr (.inl ⟨rfl, rfl⟩))⟩
  by_cases h4 : a = 4
  · subst h4; exact .inr ⟨_, 3, rfl, .inr (.inr (.inr ⟨rfl, rfl⟩))⟩
  refine .inl ⟨h1, h2, h3, h4, ?_⟩
  have e1 : (a == 1) = false := by simpa using h1
  have e2 : (a == 2) = false := by simpa using h2
  have e3 : (a == 3) = false := by simpa using h3
  have e4 : (a == 4) = false := by simpa using h4
  simp [deedMap, Instr.findNow, Instr.sameNow, e1, e2, e3, e4]
theorem deed_any (F : Nat) (B hb n : Nat) (V : CV) (c : Council) (v : Ky → Value) (h : House) (x : CItem) (w : World) (p : PH B hb w V c v h) (hc : CouncilOk c) (hk : HouseOk c n h) (hn : n ≤ 2000) (ht0 : 0 ≤ x.tick) (ht1 : x.tick ≤ 1073741824)
    (hF : (x.kind = 1 ∧ F = 88) ∨ (x.kind = 2 ∧ F = 89) ∨ (x.kind = 3 ∧ F = 90) ∨ (x.kind = 4 ∧ F = 91)) :
    Calls Try.prog F #[.pointer (some ⟨hb, 0, none⟩), .agg #[.int .i64 x.kind, .int .i64 x.tick, .bool x.drill, .int .i64 x.a, .int .i64 x.b, .bool x.yes, .int .i64 x.chance.least, .int .i64 x.chance.most, .int .i64 x.chance.all]] w (DeedPost B hb V c v h x (deedE c (h.led x.drill) (h.led (!x.drill)) x) (deedL c (h.led x.drill) x) w) := by
  rcases hF with ⟨e, rfl⟩ | ⟨e, rfl⟩ | ⟨e, rfl⟩ | ⟨e, rfl⟩
  · have eE : deedE c (h.led x.drill) (h.led (!x.drill)) x = factE x := by unfold deedE; rw [if_pos e]
    have eL : deedL c (h.led x.drill) x = factL c (h.led x.drill) x := by unfold deedL; rw [if_pos e]
    rw [eE, eL]
    exact fact_any B hb n V c v h x w p hc hk (by omega)
  · have eE : deedE c (h.led x.drill) (h.led (!x.drill)) x = moveE c (h.led x.drill) x := by unfold deedE; rw [if_neg (by omega), if_pos e]
    have eL : deedL c (h.led x.drill) x = moveL (h.led x.drill) x := by unfold deedL; rw [if_neg (by omega), if_pos e]
    rw [eE, eL]
    exact motion_any B hb n V c v h x w p hk (by omega)
  · have eE : deedE c (h.led x.drill) (h.led (!x.drill)) x = voteE c (h.led x.drill) (h.led (!x.drill)) x := by unfold deedE; rw [if_neg (by omega), if_neg (by omega), if_pos e]
    have eL : deedL c (h.led x.drill) x = voteL c (h.led x.drill) x := by unfold deedL; rw [if_neg (by omega), if_neg (by omega), if_pos e]
    rw [eE, eL]
    exact vote_any B hb n V c v h x w p hc hk (by omega) ht0 ht1
  · have eE : deedE c (h.led x.drill) (h.led (!x.drill)) x = closeE c (h.led x.drill) (h.led (!x.drill)) x := by unfold deedE; rw [if_neg (by omega), if_neg (by omega), if_neg (by omega), if_pos e]
    have eL : deedL c (h.led x.drill) x = closeL c (h.led x.drill) x := by unfold deedL; rw [if_neg (by omega), if_neg (by omega), if_neg (by omega)]
    rw [eE, eL]
    exact close_any B hb n V c v h x w p hc hk hn ht0 ht1
theorem deed_enters (F : Nat) (a : Int) (hF : (a = 1 ∧ F = 88) ∨ (a = 2 ∧ F = 89) ∨ (a = 3 ∧ F = 90) ∨ (a = 4 ∧ F = 91)) :
    ∀ args w, (callFunc F args).run Try.prog w = .ok (.enter F args) w := by
  rcases hF with ⟨-, rfl⟩ | ⟨-, rfl⟩ | ⟨-, rfl⟩ | ⟨-, rfl⟩
  · exact enters_of Try.func88 (by kernel_rfl) rfl
  · exact enters_of Try.func89 (by kernel_rfl) rfl
  · exact enters_of Try.func90 (by kernel_rfl) rfl
  · exact enters_of Try.func91 (by kernel_rfl) rfl
/-! ### The counter of items and the clock -/
section
variable {B hb : Nat} {w : World} {v : Ky → Value} {V : CV} {c : Council} {h : House}
theorem PH.itemsStep (p : PH B hb w V c v h) (d : Bool) (n : Int) : PH B hb (w.setCell ⟨hb, oD d + 1, none⟩ (.int .i64 n)) V c v (h.put d { h.led d with items := n }) ∧ Fr hb v v w (w.setCell ⟨hb, oD d + 1, none⟩ (.int .i64 n)) := by
  have F := (Fr.refl hb v w).setH (oD d + 1) (.int .i64 n)
  refine ⟨⟨?_, p.low, ?_, p.c.kp (p.kp F)⟩, F⟩
  · refine (p.rows.kp (setH_kp w hb _ _)).eq fun k => ?_
    cases d <;> rcases k with ⟨(_ | _)⟩ | ⟨(_ | _)⟩ | ⟨(_ | _)⟩ | ⟨(_ | _), _⟩ <;> rfl
  · have : pCells V c v (h.put d { h.led d with items := n }) = (pCells V c v h).setIfInBounds (oD d + 1) (.int .i64 n) := by
      cases d <;> simp [pCells, House.put, House.led, oD]
    rw [this]
    exact p.blk.set_ _ _
theorem PH.tickStep (p : PH B hb w V c v h) (n : Int) : PH B hb (w.setCell ⟨hb, 3, none⟩ (.int .i64 n)) V c v { h with tick := n } ∧ Fr hb v v w (w.setCell ⟨hb, 3, none⟩ (.int .i64 n)) := by
  have F := (Fr.refl hb v w).setH 3 (.int .i64 n)
  refine ⟨⟨?_, p.low, ?_, p.c.kp (p.kp F)⟩, F⟩
  · refine (p.rows.kp (setH_kp w hb _ _)).eq fun k => ?_
    rcases k with ⟨(_ | _)⟩ | ⟨(_ | _)⟩ | ⟨(_ | _)⟩ | ⟨(_ | _), _⟩ <;> rfl
  · have : pCells V c v { h with tick := n } = (pCells V c v h).setIfInBounds 3 (.int .i64 n) := by
      simp [pCells]
    rw [this]
    exact p.blk.set_ _ _
end
theorem info_deed : (Try.prog.info? 120).map (fun i => (i.zero, i.size, i.bytes)) = some (some .nilFunc, 1, 8) := by kernel_rfl
theorem deed_zero (w : World) : (zeroValue 120).run Try.prog w = .ok .nilFunc w := by
  obtain ⟨i, hi, hz, -, -⟩ := info_parts info_deed
  simp [zeroValue, typeInfo, hi, hz]
def DoPost (B hb : Nat) (V : CV) (c : Council) (v : Ky → Value) (h : House) (x : CItem) (E : Int) (H : House) (w : World) (e : Ending) (w' : World) : Prop :=
  e = .returned (.int .i64 E) ∧ ∃ v', PH B hb w' V c v' (if E = 0 then H else h) ∧ Fr hb v v' w w'
theorem DoPost.err {B hb xb : Nat} {V : CV} {c : Council} {v v' : Ky → Value} {h H : House} {x : CItem} {E : Int} {w w' : World} {n : Int} (s : FS B hb xb V c v v' h x w w') (e0 : n = E) (e1 : E ≠ 0) : DoPost B hb V c v h x E H w (.returned (.int .i64 n)) w' :=
  ⟨by rw [e0], v', by rw [if_neg e1]; exact s.p, s.f⟩
set_option maxRecDepth 20000 in
set_option maxHeartbeats 4000000 in
theorem do_any (B hb n : Nat) (V : CV) (c : Council) (v : Ky → Value) (h : House) (x : CItem) (w : World) (p : PH B hb w V c v h) (hc : CouncilOk c) (hk : HouseOk c n h) (hn : n ≤ 2000) :
    Calls Try.prog 48 #[.pointer (some ⟨hb, 0, none⟩), .agg #[.int .i64 x.kind, .int .i64 x.tick, .bool x.drill, .int .i64 x.a, .int .i64 x.b, .bool x.yes, .int .i64 x.chance.least, .int .i64 x.chance.most, .int .i64 x.chance.all]] w (DoPost B hb V c v h x (doE c h x) (doH c h x) w) := by
  have S := FS.start p x
  have hhw : hb < w.heap.size := p.lt
  have hBw : B ≤ w.heap.size := by have := p.low; omega
  obtain ⟨xb, hxb⟩ : ∃ q, q = w.heap.size := ⟨_, rfl⟩
  obtain ⟨E, hE⟩ : ∃ q, q = doE c h x := ⟨_, rfl⟩
  rw [← hE]
  replace hE := Lib.hid hE
  replace hk := Lib.hid hk
  replace hc := Lib.hid hc
  go_enter Try.func48, Try.ntmps48
  go_upto_region 1 with (fail)
  rw [← hxb] at S ⊢
  have hxw : w.heap.size ≤ xb := by omega
  replace hxb := Lib.hid hxb
  generalize w.alloc (.cells #[.int .i64 x.kind, .int .i64 x.tick, .bool x.drill, .int .i64 x.a, .int .i64 x.b, .bool x.yes, .int .i64 x.chance.least, .int .i64 x.chance.most, .int .i64 x.chance.all] 31) = w1 at S ⊢
  have cx := fun i => S.x.blk.cell i
  go_wp2_with fail
  refine (council_within_any x.tick 0 1073741824 _).mono ?_
  rintro e w2 ⟨rfl, k2⟩
  replace S := S.kpN k2
  clear k2 cx
  have cx := fun i => S.x.blk.cell i
  obtain ⟨b, hb0⟩ : ∃ q, q = bt x.tick 0 1073741824 := ⟨_, rfl⟩
  rw [← hb0]
  have hb1 : b = decide (0 ≤ x.tick ∧ x.tick ≤ 1073741824) := by rw [hb0]; simp [bt]
  replace hb1 := Lib.hid hb1
  clear hb0
  cases b
  · have h1 : ¬ (0 ≤ x.tick ∧ x.tick ≤ 1073741824) := by simpa using hb1.out.symm
    have e1 := Lib.hid (show 2 = E by rw [hE.out]; unfold doE; rw [if_pos (by omega)])
    clear h1
    go_wp2
    go_ret
    exact DoPost.err S e1.out (by rw [← e1.out]; decide)
  have h1 : 0 ≤ x.tick ∧ x.tick ≤ 1073741824 := by simpa using hb1.out.symm
  replace hE := Lib.hid (show E = if x.tick < h.tick then 11 else deedE c (h.led x.drill) (h.led (!x.drill)) x by rw [hE.out]; unfold doE; rw [if_neg (by omega)])
  have c3 : w2.cell? ⟨hb, 3, none⟩ = some (.int .i64 h.tick) := S.p.blk.cell 3
  by_cases h2 : x.tick < h.tick
  · have e1 := Lib.hid (show 11 = E by rw [hE.out, if_pos h2])
    go_wp2_with fail
    go_quiet (fail)
    go_wp2
    go_ret
    exact DoPost.err (S.kpN ((Kp.refl _ _ _).drewN _)) e1.out (by rw [← e1.out]; decide)
  replace hE := Lib.hid (hE.out.trans (if_neg h2))
  go_wp2_with fail
  go_quiet (fail)
  replace S := S.kpN ((Kp.refl _ _ _).drewN nq)
  clear cx c3
  generalize w2.drewN nq = w3 at S ⊢
  go_wp2_with fail
  replace S := S.drew
  have T := S
  clear S
  have hmt : Try.prog.underlying 122 = some (.map 3 120) := by kernel_rfl
  have hkt : Try.prog.underlying 3 = some (.int .i64) := by kernel_rfl
  rcases find_deed x.kind with ⟨n1, n2, n3, n4, hf⟩ | ⟨F, j, hf, hF⟩
  · have e1 := Lib.hid (show 4 = E by rw [hE.out]; unfold deedE; rw [if_neg n1, if_neg n2, if_neg n3, if_neg n4])
    clear n1 n2 n3 n4
    obtain ⟨S, hS⟩ : ∃ S : Nat → World → Prop, S = fun _ w' => Blk w' xb 31 #[.int .i64 x.kind, .int .i64 x.tick, .bool x.drill, .int .i64 x.a, .int .i64 x.b, .bool x.yes, .int .i64 x.chance.least, .int .i64 x.chance.most, .int .i64 x.chance.all] := ⟨_, rfl⟩
    have hS0 : ∀ w', S 0 w' ↔ (Blk w' xb 31 #[.int .i64 x.kind, .int .i64 x.tick, .bool x.drill, .int .i64 x.a, .int .i64 x.b, .bool x.yes, .int .i64 x.chance.least, .int .i64 x.chance.most, .int .i64 x.chance.all]) := fun w' => by rw [hS]
    clear hS
    have cx := fun (q : Ev (S 0)) i => ((hS0 _).1 q.h).cell i
    have hevT := ev_true
    refine wp_region_ord S [(1, 0), (2, 1), (0, 2), (3, 2), (4, 0), (5, 0), (6, 0), (7, 0), (8, 0)] [] (by kernel_rfl) (by kernel_rfl) ((hS0 _).2 T.x.blk) ?_
    intro _hev
    iterate 2 (first | (refine wpOrd_v rfl rfl ?_; intro K hK; go_big_quiet_op; go_big_quiet_on) | (refine wpOrd_q rfl rfl ?_; intro K hK; go_big_quiet_op; go_big_quiet_on) | refine wpOrd_s (by decide) rfl rfl ?_)
    refine wpOrd_l rfl rfl ?_; intro K hK
    go_step
    refine (deeds_any _).mono ?_
    rintro e w4 ⟨rfl, b4, k4⟩
    replace T := T.kpN k4
    refine hK _ _ ((hS0 _).2 T.x.blk) ?_
    clear hK K k4
    have lk := run_lookup_int_no (P := Try.prog) (w := w4) 122 _ _ w3.heap.size 4 deedMap x.kind .nilFunc hmt hkt b4 (deed_zero w4) hf
    refine wpOrd_l rfl rfl ?_; intro K hK
    go_step
    refine hK _ _ ((hS0 _).2 T.x.blk) ?_
    clear hK K lk
    iterate 5 (first | (refine wpOrd_v rfl rfl ?_; intro K hK; go_big_quiet_op; go_big_quiet_on) | (refine wpOrd_q rfl rfl ?_; intro K hK; go_big_quiet_op; go_big_quiet_on) | refine wpOrd_s (by decide) rfl rfl ?_)
    refine wpOrd_nil ?_
    clear hevT _hev
    clear hS0 S cx
    go_wp2
    go_ret
    exact DoPost.err T e1.out (by rw [← e1.out]; decide)
  have eg := deed_enters F x.kind hF
  obtain ⟨D, hD⟩ : ∃ q, q = deedL c (h.led x.drill) x := ⟨_, rfl⟩
  have dc : ∀ W v', PH B hb W V c v' h → Calls Try.prog F #[.pointer (some ⟨hb, 0, none⟩), .agg #[.int .i64 x.kind, .int .i64 x.tick, .bool x.drill, .int .i64 x.a, .int .i64 x.b, .bool x.yes, .int .i64 x.chance.least, .int .i64 x.chance.most, .int .i64 x.chance.all]] W (DeedPost B hb V c v' h x E D W) := fun W v' pW => by
    rw [hD, hE.out]
    exact deed_any F B hb n V c v' h x W pW hc.out hk.out hn h1.1 h1.2 hF
  replace dc := Lib.hid dc
  replace hD := Lib.hid hD
  replace hF := Lib.hid hF
  obtain ⟨S, hS⟩ : ∃ S : Nat → World → Prop, S = fun _ w' => Blk w' xb 31 #[.int .i64 x.kind, .int .i64 x.tick, .bool x.drill, .int .i64 x.a, .int .i64 x.b, .bool x.yes, .int .i64 x.chance.least, .int .i64 x.chance.most, .int .i64 x.chance.all] := ⟨_, rfl⟩
  have hS0 : ∀ w', S 0 w' ↔ (Blk w' xb 31 #[.int .i64 x.kind, .int .i64 x.tick, .bool x.drill, .int .i64 x.a, .int .i64 x.b, .bool x.yes, .int .i64 x.chance.least, .int .i64 x.chance.most, .int .i64 x.chance.all]) := fun w' => by rw [hS]
  clear hS
  have cx := fun (q : Ev (S 0)) i => ((hS0 _).1 q.h).cell i
  have hevT := ev_true
  refine wp_region_ord S [(1, 0), (2, 1), (0, 2), (3, 2), (4, 0), (5, 0), (6, 0), (7, 0), (8, 0)] [] (by kernel_rfl) (by kernel_rfl) ((hS0 _).2 T.x.blk) ?_
  intro _hev
  iterate 2 (first | (refine wpOrd_v rfl rfl ?_; intro K hK; go_big_quiet_op; go_big_quiet_on) | (refine wpOrd_q rfl rfl ?_; intro K hK; go_big_quiet_op; go_big_quiet_on) | refine wpOrd_s (by decide) rfl rfl ?_)
  refine wpOrd_l rfl rfl ?_; intro K hK
  go_step
  refine (deeds_any _).mono ?_
  rintro e w4 ⟨rfl, b4, k4⟩
  replace T := T.kpN k4
  refine hK _ _ ((hS0 _).2 T.x.blk) ?_
  clear hK K k4
  have lk := run_lookup_int (P := Try.prog) (w := w4) 122 _ _ w3.heap.size 4 j deedMap x.kind (.func (.func F) #[] #[]) hmt hkt b4 hf
  refine wpOrd_l rfl rfl ?_; intro K hK
  go_step
  refine hK _ _ ((hS0 _).2 T.x.blk) ?_
  clear hK K lk
  iterate 5 (first | (refine wpOrd_v rfl rfl ?_; intro K hK; go_big_quiet_op; go_big_quiet_on) | (refine wpOrd_q rfl rfl ?_; intro K hK; go_big_quiet_op; go_big_quiet_on) | refine wpOrd_s (by decide) rfl rfl ?_)
  refine wpOrd_nil ?_
  clear hevT _hev
  clear hS0 S cx hf b4
  have cx := fun i => T.x.blk.cell i
  go_upto_if 37 with (go_at_fn F; refine (dc.out _ _ T.p).mono ?_; rintro e w5 ⟨rfl, v5, p5, f5⟩)
  by_cases q0 : E = 0
  case neg =>
    rw [if_neg q0] at p5
    have T2 := T.step ⟨p5, f5⟩
    have q1 : (E != 0) = true := by simpa using q0
    clear p5 f5 T cx
    go_wp2
    go_ret
    exact DoPost.err T2 rfl q0
  rw [if_pos q0] at p5
  have T2 := T.step ⟨p5, f5⟩
  have q1 : (E != 0) = false := by simpa using q0
  clear p5 f5 T cx
  have hii := (hk.out.led x.drill).itn
  have hi0 := (hk.out.led x.drill).it0
  have hDi : D.items = (h.led x.drill).items := by rw [hD.out]; exact deedL_items _ _ _
  have cx := fun i => T2.x.blk.cell i
  replace q0 := Lib.hid q0
  rw [q1]
  clear q1
  go_wp2_with fail
  refine (books_any hb x.drill _).mono ?_
  rintro e w6 ⟨rfl, k6⟩
  replace T2 := T2.kpN k6
  clear k6 cx
  obtain ⟨o, ho⟩ : ∃ q, q = oD x.drill := ⟨_, rfl⟩
  rw [← ho]
  have st1 := T2.p.itemsStep x.drill ((h.led x.drill).items + 1)
  have ci : w6.cell? ⟨hb, o + 1, none⟩ = some (.int .i64 (h.led x.drill).items) := by
    rw [ho, ← hDi]; exact (T2.p.blk.cell _).trans ((pCells_items V c v5 _ x.drill).trans (by rw [put_led]))
  have ct : w6.cell? ⟨hb, 3, none⟩ = some (.int .i64 h.tick) := (T2.p.blk.cell 3).trans (by cases x.drill <;> rfl)
  have fh := T2.p.blk.frozen
  have st2 := st1.1.tickStep x.tick
  rw [put_put, put_led] at st1 st2
  have e9 : doH c h x = { h.put x.drill { D with items := (h.led x.drill).items + 1 } with tick := x.tick } := by
    unfold doH oneMore
    rw [← hD.out, hDi]
  rw [← e9, ← ho] at st2
  rw [← ho] at st1
  have F9 := T2.f.trans (st1.2.trans st2.2)
  have ho3 : 3 ≠ o + 1 := by rw [ho]; unfold oD; split <;> omega
  have hwr : wrap64 ((h.led x.drill).items + 1) = (h.led x.drill).items + 1 := IntWalk.wrap64_in _ (by omega)
  have fin : DoPost B hb V c v h x E (doH c h x) w (.returned (.int .i64 0)) ((w6.setCell ⟨hb, o + 1, none⟩ (.int .i64 ((h.led x.drill).items + 1))).setCell ⟨hb, 3, none⟩ (.int .i64 x.tick)) :=
    ⟨by rw [q0.out], v5, by rw [if_pos q0.out]; exact st2.1, F9⟩
  replace fin := Lib.hid fin
  replace hDi := Lib.hid hDi
  replace ho := Lib.hid ho
  replace e9 := Lib.hid e9
  have cx := fun i => T2.x.blk.cell i
  have hxh : xb ≠ hb := by omega
  clear st1 st2 F9 hii hi0
  go_wp2
  go_ret
  exact fin.out
end Go.Proofs.Ytogpgnljomchcaa
