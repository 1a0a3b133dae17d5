/- deeds and do: the program. plain: the house as it is told. Build: the program. -/
import Derived.Test.YtogpgnljomchcaaGreatJvAll
import Derived.MapKept
import Derived.Carry
import Derived.LoopTactic
namespace Go.Proofs.YtogpgnljomchcaaGreat
open Go.RowKit

/-! ### The map of the deeds -/
theorem run_insert_int {P : Program} {w : World} (mty kt et : TypeId) (r clock : Nat) (es : Array MapEntry) (a : Int) (v : Value) (hm : P.underlying mty = some (.map kt et)) (hk : P.underlying kt = some (.int .i64)) (hb : w.heap[r]? = some (.map es clock))
    (hf : Instr.findNow (.int .i64) (.int .i64 a) es.toList 0 = some none) :
    (Instr.mapUpdate mty (.map (some r)) (.int .i64 a) v).run P w = .ok () { w with heap := w.heap.setIfInBounds r (.map (es.push { key := .int .i64 a, val := v, born := clock }) (clock + 1)) } := by
  have hc : (Instr.checkKey false 10000 kt (.int .i64 a)).run P w = .ok () w := MapKept.run_checkKey (k := .int .i64 a) hk (by simp [MapKept.IsKey]) false 9999
  simp [Instr.mapUpdate, run_underlying hm, MapKept.run_getObj_map hb, hc, MapKept.run_findKey hk hf, MapKept.run_setObj_map _ hb, Result.andThen]
theorem run_lookup_int {P : Program} {w : World} (mty kt et : TypeId) (r clock i : Nat) (es : Array MapEntry) (a : Int) (v : Value) (hm : P.underlying mty = some (.map kt et)) (hk : P.underlying kt = some (.int .i64)) (hb : w.heap[r]? = some (.map es clock))
    (hf : Instr.findNow (.int .i64) (.int .i64 a) es.toList 0 = some (some (i, v))) :
    (Instr.lookup mty (.map (some r)) (.int .i64 a) true).run P w = .ok (.tuple #[v, .bool true]) w := by
  have hc : (Instr.checkKey es.isEmpty 10000 kt (.int .i64 a)).run P w = .ok () w := MapKept.run_checkKey (k := .int .i64 a) hk (by simp [MapKept.IsKey]) _ 9999
  simp [Instr.lookup, run_underlying hm, MapKept.run_getObj_map hb, hc, MapKept.run_findKey hk hf, Result.andThen]
theorem run_lookup_int_no {P : Program} {w : World} (mty kt et : TypeId) (r clock : Nat) (es : Array MapEntry) (a : Int) (z : Value) (hm : P.underlying mty = some (.map kt et)) (hk : P.underlying kt = some (.int .i64)) (hb : w.heap[r]? = some (.map es clock))
    (hz : (zeroValue et).run P w = .ok z w) (hf : Instr.findNow (.int .i64) (.int .i64 a) es.toList 0 = some none) :
    (Instr.lookup mty (.map (some r)) (.int .i64 a) true).run P w = .ok (.tuple #[z, .bool false]) w := by
  have hc : (Instr.checkKey es.isEmpty 10000 kt (.int .i64 a)).run P w = .ok () w := MapKept.run_checkKey (k := .int .i64 a) hk (by simp [MapKept.IsKey]) _ 9999
  simp [Instr.lookup, run_underlying hm, MapKept.run_getObj_map hb, hc, MapKept.run_findKey hk hf, Result.andThen, hz]
def deedMap : Array MapEntry := #[{ key := .int .i64 1, val := .func (.func 68) #[] #[], born := 0 }, { key := .int .i64 2, val := .func (.func 69) #[] #[], born := 1 },
  { key := .int .i64 3, val := .func (.func 70) #[] #[], born := 2 }, { key := .int .i64 4, val := .func (.func 71) #[] #[], born := 3 }]
theorem setMap_next {w : World} {r : Nat} {o o' : Obj} (hb : w.heap[r]? = some o) : ({ w with heap := w.heap.setIfInBounds r o' } : World).heap[r]? = some o' := (MapKept.heap_set hb).1
def mapW (w : World) (r : Nat) (o : Obj) : World := { w with heap := w.heap.setIfInBounds r o }
theorem mapW_kp {w0 w : World} {r : Nat} (k : Kp w0.heap.size none w0 w) (hr : w0.heap.size ≤ r) (o : Obj) : Kp w0.heap.size none w0 (mapW w r o) :=
  ⟨k.os, k.tape, k.output, by have := k.size; simpa [mapW] using this, fun i hi hn => by
    rw [← k.block i hi hn]
    unfold mapW
    have : r ≠ i := by omega
    simp [this]⟩
theorem deeds_any (w : World) : Calls Tryz.prog 55 #[] w fun e w' => e = .returned (.map (some w.heap.size)) ∧ w'.heap[w.heap.size]? = some (.map deedMap 4) ∧ Kp w.heap.size none w w' := by
  have hmm := @run_makeMap Tryz.prog
  have k0 := Kp.new w (.map #[] 0)
  have b0 : (w.alloc (.map #[] 0)).heap[w.heap.size]? = some (.map #[] 0) := (Array.getElem?_push_size : (w.heap.push (.map #[] 0))[w.heap.size]? = _)
  have hmt : Tryz.prog.underlying 114 = some (.map 3 112) := by kernel_rfl
  have hkt : Tryz.prog.underlying 3 = some (.int .i64) := by kernel_rfl
  have i1 := run_insert_int (P := Tryz.prog) 114 _ _ w.heap.size 0 #[] 1 (.func (.func 68) #[] #[]) hmt hkt b0 rfl
  have b1 := setMap_next (o' := .map #[{ key := .int .i64 1, val := .func (.func 68) #[] #[], born := 0 }] 1) b0
  have k1 := mapW_kp k0 (Nat.le_refl _) (.map #[{ key := .int .i64 1, val := .func (.func 68) #[] #[], born := 0 }] 1)
  obtain ⟨W1, hW1⟩ : ∃ q, q = mapW (w.alloc (.map #[] 0)) w.heap.size (.map #[{ key := .int .i64 1, val := .func (.func 68) #[] #[], born := 0 }] 1) := ⟨_, rfl⟩
  rw [← hW1] at k1
  change _ = Result.ok () (mapW (w.alloc (.map #[] 0)) w.heap.size (.map #[{ key := .int .i64 1, val := .func (.func 68) #[] #[], born := 0 }] 1)) at i1
  change (mapW (w.alloc (.map #[] 0)) w.heap.size (.map #[{ key := .int .i64 1, val := .func (.func 68) #[] #[], born := 0 }] 1)).heap[_]? = _ at b1
  rw [← hW1] at i1 b1
  clear hW1
  have i2 := run_insert_int (P := Tryz.prog) 114 _ _ w.heap.size 1 (deedMap.extract 0 1) 2 (.func (.func 69) #[] #[]) hmt hkt b1 rfl
  have k2 := mapW_kp k1 (Nat.le_refl _) (.map ((deedMap.extract 0 1).push { key := .int .i64 2, val := .func (.func 69) #[] #[], born := 1 }) (1 + 1))
  have b2 := setMap_next (o' := .map ((deedMap.extract 0 1).push { key := .int .i64 2, val := .func (.func 69) #[] #[], born := 1 }) (1 + 1)) b1
  obtain ⟨W2, hW2⟩ : ∃ q, q = mapW W1 w.heap.size (.map ((deedMap.extract 0 1).push { key := .int .i64 2, val := .func (.func 69) #[] #[], born := 1 }) (1 + 1)) := ⟨_, rfl⟩
  rw [← hW2] at k2
  change _ = Result.ok () (mapW W1 w.heap.size (.map ((deedMap.extract 0 1).push { key := .int .i64 2, val := .func (.func 69) #[] #[], born := 1 }) (1 + 1))) at i2
  change (mapW W1 w.heap.size (.map ((deedMap.extract 0 1).push { key := .int .i64 2, val := .func (.func 69) #[] #[], born := 1 }) (1 + 1))).heap[_]? = _ at b2
  rw [← hW2] at i2 b2
  clear hW2
  have i3 := run_insert_int (P := Tryz.prog) 114 _ _ w.heap.size 2 (deedMap.extract 0 2) 3 (.func (.func 70) #[] #[]) hmt hkt b2 rfl
  have k3 := mapW_kp k2 (Nat.le_refl _) (.map ((deedMap.extract 0 2).push { key := .int .i64 3, val := .func (.func 70) #[] #[], born := 2 }) (2 + 1))
  have b3 := setMap_next (o' := .map ((deedMap.extract 0 2).push { key := .int .i64 3, val := .func (.func 70) #[] #[], born := 2 }) (2 + 1)) b2
  obtain ⟨W3, hW3⟩ : ∃ q, q = mapW W2 w.heap.size (.map ((deedMap.extract 0 2).push { key := .int .i64 3, val := .func (.func 70) #[] #[], born := 2 }) (2 + 1)) := ⟨_, rfl⟩
  rw [← hW3] at k3
  change _ = Result.ok () (mapW W2 w.heap.size (.map ((deedMap.extract 0 2).push { key := .int .i64 3, val := .func (.func 70) #[] #[], born := 2 }) (2 + 1))) at i3
  change (mapW W2 w.heap.size (.map ((deedMap.extract 0 2).push { key := .int .i64 3, val := .func (.func 70) #[] #[], born := 2 }) (2 + 1))).heap[_]? = _ at b3
  rw [← hW3] at i3 b3
  clear hW3
  have i4 := run_insert_int (P := Tryz.prog) 114 _ _ w.heap.size 3 (deedMap.extract 0 3) 4 (.func (.func 71) #[] #[]) hmt hkt b3 rfl
  have k4 := mapW_kp k3 (Nat.le_refl _) (.map ((deedMap.extract 0 3).push { key := .int .i64 4, val := .func (.func 71) #[] #[], born := 3 }) (3 + 1))
  have b4 := setMap_next (o' := .map ((deedMap.extract 0 3).push { key := .int .i64 4, val := .func (.func 71) #[] #[], born := 3 }) (3 + 1)) b3
  obtain ⟨W4, hW4⟩ : ∃ q, q = mapW W3 w.heap.size (.map ((deedMap.extract 0 3).push { key := .int .i64 4, val := .func (.func 71) #[] #[], born := 3 }) (3 + 1)) := ⟨_, rfl⟩
  rw [← hW4] at k4
  change _ = Result.ok () (mapW W3 w.heap.size (.map ((deedMap.extract 0 3).push { key := .int .i64 4, val := .func (.func 71) #[] #[], born := 3 }) (3 + 1))) at i4
  change (mapW W3 w.heap.size (.map ((deedMap.extract 0 3).push { key := .int .i64 4, val := .func (.func 71) #[] #[], born := 3 }) (3 + 1))).heap[_]? = _ at b4
  rw [← hW4] at i4 b4
  clear hW4
  clear b0 b1 b2 b3 k0 k1 k2 k3 hmt hkt
  go_enter Tryz.func55, Tryz.ntmps55
  go_wp2
  go_ret
  exact ⟨rfl, b4, k4⟩
/-! ### A deed by its kind -/
theorem find_deed (a : Int) : (a ≠ 1 ∧ a ≠ 2 ∧ a ≠ 3 ∧ a ≠ 4 ∧ Instr.findNow (.int .i64) (.int .i64 a) deedMap.toList 0 = some none) ∨ ∃ F i, Instr.findNow (.int .i64) (.int .i64 a) deedMap.toList 0 = some (some (i, .func (.func F) #[] #[])) ∧
    ((a = 1 ∧ F = 68) ∨ (a = 2 ∧ F = 69) ∨ (a = 3 ∧ F = 70) ∨ (a = 4 ∧ F = 71)) := by
  by_cases h1 : a = 1
  · subst h1; exact .inr ⟨_, 0, rfl, .inl ⟨rfl, rfl⟩⟩
  by_cases h2 : a = 2
  · subst h2; exact .inr ⟨_, 1, rfl, .inr (.inl ⟨rfl, rfl⟩)⟩
  by_cases h3 : a = 3
  · subst h3; exact .inr ⟨_, 2, rfl, .inr (.inr (.inl ⟨rfl, rfl⟩))⟩
  by_cases h4 : a = 4
  · subst h4; exact .inr ⟨_, 3, rfl, .inr (.inr (.inr ⟨rfl, rfl⟩))⟩
  refine .inl ⟨h1, h2, h3, h4, ?_⟩
  have e1 : (a == 1) = false := by simpa using h1
  have e2 : (a == 2) = false := by simpa using h2
  have e3 : (a == 3) = false := by simpa using h3
  have e4 : (a == 4) = false := by simpa using h4
  simp [deedMap, Instr.findNow, Instr.sameNow, e1, e2, e3, e4]
theorem deed_any (F : Nat) (B hb n : Nat) (V : CV) (c : Council) (v : Ky → Value) (h : House) (x : CItem) (w : World) (p : PH B hb w V c v h) (hc : CouncilOk c) (hk : HouseOk c n h) (hn : n ≤ 2000) (ht0 : 0 ≤ x.tick) (ht1 : x.tick ≤ 1073741824)
    (hF : (x.kind = 1 ∧ F = 68) ∨ (x.kind = 2 ∧ F = 69) ∨ (x.kind = 3 ∧ F = 70) ∨ (x.kind = 4 ∧ F = 71)) :
    Calls Tryz.prog F #[.pointer (some ⟨hb, 0, none⟩), .agg #[.int .i64 x.kind, .int .i64 x.tick, .bool x.drill, .int .i64 x.a, .int .i64 x.b, .bool x.yes, .int .i64 x.chance.least, .int .i64 x.chance.most, .int .i64 x.chance.all]] w (DeedPost B hb V c v h x (deedE c (h.led x.drill) (h.led (!x.drill)) x) (deedL c (h.led x.drill) x) w) := by
  rcases hF with ⟨e, rfl⟩ | ⟨e, rfl⟩ | ⟨e, rfl⟩ | ⟨e, rfl⟩
  · have eE : deedE c (h.led x.drill) (h.led (!x.drill)) x = factE x := by unfold deedE; rw [if_pos e]
    have eL : deedL c (h.led x.drill) x = factL c (h.led x.drill) x := by unfold deedL; rw [if_pos e]
    rw [eE, eL]
    exact fact_any B hb n V c v h x w p hc hk (by omega)
  · have eE : deedE c (h.led x.drill) (h.led (!x.drill)) x = moveE c (h.led x.drill) x := by unfold deedE; rw [if_neg (by omega), if_pos e]
    have eL : deedL c (h.led x.drill) x = moveL (h.led x.drill) x := by unfold deedL; rw [if_neg (by omega), if_pos e]
    rw [eE, eL]
    exact motion_any B hb n V c v h x w p hk (by omega)
  · have eE : deedE c (h.led x.drill) (h.led (!x.drill)) x = voteE c (h.led x.drill) (h.led (!x.drill)) x := by unfold deedE; rw [if_neg (by omega), if_neg (by omega), if_pos e]
    have eL : deedL c (h.led x.drill) x = voteL c (h.led x.drill) x := by unfold deedL; rw [if_neg (by omega), if_neg (by omega), if_pos e]
    rw [eE, eL]
    exact vote_any B hb n V c v h x w p hc hk (by omega) ht0 ht1
  · have eE : deedE c (h.led x.drill) (h.led (!x.drill)) x = closeE c (h.led x.drill) (h.led (!x.drill)) x := by unfold deedE; rw [if_neg (by omega), if_neg (by omega), if_neg (by omega), if_pos e]
    have eL : deedL c (h.led x.drill) x = closeL c (h.led x.drill) x := by unfold deedL; rw [if_neg (by omega), if_neg (by omega), if_neg (by omega)]
    rw [eE, eL]
    exact close_any B hb n V c v h x w p hc hk hn ht0 ht1
theorem deed_enters (F : Nat) (a : Int) (hF : (a = 1 ∧ F = 68) ∨ (a = 2 ∧ F = 69) ∨ (a = 3 ∧ F = 70) ∨ (a = 4 ∧ F = 71)) :
    ∀ args w, (callFunc F args).run Tryz.prog w = .ok (.enter F args) w := by
  rcases hF with ⟨-, rfl⟩ | ⟨-, rfl⟩ | ⟨-, rfl⟩ | ⟨-, rfl⟩
  · exact enters_of Tryz.func68 (by kernel_rfl) rfl
  · exact enters_of Tryz.func69 (by kernel_rfl) rfl
  · exact enters_of Tryz.func70 (by kernel_rfl) rfl
  · exact enters_of Tryz.func71 (by kernel_rfl) rfl
/-! ### The counter of items and the clock -/
section
variable {B hb : Nat} {w : World} {v : Ky → Value} {V : CV} {c : Council} {h : House}
theorem PH.itemsStep (p : PH B hb w V c v h) (d : Bool) (n : Int) : PH B hb (w.setCell ⟨hb, oD d + 1, none⟩ (.int .i64 n)) V c v (h.put d { h.led d with items := n }) ∧ Fr hb v v w (w.setCell ⟨hb, oD d + 1, none⟩ (.int .i64 n)) := by
  have F := (Fr.refl hb v w).setH (oD d + 1) (.int .i64 n)
  refine ⟨⟨?_, p.low, ?_, p.c.kp (p.kp F)⟩, F⟩
  · refine (p.rows.kp (setH_kp w hb _ _)).eq fun k => ?_
    cases d <;> rcases k with ⟨(_ | _)⟩ | ⟨(_ | _)⟩ | ⟨(_ | _)⟩ | ⟨(_ | _), _⟩ <;> rfl
  · have : pCells V c v (h.put d { h.led d with items := n }) = (pCells V c v h).setIfInBounds (oD d + 1) (.int .i64 n) := by
      cases d <;> simp [pCells, House.put, House.led, oD]
    rw [this]
    exact p.blk.set_ _ _
theorem PH.tickStep (p : PH B hb w V c v h) (n : Int) : PH B hb (w.setCell ⟨hb, 3, none⟩ (.int .i64 n)) V c v { h with tick := n } ∧ Fr hb v v w (w.setCell ⟨hb, 3, none⟩ (.int .i64 n)) := by
  have F := (Fr.refl hb v w).setH 3 (.int .i64 n)
  refine ⟨⟨?_, p.low, ?_, p.c.kp (p.kp F)⟩, F⟩
  · refine (p.rows.kp (setH_kp w hb _ _)).eq fun k => ?_
    rcases k with ⟨(_ | _)⟩ | ⟨(_ | _)⟩ | ⟨(_ | _)⟩ | ⟨(_ | _), _⟩ <;> rfl
  · have : pCells V c v { h with tick := n } = (pCells V c v h).setIfInBounds 3 (.int .i64 n) := by
      simp [pCells]
    rw [this]
    exact p.blk.set_ _ _
end
theorem info_deed : (Tryz.prog.info? 112).map (fun i => (i.zero, i.size, i.bytes)) = some (some .nilFunc, 1, 8) := by kernel_rfl
theorem deed_zero (w : World) : (zeroValue 112).run Tryz.prog w = .ok .nilFunc w := by
  obtain ⟨i, hi, hz, -, -⟩ := info_parts info_deed
  simp [zeroValue, typeInfo, hi, hz]
def DoPost (B hb : Nat) (V : CV) (c : Council) (v : Ky → Value) (h : House) (x : CItem) (E : Int) (H : House) (w : World) (e : Ending) (w' : World) : Prop :=
  e = .returned (.int .i64 E) ∧ ∃ v', PH B hb w' V c v' (if E = 0 then H else h) ∧ Fr hb v v' w w'
theorem DoPost.err {B hb xb : Nat} {V : CV} {c : Council} {v v' : Ky → Value} {h H : House} {x : CItem} {E : Int} {w w' : World} {n : Int} (s : FS B hb xb V c v v' h x w w') (e0 : n = E) (e1 : E ≠ 0) : DoPost B hb V c v h x E H w (.returned (.int .i64 n)) w' :=
  ⟨by rw [e0], v', by rw [if_neg e1]; exact s.p, s.f⟩
set_option maxRecDepth 20000 in
set_option maxHeartbeats 4000000 in
theorem do_any (B hb n : Nat) (V : CV) (c : Council) (v : Ky → Value) (h : House) (x : CItem) (w : World) (p : PH B hb w V c v h) (hc : CouncilOk c) (hk : HouseOk c n h) (hn : n ≤ 2000) :
    Calls Tryz.prog 33 #[.pointer (some ⟨hb, 0, none⟩), .agg #[.int .i64 x.kind, .int .i64 x.tick, .bool x.drill, .int .i64 x.a, .int .i64 x.b, .bool x.yes, .int .i64 x.chance.least, .int .i64 x.chance.most, .int .i64 x.chance.all]] w (DoPost B hb V c v h x (doE c h x) (doH c h x) w) := by
  have S := FS.start p x
  have hhw : hb < w.heap.size := p.lt
  have hBw : B ≤ w.heap.size := by have := p.low; omega
  obtain ⟨xb, hxb⟩ : ∃ q, q = w.heap.size := ⟨_, rfl⟩
  obtain ⟨E, hE⟩ : ∃ q, q = doE c h x := ⟨_, rfl⟩
  rw [← hE]
  replace hE := Lib.hid hE
  replace hk := Lib.hid hk
  replace hc := Lib.hid hc
  go_enter Tryz.func33, Tryz.ntmps33
  go_upto_region 1 with (fail)
  rw [← hxb] at S ⊢
  have hxw : w.heap.size ≤ xb := by omega
  replace hxb := Lib.hid hxb
  generalize w.alloc (.cells #[.int .i64 x.kind, .int .i64 x.tick, .bool x.drill, .int .i64 x.a, .int .i64 x.b, .bool x.yes, .int .i64 x.chance.least, .int .i64 x.chance.most, .int .i64 x.chance.all] 36) = w1 at S ⊢
  have cx := fun i => S.x.blk.cell i
  go_wp2_with fail
  refine (council_within_any x.tick 0 1073741824 _).mono ?_
  rintro e w2 ⟨rfl, k2⟩
  replace S := S.kpN k2
  clear k2 cx
  have cx := fun i => S.x.blk.cell i
  obtain ⟨b, hb0⟩ : ∃ q, q = bt x.tick 0 1073741824 := ⟨_, rfl⟩
  rw [← hb0]
  have hb1 : b = decide (0 ≤ x.tick ∧ x.tick ≤ 1073741824) := by rw [hb0]; simp [bt]
  replace hb1 := Lib.hid hb1
  clear hb0
  cases b
  · have h1 : ¬ (0 ≤ x.tick ∧ x.tick ≤ 1073741824) := by simpa using hb1.out.symm
    have e1 := Lib.hid (show 2 = E by rw [hE.out]; unfold doE; rw [if_pos (by omega)])
    clear h1
    go_wp2
    go_ret
    exact DoPost.err S e1.out (by rw [← e1.out]; decide)
  have h1 : 0 ≤ x.tick ∧ x.tick ≤ 1073741824 := by simpa using hb1.out.symm
  replace hE := Lib.hid (show E = if x.tick < h.tick then 11 else deedE c (h.led x.drill) (h.led (!x.drill)) x by rw [hE.out]; unfold doE; rw [if_neg (by omega)])
  have c3 : w2.cell? ⟨hb, 3, none⟩ = some (.int .i64 h.tick) := S.p.blk.cell 3
  by_cases h2 : x.tick < h.tick
  · have e1 := Lib.hid (show 11 = E by rw [hE.out, if_pos h2])
    go_wp2_with fail
    go_quiet (fail)
    go_wp2
    go_ret
    exact DoPost.err (S.kpN ((Kp.refl _ _ _).drewN _)) e1.out (by rw [← e1.out]; decide)
  replace hE := Lib.hid (hE.out.trans (if_neg h2))
  go_wp2_with fail
  go_quiet (fail)
  replace S := S.kpN ((Kp.refl _ _ _).drewN nq)
  clear cx c3
  generalize w2.drewN nq = w3 at S ⊢
  go_wp2_with fail
  replace S := S.drew
  have T := S
  clear S
  have hmt : Tryz.prog.underlying 114 = some (.map 3 112) := by kernel_rfl
  have hkt : Tryz.prog.underlying 3 = some (.int .i64) := by kernel_rfl
  rcases find_deed x.kind with ⟨n1, n2, n3, n4, hf⟩ | ⟨F, j, hf, hF⟩
  · have e1 := Lib.hid (show 4 = E by rw [hE.out]; unfold deedE; rw [if_neg n1, if_neg n2, if_neg n3, if_neg n4])
    clear n1 n2 n3 n4
    obtain ⟨S, hS⟩ : ∃ S : Nat → World → Prop, S = fun _ w' => Blk w' xb 36 #[.int .i64 x.kind, .int .i64 x.tick, .bool x.drill, .int .i64 x.a, .int .i64 x.b, .bool x.yes, .int .i64 x.chance.least, .int .i64 x.chance.most, .int .i64 x.chance.all] := ⟨_, rfl⟩
    have hS0 : ∀ w', S 0 w' ↔ (Blk w' xb 36 #[.int .i64 x.kind, .int .i64 x.tick, .bool x.drill, .int .i64 x.a, .int .i64 x.b, .bool x.yes, .int .i64 x.chance.least, .int .i64 x.chance.most, .int .i64 x.chance.all]) := fun w' => by rw [hS]
    clear hS
    have cx := fun (q : Ev (S 0)) i => ((hS0 _).1 q.h).cell i
    have hevT := ev_true
    refine wp_region_ord S [(1, 0), (2, 1), (0, 2), (3, 2), (4, 0), (5, 0), (6, 0), (7, 0), (8, 0)] [] (by kernel_rfl) (by kernel_rfl) ((hS0 _).2 T.x.blk) ?_
    intro _hev
    iterate 2 (first | (refine wpOrd_v rfl rfl ?_; intro K hK; go_big_quiet_op; go_big_quiet_on) | (refine wpOrd_q rfl rfl ?_; intro K hK; go_big_quiet_op; go_big_quiet_on) | refine wpOrd_s (by decide) rfl rfl ?_)
    refine wpOrd_l rfl rfl ?_; intro K hK
    go_step
    refine (deeds_any _).mono ?_
    rintro e w4 ⟨rfl, b4, k4⟩
    replace T := T.kpN k4
    refine hK _ _ ((hS0 _).2 T.x.blk) ?_
    clear hK K k4
    have lk := run_lookup_int_no (P := Tryz.prog) (w := w4) 114 _ _ w3.heap.size 4 deedMap x.kind .nilFunc hmt hkt b4 (deed_zero w4) hf
    refine wpOrd_l rfl rfl ?_; intro K hK
    go_step
    refine hK _ _ ((hS0 _).2 T.x.blk) ?_
    clear hK K lk
    iterate 5 (first | (refine wpOrd_v rfl rfl ?_; intro K hK; go_big_quiet_op; go_big_quiet_on) | (refine wpOrd_q rfl rfl ?_; intro K hK; go_big_quiet_op; go_big_quiet_on) | refine wpOrd_s (by decide) rfl rfl ?_)
    refine wpOrd_nil ?_
    clear hevT _hev
    clear hS0 S cx
    go_wp2
    go_ret
    exact DoPost.err T e1.out (by rw [← e1.out]; decide)
  have eg := deed_enters F x.kind hF
  obtain ⟨D, hD⟩ : ∃ q, q = deedL c (h.led x.drill) x := ⟨_, rfl⟩
  have dc : ∀ W v', PH B hb W V c v' h → Calls Tryz.prog F #[.pointer (some ⟨hb, 0, none⟩), .agg #[.int .i64 x.kind, .int .i64 x.tick, .bool x.drill, .int .i64 x.a, .int .i64 x.b, .bool x.yes, .int .i64 x.chance.least, .int .i64 x.chance.most, .int .i64 x.chance.all]] W (DeedPost B hb V c v' h x E D W) := fun W v' pW => by
    rw [hD, hE.out]
    exact deed_any F B hb n V c v' h x W pW hc.out hk.out hn h1.1 h1.2 hF
  replace dc := Lib.hid dc
  replace hD := Lib.hid hD
  replace hF := Lib.hid hF
  obtain ⟨S, hS⟩ : ∃ S : Nat → World → Prop, S = fun _ w' => Blk w' xb 36 #[.int .i64 x.kind, .int .i64 x.tick, .bool x.drill, .int .i64 x.a, .int .i64 x.b, .bool x.yes, .int .i64 x.chance.least, .int .i64 x.chance.most, .int .i64 x.chance.all] := ⟨_, rfl⟩
  have hS0 : ∀ w', S 0 w' ↔ (Blk w' xb 36 #[.int .i64 x.kind, .int .i64 x.tick, .bool x.drill, .int .i64 x.a, .int .i64 x.b, .bool x.yes, .int .i64 x.chance.least, .int .i64 x.chance.most, .int .i64 x.chance.all]) := fun w' => by rw [hS]
  clear hS
  have cx := fun (q : Ev (S 0)) i => ((hS0 _).1 q.h).cell i
  have hevT := ev_true
  refine wp_region_ord S [(1, 0), (2, 1), (0, 2), (3, 2), (4, 0), (5, 0), (6, 0), (7, 0), (8, 0)] [] (by kernel_rfl) (by kernel_rfl) ((hS0 _).2 T.x.blk) ?_
  intro _hev
  iterate 2 (first | (refine wpOrd_v rfl rfl ?_; intro K hK; go_big_quiet_op; go_big_quiet_on) | (refine wpOrd_q rfl rfl ?_; intro K hK; go_big_quiet_op; go_big_quiet_on) | refine wpOrd_s (by decide) rfl rfl ?_)
  refine wpOrd_l rfl rfl ?_; intro K hK
  go_step
  refine (deeds_any _).mono ?_
  rintro e w4 ⟨rfl, b4, k4⟩
  replace T := T.kpN k4
  refine hK _ _ ((hS0 _).2 T.x.blk) ?_
  clear hK K k4
  have lk := run_lookup_int (P := Tryz.prog) (w := w4) 114 _ _ w3.heap.size 4 j deedMap x.kind (.func (.func F) #[] #[]) hmt hkt b4 hf
  refine wpOrd_l rfl rfl ?_; intro K hK
  go_step
  refine hK _ _ ((hS0 _).2 T.x.blk) ?_
  clear hK K lk
  iterate 5 (first | (refine wpOrd_v rfl rfl ?_; intro K hK; go_big_quiet_op; go_big_quiet_on) | (refine wpOrd_q rfl rfl ?_; intro K hK; go_big_quiet_op; go_big_quiet_on) | refine wpOrd_s (by decide) rfl rfl ?_)
  refine wpOrd_nil ?_
  clear hevT _hev
  clear hS0 S cx hf b4
  have cx := fun i => T.x.blk.cell i
  go_upto_if 37 with (go_at_fn F; refine (dc.out _ _ T.p).mono ?_; rintro e w5 ⟨rfl, v5, p5, f5⟩)
  by_cases q0 : E = 0
  case neg =>
    rw [if_neg q0] at p5
    have T2 := T.step ⟨p5, f5⟩
    have q1 : (E != 0) = true := by simpa using q0
    clear p5 f5 T cx
    go_wp2
    go_ret
    exact DoPost.err T2 rfl q0
  rw [if_pos q0] at p5
  have T2 := T.step ⟨p5, f5⟩
  have q1 : (E != 0) = false := by simpa using q0
  clear p5 f5 T cx
  have hii := (hk.out.led x.drill).itn
  have hi0 := (hk.out.led x.drill).it0
  have hDi : D.items = (h.led x.drill).items := by rw [hD.out]; exact deedL_items _ _ _
  have cx := fun i => T2.x.blk.cell i
  replace q0 := Lib.hid q0
  rw [q1]
  clear q1
  go_wp2_with fail
  refine (books_any hb x.drill _).mono ?_
  rintro e w6 ⟨rfl, k6⟩
  replace T2 := T2.kpN k6
  clear k6 cx
  obtain ⟨o, ho⟩ : ∃ q, q = oD x.drill := ⟨_, rfl⟩
  rw [← ho]
  have st1 := T2.p.itemsStep x.drill ((h.led x.drill).items + 1)
  have ci : w6.cell? ⟨hb, o + 1, none⟩ = some (.int .i64 (h.led x.drill).items) := by
    rw [ho, ← hDi]; exact (T2.p.blk.cell _).trans ((pCells_items V c v5 _ x.drill).trans (by rw [put_led]))
  have ct : w6.cell? ⟨hb, 3, none⟩ = some (.int .i64 h.tick) := (T2.p.blk.cell 3).trans (by cases x.drill <;> rfl)
  have fh := T2.p.blk.frozen
  have st2 := st1.1.tickStep x.tick
  rw [put_put, put_led] at st1 st2
  have e9 : doH c h x = { h.put x.drill { D with items := (h.led x.drill).items + 1 } with tick := x.tick } := by
    unfold doH oneMore
    rw [← hD.out, hDi]
  rw [← e9, ← ho] at st2
  rw [← ho] at st1
  have F9 := T2.f.trans (st1.2.trans st2.2)
  have ho3 : 3 ≠ o + 1 := by rw [ho]; unfold oD; split <;> omega
  have hwr : wrap64 ((h.led x.drill).items + 1) = (h.led x.drill).items + 1 := IntWalk.wrap64_in _ (by omega)
  have fin : DoPost B hb V c v h x E (doH c h x) w (.returned (.int .i64 0)) ((w6.setCell ⟨hb, o + 1, none⟩ (.int .i64 ((h.led x.drill).items + 1))).setCell ⟨hb, 3, none⟩ (.int .i64 x.tick)) :=
    ⟨by rw [q0.out], v5, by rw [if_pos q0.out]; exact st2.1, F9⟩
  replace fin := Lib.hid fin
  replace hDi := Lib.hid hDi
  replace ho := Lib.hid ho
  replace e9 := Lib.hid e9
  have cx := fun i => T2.x.blk.cell i
  have hxh : xb ≠ hb := by omega
  clear st1 st2 F9 hii hi0
  go_wp2
  go_ret
  exact fin.out
end Go.Proofs.YtogpgnljomchcaaGreat
namespace Go.Proofs.YtogpgnljomchcaaGreat
open Go.RowKit

def lCells (v : Ky → Value) (d : Bool) (l : Ledger) : Array Value := #[.int .i64 l.items, v (.facts d), v (.motions d), v (.sent d)]
set_option maxHeartbeats 1000000 in
theorem lplain_any (hb o : Nat) (it : Int) (f m s : Value) (w : World) (c0 : w.cell? ⟨hb, o, none⟩ = some s) (c1 : w.cell? ⟨hb, o + 1, none⟩ = some (.int .i64 it)) (c2 : w.cell? ⟨hb, o + 2, none⟩ = some f) (c3 : w.cell? ⟨hb, o + 3, none⟩ = some m)
    (hf : ∃ A l c, f = .slice A l c) (hm : ∃ A l c, m = .slice A l c) (hs : ∃ A l c, s = .slice A l c) :
    Calls Tryz.prog 57 #[.pointer (some ⟨hb, o, none⟩)] w fun e w' => e = .returned (.agg #[.int .i64 it, f, m, s]) ∧ Kp w.heap.size none w w' := by
  obtain ⟨A1, l1, q1, rfl⟩ := hf
  obtain ⟨A2, l2, q2, rfl⟩ := hm
  obtain ⟨A3, l3, q3, rfl⟩ := hs
  have hhb : hb < w.heap.size := World.block_lt_of_cell? w ⟨hb, o, none⟩ c0
  have K0 := Kp.new w (.cells #[.int .i64 0, .slice none 0 0, .slice none 0 0, .slice none 0 0] 41)
  have R0 := Blk.new w 41 #[.int .i64 0, .slice none 0 0, .slice none 0 0, .slice none 0 0]
  have hrb : w.heap.size ≠ hb := by omega
  go_enter Tryz.func57, Tryz.ntmps57
  go_wp2_with fail
  replace c0 := K0.cellN c0
  replace c1 := K0.cellN c1
  replace c2 := K0.cellN c2
  replace c3 := K0.cellN c3
  obtain ⟨rb, hrb2⟩ : ∃ q, q = w.heap.size := ⟨_, rfl⟩
  rw [← hrb2] at R0 hrb ⊢
  generalize w.alloc (.cells #[.int .i64 0, .slice none 0 0, .slice none 0 0, .slice none 0 0] 41) = w1 at K0 R0 c0 c1 c2 c3 ⊢
  have cr := fun i => R0.cell i
  have fr := fun i => R0.frozen i
  obtain ⟨w9, hw9⟩ : ∃ q, q = ((((w1.setCell ⟨rb, 0, none⟩ (.int .i64 it)).setCell ⟨rb, 1, none⟩ (.slice A1 l1 q1)).setCell ⟨rb, 2, none⟩ (.slice A2 l2 q2)).setCell ⟨rb, 3, none⟩ (.slice A3 l3 q3)).drew := ⟨_, rfl⟩
  have K9 : Kp w.heap.size none w w9 := by
    rw [hw9]
    exact ((((K0.setNew (p := ⟨rb, 0, none⟩) (by simp; omega) (.int .i64 it)).setNew (p := ⟨rb, 1, none⟩) (by simp; omega) (.slice A1 l1 q1)).setNew (p := ⟨rb, 2, none⟩) (by simp; omega) (.slice A2 l2 q2)).setNew (p := ⟨rb, 3, none⟩) (by simp; omega) (.slice A3 l3 q3)).drew
  have R9 : Blk w9 rb 41 #[.int .i64 it, .slice A1 l1 q1, .slice A2 l2 q2, .slice A3 l3 q3] := by
    rw [hw9]
    have := ((((R0.set_ 0 (.int .i64 it)).set_ 1 (.slice A1 l1 q1)).set_ 2 (.slice A2 l2 q2)).set_ 3 (.slice A3 l3 q3)).kpN (Kp.refl _ _ _).drew
    simpa using this
  replace hw9 := Lib.hid hw9
  replace hrb2 := Lib.hid hrb2
  obtain ⟨S, hS⟩ : ∃ S : Nat → World → Prop, S = fun n w' => if n = 0 then w'.cell? ⟨hb, o, none⟩ = some (.slice A3 l3 q3) ∧ w'.cell? ⟨hb, o + 1, none⟩ = some (.int .i64 it) ∧ w'.cell? ⟨hb, o + 2, none⟩ = some (.slice A1 l1 q1) ∧ w'.cell? ⟨hb, o + 3, none⟩ = some (.slice A2 l2 q2) else True := ⟨_, rfl⟩
  have hS0 : ∀ w', S 0 w' ↔ (w'.cell? ⟨hb, o, none⟩ = some (.slice A3 l3 q3) ∧ w'.cell? ⟨hb, o + 1, none⟩ = some (.int .i64 it) ∧ w'.cell? ⟨hb, o + 2, none⟩ = some (.slice A1 l1 q1) ∧ w'.cell? ⟨hb, o + 3, none⟩ = some (.slice A2 l2 q2)) := fun w' => by rw [hS]; exact Iff.rfl
  have hS1 : ∀ w', S 1 w' ↔ (True) := fun w' => by rw [hS]; exact Iff.rfl
  clear hS
  have k0 := fun (q : Ev (S 0)) => ((hS0 _).1 q.h).1
  have k1 := fun (q : Ev (S 0)) => ((hS0 _).1 q.h).2.1
  have k2 := fun (q : Ev (S 0)) => ((hS0 _).1 q.h).2.2.1
  have k3 := fun (q : Ev (S 0)) => ((hS0 _).1 q.h).2.2.2
  have hevT := ev_true
  refine wp_region_ord S [(0, 0), (1, 0), (2, 0), (3, 1), (4, 0), (5, 0), (6, 0), (7, 1), (8, 0), (9, 0), (10, 0), (11, 1), (12, 0), (13, 0), (14, 0), (15, 0), (16, 1), (17, 0), (18, 3)] [18] (by kernel_rfl) (by kernel_rfl) ((hS0 _).2 ⟨c0, c1, c2, c3⟩) ?_
  intro _hev
  iterate 18 (first | (refine wpOrd_v rfl rfl ?_; intro K hK; go_big_quiet_op; go_big_quiet_on) | (refine wpOrd_q rfl rfl ?_; intro K hK; go_big_quiet_op; go_big_quiet_on) | refine wpOrd_s (by decide) rfl rfl ?_)
  refine wpOrd_a rfl rfl ?_; intro K hK
  go_step
  refine hK _ _ ((hS1 _).2 trivial) ?_
  clear hK K
  change wpOrd _ _ _ _ _ 1 _ _
  refine wpOrd_nil ?_
  clear hevT _hev
  rw [← hw9.out]
  clear hS0 hS1 S k0 k1 k2 k3 cr fr
  have c9 := fun i => R9.cell i
  go_wp2
  exact bodyPost_ret (v := .agg #[.int .i64 it, .slice A1 l1 q1, .slice A2 l2 q2, .slice A3 l3 q3]) (by simp [results, Tryz.results57, go_sem, c9]) rfl ⟨rfl, K9⟩
def setR0 (w : World) (g : Nat) (c0 c1 c2 c3 c4 c5 c6 c7 c8 : Value) : World := ((((((((w.setCell ⟨g, 0, none⟩ c0).setCell ⟨g, 1, none⟩ c1).setCell ⟨g, 2, none⟩ c2).setCell ⟨g, 3, none⟩ c3).setCell ⟨g, 4, none⟩ c4).setCell ⟨g, 5, none⟩ c5).setCell ⟨g, 6, none⟩ c6).setCell ⟨g, 7, none⟩ c7).setCell ⟨g, 8, none⟩ c8
theorem setR0_grown (w : World) (g : Nat) (c0 c1 c2 c3 c4 c5 c6 c7 c8 : Value) : w.grownBy (setR0 w g c0 c1 c2 c3 c4 c5 c6 c7 c8) (some g) :=
  grown_trans (grown_trans (grown_trans (grown_trans (grown_trans (grown_trans (grown_trans (grown_trans (grown_set _ _ _ _) (grown_set _ _ _ _)) (grown_set _ _ _ _)) (grown_set _ _ _ _)) (grown_set _ _ _ _)) (grown_set _ _ _ _)) (grown_set _ _ _ _)) (grown_set _ _ _ _)) (grown_set _ _ _ _)
theorem Blk.setR0 {w : World} {g : Nat} {t : TypeId} {x0 x1 x2 x3 x4 x5 x6 x7 x8 : Value} (h : Blk w g t #[x0, x1, x2, x3, x4, x5, x6, x7, x8]) (c0 c1 c2 c3 c4 c5 c6 c7 c8 : Value) : Blk (setR0 w g c0 c1 c2 c3 c4 c5 c6 c7 c8) g t #[c0, c1, c2, c3, c4, c5, c6, c7, c8] := by
  have := ((((((((h.set_ 0 c0).set_ 1 c1).set_ 2 c2).set_ 3 c3).set_ 4 c4).set_ 5 c5).set_ 6 c6).set_ 7 c7).set_ 8 c8
  unfold Go.Proofs.YtogpgnljomchcaaGreat.setR0
  simpa using this
theorem setR0_kp {w0 w : World} {g : Nat} (k : Kp w0.heap.size none w0 w) (hg : w0.heap.size ≤ g) (c0 c1 c2 c3 c4 c5 c6 c7 c8 : Value) : Kp w0.heap.size none w0 (setR0 w g c0 c1 c2 c3 c4 c5 c6 c7 c8) :=
  have h := setR0_grown w g c0 c1 c2 c3 c4 c5 c6 c7 c8
  ⟨h.os.trans k.os, h.tape.trans k.tape, h.output.trans k.output, Nat.le_trans k.size h.size, fun i hi hn => (h.block i (Nat.lt_of_lt_of_le hi k.size) (fun e => by injection e with e; omega)).trans (k.block i hi hn)⟩
theorem slice_of {B hb : Nat} {w : World} {v : Ky → Value} {h : House} (hr : RowsAt B hb w (rowOf h v)) : ∀ k, ∃ A l c, v k = .slice A l c := fun k => by
  have := hr.own k
  rcases this.2 with ⟨e, -⟩ | ⟨g, cap, cur, e, -⟩
  · exact ⟨none, 0, 0, by rw [← rowOf_v h v k]; exact e⟩
  · exact ⟨_, _, cap, by rw [← rowOf_v h v k]; exact e⟩
theorem rCells_eq (v : Ky → Value) (h : House) : rCells v h = #[.int .i64 h.tick, .int .i64 h.real.items, v (.facts false), v (.motions false), v (.sent false), .int .i64 h.drill.items, v (.facts true), v (.motions true), v (.sent true)] := rfl
set_option maxRecDepth 20000 in
set_option maxHeartbeats 2000000 in
theorem plain_any (B hb : Nat) (V : CV) (c : Council) (v : Ky → Value) (h : House) (w : World) (p : PH B hb w V c v h) :
    Calls Tryz.prog 34 #[.pointer (some ⟨hb, 0, none⟩)] w fun e w' => e = .returned (.agg (rCells v h)) ∧ Kp w.heap.size none w w' := by
  have sl := slice_of p.rows
  have K0 := Kp.new w (.cells #[.int .i64 0, .int .i64 0, .slice none 0 0, .slice none 0 0, .slice none 0 0, .int .i64 0, .slice none 0 0, .slice none 0 0, .slice none 0 0] 43)
  have R0 := Blk.new w 43 #[.int .i64 0, .int .i64 0, .slice none 0 0, .slice none 0 0, .slice none 0 0, .int .i64 0, .slice none 0 0, .slice none 0 0, .slice none 0 0]
  have hB := Lib.hid p.blk
  have hlt := p.lt
  clear p
  rw [rCells_eq]
  have ct : ∀ W, Kp w.heap.size none w W → W.cell? ⟨hb, 3, none⟩ = some (.int .i64 h.tick) := fun W k => (hB.out.kpN k).cell 3
  have lp0 : ∀ W, Kp w.heap.size none w W → Calls Tryz.prog 57 #[.pointer (some ⟨hb, 4, none⟩)] W fun e w' => e = .returned (.agg #[.int .i64 h.real.items, v (.facts false), v (.motions false), v (.sent false)]) ∧ Kp W.heap.size none W w' := fun W k =>
    lplain_any hb 4 _ _ _ _ W ((hB.out.kpN k).cell 4) ((hB.out.kpN k).cell 5) ((hB.out.kpN k).cell 6) ((hB.out.kpN k).cell 7) (sl _) (sl _) (sl _)
  have lp1 : ∀ W, Kp w.heap.size none w W → Calls Tryz.prog 57 #[.pointer (some ⟨hb, 8, none⟩)] W fun e w' => e = .returned (.agg #[.int .i64 h.drill.items, v (.facts true), v (.motions true), v (.sent true)]) ∧ Kp W.heap.size none W w' := fun W k =>
    lplain_any hb 8 _ _ _ _ W ((hB.out.kpN k).cell 8) ((hB.out.kpN k).cell 9) ((hB.out.kpN k).cell 10) ((hB.out.kpN k).cell 11) (sl _) (sl _) (sl _)
  obtain ⟨A0, l0, q0, e0⟩ := sl (.facts false)
  rw [e0] at ⊢
  first | rw [e0] at lp0 | rw [e0] at lp1
  replace e0 := Lib.hid e0
  obtain ⟨A1, l1, q1, e1⟩ := sl (.motions false)
  rw [e1] at ⊢
  first | rw [e1] at lp0 | rw [e1] at lp1
  replace e1 := Lib.hid e1
  obtain ⟨A2, l2, q2, e2⟩ := sl (.sent false)
  rw [e2] at ⊢
  first | rw [e2] at lp0 | rw [e2] at lp1
  replace e2 := Lib.hid e2
  obtain ⟨A3, l3, q3, e3⟩ := sl (.facts true)
  rw [e3] at ⊢
  first | rw [e3] at lp0 | rw [e3] at lp1
  replace e3 := Lib.hid e3
  obtain ⟨A4, l4, q4, e4⟩ := sl (.motions true)
  rw [e4] at ⊢
  first | rw [e4] at lp0 | rw [e4] at lp1
  replace e4 := Lib.hid e4
  obtain ⟨A5, l5, q5, e5⟩ := sl (.sent true)
  rw [e5] at ⊢
  first | rw [e5] at lp0 | rw [e5] at lp1
  replace e5 := Lib.hid e5
  replace ct := Lib.hid ct
  replace lp0 := Lib.hid lp0
  replace lp1 := Lib.hid lp1
  clear sl
  go_enter Tryz.func34, Tryz.ntmps34
  go_wp2_with fail
  obtain ⟨rb, hrb2⟩ : ∃ q, q = w.heap.size := ⟨_, rfl⟩
  have hrb : rb ≠ hb := by omega
  rw [← hrb2] at R0 ⊢
  generalize w.alloc (.cells #[.int .i64 0, .int .i64 0, .slice none 0 0, .slice none 0 0, .slice none 0 0, .int .i64 0, .slice none 0 0, .slice none 0 0, .slice none 0 0] 43) = w1 at K0 R0 ⊢
  replace K0 := K0.drew
  replace R0 := R0.kpN (Kp.refl _ _ _).drew
  have hrbw : w.heap.size ≤ rb := by omega
  replace hrb2 := Lib.hid hrb2
  obtain ⟨S, hS⟩ : ∃ S : Nat → World → Prop, S = fun n w' => if n = 0 then w'.cell? ⟨hb, 3, none⟩ = some (.int .i64 h.tick) else True := ⟨_, rfl⟩
  have hS0 : ∀ w', S 0 w' ↔ (w'.cell? ⟨hb, 3, none⟩ = some (.int .i64 h.tick)) := fun w' => by rw [hS]; exact Iff.rfl
  have hS1 : ∀ w', S 1 w' ↔ (True) := fun w' => by rw [hS]; exact Iff.rfl
  clear hS
  have k3 := fun (q : Ev (S 0)) => ((hS0 _).1 q.h)
  have hevT := ev_true
  refine wp_region_ord S [(0, 0), (1, 0), (2, 0), (3, 1), (4, 0), (5, 0), (6, 0), (8, 0), (9, 0), (10, 0), (7, 2), (11, 2), (12, 0), (13, 3)] [13] (by kernel_rfl) (by kernel_rfl) ((hS0 _).2 (ct.out _ K0)) ?_
  intro _hev
  iterate 10 (first | (refine wpOrd_v rfl rfl ?_; intro K hK; go_big_quiet_op; go_big_quiet_on) | (refine wpOrd_q rfl rfl ?_; intro K hK; go_big_quiet_op; go_big_quiet_on) | refine wpOrd_s (by decide) rfl rfl ?_)
  refine wpOrd_l rfl rfl ?_; intro K hK
  go_step
  refine (lp0.out _ K0).mono ?_
  rintro e w2 ⟨rfl, k2⟩
  replace K0 := K0.thenN k2 (Nat.le_refl _)
  replace R0 := R0.kpN k2
  refine hK _ _ ((hS0 _).2 (ct.out _ K0)) ?_
  clear hK K k2
  refine wpOrd_l rfl rfl ?_; intro K hK
  go_step
  refine (lp1.out _ K0).mono ?_
  rintro e w3 ⟨rfl, k2⟩
  replace K0 := K0.thenN k2 (Nat.le_refl _)
  replace R0 := R0.kpN k2
  refine hK _ _ ((hS0 _).2 (ct.out _ K0)) ?_
  clear hK K k2
  iterate 1 (first | (refine wpOrd_v rfl rfl ?_; intro K hK; go_big_quiet_op; go_big_quiet_on) | (refine wpOrd_q rfl rfl ?_; intro K hK; go_big_quiet_op; go_big_quiet_on) | refine wpOrd_s (by decide) rfl rfl ?_)
  have cr := fun i => R0.cell i
  have fr := fun i => R0.frozen i
  refine wpOrd_a rfl rfl ?_; intro K hK
  go_step
  refine hK _ _ ((hS1 _).2 trivial) ?_
  clear hK K cr fr
  change wpOrd _ _ _ _ _ 1 _ _
  refine wpOrd_nil ?_
  clear hevT _hev
  clear hS0 hS1 S k3
  have K9 := setR0_kp K0 hrbw (.int .i64 h.tick) (.int .i64 h.real.items) (.slice A0 l0 q0) (.slice A1 l1 q1) (.slice A2 l2 q2) (.int .i64 h.drill.items) (.slice A3 l3 q3) (.slice A4 l4 q4) (.slice A5 l5 q5)
  have R9 := Blk.setR0 R0 (.int .i64 h.tick) (.int .i64 h.real.items) (.slice A0 l0 q0) (.slice A1 l1 q1) (.slice A2 l2 q2) (.int .i64 h.drill.items) (.slice A3 l3 q3) (.slice A4 l4 q4) (.slice A5 l5 q5)
  change Exit.then _ _ Exit.normal _ (setR0 w3 rb (.int .i64 h.tick) (.int .i64 h.real.items) (.slice A0 l0 q0) (.slice A1 l1 q1) (.slice A2 l2 q2) (.int .i64 h.drill.items) (.slice A3 l3 q3) (.slice A4 l4 q4) (.slice A5 l5 q5))
  generalize setR0 w3 rb (.int .i64 h.tick) (.int .i64 h.real.items) (.slice A0 l0 q0) (.slice A1 l1 q1) (.slice A2 l2 q2) (.int .i64 h.drill.items) (.slice A3 l3 q3) (.slice A4 l4 q4) (.slice A5 l5 q5) = w9 at K9 R9 ⊢
  have c9 := fun i => R9.cell i
  go_wp2
  exact bodyPost_ret (v := .agg #[.int .i64 h.tick, .int .i64 h.real.items, .slice A0 l0 q0, .slice A1 l1 q1, .slice A2 l2 q2, .int .i64 h.drill.items, .slice A3 l3 q3, .slice A4 l4 q4, .slice A5 l5 q5]) (by simp [results, Tryz.results34, go_sem, c9]) rfl ⟨rfl, K9⟩
end Go.Proofs.YtogpgnljomchcaaGreat
namespace Go.Proofs.YtogpgnljomchcaaGreat
open Go.RowKit

/-- the rows of a house that is told, all of them laid behind B -/
def HAt (B : Nat) (w : World) (v : Ky → Value) (h : House) : Prop := ∃ hb, RowsAt B hb w (rowOf h v)
theorem HAt.kpN {B : Nat} {w w' : World} {v : Ky → Value} {h : House} (p : HAt B w v h) (k : Kp w.heap.size none w w') : HAt B w' v h := by
  obtain ⟨hb, r⟩ := p
  exact ⟨hb, r.kpN k⟩
def BuildPost (c : Council) (l : List CItem) (w : World) (e : Ending) (w' : World) : Prop :=
  ∃ v, e = .returned (.tuple #[.agg (rCells v (buildC c l).1), .int .i64 (buildC c l).2.1, .int .i64 (buildC c l).2.2]) ∧ HAt w.heap.size w' v (buildC c l).1 ∧ Kp w.heap.size none w w'
theorem runItems_drop (c : Council) (l : List CItem) (i : Nat) (hi : i < l.length) (h : House) : runItems c i h (l.drop i) = if doE c h l[i] = 0 then runItems c ((i + 1 : Nat) : Int) (doH c h l[i]) (l.drop (i + 1)) else (h, (i : Int), doE c h l[i]) := by
  rw [List.drop_eq_getElem_cons hi]
  rfl
def nilV : Ky → Value := fun _ => .slice none 0 0
theorem plain_ex (B hb : Nat) (V : CV) (c : Council) (v : Ky → Value) (h : House) (w : World) (p : PH B hb w V c v h) :
    Calls Tryz.prog 34 #[.pointer (some ⟨hb, 0, none⟩)] w fun e w' => (∃ A0 l0 q0 A1 l1 q1 A2 l2 q2 A3 l3 q3 A4 l4 q4 A5 l5 q5, e = .returned (.agg #[.int .i64 h.tick, .int .i64 h.real.items, .slice A0 l0 q0, .slice A1 l1 q1, .slice A2 l2 q2, .int .i64 h.drill.items, .slice A3 l3 q3, .slice A4 l4 q4, .slice A5 l5 q5]) ∧ rCells v h = #[.int .i64 h.tick, .int .i64 h.real.items, .slice A0 l0 q0, .slice A1 l1 q1, .slice A2 l2 q2, .int .i64 h.drill.items, .slice A3 l3 q3, .slice A4 l4 q4, .slice A5 l5 q5]) ∧ Kp w.heap.size none w w' := by
  refine (plain_any B hb V c v h w p).mono ?_
  rintro e w' ⟨he, k⟩
  have sl := slice_of p.rows
  refine ⟨?_, k⟩
  obtain ⟨A0, l0, q0, e0⟩ := sl (.facts false)
  obtain ⟨A1, l1, q1, e1⟩ := sl (.motions false)
  obtain ⟨A2, l2, q2, e2⟩ := sl (.sent false)
  obtain ⟨A3, l3, q3, e3⟩ := sl (.facts true)
  obtain ⟨A4, l4, q4, e4⟩ := sl (.motions true)
  obtain ⟨A5, l5, q5, e5⟩ := sl (.sent true)
  have ec : rCells v h = #[.int .i64 h.tick, .int .i64 h.real.items, .slice A0 l0 q0, .slice A1 l1 q1, .slice A2 l2 q2, .int .i64 h.drill.items, .slice A3 l3 q3, .slice A4 l4 q4, .slice A5 l5 q5] := by rw [rCells_eq, e0, e1, e2, e3, e4, e5]
  exact ⟨A0, l0, q0, A1, l1, q1, A2, l2, q2, A3, l3, q3, A4, l4, q4, A5, l5, q5, by rw [he, ec], ec⟩
/-- in the course of Build -/
structure BS (B hb rb : Nat) (V : CV) (c : Council) (v : Ky → Value) (h : House) (w w' : World) : Prop where
  p : PH B hb w' V c v h
  r : Lcl hb v w' rb 43 #[.int .i64 0, .int .i64 0, .slice none 0 0, .slice none 0 0, .slice none 0 0, .int .i64 0, .slice none 0 0, .slice none 0 0, .slice none 0 0]
  k : Kp w.heap.size none w w'
  b : B = w.heap.size
section
variable {B hb rb : Nat} {V : CV} {c : Council} {v v' : Ky → Value} {h h' : House} {w w1 w2 : World}
theorem BS.kpN (s : BS B hb rb V c v h w w1) (k : Kp w1.heap.size none w1 w2) : BS B hb rb V c v h w w2 := ⟨s.p.kpN k, s.r.kpN k, s.k.thenN k (Nat.le_refl _), s.b⟩
theorem BS.step (s : BS B hb rb V c v h w w1) (q : PH B hb w2 V c v' h') (f : Fr hb v v' w1 w2) : BS B hb rb V c v' h' w w2 :=
  ⟨q, s.r.fr f, s.k.trans (by have := s.p.kp f; rw [← s.b]; exact this), s.b⟩
theorem told_fin (s : BS B hb rb V c v h w w1) (hr : w.heap.size ≤ rb) (c0 c1 c2 c3 c4 c5 c6 c7 c8 : Value) :
    RowsAt w.heap.size hb (setR0 w1 rb c0 c1 c2 c3 c4 c5 c6 c7 c8) (rowOf h v) ∧ Kp w.heap.size none w (setR0 w1 rb c0 c1 c2 c3 c4 c5 c6 c7 c8) ∧ Blk (setR0 w1 rb c0 c1 c2 c3 c4 c5 c6 c7 c8) rb 43 #[c0, c1, c2, c3, c4, c5, c6, c7, c8] :=
  ⟨by rw [← s.b]; exact s.p.rows.other (setR0_grown _ _ _ _ _ _ _ _ _ _ _) s.r.apart, setR0_kp s.k hr _ _ _ _ _ _ _ _ _, Blk.setR0 s.r.blk _ _ _ _ _ _ _ _ _⟩
end
def BuildAt (R : House × Int × Int) (rb hb : Nat) (V : CV) (c : Council) (l : List CItem) (w : World) (n : Value) (wr : World) : Prop :=
  ∃ (i : Nat) (v : Ky → Value) (h : House), n = .int .i64 i ∧ i ≤ l.length ∧ runItems c i h (l.drop i) = R ∧ HouseOk c i h ∧ BS w.heap.size hb rb V c v h w wr
set_option maxRecDepth 20000 in
set_option maxHeartbeats 4000000 in
theorem build_any (V : CV) (c : Council) (A : Option Addr) (cap : Nat) (l : List CItem) (w : World) (hc : CAt w.heap.size w V c) (hr : Rd none w 9 encItem A l.length l) (hl : l.length ≤ 1000000) :
    Calls Tryz.prog 8 #[.agg #[.slice V.am c.members.length V.cm, .slice V.al c.laws.length V.cl, .slice V.av c.levels.length V.cv], .slice A l.length cap] w (BuildPost c l w) := by
  obtain ⟨cb, hcb⟩ : ∃ q, q = w.heap.size := ⟨_, rfl⟩
  have C0 := (Blk.new w 28 #[.slice V.am c.members.length V.cm, .slice V.al c.laws.length V.cl, .slice V.av c.levels.length V.cv]).alloc (.cells #[.int .i64 0, .int .i64 0, .slice none 0 0, .slice none 0 0, .slice none 0 0, .int .i64 0, .slice none 0 0, .slice none 0 0, .slice none 0 0] 43)
  have R0 := Blk.newAt (w.alloc (.cells #[.slice V.am c.members.length V.cm, .slice V.al c.laws.length V.cl, .slice V.av c.levels.length V.cv] 28)) 43 #[.int .i64 0, .int .i64 0, .slice none 0 0, .slice none 0 0, .slice none 0 0, .int .i64 0, .slice none 0 0, .slice none 0 0, .slice none 0 0] (n := w.heap.size + 1) (by simp)
  have K0 := Kp.new2 w (.cells #[.slice V.am c.members.length V.cm, .slice V.al c.laws.length V.cl, .slice V.av c.levels.length V.cv] 28) (.cells #[.int .i64 0, .int .i64 0, .slice none 0 0, .slice none 0 0, .slice none 0 0, .int .i64 0, .slice none 0 0, .slice none 0 0, .slice none 0 0] 43)
  have hcw := hc.kpN K0
  go_enter Tryz.func8, Tryz.ntmps8
  go_upto_region 1 with (fail)
  rw [← hcb] at C0 R0 ⊢
  have hcbw : w.heap.size ≤ cb := by omega
  replace hcb := Lib.hid hcb
  obtain ⟨rb, hrb⟩ : ∃ q, q = cb + 1 := ⟨_, rfl⟩
  have hrw : w.heap.size ≤ rb := by omega
  have hne : cb ≠ rb := by omega
  rw [← hrb] at R0 ⊢
  replace hrb := Lib.hid hrb
  generalize (w.alloc (.cells #[.slice V.am c.members.length V.cm, .slice V.al c.laws.length V.cl, .slice V.av c.levels.length V.cv] 28)).alloc (.cells #[.int .i64 0, .int .i64 0, .slice none 0 0, .slice none 0 0, .slice none 0 0, .int .i64 0, .slice none 0 0, .slice none 0 0, .slice none 0 0] 43) = w1 at C0 R0 K0 hcw ⊢
  have cc := fun i => C0.cell i
  go_wp2_with fail
  refine (council_Check_any _ V c _ hcw).mono ?_
  rintro e w2 ⟨rfl, k2⟩
  replace hcw := hcw.kpN k2
  replace C0 := C0.kpN k2
  replace R0 := R0.kpN k2
  replace K0 := K0.thenN k2 (Nat.le_refl _)
  clear k2 cc
  have cc := fun i => C0.cell i
  have cr := fun i => R0.cell i
  have fr := fun i => R0.frozen i
  by_cases h1 : checkC c = 0
  case neg =>
    have hb1 : buildC c l = (zeroHouse, -1, checkC c) := by unfold buildC; rw [if_pos h1]
    replace hb1 := Lib.hid hb1
    generalize checkC c = ce at h1 hb1 ⊢
    go_wp2_with fail
    have K9 := setR0_kp K0 hrw (.int .i64 0) (.int .i64 0) (.slice none 0 0) (.slice none 0 0) (.slice none 0 0) (.int .i64 0) (.slice none 0 0) (.slice none 0 0) (.slice none 0 0)
    have R9 := Blk.setR0 R0 (.int .i64 0) (.int .i64 0) (.slice none 0 0) (.slice none 0 0) (.slice none 0 0) (.int .i64 0) (.slice none 0 0) (.slice none 0 0) (.slice none 0 0)
    change bodyPost _ _ _ _ _ (setR0 w2 rb (.int .i64 0) (.int .i64 0) (.slice none 0 0) (.slice none 0 0) (.slice none 0 0) (.int .i64 0) (.slice none 0 0) (.slice none 0 0) (.slice none 0 0))
    generalize setR0 w2 rb (.int .i64 0) (.int .i64 0) (.slice none 0 0) (.slice none 0 0) (.slice none 0 0) (.int .i64 0) (.slice none 0 0) (.slice none 0 0) (.slice none 0 0) = w9 at K9 R9 ⊢
    have c9 := fun i => R9.cell i
    exact bodyPost_ret (v := .tuple #[.agg #[.int .i64 0, .int .i64 0, .slice none 0 0, .slice none 0 0, .slice none 0 0, .int .i64 0, .slice none 0 0, .slice none 0 0, .slice none 0 0], .int .i64 (-1), .int .i64 ce]) (by simp [results, Tryz.results8, go_sem, c9]) rfl ⟨nilV, by rw [hb1.out]; rfl, by rw [hb1.out]; exact ⟨0, RowsAt.zero _ _ _⟩, K9⟩
  case pos =>
    have hok := councilOk_of h1
    rw [h1]
    by_cases h2 : 2000 < l.length
    · have hb1 := Lib.hid (show buildC c l = (zeroHouse, -1, 8) by unfold buildC; rw [if_neg (by simpa using h1), if_pos h2])
      have h2' : 2000 < (l.length : Int) := by omega
      go_wp2_with fail
      have K9 := setR0_kp K0 hrw (.int .i64 0) (.int .i64 0) (.slice none 0 0) (.slice none 0 0) (.slice none 0 0) (.int .i64 0) (.slice none 0 0) (.slice none 0 0) (.slice none 0 0)
      have R9 := Blk.setR0 R0 (.int .i64 0) (.int .i64 0) (.slice none 0 0) (.slice none 0 0) (.slice none 0 0) (.int .i64 0) (.slice none 0 0) (.slice none 0 0) (.slice none 0 0)
      change bodyPost _ _ _ _ _ (setR0 w2 rb (.int .i64 0) (.int .i64 0) (.slice none 0 0) (.slice none 0 0) (.slice none 0 0) (.int .i64 0) (.slice none 0 0) (.slice none 0 0) (.slice none 0 0))
      generalize setR0 w2 rb (.int .i64 0) (.int .i64 0) (.slice none 0 0) (.slice none 0 0) (.slice none 0 0) (.int .i64 0) (.slice none 0 0) (.slice none 0 0) (.slice none 0 0) = w9 at K9 R9 ⊢
      have c9 := fun i => R9.cell i
      exact bodyPost_ret (v := .tuple #[.agg #[.int .i64 0, .int .i64 0, .slice none 0 0, .slice none 0 0, .slice none 0 0, .int .i64 0, .slice none 0 0, .slice none 0 0, .slice none 0 0], .int .i64 (-1), .int .i64 8]) (by simp [results, Tryz.results8, go_sem, c9]) rfl ⟨nilV, by rw [hb1.out]; rfl, by rw [hb1.out]; exact ⟨0, RowsAt.zero _ _ _⟩, K9⟩
    have hb1 : buildC c l = runItems c 0 zeroHouse l := by unfold buildC; rw [if_neg (by simpa using h1), if_neg h2]
    have h2' : ¬ 2000 < (l.length : Int) := by omega
    replace hok := Lib.hid hok
    replace h2 := Lib.hid h2
    clear h1
    go_upto_region 7 with (fail)
    have S : BS w.heap.size w2.heap.size rb V c nilV zeroHouse w (w2.alloc (.cells (pCells V c nilV zeroHouse) 84)) :=
      ⟨⟨RowsAt.zero _ _ _, K0.size, Blk.new _ _ _, hcw.kpN (Kp.new _ _)⟩, ⟨R0.kpN (Kp.new _ _), ⟨by have := R0.lt; omega, fun j e => by cases e⟩⟩, K0.thenN (Kp.new _ _) (Nat.le_refl _), rfl⟩
    change Code.wp _ _ _ _ (w2.alloc (.cells (pCells V c nilV zeroHouse) 84))
    obtain ⟨hbk, hhb⟩ : ∃ q, q = w2.heap.size := ⟨_, rfl⟩
    rw [← hhb] at S ⊢
    generalize World.alloc w2 (.cells (pCells V c nilV zeroHouse) 84) = w3 at S ⊢
    clear hhb K0 R0 C0 cc cr fr hcw hc hcb hrb hne hcbw
    replace hb1 := Lib.hid hb1
    replace h2 := Lib.hid (show l.length ≤ 2000 by have := h2.out; omega)
    go_wp2_with fail
    go_loopw [27] (fun n wr => BuildAt (buildC c l) rb hbk V c l w n wr) (fun n _ => l.length - (intOf n).toNat)
    case atStart => exact ⟨0, nilV, zeroHouse, rfl, by omega, by rw [List.drop_zero]; exact hb1.out.symm, zeroHouse_ok c 0, S⟩
    case round =>
      clear S
      obtain ⟨i, v, h, rfl, hi, hj, hk, S⟩ := hrel
      by_cases h7 : i < l.length
      · obtain ⟨b, o, rfl, hb, -, hcc⟩ := (hr.kpN S.k).at_ (by omega)
        have c0 : wr.cell? ⟨b, o + i * 9 + 0, none⟩ = some (.int .i64 l[i].kind) := by rw [Nat.add_assoc]; exact hcc i h7 0 _ rfl
        have c1 : wr.cell? ⟨b, o + i * 9 + 1, none⟩ = some (.int .i64 l[i].tick) := by rw [Nat.add_assoc]; exact hcc i h7 1 _ rfl
        have c2 : wr.cell? ⟨b, o + i * 9 + 2, none⟩ = some (.bool l[i].drill) := by rw [Nat.add_assoc]; exact hcc i h7 2 _ rfl
        have c3 : wr.cell? ⟨b, o + i * 9 + 3, none⟩ = some (.int .i64 l[i].a) := by rw [Nat.add_assoc]; exact hcc i h7 3 _ rfl
        have c4 : wr.cell? ⟨b, o + i * 9 + 4, none⟩ = some (.int .i64 l[i].b) := by rw [Nat.add_assoc]; exact hcc i h7 4 _ rfl
        have c5 : wr.cell? ⟨b, o + i * 9 + 5, none⟩ = some (.bool l[i].yes) := by rw [Nat.add_assoc]; exact hcc i h7 5 _ rfl
        have c6 : wr.cell? ⟨b, o + i * 9 + 6, none⟩ = some (.int .i64 l[i].chance.least) := by rw [Nat.add_assoc]; exact hcc i h7 6 _ rfl
        have c7 : wr.cell? ⟨b, o + i * 9 + 7, none⟩ = some (.int .i64 l[i].chance.most) := by rw [Nat.add_assoc]; exact hcc i h7 7 _ rfl
        have c8 : wr.cell? ⟨b, o + i * 9 + 8, none⟩ = some (.int .i64 l[i].chance.all) := by rw [Nat.add_assoc]; exact hcc i h7 8 _ rfl
        simp only [Nat.add_zero] at c0
        have hi' : (i : Int) < (l.length : Int) := by omega
        rw [runItems_drop c l i h7] at hj
        clear hcc hi
        generalize l[i] = x at c0 c1 c2 c3 c4 c5 c6 c7 c8 hj
        have S2 := S.kpN (Kp.new wr (.cells #[.int .i64 x.kind, .int .i64 x.tick, .bool x.drill, .int .i64 x.a, .int .i64 x.b, .bool x.yes, .int .i64 x.chance.least, .int .i64 x.chance.most, .int .i64 x.chance.all] 36))
        have X := Blk.new wr 36 #[.int .i64 x.kind, .int .i64 x.tick, .bool x.drill, .int .i64 x.a, .int .i64 x.b, .bool x.yes, .int .i64 x.chance.least, .int .i64 x.chance.most, .int .i64 x.chance.all]
        replace h7 := Lib.hid h7
        replace hj := Lib.hid hj
        replace hk := Lib.hid hk
        replace hr := Lib.hid hr
        replace S2 := Lib.hid S2
        clear S
        go_wp2_with fail
        refine (do_any w.heap.size hbk i V c v h x _ S2.out.p hok.out hk.out (by have := h7.out; have := h2.out; omega)).mono ?_
        rintro e w4 ⟨rfl, v2, p4, f4⟩
        replace S2 := S2.out.step p4 f4
        clear p4 f4 X
        have dk : doE c h x = 0 → HouseOk c (i + 1) (doH c h x) := fun e => do_ok hok.out hk.out e
        generalize doE c h x = E at S2 hj dk ⊢
        by_cases q0 : E = 0
        · subst q0
          rw [if_pos rfl] at S2
          have hj2 := Lib.hid (show runItems c ((i + 1 : Nat) : Int) (doH c h x) (l.drop (i + 1)) = buildC c l by have := hj.out; rw [if_pos rfl] at this; exact this)
          have hk2 := Lib.hid (dk rfl)
          replace S2 := Lib.hid S2
          clear hj dk
          go_wp2
          go_roundw
          case rel => exact ⟨i + 1, v2, _, rfl, h7.out, hj2.out, hk2.out, S2.out⟩
          case measure => have := h7.out; simp [intOf]; omega
        · have S : BS w.heap.size hbk rb V c v2 h w w4 := by rw [if_neg q0] at S2; exact S2
          have hj2 := Lib.hid (show (h, (i : Int), E) = buildC c l by have := hj.out; rw [if_neg q0] at this; exact this)
          clear hj S2 dk
          have q1 : (E != 0) = true := by simpa using q0
          go_wp2_with fail
          refine (plain_ex _ _ _ _ _ _ _ S.p).mono ?_
          rintro e w6 ⟨⟨A0, l0, q0, A1, l1, q1, A2, l2, q2, A3, l3, q3, A4, l4, q4, A5, l5, q5, rfl, ec⟩, k6⟩
          replace S := S.kpN k6
          clear k6
          have cr := fun i => S.r.blk.cell i
          have fr := fun i => S.r.blk.frozen i
          replace S := Lib.hid S
          replace ec := Lib.hid ec
          go_wp2_with fail
          replace S := S.out
          obtain ⟨hr3, K9, R9⟩ := told_fin S hrw (.int .i64 h.tick) (.int .i64 h.real.items) (.slice A0 l0 q0) (.slice A1 l1 q1) (.slice A2 l2 q2) (.int .i64 h.drill.items) (.slice A3 l3 q3) (.slice A4 l4 q4) (.slice A5 l5 q5)
          change bodyPost _ _ _ _ _ (setR0 w6 rb (.int .i64 h.tick) (.int .i64 h.real.items) (.slice A0 l0 q0) (.slice A1 l1 q1) (.slice A2 l2 q2) (.int .i64 h.drill.items) (.slice A3 l3 q3) (.slice A4 l4 q4) (.slice A5 l5 q5))
          generalize setR0 w6 rb (.int .i64 h.tick) (.int .i64 h.real.items) (.slice A0 l0 q0) (.slice A1 l1 q1) (.slice A2 l2 q2) (.int .i64 h.drill.items) (.slice A3 l3 q3) (.slice A4 l4 q4) (.slice A5 l5 q5) = w9 at K9 R9 hr3 ⊢
          have c9 := fun i => R9.cell i
          exact bodyPost_ret (v := .tuple #[.agg #[.int .i64 h.tick, .int .i64 h.real.items, .slice A0 l0 q0, .slice A1 l1 q1, .slice A2 l2 q2, .int .i64 h.drill.items, .slice A3 l3 q3, .slice A4 l4 q4, .slice A5 l5 q5], .int .i64 i, .int .i64 E]) (by simp [results, Tryz.results8, go_sem, c9]) rfl ⟨v2, by rw [← hj2.out, ec.out], by rw [← hj2.out]; exact ⟨_, hr3⟩, K9⟩
      · have he : i = l.length := by omega
        have hi' : ¬ (i : Int) < (l.length : Int) := by omega
        have hj2 := Lib.hid (show (h, (-1 : Int), (0 : Int)) = buildC c l by rw [he, List.drop_length] at hj; exact hj)
        clear hj hi h7 hk
        rename (Ky → Value) => v2
        go_wp2_with fail
        refine (plain_ex _ _ _ _ _ _ _ S.p).mono ?_
        rintro e w6 ⟨⟨A0, l0, q0, A1, l1, q1, A2, l2, q2, A3, l3, q3, A4, l4, q4, A5, l5, q5, rfl, ec⟩, k6⟩
        replace S := S.kpN k6
        clear k6
        have cr := fun i => S.r.blk.cell i
        have fr := fun i => S.r.blk.frozen i
        replace S := Lib.hid S
        replace ec := Lib.hid ec
        go_wp2_with fail
        replace S := S.out
        obtain ⟨hr3, K9, R9⟩ := told_fin S hrw (.int .i64 h.tick) (.int .i64 h.real.items) (.slice A0 l0 q0) (.slice A1 l1 q1) (.slice A2 l2 q2) (.int .i64 h.drill.items) (.slice A3 l3 q3) (.slice A4 l4 q4) (.slice A5 l5 q5)
        change bodyPost _ _ _ _ _ (setR0 w6 rb (.int .i64 h.tick) (.int .i64 h.real.items) (.slice A0 l0 q0) (.slice A1 l1 q1) (.slice A2 l2 q2) (.int .i64 h.drill.items) (.slice A3 l3 q3) (.slice A4 l4 q4) (.slice A5 l5 q5))
        generalize setR0 w6 rb (.int .i64 h.tick) (.int .i64 h.real.items) (.slice A0 l0 q0) (.slice A1 l1 q1) (.slice A2 l2 q2) (.int .i64 h.drill.items) (.slice A3 l3 q3) (.slice A4 l4 q4) (.slice A5 l5 q5) = w9 at K9 R9 hr3 ⊢
        have c9 := fun i => R9.cell i
        exact bodyPost_ret (v := .tuple #[.agg #[.int .i64 h.tick, .int .i64 h.real.items, .slice A0 l0 q0, .slice A1 l1 q1, .slice A2 l2 q2, .int .i64 h.drill.items, .slice A3 l3 q3, .slice A4 l4 q4, .slice A5 l5 q5], .int .i64 (-1), .int .i64 0]) (by simp [results, Tryz.results8, go_sem, c9]) rfl ⟨v2, by rw [← hj2.out, ec.out], by rw [← hj2.out]; exact ⟨_, hr3⟩, K9⟩
end Go.Proofs.YtogpgnljomchcaaGreat
