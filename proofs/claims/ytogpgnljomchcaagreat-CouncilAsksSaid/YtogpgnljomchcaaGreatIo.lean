/- Items that can be done one after the other, made of a ring. -/
import Derived.Test.YtogpgnljomchcaaGreatIt
import Derived.Test.YtogpgnljomchcaaGreatPa
import Derived.Test.YtogpgnljomchcaaGreatCofAll
namespace Go.Proofs.YtogpgnljomchcaaGreat
open Go.RowKit

theorem info_item : (Tryz.prog.info? 36).map (fun i => (i.zero, i.size, i.bytes)) = some (some (.agg #[.int .i64 0, .int .i64 0, .bool false, .int .i64 0, .int .i64 0, .bool false, .int .i64 0, .int .i64 0, .int .i64 0]), 9, 72) := by kernel_rfl
theorem one_item (x : CItem) : ∀ u ∈ encItem x, u.oneCell' = true := by
  intro u hu
  simp [encItem] at hu
  rcases hu with rfl | rfl | rfl | rfl | rfl | rfl | rfl | rfl | rfl <;> rfl
theorem one_items (xs : List CItem) : ∀ u ∈ xs.flatMap encItem, u.oneCell' = true := by
  intro u hu
  obtain ⟨x, _, hx⟩ := List.mem_flatMap.1 hu
  exact one_item x u hx
theorem Rd.flat {α : Type} {row : Option Nat} {w : World} {sz n : Nat} {enc : α → List Value} {ad : Addr} {xs : List α} (h : Rd row w sz enc (some ad) n xs) (he : ∀ x, (enc x).length = sz) :
    ∀ j u, (xs.flatMap enc)[j]? = some u → w.cell? (ad.add j) = some u := by
  intro j u hj
  have hlen := (List.getElem?_eq_some_iff.1 hj).1
  rw [flat_len he] at hlen
  have hsz : 0 < sz := by
    rcases Nat.eq_zero_or_pos sz with h0 | h0
    · subst h0; simp at hlen
    · exact h0
  have hi : j / sz < xs.length := Nat.div_lt_of_lt_mul (by rw [Nat.mul_comm]; exact hlen)
  have hm : j % sz < sz := Nat.mod_lt _ hsz
  have e : j / sz * sz + j % sz = j := by rw [Nat.mul_comm]; exact Nat.div_add_mod j sz
  obtain ⟨b, o, ea, hb, _, hc⟩ := h.2 (by have h9 := h.1; have : 0 < xs.length := Nat.lt_of_le_of_lt (Nat.zero_le _) hi; omega)
  injection ea with ea
  subst ea
  rw [← e] at hj ⊢
  rw [flat_at he xs _ hi _ hm] at hj
  have := hc (j / sz) hi (j % sz) u hj
  rw [Go.WideShapes.add_plain]
  exact this
set_option maxRecDepth 100000 in
/-- a list of items copied to a new list -/
theorem wp_copy_items {w : World} {o : Oper} {a : Act} {K : Act → World → Prop} {Q : Exit → Act → World → Prop} (s x : Operand)
    (ho : o.op = .call { callee := .builtin .append, args := #[s, x], argTypes := #[29, 29] })
    (B nb : Nat) (A : Option Addr) (cap : Nat) (l : List CItem) (hs : a.eval s = .slice (some ⟨nb, 0, none⟩) 0 0) (hx : a.eval x = .slice A l.length cap)
    (hown : Own w B 36 9 encItem (.slice (some ⟨nb, 0, none⟩) 0 0) []) (hr : Rd none w 9 encItem A l.length l) (h0 : l = [] → A = none ∧ cap = 0) (hl : l.length ≤ 1000000) (hB : B ≤ w.heap.size)
    (h : ∀ v' w', Own w' B 36 9 encItem v' l → w.grownBy w' (some nb) → (v'.ownBlock = some nb ∨ v'.ownBlock = some w.heap.size) → K (a.put o.dst v') w') : o.wp Tryz.prog a w K Q := by
  obtain ⟨i0, hi0, hz0, hz1, hz2⟩ := info_parts info_item
  cases A with
  | none =>
    have hl0 : l = [] := by
      rcases Nat.eq_zero_or_pos l.length with h1 | h1
      · exact List.eq_nil_of_length_eq_zero h1
      · obtain ⟨b, o, e, _⟩ := hr.2 h1
        cases e
    subst hl0
    obtain ⟨-, rfl⟩ := h0 rfl
    refine Go.Lib.wp_append_run w s x _ _ ho _ _ hs hx (.slice (some ⟨nb, 0, none⟩) 0 0) w ?_ (h _ _ hown ⟨rfl, rfl, rfl, Nat.le_refl _, fun _ _ _ => rfl⟩ (.inl rfl))
    rfl
  | some ad =>
    refine wp_append_own_at s x 29 ho B 36 i0 _ 9 72 Tryz.underlying29 hi0 hz0 hz1 hz2 (by rfl) (by omega) _ 0 [] hs hown ad l.length cap (l.flatMap encItem) hx (flat_len (enc := encItem) (sz := 9) (fun _ => rfl) l) (hr.flat (fun _ => rfl)) (one_items l) (maxLen_of (by omega)) (by omega) hB ?_
    intro v' w' h1 h2 h3
    refine h v' w' ?_ h2 h3
    unfold Own
    simpa using h1
/-- in the course of ItemsOf -/
structure IO (W : World) (g cb hb : Nat) (nums : List Int) (k : Nat) (V : CV) (c : Council) (X : HV) (x : House) (v : Value) (l : List CItem) (w : World) : Prop where
  ring : RingAt w g nums k
  ca : CAt W.heap.size w V c
  cl : Blk w cb 28 #[.slice V.am c.members.length V.cm, .slice V.al c.laws.length V.cl, .slice V.av c.levels.length V.cv]
  hl : Blk w hb 43 #[.int .i64 x.tick, .int .i64 x.real.items, .slice X.r.fa x.real.facts.length X.r.fc, .slice X.r.ma x.real.motions.length X.r.mc, .slice X.r.sa x.real.sent.length X.r.sc, .int .i64 x.drill.items, .slice X.d.fa x.drill.facts.length X.d.fc, .slice X.d.ma x.drill.motions.length X.d.mc, .slice X.d.sa x.drill.sent.length X.d.sc]
  own : Own w W.heap.size 36 9 encItem v l
  ap : ∀ b, v.ownBlock = some b → hb < b
  far : CFar V (g + 1)
  kp : Kp W.heap.size (some g) W w
  gW : g < W.heap.size
  cW : W.heap.size ≤ cb
  ch : cb < hb
section
variable {W w w' : World} {g cb hb k k' : Nat} {nums : List Int} {V : CV} {c : Council} {X X' : HV} {x x' : House} {v u : Value} {l m : List CItem}
theorem IO.turn (s : IO W g cb hb nums k V c X x v l w) (r : RingAt w' g nums k') (q : Kp w.heap.size (some g) w w') : IO W g cb hb nums k' V c X x v l w' :=
  have hb' : ∀ b, W.heap.size ≤ b → some b ≠ some g := fun b h e => by injection e with e; have := s.gW; omega
  ⟨r, s.ca.turnB q s.far (by omega), s.cl.kp q s.cl.lt (hb' _ s.cW), s.hl.kp q s.hl.lt (hb' _ (by have := s.cW; have := s.ch; omega)), s.own.kp q hb', s.ap, s.far, s.kp.then_ q (Nat.le_refl _), s.gW, s.cW, s.ch⟩
theorem IO.kpN (s : IO W g cb hb nums k V c X x v l w) (q : Kp w.heap.size none w w') : IO W g cb hb nums k V c X x v l w' := s.turn (s.ring.kpN q) (q.wide _)
theorem IO.grown (s : IO W g cb hb nums k V c X x v l w) {r : Option Nat} (hg : w.grownBy w' r) (hr : ∀ b, r = some b → hb < b ∧ v.ownBlock ≠ some b) : IO W g cb hb nums k V c X x v l w' := by
  have h1 := s.gW
  have h2 := s.cW
  have h3 := s.ch
  have hrr : ∀ b, r = some b → W.heap.size ≤ b := fun b e => by have := (hr b e).1; omega
  refine ⟨s.ring.grown hg (fun q e => by have := hrr q e; omega), s.ca.kp ⟨hg.os, hg.tape, hg.output, hg.size, fun i hi _ => hg.block i (by have := s.kp.size; omega) (fun e => by have := hrr i e.symm; omega)⟩, (hg.block cb s.cl.lt (fun e => by have := (hr cb e.symm).1; omega)).trans s.cl, (hg.block hb s.hl.lt (fun e => by have := (hr hb e.symm).1; omega)).trans s.hl, World.ownsRow.kept s.own hg ?_, s.ap, s.far, s.kp.grown hg s.kp.size hrr, s.gW, s.cW, s.ch⟩
  cases hv : v.ownBlock with
  | none => exact .inl rfl
  | some q => exact .inr fun e => (hr q e.symm).2 hv
/-- the next list, before it is taken -/
structure NX (W : World) (hb : Nat) (v u : Value) (m : List CItem) (w : World) : Prop where
  own : Own w W.heap.size 36 9 encItem u m
  ap : ∀ b, u.ownBlock = some b → hb < b ∧ v.ownBlock ≠ some b
theorem NX.turn (n : NX W hb v u m w) (q : Kp w.heap.size (some g) w w') (hg : g < W.heap.size) : NX W hb v u m w' := ⟨n.own.kp q (fun b h e => by injection e with e; omega), n.ap⟩
theorem NX.kpN (n : NX W hb v u m w) (q : Kp w.heap.size none w w') : NX W hb v u m w' := ⟨n.own.kpN q, n.ap⟩
theorem IO.take (s : IO W g cb hb nums k V c X x v l w) (n : NX W hb v u m w) (x' : House) (X' : HV) :
    IO W g cb hb nums k V c X' x' u m (setR0 w hb (.int .i64 x'.tick) (.int .i64 x'.real.items) (.slice X'.r.fa x'.real.facts.length X'.r.fc) (.slice X'.r.ma x'.real.motions.length X'.r.mc) (.slice X'.r.sa x'.real.sent.length X'.r.sc) (.int .i64 x'.drill.items) (.slice X'.d.fa x'.drill.facts.length X'.d.fc) (.slice X'.d.ma x'.drill.motions.length X'.d.mc) (.slice X'.d.sa x'.drill.sent.length X'.d.sc)) := by
  have h1 := s.gW
  have h2 := s.cW
  have h3 := s.ch
  have hg := setR0_grown w hb (.int .i64 x'.tick) (.int .i64 x'.real.items) (.slice X'.r.fa x'.real.facts.length X'.r.fc) (.slice X'.r.ma x'.real.motions.length X'.r.mc) (.slice X'.r.sa x'.real.sent.length X'.r.sc) (.int .i64 x'.drill.items) (.slice X'.d.fa x'.drill.facts.length X'.d.fc) (.slice X'.d.ma x'.drill.motions.length X'.d.mc) (.slice X'.d.sa x'.drill.sent.length X'.d.sc)
  refine ⟨s.ring.grown hg (fun q e => by injection e with e; omega), s.ca.kp ⟨hg.os, hg.tape, hg.output, hg.size, fun i hi _ => hg.block i (by have := s.kp.size; omega) (fun e => by injection e with e; omega)⟩, (hg.block cb s.cl.lt (fun e => by injection e with e; omega)).trans s.cl, Blk.setR0 s.hl _ _ _ _ _ _ _ _ _, World.ownsRow.kept n.own hg ?_, fun b e => (n.ap b e).1, s.far, s.kp.grown hg s.kp.size (fun q e => by injection e with e; omega), s.gW, s.cW, s.ch⟩
  cases hv : u.ownBlock with
  | none => exact .inl rfl
  | some q => exact .inr fun e => by injection e with e; have := (n.ap q hv).1; omega
end
theorem buildC_did {c : Council} {l : List CItem} (hc : checkC c = 0) (hl : l.length ≤ 2000) (he : (buildC c l).2.2 = 0) : Did c zeroHouse l (buildC c l).1 := by
  unfold buildC at he ⊢
  rw [if_neg (by simpa using hc), if_neg (by omega)] at he ⊢
  exact run_done 0 he
def ItemsPost (g : Nat) (nums : List Int) (kmax n : Nat) (c : Council) (w : World) (e : Ending) (w' : World) : Prop :=
  ∃ (A : Option Addr) (cap : Nat) (l : List CItem) (x : House) (k' : Nat), e = .returned (.slice A l.length cap) ∧ l.length ≤ n ∧ Did c zeroHouse l x ∧ Rd (some g) w' 9 encItem A l.length l ∧ (∀ ad, A = some ad → w.heap.size ≤ ad.block) ∧ k' ≤ kmax ∧ RingAt w' g nums k' ∧ Kp w.heap.size (some g) w w' ∧ l.length ≤ cap ∧ (A = none → cap = 0)
def IORel (W : World) (g cb hb : Nat) (nums : List Int) (k0 n : Nat) (V : CV) (c : Council) (v i : Value) (wr : World) : Prop :=
  ∃ (j k : Nat) (X : HV) (x : House) (A : Option Addr) (cap : Nat) (l : List CItem), v = .slice A l.length cap ∧ i = .int .i64 (j : Int) ∧ j ≤ 3 * n ∧ l.length ≤ n ∧ k ≤ k0 + 20 * j ∧ (l = [] → A = none ∧ cap = 0) ∧ Did c zeroHouse l x ∧ IO W g cb hb nums k V c X x v l wr
set_option maxRecDepth 20000 in
set_option maxHeartbeats 8000000 in
theorem itemsOf_any (g : Nat) (nums : List Int) (k : Nat) (V : CV) (c : Council) (n : Nat) (w : World) (h : RingAt w g nums k) (hk : k ≤ 700000) (hC : CAt w.heap.size w V c) (hf : CFar V (g + 1)) (hok : COk c) (hn : n ≤ 1000) :
    Calls Tryz.prog 16 #[.pointer (some ⟨g, 0, none⟩), .agg #[.slice V.am c.members.length V.cm, .slice V.al c.laws.length V.cl, .slice V.av c.levels.length V.cv], .int .i64 (n : Int)] w (ItemsPost g nums (k + 60 * n) n c w) := by
  obtain ⟨i0, hi0, hz0, hz1, hz2⟩ := info_parts info_item
  have hco := councilOk_of hok.chk
  have CB := Blk.new w 28 #[.slice V.am c.members.length V.cm, .slice V.al c.laws.length V.cl, .slice V.av c.levels.length V.cv]
  have K0 := Kp.new w (.cells #[.slice V.am c.members.length V.cm, .slice V.al c.laws.length V.cl, .slice V.av c.levels.length V.cv] 28)
  have hgw := h.lt
  have R0 := h.kpN K0
  have C0 := hC.kpN K0
  go_enter Tryz.func16, Tryz.ntmps16
  go_upto_region 2 with (fail)
  change Code.wp _ _ _ _ (w.alloc (.cells #[.slice V.am c.members.length V.cm, .slice V.al c.laws.length V.cl, .slice V.av c.levels.length V.cv] 28))
  have hz0w : w.heap.size < (w.alloc (.cells #[.slice V.am c.members.length V.cm, .slice V.al c.laws.length V.cl, .slice V.av c.levels.length V.cv] 28)).heap.size := by simp
  generalize w.alloc (.cells #[.slice V.am c.members.length V.cm, .slice V.al c.laws.length V.cl, .slice V.av c.levels.length V.cv] 28) = w1 at CB K0 R0 C0 hz0w ⊢
  obtain ⟨cb, hcb⟩ : ∃ q, q = w.heap.size := ⟨_, rfl⟩
  rw [← hcb] at CB
  try rw [← hcb]
  have hcw : w.heap.size ≤ cb := by omega
  have hcl : cb < w1.heap.size := by omega
  clear hcb hz0w
  have cc := fun i => CB.cell i
  go_wp2_with fail
  refine (ref_build_see V c none 0 [] _ (C0.wide (by omega)) (Rd.nil _ _ _ _ _) (by simp)).mono ?_
  rintro e w2 ⟨v, X, -, rfl, -, -, k2⟩
  have hb0 : buildC c [] = (zeroHouse, -1, 0) := build_done hok.chk (by simp) rfl
  rw [hb0]
  simp only
  replace CB := CB.kpN k2
  replace C0 := C0.kpN k2
  replace R0 := R0.kpN k2
  replace K0 := K0.thenN k2 (by omega)
  have hcl2 : cb < w2.heap.size := CB.lt
  clear k2 hb0 cc hcl h hC
  have cc := fun i => CB.cell i
  have HB := Blk.new w2 43 #[.int .i64 zeroHouse.tick, .int .i64 zeroHouse.real.items, .slice X.r.fa zeroHouse.real.facts.length X.r.fc, .slice X.r.ma zeroHouse.real.motions.length X.r.mc, .slice X.r.sa zeroHouse.real.sent.length X.r.sc, .int .i64 zeroHouse.drill.items, .slice X.d.fa zeroHouse.drill.facts.length X.d.fc, .slice X.d.ma zeroHouse.drill.motions.length X.d.mc, .slice X.d.sa zeroHouse.drill.sent.length X.d.sc]
  have KH := Kp.new w2 (.cells #[.int .i64 zeroHouse.tick, .int .i64 zeroHouse.real.items, .slice X.r.fa zeroHouse.real.facts.length X.r.fc, .slice X.r.ma zeroHouse.real.motions.length X.r.mc, .slice X.r.sa zeroHouse.real.sent.length X.r.sc, .int .i64 zeroHouse.drill.items, .slice X.d.fa zeroHouse.drill.facts.length X.d.fc, .slice X.d.ma zeroHouse.drill.motions.length X.d.mc, .slice X.d.sa zeroHouse.drill.sent.length X.d.sc] 43)
  have S : IO w g cb w2.heap.size nums k V c X zeroHouse (.slice none 0 0) [] (w2.alloc (.cells #[.int .i64 zeroHouse.tick, .int .i64 zeroHouse.real.items, .slice X.r.fa zeroHouse.real.facts.length X.r.fc, .slice X.r.ma zeroHouse.real.motions.length X.r.mc, .slice X.r.sa zeroHouse.real.sent.length X.r.sc, .int .i64 zeroHouse.drill.items, .slice X.d.fa zeroHouse.drill.facts.length X.d.fc, .slice X.d.ma zeroHouse.drill.motions.length X.d.mc, .slice X.d.sa zeroHouse.drill.sent.length X.d.sc] 43)) :=
    ⟨R0.kpN KH, C0.kpN KH, CB.kpN KH, HB, Own.nil _ _ _ _ _, fun b e => (by cases e), hf, (K0.thenN KH (Nat.le_refl _)).wide _, hgw, hcw, hcl2⟩
  clear CB C0 R0 K0 HB KH hf
  go_upto_region 3 with (fail)
  change Code.wp _ _ _ _ (w2.alloc (.cells #[.int .i64 zeroHouse.tick, .int .i64 zeroHouse.real.items, .slice X.r.fa zeroHouse.real.facts.length X.r.fc, .slice X.r.ma zeroHouse.real.motions.length X.r.mc, .slice X.r.sa zeroHouse.real.sent.length X.r.sc, .int .i64 zeroHouse.drill.items, .slice X.d.fa zeroHouse.drill.facts.length X.d.fc, .slice X.d.ma zeroHouse.drill.motions.length X.d.mc, .slice X.d.sa zeroHouse.drill.sent.length X.d.sc] 43))
  obtain ⟨hb, hhb⟩ : ∃ q, q = w2.heap.size := ⟨_, rfl⟩
  rw [← hhb] at S
  rw [← hhb]
  generalize w2.alloc (.cells #[.int .i64 zeroHouse.tick, .int .i64 zeroHouse.real.items, .slice X.r.fa zeroHouse.real.facts.length X.r.fc, .slice X.r.ma zeroHouse.real.motions.length X.r.mc, .slice X.r.sa zeroHouse.real.sent.length X.r.sc, .int .i64 zeroHouse.drill.items, .slice X.d.fa zeroHouse.drill.facts.length X.d.fc, .slice X.d.ma zeroHouse.drill.motions.length X.d.mc, .slice X.d.sa zeroHouse.drill.sent.length X.d.sc] 43) = w3 at S ⊢
  clear hhb cc
  go_wp2_with fail
  go_loopw [7, 11] (fun v i wr => IORel w g cb hb nums k n V c v i wr) (fun _ i _ => (3 * (n : Int) - intOf i).toNat)
  case atStart => exact ⟨0, k, X, zeroHouse, none, 0, [], rfl, rfl, by omega, by simp, by omega, fun _ => ⟨rfl, rfl⟩, rfl, S⟩
  case round =>
    clear S
    obtain ⟨j, k1, X2, x, A, cap, l, rfl, rfl, hj, hln, hk1, hl0, hD, S⟩ := hrel
    by_cases hgo : j < 3 * n ∧ l.length < n
    · obtain ⟨hj', hln'⟩ := hgo
      have q1 : (j : Int) < 3 * (n : Int) := by omega
      have q2 : (l.length : Int) < (n : Int) := by omega
      go_upto_region 6 with (fail)
      have T := S.kpN (Kp.refl _ _ _).drew
      clear S
      obtain ⟨S, hS⟩ : ∃ S : Nat → World → Prop, S = fun n w' => if n = 0 then Blk w' cb 28 #[.slice V.am c.members.length V.cm, .slice V.al c.laws.length V.cl, .slice V.av c.levels.length V.cv] ∧ Blk w' hb 43 #[.int .i64 x.tick, .int .i64 x.real.items, .slice X2.r.fa x.real.facts.length X2.r.fc, .slice X2.r.ma x.real.motions.length X2.r.mc, .slice X2.r.sa x.real.sent.length X2.r.sc, .int .i64 x.drill.items, .slice X2.d.fa x.drill.facts.length X2.d.fc, .slice X2.d.ma x.drill.motions.length X2.d.mc, .slice X2.d.sa x.drill.sent.length X2.d.sc] else True := ⟨_, rfl⟩
      have hS0 : ∀ w', S 0 w' ↔ (Blk w' cb 28 #[.slice V.am c.members.length V.cm, .slice V.al c.laws.length V.cl, .slice V.av c.levels.length V.cv] ∧ Blk w' hb 43 #[.int .i64 x.tick, .int .i64 x.real.items, .slice X2.r.fa x.real.facts.length X2.r.fc, .slice X2.r.ma x.real.motions.length X2.r.mc, .slice X2.r.sa x.real.sent.length X2.r.sc, .int .i64 x.drill.items, .slice X2.d.fa x.drill.facts.length X2.d.fc, .slice X2.d.ma x.drill.motions.length X2.d.mc, .slice X2.d.sa x.drill.sent.length X2.d.sc]) := fun w' => by rw [hS]; exact Iff.rfl
      have hS1 : ∀ w', S 1 w' ↔ (True) := fun w' => by rw [hS]; exact Iff.rfl
      clear hS
      have cc := fun (q : Ev (S 0)) i => ((hS0 _).1 q.h).1.cell i
      have ch := fun (q : Ev (S 0)) i => ((hS0 _).1 q.h).2.cell i
      have hcbg := T.cW
      have hcbh := T.ch
      have hgW := T.gW
      have hxok : HouseOk c (0 + l.length) x := hD.ok hco (zeroHouse_ok c 0)
      have hevT := ev_true
      refine wp_region_ord S [(1, 0), (3, 0), (4, 1), (5, 1), (0, 2), (2, 2), (6, 2), (7, 2), (8, 2), (9, 0)] [] (by kernel_rfl) (by kernel_rfl) ((hS0 _).2 ⟨T.cl, T.hl⟩) ?_
      intro _hev
      iterate 4 (first | (refine wpOrd_v rfl rfl ?_; intro K hK; go_big_quiet_op; go_big_quiet_on) | (refine wpOrd_q rfl rfl ?_; intro K hK; go_big_quiet_op; go_big_quiet_on) | refine wpOrd_s (by decide) rfl rfl ?_)
      refine wpOrd_l rfl rfl ?_; intro K hK
      generalize wr.drew = w4 at T ⊢
      have OE : Own (w4.alloc (.cells #[] 36)) w.heap.size 36 9 encItem (.slice (some ⟨w4.heap.size, 0, none⟩) 0 0) [] :=
        ⟨rfl, .inr ⟨w4.heap.size, 0, #[], rfl, T.kp.size, Blk.new w4 36 #[], Nat.le_refl _, Nat.zero_le _, rfl, rfl⟩⟩
      have N : NX w hb (.slice A l.length cap) (.slice (some ⟨w4.heap.size, 0, none⟩) 0 0) [] (w4.alloc (.cells #[] 36)) := ⟨OE, fun b e => by
        have e2 : w4.heap.size = b := by simpa [Value.ownBlock] using e
        exact ⟨by have := T.hl.lt; omega, fun e3 => by have := (T.own.ge b e3).2; omega⟩⟩
      replace T := T.kpN (Kp.new w4 (.cells #[] 36))
      go_step
      obtain ⟨nb, hnb⟩ : ∃ q, q = w4.heap.size := ⟨_, rfl⟩
      rw [← hnb] at N ⊢
      generalize w4.alloc (.cells #[] 36) = w5 at T N ⊢
      clear OE hnb
      refine hK _ _ ((hS0 _).2 ⟨T.cl, T.hl⟩) ?_
      clear hK K
      refine wpOrd_l rfl rfl ?_; intro K hK
      have hrd0 : Rd none w5 9 encItem A l.length l := by
        obtain ⟨A', cap', e1, hrd, -⟩ := T.own.rd (row := none) (fun _ => rfl) (fun b hb e => by cases e)
        injection e1 with e1 _ e2
        subst e1
        exact hrd
      refine wp_copy_items (.tmp 34) (.tmp 35) (by rfl) w.heap.size nb A cap l (by rfl) (by rfl) N.own hrd0 hl0 (by omega) T.kp.size ?_
      intro u w6 h1 h2 h3
      have T2 := T.grown h2 (fun b e => N.ap b (by rw [← e]; rfl))
      have N2 : NX w hb (.slice A l.length cap) u l w6 := ⟨h1, fun b e => by
        rcases h3 with h3 | h3
        · exact N.ap b (by rw [← e, h3]; rfl)
        · rw [h3] at e
          injection e with e
          exact ⟨by have := T.hl.lt; omega, fun e3 => by have := (T.own.ge b e3).2; omega⟩⟩
      clear h1 h2 h3 hrd0 N T
      have T := T2
      have N := N2
      clear T2 N2
      refine hK _ _ ((hS0 _).2 ⟨T.cl, T.hl⟩) ?_
      clear hK K
      refine wpOrd_l rfl rfl ?_; intro K hK
      go_step
      refine (itemOf_any g nums k1 V c X2 x _ _ T.ring (by omega) (T.ca.wide T.kp.size) T.far hok hxok).mono ?_
      rintro e w7 ⟨it, k2, rfl, hk2, hR, k7⟩
      replace T := T.turn hR k7
      replace N := N.turn k7 hgW
      clear hR k7
      refine hK _ _ ((hS0 _).2 ⟨T.cl, T.hl⟩) ?_
      clear hK K
      refine wpOrd_l rfl rfl ?_; intro K hK
      go_step
      have XB := Blk.new w7 36 #[.int .i64 it.kind, .int .i64 it.tick, .bool it.drill, .int .i64 it.a, .int .i64 it.b, .bool it.yes, .int .i64 it.chance.least, .int .i64 it.chance.most, .int .i64 it.chance.all]
      have kx := Kp.new w7 (.cells #[.int .i64 it.kind, .int .i64 it.tick, .bool it.drill, .int .i64 it.a, .int .i64 it.b, .bool it.yes, .int .i64 it.chance.least, .int .i64 it.chance.most, .int .i64 it.chance.all] 36)
      replace T := T.kpN kx
      replace N := N.kpN kx
      obtain ⟨xb, hxb⟩ : ∃ q, q = w7.heap.size := ⟨_, rfl⟩
      rw [← hxb] at XB ⊢
      generalize World.alloc w7 (.cells #[.int .i64 it.kind, .int .i64 it.tick, .bool it.drill, .int .i64 it.a, .int .i64 it.b, .bool it.yes, .int .i64 it.chance.least, .int .i64 it.chance.most, .int .i64 it.chance.all] 36) = w8 at T N XB ⊢
      clear hxb kx
      refine hK _ _ ((hS0 _).2 ⟨T.cl, T.hl⟩) ?_
      clear hK K
      refine wpOrd_l rfl rfl ?_; intro K hK
      refine wp_append_own_at (.tmp 36) (.tmp 41) 29 (by rfl) w.heap.size 36 i0 _ 9 72 Tryz.underlying29 hi0 hz0 hz1 hz2 (by rfl) (by omega) u l.length (l.flatMap encItem) (by rfl) N.own ⟨xb, 0, none⟩ 1 1 (encItem it) (by rfl) (by rfl) (fun j u hj => by rw [Addr.add_lit, Nat.zero_add, XB.cell]; exact (show (encItem it).toArray[j]? = some u by simpa using hj)) (one_item it) (maxLen_of (by omega)) (by omega) T.kp.size ?_
      intro u8 w9 hown8 gu au
      obtain ⟨g8, cap8, rfl⟩ := ownsRow_succ hown8
      obtain ⟨m, hm⟩ : ∃ m, m = l ++ [it] := ⟨_, rfl⟩
      have hml : l.length + 1 = m.length := by rw [hm]; simp
      have own9 : Own w9 w.heap.size 36 9 encItem (.slice (some ⟨g8, 0, none⟩) m.length cap8) m := by
        rw [← hml]
        unfold Own
        rw [hm, List.length_append, List.flatMap_append]
        simpa using hown8
      have T2 := T.grown gu N.ap
      have N2 : NX w hb (.slice A l.length cap) (.slice (some ⟨g8, 0, none⟩) m.length cap8) m w9 := ⟨own9, fun b e => by
        have e9 : (Value.slice (some ⟨g8, 0, none⟩) (l.length + 1) cap8).ownBlock = some b := e
        rcases au with h3 | h3
        · exact N.ap b (by rw [← h3]; exact e9)
        · rw [h3] at e9
          injection e9 with e9
          exact ⟨by have := T.hl.lt; omega, fun e3 => by have := (T.own.ge b e3).2; omega⟩⟩
      clear own9 hown8 gu au T N XB
      have T := T2
      have N := N2
      clear T2 N2
      refine hK _ _ ((hS0 _).2 ⟨T.cl, T.hl⟩) ?_
      try simp only [Act.put, List.setIfInBounds_toArray, List.set_cons_zero, List.set_cons_succ]
      clear hK K
      rw [hml]
      have hm2 : m.length ≤ n := by omega
      replace hm := Lib.hid hm
      replace hml := Lib.hid hml
      iterate 1 (first | (refine wpOrd_v rfl rfl ?_; intro K hK; go_big_quiet_op; go_big_quiet_on) | (refine wpOrd_q rfl rfl ?_; intro K hK; go_big_quiet_op; go_big_quiet_on) | refine wpOrd_s (by decide) rfl rfl ?_)
      refine wpOrd_nil ?_
      clear hevT _hev
      clear hS0 hS1 S cc ch
      have S := T
      clear T
      have cc := fun i => S.cl.cell i
      go_wp2_with fail
      have hrd9 : Rd none w9 9 encItem (some ⟨g8, 0, none⟩) m.length m := by
        obtain ⟨A', cap', e1, hrd, -⟩ := N.own.rd (row := none) (fun _ => rfl) (fun b hb e => by cases e)
        injection e1 with e1 _ e2
        subst e1
        exact hrd
      refine (ref_build_see V c _ cap8 m _ (S.ca.wide S.kp.size) hrd9 (by omega)).mono ?_
      clear hrd9
      rintro e w10 ⟨v9, X9, -, rfl, -, -, k10⟩
      have hbc := hok.chk
      have hDm := fun he => buildC_did (l := m) hbc (by omega) he
      obtain ⟨R, hR⟩ : ∃ R, R = buildC c m := ⟨_, rfl⟩
      rw [← hR] at hDm ⊢
      obtain ⟨y, yi, ye⟩ := R
      simp only at hDm ⊢
      clear hR hbc
      have hDm' : ye = 0 → Did c zeroHouse m y := hDm
      clear hDm
      replace S := S.kpN k10
      replace N := N.kpN k10
      clear k10 cc
      have YB := Blk.new w10 43 #[.int .i64 y.tick, .int .i64 y.real.items, .slice X9.r.fa y.real.facts.length X9.r.fc, .slice X9.r.ma y.real.motions.length X9.r.mc, .slice X9.r.sa y.real.sent.length X9.r.sc, .int .i64 y.drill.items, .slice X9.d.fa y.drill.facts.length X9.d.fc, .slice X9.d.ma y.drill.motions.length X9.d.mc, .slice X9.d.sa y.drill.sent.length X9.d.sc]
      have ky := Kp.new w10 (.cells #[.int .i64 y.tick, .int .i64 y.real.items, .slice X9.r.fa y.real.facts.length X9.r.fc, .slice X9.r.ma y.real.motions.length X9.r.mc, .slice X9.r.sa y.real.sent.length X9.r.sc, .int .i64 y.drill.items, .slice X9.d.fa y.drill.facts.length X9.d.fc, .slice X9.d.ma y.drill.motions.length X9.d.mc, .slice X9.d.sa y.drill.sent.length X9.d.sc] 43)
      go_upto_region 8 with (fail)
      change Code.wp _ _ _ _ (w10.alloc (.cells #[.int .i64 y.tick, .int .i64 y.real.items, .slice X9.r.fa y.real.facts.length X9.r.fc, .slice X9.r.ma y.real.motions.length X9.r.mc, .slice X9.r.sa y.real.sent.length X9.r.sc, .int .i64 y.drill.items, .slice X9.d.fa y.drill.facts.length X9.d.fc, .slice X9.d.ma y.drill.motions.length X9.d.mc, .slice X9.d.sa y.drill.sent.length X9.d.sc] 43))
      replace S := S.kpN ky
      replace N := N.kpN ky
      obtain ⟨yb, hyb⟩ : ∃ q, q = w10.heap.size := ⟨_, rfl⟩
      rw [← hyb] at YB
      rw [← hyb]
      generalize World.alloc w10 (.cells #[.int .i64 y.tick, .int .i64 y.real.items, .slice X9.r.fa y.real.facts.length X9.r.fc, .slice X9.r.ma y.real.motions.length X9.r.mc, .slice X9.r.sa y.real.sent.length X9.r.sc, .int .i64 y.drill.items, .slice X9.d.fa y.drill.facts.length X9.d.fc, .slice X9.d.ma y.drill.motions.length X9.d.mc, .slice X9.d.sa y.drill.sent.length X9.d.sc] 43) = w11 at S N YB ⊢
      clear hyb ky
      by_cases he : ye = 0
      · replace hDm' := hDm' he
        subst he
        have hst : IORel w g cb hb nums k n V c (.slice (some ⟨g8, 0, none⟩) m.length cap8) (.int .i64 ((j : Int) + 1)) (setR0 w11.drew hb (.int .i64 y.tick) (.int .i64 y.real.items) (.slice X9.r.fa y.real.facts.length X9.r.fc) (.slice X9.r.ma y.real.motions.length X9.r.mc) (.slice X9.r.sa y.real.sent.length X9.r.sc) (.int .i64 y.drill.items) (.slice X9.d.fa y.drill.facts.length X9.d.fc) (.slice X9.d.ma y.drill.motions.length X9.d.mc) (.slice X9.d.sa y.drill.sent.length X9.d.sc)) :=
          ⟨j + 1, _, X9, y, some ⟨g8, 0, none⟩, cap8, m, rfl, by congr 1, by omega, hm2, by omega, fun h0 => absurd h0 (by have := hml.out; intro e; rw [e] at this; simp at this), hDm', (S.kpN (Kp.refl _ _ _).drew).take (N.kpN (Kp.refl _ _ _).drew) y X9⟩
        replace hst := Lib.hid hst
        have HB := (Kp.refl w11.heap.size none w11).drew
        have fh := fun i => (S.hl.kpN HB).frozen i
        have ch := fun i => (S.hl.kpN HB).cell i
        replace YB := YB.kpN HB
        clear S N HB
        obtain ⟨S, hS⟩ : ∃ S : Nat → World → Prop, S = fun n w' => if n = 0 then Blk w' yb 43 #[.int .i64 y.tick, .int .i64 y.real.items, .slice X9.r.fa y.real.facts.length X9.r.fc, .slice X9.r.ma y.real.motions.length X9.r.mc, .slice X9.r.sa y.real.sent.length X9.r.sc, .int .i64 y.drill.items, .slice X9.d.fa y.drill.facts.length X9.d.fc, .slice X9.d.ma y.drill.motions.length X9.d.mc, .slice X9.d.sa y.drill.sent.length X9.d.sc] else True := ⟨_, rfl⟩
        have hS0 : ∀ w', S 0 w' ↔ (Blk w' yb 43 #[.int .i64 y.tick, .int .i64 y.real.items, .slice X9.r.fa y.real.facts.length X9.r.fc, .slice X9.r.ma y.real.motions.length X9.r.mc, .slice X9.r.sa y.real.sent.length X9.r.sc, .int .i64 y.drill.items, .slice X9.d.fa y.drill.facts.length X9.d.fc, .slice X9.d.ma y.drill.motions.length X9.d.mc, .slice X9.d.sa y.drill.sent.length X9.d.sc]) := fun w' => by rw [hS]; exact Iff.rfl
        have hS1 : ∀ w', S 1 w' ↔ (True) := fun w' => by rw [hS]; exact Iff.rfl
        clear hS
        have cy := fun (q : Ev (S 0)) i => ((hS0 _).1 q.h).cell i
        go_upto_region 9 with (fail)
        have hevT := ev_true
        refine wp_region_ord S [(0, 0), (1, 1), (2, 0), (3, 3)] [3] (by kernel_rfl) (by kernel_rfl) ((hS0 _).2 YB) ?_
        intro _hev
        iterate 3 (first | (refine wpOrd_v rfl rfl ?_; intro K hK; go_big_quiet_op; go_big_quiet_on) | (refine wpOrd_q rfl rfl ?_; intro K hK; go_big_quiet_op; go_big_quiet_on) | refine wpOrd_s (by decide) rfl rfl ?_)
        refine wpOrd_a rfl rfl ?_; intro K hK
        generalize w11.drew = w13 at hst fh ch YB ⊢
        go_step
        change K _ (setR0 w13 hb (.int .i64 y.tick) (.int .i64 y.real.items) (.slice X9.r.fa y.real.facts.length X9.r.fc) (.slice X9.r.ma y.real.motions.length X9.r.mc) (.slice X9.r.sa y.real.sent.length X9.r.sc) (.int .i64 y.drill.items) (.slice X9.d.fa y.drill.facts.length X9.d.fc) (.slice X9.d.ma y.drill.motions.length X9.d.mc) (.slice X9.d.sa y.drill.sent.length X9.d.sc))
        generalize setR0 w13 hb (.int .i64 y.tick) (.int .i64 y.real.items) (.slice X9.r.fa y.real.facts.length X9.r.fc) (.slice X9.r.ma y.real.motions.length X9.r.mc) (.slice X9.r.sa y.real.sent.length X9.r.sc) (.int .i64 y.drill.items) (.slice X9.d.fa y.drill.facts.length X9.d.fc) (.slice X9.d.ma y.drill.motions.length X9.d.mc) (.slice X9.d.sa y.drill.sent.length X9.d.sc) = w12 at hst ⊢
        refine hK _ _ ((hS1 _).2 trivial) ?_
        clear hK K
        change wpOrd _ _ _ _ _ 1 _ _
        refine wpOrd_nil ?_
        clear hevT _hev
        clear hS0 hS1 S cy fh ch
        go_wp2
        go_roundw
        case rel => exact hst.out
        case measure => simp [intOf]; omega
      · have hne : (ye == 0) = false := by simpa using he
        have hst : IORel w g cb hb nums k n V c (.slice A l.length cap) (.int .i64 ((j : Int) + 1)) w11 :=
          ⟨j + 1, _, X2, x, A, cap, l, rfl, by congr 1, by omega, hln, by omega, hl0, hD, S⟩
        replace hst := Lib.hid hst
        clear S N YB hDm'
        go_wp2
        go_roundw
        case rel => exact hst.out
        case measure => simp [intOf]; omega
    · have hfin : ItemsPost g nums (k + 60 * n) n c w (.returned (.slice A l.length cap)) wr := by
        obtain ⟨A', cap', e1, hrd, hge⟩ := S.own.rd (row := some g) (fun _ => rfl) (fun b hb e => by injection e with e; have := S.gW; omega)
        injection e1 with e1 _ e2
        subst e1 e2
        have hcap : l.length ≤ cap ∧ (A = none → cap = 0) := by
          rcases S.own.2 with ⟨h1, h2⟩ | ⟨g', cap', cur, h1, -, -, h4, -⟩
          · injection h1 with h11 h12 h13
            exact ⟨by omega, fun _ => h13⟩
          · injection h1 with h11 h12 h13
            exact ⟨by omega, fun e => by rw [h11] at e; cases e⟩
        exact ⟨_, _, l, x, k1, rfl, hln, hD, hrd, fun ad e => (hge ad e).1, by omega, S.ring, S.kp, hcap.1, hcap.2⟩
      replace hfin := Lib.hid hfin
      by_cases hj' : j < 3 * n
      · have q1 : (j : Int) < 3 * (n : Int) := by omega
        have q2 : ¬ (l.length : Int) < (n : Int) := by omega
        go_wp2_with fail
        exact bodyPost_ret (v := .slice A l.length cap) (by simp [results, Tryz.results16, go_sem]) rfl hfin.out
      · have q1 : ¬ (j : Int) < 3 * (n : Int) := by omega
        go_wp2_with fail
        exact bodyPost_ret (v := .slice A l.length cap) (by simp [results, Tryz.results16, go_sem]) rfl hfin.out
end Go.Proofs.YtogpgnljomchcaaGreat
