/- CouncilOrders: what it needs to know of two votes that change places: in plain Lean, and in memory. -/
import Derived.Test.YtogpgnljomchcaaGreatMr
import Derived.Test.YtogpgnljomchcaaGreatPb
namespace Go.Proofs.YtogpgnljomchcaaGreat
open Go.RowKit

/-! ### In plain Lean -/
theorem HEq2.real {x z : House} (h : HEq2 x z) : LEq x.real z.real := h.led false
theorem HEq2.drill {x z : House} (h : HEq2 x z) : LEq x.drill z.drill := h.led true

/-! ### In memory: an item stored in a row of items -/
def putI (w : World) (g o : Nat) (n : CItem) : World := ((((((((w.setCell ⟨g, o, none⟩ (.int .i64 n.kind)).setCell ⟨g, o + 1, none⟩ (.int .i64 n.tick)).setCell ⟨g, o + 2, none⟩ (.bool n.drill)).setCell ⟨g, o + 3, none⟩ (.int .i64 n.a)).setCell ⟨g, o + 4, none⟩ (.int .i64 n.b)).setCell ⟨g, o + 5, none⟩ (.bool n.yes)).setCell ⟨g, o + 6, none⟩ (.int .i64 n.chance.least)).setCell ⟨g, o + 7, none⟩ (.int .i64 n.chance.most)).setCell ⟨g, o + 8, none⟩ (.int .i64 n.chance.all)
theorem putI_grown (w : World) (g o : Nat) (n : CItem) : w.grownBy (putI w g o n) (some g) :=
  grown_trans (grown_trans (grown_trans (grown_trans (grown_trans (grown_trans (grown_trans (grown_trans (grown_set _ _ _ _) (grown_set _ _ _ _)) (grown_set _ _ _ _)) (grown_set _ _ _ _)) (grown_set _ _ _ _)) (grown_set _ _ _ _)) (grown_set _ _ _ _)) (grown_set _ _ _ _)) (grown_set _ _ _ _)
theorem Own.setItem {w : World} {B g n cap : Nat} {xs : List CItem} (h : Own w B 36 9 encItem (.slice (some ⟨g, 0, none⟩) n cap) xs) (i : Nat) (hi : i < xs.length) (k : CItem) :
    Own (putI w g (i * 9) k) B 36 9 encItem (.slice (some ⟨g, 0, none⟩) n cap) (xs.set i k) := by
  have a0 := Own.setAt (sz := 9) (enc := encItem) (fun _ => rfl) h i hi 0 (by omega) (.int .i64 k.kind) { xs[i] with kind := k.kind } rfl
  have a1 := Own.setAt (sz := 9) (enc := encItem) (fun _ => rfl) a0.1 i (by simpa using hi) 1 (by omega) (.int .i64 k.tick) { xs[i] with kind := k.kind, tick := k.tick } (by simp [encItem])
  have a2 := Own.setAt (sz := 9) (enc := encItem) (fun _ => rfl) a1.1 i (by simpa using hi) 2 (by omega) (.bool k.drill) { xs[i] with kind := k.kind, tick := k.tick, drill := k.drill } (by simp [encItem])
  have a3 := Own.setAt (sz := 9) (enc := encItem) (fun _ => rfl) a2.1 i (by simpa using hi) 3 (by omega) (.int .i64 k.a) { xs[i] with kind := k.kind, tick := k.tick, drill := k.drill, a := k.a } (by simp [encItem])
  have a4 := Own.setAt (sz := 9) (enc := encItem) (fun _ => rfl) a3.1 i (by simpa using hi) 4 (by omega) (.int .i64 k.b) { xs[i] with kind := k.kind, tick := k.tick, drill := k.drill, a := k.a, b := k.b } (by simp [encItem])
  have a5 := Own.setAt (sz := 9) (enc := encItem) (fun _ => rfl) a4.1 i (by simpa using hi) 5 (by omega) (.bool k.yes) { xs[i] with kind := k.kind, tick := k.tick, drill := k.drill, a := k.a, b := k.b, yes := k.yes } (by simp [encItem])
  have a6 := Own.setAt (sz := 9) (enc := encItem) (fun _ => rfl) a5.1 i (by simpa using hi) 6 (by omega) (.int .i64 k.chance.least) ⟨k.kind, k.tick, k.drill, k.a, k.b, k.yes, { xs[i].chance with least := k.chance.least }⟩ (by simp [encItem])
  have a7 := Own.setAt (sz := 9) (enc := encItem) (fun _ => rfl) a6.1 i (by simpa using hi) 7 (by omega) (.int .i64 k.chance.most) ⟨k.kind, k.tick, k.drill, k.a, k.b, k.yes, { xs[i].chance with least := k.chance.least, most := k.chance.most }⟩ (by simp [encItem])
  have a8 := Own.setAt (sz := 9) (enc := encItem) (fun _ => rfl) a7.1 i (by simpa using hi) 8 (by omega) (.int .i64 k.chance.all) k (by simp [encItem])
  have := a8.1
  simp only [List.set_set] at this
  exact this
theorem Blk.setItem {w : World} {g : Nat} {t : TypeId} {x0 x1 x2 x3 x4 x5 x6 x7 x8 : Value} (h : Blk w g t #[x0, x1, x2, x3, x4, x5, x6, x7, x8]) (n : CItem) : Blk (putI w g 0 n) g t #[.int .i64 n.kind, .int .i64 n.tick, .bool n.drill, .int .i64 n.a, .int .i64 n.b, .bool n.yes, .int .i64 n.chance.least, .int .i64 n.chance.most, .int .i64 n.chance.all] := Blk.setR0 h _ _ _ _ _ _ _ _ _

theorem Own.frz {α : Type} {w : World} {B e sz g n cap : Nat} {enc : α → List Value} {xs : List α} (h : Own w B e sz enc (.slice (some ⟨g, 0, none⟩) n cap) xs) (he : ∀ x, (enc x).length = sz) (j : Nat) : w.frozen? ⟨g, j, none⟩ = false := by
  obtain ⟨A, cap', e, rd, -⟩ := h.rd0 he
  simp only [Value.slice.injEq] at e
  obtain ⟨rfl, rfl, rfl⟩ := e
  exact World.ownsRow.frozenAt h j
theorem Own.itemCells {w : World} {B g n cap : Nat} {xs : List CItem} (h : Own w B 36 9 encItem (.slice (some ⟨g, 0, none⟩) n cap) xs) (i : Nat) (hi : i < xs.length) :
    ∃ y : CItem, ∀ k u, (encItem y)[k]? = some u → w.cell? ⟨g, i * 9 + k, none⟩ = some u := by
  obtain ⟨A, cap', e, rd, -⟩ := h.rd0 (fun _ => rfl)
  simp only [Value.slice.injEq] at e
  obtain ⟨rfl, rfl, rfl⟩ := e
  obtain ⟨b, o', e2, -, -, hcc⟩ := rd.at_ (by omega)
  simp only [Option.some.injEq, Addr.mk.injEq] at e2
  obtain ⟨rfl, rfl, -⟩ := e2
  refine ⟨xs[i], fun k u hk => ?_⟩
  have := hcc i hi k u hk
  rwa [Nat.zero_add] at this

/-! ### In memory: the slices of votes stored anew -/
def RZ (v : Ky → Value) (z x : House) (f : Bool → Nat → Value) : Ky → RowV
  | .motions d => ⟨v (.motions d), 52, 8, (x.led d).motions.length, (zipV (f d) 0 (x.led d).motions).flatMap encVM⟩
  | .facts d => rowOf z v (.facts d)
  | .sent d => rowOf z v (.sent d)
  | .voted d i => rowOf z v (.voted d i)
theorem flat_eqv (f : Nat → Value) {l k : List Motion} (h : MsEq l k) : ∀ i, (zipV f i k).flatMap encVM = (zipV f i l).flatMap encVM := by
  induction h with
  | nil => intro i; rfl
  | cons a t ih =>
    intro i
    simp only [zipV, List.flatMap_cons, ih (i + 1)]
    congr 1
    obtain ⟨h1, h2, h3, h4, h5, h6, h7⟩ := a
    simp [encVM, encMot, *]
theorem RZ.start {x z : House} (h : HEq2 x z) (v : Ky → Value) : ∀ k, RZ v z x (fun d i => v (.voted d i)) k = rowOf z v k := by
  intro k
  cases k with
  | motions d =>
    simp only [RZ, rowOf]
    rw [flat_eqv _ (h.led d).motions, (h.led d).motions.len]
  | facts d => rfl
  | sent d => rfl
  | voted d i => rfl
theorem RZ_v (v : Ky → Value) (z x : House) (f : Bool → Nat → Value) (k : Ky) : (RZ v z x f k).v = v k := by cases k <;> rfl
def putF (f : Bool → Nat → Value) (d : Bool) (k : Nat) (u : Value) : Bool → Nat → Value := fun e => if e = d then fun j => if j = k then u else f d j else f e
theorem RZ.upd (v : Ky → Value) (z x : House) (f : Bool → Nat → Value) (d : Bool) (k : Nat) (u : Value) :
    ∀ j, RZ v z x (putF f d k u) j = upd (RZ v z x f) (.motions d) ⟨v (.motions d), 52, 8, (x.led d).motions.length, (zipV (fun j => if j = k then u else f d j) 0 (x.led d).motions).flatMap encVM⟩ j := by
  intro j
  cases j with
  | motions e =>
    by_cases he : e = d
    · subst he; rw [upd_same]; simp [RZ, putF]
    · rw [upd_ne _ _ (fun q => he (by injection q))]; simp [RZ, putF, he]
  | facts e => rw [upd_ne _ _ (by simp)]; rfl
  | sent e => rw [upd_ne _ _ (by simp)]; rfl
  | voted e i => rw [upd_ne _ _ (by simp)]; rfl
theorem RZ.set {B hb g n cap : Nat} {w : World} {v : Ky → Value} {z x : House} {f : Bool → Nat → Value} (r : RowsAt B hb w (RZ v z x f)) (hhb : hb < w.heap.size) (d : Bool) (hv : v (.motions d) = .slice (some ⟨g, 0, none⟩) n cap) (k : Nat) (hk : k < (x.led d).motions.length) (u : Value) :
    RowsAt B hb (w.setCell ⟨g, k * 8 + 6, none⟩ u) (RZ v z x (putF f d k u)) ∧ w.grownBy (w.setCell ⟨g, k * 8 + 6, none⟩ u) (some g) := by
  have own : Own w B 52 8 encVM (v (.motions d)) (zipV (f d) 0 (x.led d).motions) := by
    unfold Own
    rw [zipV_len]
    exact r.own (.motions d)
  rw [hv] at own
  have st := Own.setAt (sz := 8) (enc := encVM) (fun _ => rfl) own k (by rw [zipV_len]; exact hk) 6 (by omega) u (u, (x.led d).motions[k]) (by rw [zipV_at _ _ _ _ hk]; rfl)
  rw [← zipV_upd _ _ _ _ hk] at st
  refine ⟨?_, st.2⟩
  have h2 := r.step (.motions d) (w' := w.setCell ⟨g, k * 8 + 6, none⟩ u) hhb (r := ⟨v (.motions d), 52, 8, (x.led d).motions.length, (zipV (fun j => if j = k then u else f d j) 0 (x.led d).motions).flatMap encVM⟩) (by rw [RZ_v, hv]; exact st.2) (by have := st.1; unfold Own at this; rw [zipV_len] at this; rw [hv]; exact this) (.inl (by rw [RZ_v]))
  exact h2.eq (RZ.upd v z x f d k u)
theorem RowsAt.hbTo {B hb c : Nat} {w : World} {R : Ky → RowV} (r : RowsAt B hb w R) (h : c < B) : RowsAt B c w R :=
  ⟨r.own, r.ap, fun k b e q => by have := (World.ownsRow.lt (r.own k) b e).1; omega⟩
/-- x that stands, z whose slices of votes are stored anew -/
structure ZS (W : World) (B xb zb : Nat) (X Z : HV) (x : House) (v : Ky → Value) (z : House) (f : Bool → Nat → Value) (w : World) : Prop where
  kp : Kp W.heap.size none W w
  xl : Blk w xb 43 #[.int .i64 x.tick, .int .i64 x.real.items, .slice X.r.fa x.real.facts.length X.r.fc, .slice X.r.ma x.real.motions.length X.r.mc, .slice X.r.sa x.real.sent.length X.r.sc, .int .i64 x.drill.items, .slice X.d.fa x.drill.facts.length X.d.fc, .slice X.d.ma x.drill.motions.length X.d.mc, .slice X.d.sa x.drill.sent.length X.d.sc]
  xs : SAt B w X x
  zl : Blk w zb 43 #[.int .i64 x.tick, .int .i64 x.real.items, .slice Z.r.fa x.real.facts.length Z.r.fc, .slice Z.r.ma x.real.motions.length Z.r.mc, .slice Z.r.sa x.real.sent.length Z.r.sc, .int .i64 x.drill.items, .slice Z.d.fa x.drill.facts.length Z.d.fc, .slice Z.d.ma x.drill.motions.length Z.d.mc, .slice Z.d.sa x.drill.sent.length Z.d.sc]
  rz : RowsAt B xb w (RZ v z x f)
  bW : W.heap.size ≤ B
  xB : xb < B
  zB : ∀ k b, (v k).ownBlock = some b → b < zb
  hZ : Z = hvOf v
section
variable {W w w' : World} {B xb zb : Nat} {X Z : HV} {x z : House} {v : Ky → Value} {f : Bool → Nat → Value}
theorem ZS.kpN (s : ZS W B xb zb X Z x v z f w) (q : Kp w.heap.size none w w') (hB : B ≤ w.heap.size) : ZS W B xb zb X Z x v z f w' :=
  ⟨s.kp.thenN q (Nat.le_refl _), s.xl.kpN q, s.xs.kp (q.mono hB), s.zl.kpN q, s.rz.kpN q, s.bW, s.xB, s.zB, s.hZ⟩
theorem ZS.drew (s : ZS W B xb zb X Z x v z f w) : ZS W B xb zb X Z x v z f w.drew :=
  ⟨s.kp.drew, s.xl, s.xs.kp (Kp.refl _ _ _).drew, s.zl, s.rz.kpN (Kp.refl _ _ _).drew, s.bW, s.xB, s.zB, s.hZ⟩
/-- the place of z's motions -/
theorem ZS.mot (s : ZS W B xb zb X Z x v z f w) (d : Bool) (k : Nat) (hk : k < (x.led d).motions.length) :
    ∃ g n cap, v (.motions d) = .slice (some ⟨g, 0, none⟩) n cap ∧ (lvOf v d).ma = some ⟨g, 0, none⟩ ∧ B ≤ g ∧ g < w.heap.size ∧ g < zb := by
  have own : Own w B 52 8 encVM (v (.motions d)) (zipV (f d) 0 (x.led d).motions) := by
    unfold Own
    rw [zipV_len]
    exact s.rz.own (.motions d)
  obtain ⟨A, cap, e, -, q⟩ := own.rd0 (fun _ => rfl)
  rcases q with ⟨-, e2, -⟩ | ⟨g, rfl, h1, h2, -⟩
  · have := congrArg List.length e2
    rw [zipV_len] at this
    simp at this
    rw [this] at hk
    simp at hk
  · refine ⟨g, _, cap, e, ?_, h1, h2, s.zB (.motions d) g (by rw [e]; rfl)⟩
    show slA (v (.motions d)) = _
    rw [e]; rfl
theorem ZS.frozen (s : ZS W B xb zb X Z x v z f w) (d : Bool) {g n cap : Nat} (hv : v (.motions d) = .slice (some ⟨g, 0, none⟩) n cap) (j : Nat) : w.frozen? ⟨g, j, none⟩ = false := by
  have own : Own w B 52 8 encVM (v (.motions d)) (zipV (f d) 0 (x.led d).motions) := by
    unfold Own
    rw [zipV_len]
    exact s.rz.own (.motions d)
  rw [hv] at own
  obtain ⟨A, cap', e, rd, -⟩ := own.rd0 (fun _ => rfl)
  simp only [Value.slice.injEq] at e
  obtain ⟨rfl, rfl, rfl⟩ := e
  exact World.ownsRow.frozenAt own j
theorem ZS.cell (s : ZS W B xb zb X Z x v z f w) (d : Bool) {g n cap : Nat} (hv : v (.motions d) = .slice (some ⟨g, 0, none⟩) n cap) (k : Nat) (hk : k < (x.led d).motions.length) : w.cell? ⟨g, k * 8 + 6, none⟩ = some (f d k) := by
  have own : Own w B 52 8 encVM (v (.motions d)) (zipV (f d) 0 (x.led d).motions) := by
    unfold Own
    rw [zipV_len]
    exact s.rz.own (.motions d)
  rw [hv] at own
  obtain ⟨A, cap', e, rd, -⟩ := own.rd0 (fun _ => rfl)
  simp only [Value.slice.injEq] at e
  obtain ⟨rfl, rfl, rfl⟩ := e
  have hz : k < (zipV (f d) 0 (x.led d).motions).length := by rw [zipV_len]; exact hk
  obtain ⟨b, o', e2, -, -, hcc⟩ := rd.at_ (by omega)
  simp only [Option.some.injEq, Addr.mk.injEq] at e2
  obtain ⟨rfl, rfl, -⟩ := e2
  have := hcc k hz 6 (f d k) (by rw [zipV_at _ _ _ _ hk, Nat.zero_add]; rfl)
  rw [← this]
  congr 2
  omega
theorem ZS.set (s : ZS W B xb zb X Z x v z f w) (hxb : xb < w.heap.size) (d : Bool) {g n cap : Nat} (hv : v (.motions d) = .slice (some ⟨g, 0, none⟩) n cap) (k : Nat) (hk : k < (x.led d).motions.length) (u : Value) :
    ZS W B xb zb X Z x v z (putF f d k u) (w.setCell ⟨g, k * 8 + 6, none⟩ u) := by
  obtain ⟨h1, h2⟩ := RZ.set s.rz hxb d hv k hk u
  have hg : B ≤ g ∧ g < w.heap.size := World.ownsRow.lt (s.rz.own (.motions d)) g (by rw [RZ_v, hv]; rfl)
  have hz := s.zB (.motions d) g (by rw [hv]; rfl)
  have K : Kp B none w (w.setCell ⟨g, k * 8 + 6, none⟩ u) := ⟨h2.os, h2.tape, h2.output, h2.size, fun i hi _ => h2.block i (by omega) (fun e => by injection e with e; omega)⟩
  exact ⟨s.kp.trans (K.mono s.bW), s.xl.kp K s.xB (by simp), s.xs.kp K, s.zl.grownO h2 (fun b e => by injection e with e; omega), h1, s.bW, s.xB, s.zB, s.hZ⟩
theorem ZS.led (s : ZS W B xb zb X Z x v z f w) (hez : HEq2 x z) (d : Bool) (hf : ∀ j, j < (x.led d).motions.length → f d j = vV (if d then X.d else X.r) (x.led d) j) :
    LAt w.heap.size w { lvOf v d with vo := (if d then X.d else X.r).vo } (x.led d) := by
  have q : LAt B w (if d then X.d else X.r) (x.led d) := by
    cases d
    · exact s.xs.r
    · exact s.xs.d
  have h := hez.led d
  have o1 : Own w B 68 6 encKnown (v (.facts d)) (z.led d).facts := s.rz.own (.facts d)
  have o3 : Own w B 106 4 encAlarm (v (.sent d)) (z.led d).sent := s.rz.own (.sent d)
  have o2 : Own w B 52 8 encVM (v (.motions d)) (zipV (f d) 0 (x.led d).motions) := by
    unfold Own
    rw [zipV_len]
    exact s.rz.own (.motions d)
  rw [← h.facts] at o1
  rw [← h.sent] at o3
  refine ⟨(o1.see fun _ => rfl).2, ?_, (o3.see fun _ => rfl).2, fun i => (Lo.of (q.v i).rdN), q.fs, q.ms, q.ss, q.vs⟩
  have e := (o2.see fun _ => rfl).2
  rw [zipV_len] at e
  rw [zipV_congr (f := f d) (g := vV (if d then X.d else X.r) (x.led d)) _ 0 (fun j _ hj => hf j (by omega))] at e
  exact e
theorem ZS.fin (s : ZS W B xb zb X Z x v z f w) (hez : HEq2 x z) (h0 : ∀ j, j < x.real.motions.length → f false j = vV X.r x.real j) (h1 : ∀ j, j < x.drill.motions.length → f true j = vV X.d x.drill j) :
    SAt w.heap.size w ⟨{ Z.r with vo := X.r.vo }, { Z.d with vo := X.d.vo }⟩ x := by
  rw [s.hZ]
  exact ⟨s.led hez false h0, s.led hez true h1⟩
theorem ZS.start {w6 w7 : World} (K : Kp W.heap.size none W w6) (xl : Blk w6 xb 43 #[.int .i64 x.tick, .int .i64 x.real.items, .slice X.r.fa x.real.facts.length X.r.fc, .slice X.r.ma x.real.motions.length X.r.mc, .slice X.r.sa x.real.sent.length X.r.sc, .int .i64 x.drill.items, .slice X.d.fa x.drill.facts.length X.d.fc, .slice X.d.ma x.drill.motions.length X.d.mc, .slice X.d.sa x.drill.sent.length X.d.sc]) (xs : SAt w6.heap.size w6 X x) (ha : HAt w6.heap.size w7 v z) (k7 : Kp w6.heap.size none w6 w7) (hez : HEq2 x z) (hZ : Z = hvOf v) :
    ZS W w6.heap.size xb w7.heap.size X Z x v z (fun d i => v (.voted d i)) (w7.alloc (.cells #[.int .i64 x.tick, .int .i64 x.real.items, .slice Z.r.fa x.real.facts.length Z.r.fc, .slice Z.r.ma x.real.motions.length Z.r.mc, .slice Z.r.sa x.real.sent.length Z.r.sc, .int .i64 x.drill.items, .slice Z.d.fa x.drill.facts.length Z.d.fc, .slice Z.d.ma x.drill.motions.length Z.d.mc, .slice Z.d.sa x.drill.sent.length Z.d.sc] 43)) := by
  have kh := Kp.new w7 (.cells #[.int .i64 x.tick, .int .i64 x.real.items, .slice Z.r.fa x.real.facts.length Z.r.fc, .slice Z.r.ma x.real.motions.length Z.r.mc, .slice Z.r.sa x.real.sent.length Z.r.sc, .int .i64 x.drill.items, .slice Z.d.fa x.drill.facts.length Z.d.fc, .slice Z.d.ma x.drill.motions.length Z.d.mc, .slice Z.d.sa x.drill.sent.length Z.d.sc] 43)
  refine ⟨(K.thenN k7 (Nat.le_refl _)).thenN kh (Nat.le_refl _), (xl.kpN k7).kpN kh, (xs.kp k7).kp (kh.mono k7.size), Blk.new w7 _ _, ?_, K.size, xl.lt, fun k b e => (ha.ge k b e).2, hZ⟩
  obtain ⟨h0, r⟩ := ha
  exact ((r.hbTo (c := xb) xl.lt).eq (RZ.start hez v)).kpN kh
theorem HEq2.cells {Z : HV} (h : HEq2 x z) : (#[.int .i64 z.tick, .int .i64 z.real.items, .slice Z.r.fa z.real.facts.length Z.r.fc, .slice Z.r.ma z.real.motions.length Z.r.mc, .slice Z.r.sa z.real.sent.length Z.r.sc, .int .i64 z.drill.items, .slice Z.d.fa z.drill.facts.length Z.d.fc, .slice Z.d.ma z.drill.motions.length Z.d.mc, .slice Z.d.sa z.drill.sent.length Z.d.sc] : Array Value) = #[.int .i64 x.tick, .int .i64 x.real.items, .slice Z.r.fa x.real.facts.length Z.r.fc, .slice Z.r.ma x.real.motions.length Z.r.mc, .slice Z.r.sa x.real.sent.length Z.r.sc, .int .i64 x.drill.items, .slice Z.d.fa x.drill.facts.length Z.d.fc, .slice Z.d.ma x.drill.motions.length Z.d.mc, .slice Z.d.sa x.drill.sent.length Z.d.sc] := by
  rw [← h.tick, ← h.real.items, ← h.real.facts, ← h.real.sent, ← h.drill.items, ← h.drill.facts, ← h.drill.sent, h.real.motions.len, h.drill.motions.len]
end
end Go.Proofs.YtogpgnljomchcaaGreat
