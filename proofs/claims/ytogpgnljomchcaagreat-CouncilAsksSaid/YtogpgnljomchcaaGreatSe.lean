/- A house as it is read: its slices, each below a bound; what Build tells, in these words. -/
import Derived.Test.YtogpgnljomchcaaGreatJpAll
namespace Go.Proofs.YtogpgnljomchcaaGreat
open Go.RowKit

structure LV where
  fa : Option Addr
  fc : Nat
  ma : Option Addr
  mc : Nat
  sa : Option Addr
  sc : Nat
  vo : Nat → Option Addr × Nat
structure HV where
  r : LV
  d : LV
def vV (L : LV) (l : Ledger) (i : Nat) : Value := .slice (L.vo i).1 (votedOf l i).length (L.vo i).2
structure LAt (B : Nat) (w : World) (L : LV) (l : Ledger) : Prop where
  f : Lo B w 6 encKnown L.fa l.facts.length l.facts
  m : Lo B w 8 encVM L.ma l.motions.length (zipV (vV L l) 0 l.motions)
  s : Lo B w 4 encAlarm L.sa l.sent.length l.sent
  v : ∀ i, Lo B w 1 encI (L.vo i).1 (votedOf l i).length (votedOf l i)
  fs : l.facts.length ≤ 17592186044416
  ms : l.motions.length ≤ 17592186044416
  ss : l.sent.length ≤ 17592186044416
  vs : ∀ i, (votedOf l i).length ≤ 17592186044416
structure SAt (B : Nat) (w : World) (X : HV) (h : House) : Prop where
  r : LAt B w X.r h.real
  d : LAt B w X.d h.drill
section
variable {B B' : Nat} {w w' : World} {L : LV} {l : Ledger} {X : HV} {h : House}
theorem LAt.kp (s : LAt B w L l) (k : Kp B none w w') : LAt B w' L l := ⟨s.f.kp k, s.m.kp k, s.s.kp k, fun i => (s.v i).kp k, s.fs, s.ms, s.ss, s.vs⟩
theorem LAt.kpN (s : LAt B w L l) (k : Kp w.heap.size none w w') : LAt B w' L l := ⟨s.f.kpN k, s.m.kpN k, s.s.kpN k, fun i => (s.v i).kpN k, s.fs, s.ms, s.ss, s.vs⟩
theorem LAt.wide (s : LAt B w L l) (hB : B ≤ B') : LAt B' w L l := ⟨s.f.wide hB, s.m.wide hB, s.s.wide hB, fun i => (s.v i).wide hB, s.fs, s.ms, s.ss, s.vs⟩
theorem SAt.kp (s : SAt B w X h) (k : Kp B none w w') : SAt B w' X h := ⟨s.r.kp k, s.d.kp k⟩
theorem SAt.kpN (s : SAt B w X h) (k : Kp w.heap.size none w w') : SAt B w' X h := ⟨s.r.kpN k, s.d.kpN k⟩
theorem SAt.wide (s : SAt B w X h) (hB : B ≤ B') : SAt B' w X h := ⟨s.r.wide hB, s.d.wide hB⟩
end
def slA : Value → Option Addr
  | .slice A _ _ => A
  | _ => none
def slC : Value → Nat
  | .slice _ _ c => c
  | _ => 0
def lvOf (v : Ky → Value) (d : Bool) : LV := ⟨slA (v (.facts d)), slC (v (.facts d)), slA (v (.motions d)), slC (v (.motions d)), slA (v (.sent d)), slC (v (.sent d)), fun i => (slA (v (.voted d i)), slC (v (.voted d i)))⟩
def hvOf (v : Ky → Value) : HV := ⟨lvOf v false, lvOf v true⟩
theorem Own.see {α : Type} {w : World} {B e sz : Nat} {enc : α → List Value} {v : Value} {xs : List α} (h : Own w B e sz enc v xs) (he : ∀ x, (enc x).length = sz) : v = .slice (slA v) xs.length (slC v) ∧ Lo w.heap.size w sz enc (slA v) xs.length xs := by
  obtain ⟨A, cap, e1, r, -⟩ := h.rd0 he
  rw [e1]
  exact ⟨rfl, Lo.of r⟩
theorem votedOf_le {c : Council} {n : Nat} {l : Ledger} (h : LedOk c n l) (i : Nat) : (votedOf l i).length ≤ n := by
  unfold votedOf
  cases hm : l.motions[i]? with
  | none => simp [vOf]
  | some m => exact h.vlen m (List.mem_of_getElem? hm)
theorem RowsAt.see {B hb n : Nat} {w : World} {v : Ky → Value} {h : House} {c : Council} (r : RowsAt B hb w (rowOf h v)) (hk : HouseOk c n h) (hn : n ≤ 1000000) (d : Bool) : LAt w.heap.size w (lvOf v d) (h.led d) := by
  have k := hk.led d
  have ev : (fun i => v (.voted d i)) = vV (lvOf v d) (h.led d) := funext fun i => ((r.voted d i).see fun _ => rfl).1
  refine ⟨((r.facts d).see fun _ => rfl).2, ?_, ((r.sent d).see fun _ => rfl).2, fun i => ((r.voted d i).see fun _ => rfl).2, ?_, ?_, ?_, fun i => ?_⟩
  · have := ((r.motions d).see fun _ => rfl).2
    rw [ev, zipV_len] at this
    exact this
  · have := k.flen; omega
  · have := k.mlen; omega
  · have := k.slen; omega
  · have := votedOf_le k i; omega
theorem rCells_see {B hb : Nat} {w : World} {v : Ky → Value} {h : House} (r : RowsAt B hb w (rowOf h v)) (X : HV) (hX : X = hvOf v) : rCells v h = #[.int .i64 h.tick, .int .i64 h.real.items, .slice X.r.fa h.real.facts.length X.r.fc, .slice X.r.ma h.real.motions.length X.r.mc, .slice X.r.sa h.real.sent.length X.r.sc, .int .i64 h.drill.items, .slice X.d.fa h.drill.facts.length X.d.fc, .slice X.d.ma h.drill.motions.length X.d.mc, .slice X.d.sa h.drill.sent.length X.d.sc] := by
  subst hX
  rw [rCells_eq]
  have f0 := ((r.facts false).see fun _ => rfl).1
  have f1 := ((r.facts true).see fun _ => rfl).1
  have s0 := ((r.sent false).see fun _ => rfl).1
  have s1 := ((r.sent true).see fun _ => rfl).1
  have m0 := ((r.motions false).see fun _ => rfl).1
  have m1 := ((r.motions true).see fun _ => rfl).1
  rw [zipV_len] at m0 m1
  conv => lhs; rw [f0, f1, s0, s1, m0, m1]
  rfl
theorem runItems_ok {c : Council} (hc : CouncilOk c) : ∀ {l : List CItem} {n : Nat} {i : Int} {h : House}, HouseOk c n h → HouseOk c (n + l.length) (runItems c i h l).1
  | [], n, i, h, p => p
  | x :: r, n, i, h, p => by
    unfold runItems
    split
    · rename_i e
      have := runItems_ok hc (l := r) (i := i + 1) (do_ok hc p e)
      rw [List.length_cons, show n + (r.length + 1) = n + 1 + r.length from by omega]
      exact this
    · exact ⟨p.t0, p.t1, fun d => (p.led d).mono (by omega)⟩
theorem buildC_ok (c : Council) (l : List CItem) : HouseOk c l.length (buildC c l).1 := by
  unfold buildC
  split
  · exact zeroHouse_ok c _
  split
  · exact zeroHouse_ok c _
  · rename_i h1 _
    have := runItems_ok (councilOk_of (by simpa using h1)) (l := l) (i := 0) (zeroHouse_ok c 0)
    rwa [Nat.zero_add] at this
def SeePost (R : House × Int × Int) (w : World) (e : Ending) (w' : World) : Prop :=
  ∃ v X, X = hvOf v ∧ e = .returned (.tuple #[.agg #[.int .i64 R.1.tick, .int .i64 R.1.real.items, .slice X.r.fa R.1.real.facts.length X.r.fc, .slice X.r.ma R.1.real.motions.length X.r.mc, .slice X.r.sa R.1.real.sent.length X.r.sc, .int .i64 R.1.drill.items, .slice X.d.fa R.1.drill.facts.length X.d.fc, .slice X.d.ma R.1.drill.motions.length X.d.mc, .slice X.d.sa R.1.drill.sent.length X.d.sc], .int .i64 R.2.1, .int .i64 R.2.2]) ∧ HAt w.heap.size w' v R.1 ∧ SAt w'.heap.size w' X R.1 ∧ Kp w.heap.size none w w'
theorem build_see (V : CV) (c : Council) (A : Option Addr) (cap : Nat) (l : List CItem) (w : World) (hc : CAt w.heap.size w V c) (hr : Rd none w 9 encItem A l.length l) (hl : l.length ≤ 1000000) :
    Calls Tryz.prog 8 #[.agg #[.slice V.am c.members.length V.cm, .slice V.al c.laws.length V.cl, .slice V.av c.levels.length V.cv], .slice A l.length cap] w (SeePost (buildC c l) w) := by
  refine (build_any V c A cap l w hc hr hl).mono ?_
  rintro e w' ⟨v, he, ⟨hb, r⟩, k⟩
  refine ⟨v, hvOf v, rfl, ?_, ⟨hb, r⟩, ⟨r.see (buildC_ok c l) hl false, r.see (buildC_ok c l) hl true⟩, k⟩
  rw [he, rCells_see r (hvOf v) rfl]
end Go.Proofs.YtogpgnljomchcaaGreat
