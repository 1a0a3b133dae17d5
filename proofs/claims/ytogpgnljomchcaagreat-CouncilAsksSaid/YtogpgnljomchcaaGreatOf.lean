/- council.Of: what is known of a target. -/
import Derived.Test.YtogpgnljomchcaaGreatAw
namespace Go.Proofs.YtogpgnljomchcaaGreat
open Go.RowKit

def zKnown : Known := ⟨0, 0, 0, ⟨0, 0, 0⟩⟩
def OfIs (l : Ledger) (t : Int) (k : Known) (b : Bool) : Prop := (knownOf l t = some k ∧ b = true) ∨ (knownOf l t = none ∧ b = false ∧ k = zKnown)
def OfPost (l : Ledger) (t : Int) (w : World) (e : Ending) (w' : World) : Prop :=
  ∃ k b, e = .returned (.tuple #[.agg #[.int .i64 k.target, .int .i64 k.level, .int .i64 k.item, .int .i64 k.chance.least, .int .i64 k.chance.most, .int .i64 k.chance.all], .bool b]) ∧ OfIs l t k b ∧ Kp w.heap.size none w w'
def setOf (w : World) (g : Nat) (k : Known) : World := (((((w.setCell ⟨g, 0, none⟩ (.int .i64 k.target)).setCell ⟨g, 1, none⟩ (.int .i64 k.level)).setCell ⟨g, 2, none⟩ (.int .i64 k.item)).setCell ⟨g, 3, none⟩ (.int .i64 k.chance.least)).setCell ⟨g, 4, none⟩ (.int .i64 k.chance.most)).setCell ⟨g, 5, none⟩ (.int .i64 k.chance.all)
theorem setOf_grown (w : World) (g : Nat) (k : Known) : w.grownBy (setOf w g k) (some g) :=
  grown_trans (grown_trans (grown_trans (grown_trans (grown_trans (grown_set _ _ _ _) (grown_set _ _ _ _)) (grown_set _ _ _ _)) (grown_set _ _ _ _)) (grown_set _ _ _ _)) (grown_set _ _ _ _)
theorem Blk.setOf {w : World} {g : Nat} {t : TypeId} {x0 x1 x2 x3 x4 x5 : Value} (h : Blk w g t #[x0, x1, x2, x3, x4, x5]) (k : Known) : Blk (setOf w g k) g t #[.int .i64 k.target, .int .i64 k.level, .int .i64 k.item, .int .i64 k.chance.least, .int .i64 k.chance.most, .int .i64 k.chance.all] := by
  have := (((((h.set_ 0 (.int .i64 k.target)).set_ 1 (.int .i64 k.level)).set_ 2 (.int .i64 k.item)).set_ 3 (.int .i64 k.chance.least)).set_ 4 (.int .i64 k.chance.most)).set_ 5 (.int .i64 k.chance.all)
  unfold Go.Proofs.YtogpgnljomchcaaGreat.setOf
  simpa using this
theorem setOf_kp {w0 w : World} {g : Nat} (q : Kp w0.heap.size none w0 w) (hg : w0.heap.size ≤ g) (k : Known) : Kp w0.heap.size none w0 (setOf w g k) :=
  have h := setOf_grown w g k
  ⟨h.os.trans q.os, h.tape.trans q.tape, h.output.trans q.output, Nat.le_trans q.size h.size, fun i hi hn => (h.block i (Nat.lt_of_lt_of_le hi q.size) (fun e => by injection e with e; omega)).trans (q.block i hi hn)⟩
set_option maxRecDepth 20000 in
set_option maxHeartbeats 4000000 in
theorem council_Of_any (L : LV) (l : Ledger) (t : Int) (w : World) (s : LAt w.heap.size w L l) :
    Calls Tryz.prog 25 #[.agg #[.int .i64 l.items, .slice L.fa l.facts.length L.fc, .slice L.ma l.motions.length L.mc, .slice L.sa l.sent.length L.sc], .int .i64 t] w (OfPost l t w) := by
  obtain ⟨fa, fc, ma, mc, sa, sc, vo⟩ := L
  have LB := ((Blk.new w 41 #[.int .i64 l.items, .slice fa l.facts.length fc, .slice ma l.motions.length mc, .slice sa l.sent.length sc]).alloc (.cells #[.int .i64 t] 3)).alloc (.cells #[.int .i64 zKnown.target, .int .i64 zKnown.level, .int .i64 zKnown.item, .int .i64 zKnown.chance.least, .int .i64 zKnown.chance.most, .int .i64 zKnown.chance.all] 68)
  have TB := (Blk.newAt (w.alloc (.cells #[.int .i64 l.items, .slice fa l.facts.length fc, .slice ma l.motions.length mc, .slice sa l.sent.length sc] 41)) 3 #[.int .i64 t] (n := w.heap.size + 1) (by simp)).alloc (.cells #[.int .i64 zKnown.target, .int .i64 zKnown.level, .int .i64 zKnown.item, .int .i64 zKnown.chance.least, .int .i64 zKnown.chance.most, .int .i64 zKnown.chance.all] 68)
  have ZB := Blk.newAt ((w.alloc (.cells #[.int .i64 l.items, .slice fa l.facts.length fc, .slice ma l.motions.length mc, .slice sa l.sent.length sc] 41)).alloc (.cells #[.int .i64 t] 3)) 68 #[.int .i64 zKnown.target, .int .i64 zKnown.level, .int .i64 zKnown.item, .int .i64 zKnown.chance.least, .int .i64 zKnown.chance.most, .int .i64 zKnown.chance.all] (n := w.heap.size + 1 + 1) (by simp)
  have KK := (Kp.new2 w (.cells #[.int .i64 l.items, .slice fa l.facts.length fc, .slice ma l.motions.length mc, .slice sa l.sent.length sc] 41) (.cells #[.int .i64 t] 3)).alloc (by simp; omega) (.cells #[.int .i64 zKnown.target, .int .i64 zKnown.level, .int .i64 zKnown.item, .int .i64 zKnown.chance.least, .int .i64 zKnown.chance.most, .int .i64 zKnown.chance.all] 68)
  have hr := (s.f.kpN KK).rdN
  have hn := s.fs
  have eg : ∀ args w, (callFunc 53 args).run Tryz.prog w = .ok (.enter 53 args) w := enters_of Tryz.func53 (by kernel_rfl) rfl
  clear s
  go_enter Tryz.func25, Tryz.ntmps25
  go_upto_region 1 with (fail)
  change Code.wp _ _ _ _ (((w.alloc (.cells #[.int .i64 l.items, .slice fa l.facts.length fc, .slice ma l.motions.length mc, .slice sa l.sent.length sc] 41)).alloc (.cells #[.int .i64 t] 3)).alloc (.cells #[.int .i64 zKnown.target, .int .i64 zKnown.level, .int .i64 zKnown.item, .int .i64 zKnown.chance.least, .int .i64 zKnown.chance.most, .int .i64 zKnown.chance.all] 68))
  obtain ⟨b1, hb1⟩ : ∃ q, q = w.heap.size := ⟨_, rfl⟩
  obtain ⟨b2, hb2⟩ : ∃ q, q = w.heap.size + 1 := ⟨_, rfl⟩
  obtain ⟨b3, hb3⟩ : ∃ q, q = w.heap.size + 1 + 1 := ⟨_, rfl⟩
  rw [← hb3, ← hb2, ← hb1]
  rw [← hb1] at LB
  rw [← hb2] at TB
  rw [← hb3] at ZB
  have hw3 : w.heap.size ≤ b3 := by omega
  generalize ((w.alloc (.cells #[.int .i64 l.items, .slice fa l.facts.length fc, .slice ma l.motions.length mc, .slice sa l.sent.length sc] 41)).alloc (.cells #[.int .i64 t] 3)).alloc (.cells #[.int .i64 zKnown.target, .int .i64 zKnown.level, .int .i64 zKnown.item, .int .i64 zKnown.chance.least, .int .i64 zKnown.chance.most, .int .i64 zKnown.chance.all] 68) = w1 at LB TB ZB KK hr ⊢
  clear hb1 hb2 hb3
  have cl := fun i => LB.cell i
  go_wp2_with fail
  refine (indexKnown_any 53 _ (fun x => x.target == t) eg fa fc l.facts w1 (of1_pred _ _ _ (TB.cell 0)) hr hn).mono ?_
  rintro e w2 ⟨rfl, k2⟩
  replace LB := LB.kpN k2
  replace ZB := ZB.kpN k2
  replace hr := hr.kpN k2
  replace KK := KK.thenN k2 (Nat.le_refl _)
  clear k2 cl TB eg
  have cl := fun i => LB.cell i
  have cz := fun i => ZB.cell i
  have fz := fun i => ZB.frozen i
  rcases idx_spec (fun x : Known => x.target == t) l.facts 0 with ⟨h1, h2⟩ | ⟨i, hi, h1, h2, h3, h4⟩
  · rw [h1]
    have Z9 := ZB.setOf zKnown
    have K9 := setOf_kp KK hw3 zKnown
    have hfin : OfIs l t zKnown false := .inr ⟨h2, rfl, rfl⟩
    replace hfin := Lib.hid hfin
    clear h1 h2 KK ZB LB
    replace Z9 := Lib.hid Z9
    go_wp2_with fail
    change bodyPost _ _ _ _ _ (setOf w2 b3 zKnown)
    generalize setOf w2 b3 zKnown = w9 at Z9 K9 ⊢
    replace Z9 := Z9.out
    have c9 := fun i => Z9.cell i
    exact bodyPost_ret (v := .tuple #[.agg #[.int .i64 zKnown.target, .int .i64 zKnown.level, .int .i64 zKnown.item, .int .i64 zKnown.chance.least, .int .i64 zKnown.chance.most, .int .i64 zKnown.chance.all], .bool false]) (by simp [results, Tryz.results25, go_sem, c9]) rfl ⟨zKnown, false, rfl, hfin.out, K9⟩
  · rw [h1]
    have hi' : (i : Int) < (l.facts.length : Int) := by omega
    have hi0 : ¬ (i : Int) < 0 := by omega
    simp only [Int.zero_add]
    replace hr := Lib.hid hr
    replace KK := Lib.hid KK
    replace h2 := Lib.hid h2
    clear h1 h3 h4 hn
    replace hi := Lib.hid hi
    go_upto_region 4 with (fail)
    replace hi := hi.out
    replace hr := hr.out
    replace KK := KK.out
    replace h2 := h2.out
    clear hi0
    obtain ⟨b, o, eA, hb, -, hc⟩ := hr.2 (by omega)
    have eA' : fa = some ⟨b, o, none⟩ := eA
    subst eA'
    clear eA
    obtain ⟨k, hk⟩ : ∃ k, k = l.facts[i] := ⟨_, rfl⟩
    have hcc := fun j v => hc i hi j v
    rw [← hk] at hcc h2
    have c0 : w2.cell? ⟨b, o + i * 6, none⟩ = some (.int .i64 k.target) := hcc 0 _ rfl
    have c1 : w2.cell? ⟨b, o + i * 6 + 1, none⟩ = some (.int .i64 k.level) := by rw [Nat.add_assoc]; exact hcc 1 _ rfl
    have c2 : w2.cell? ⟨b, o + i * 6 + 2, none⟩ = some (.int .i64 k.item) := by rw [Nat.add_assoc]; exact hcc 2 _ rfl
    have c3 : w2.cell? ⟨b, o + i * 6 + 3, none⟩ = some (.int .i64 k.chance.least) := by rw [Nat.add_assoc]; exact hcc 3 _ rfl
    have c4 : w2.cell? ⟨b, o + i * 6 + 4, none⟩ = some (.int .i64 k.chance.most) := by rw [Nat.add_assoc]; exact hcc 4 _ rfl
    have c5 : w2.cell? ⟨b, o + i * 6 + 5, none⟩ = some (.int .i64 k.chance.all) := by rw [Nat.add_assoc]; exact hcc 5 _ rfl
    have Z9 := ZB.setOf k
    have K9 := setOf_kp KK hw3 k
    have hfin : OfIs l t k true := .inl ⟨h2, rfl⟩
    replace hfin := Lib.hid hfin
    replace Z9 := Lib.hid Z9
    clear h2 KK ZB LB hc hcc hk hr hi
    go_wp2_with fail
    change bodyPost _ _ _ _ _ (setOf w2 b3 k)
    generalize setOf w2 b3 k = w9 at Z9 K9 ⊢
    replace Z9 := Z9.out
    clear c0 c1 c2 c3 c4 c5 cl cz fz
    have c9 := fun i => Z9.cell i
    exact bodyPost_ret (v := .tuple #[.agg #[.int .i64 k.target, .int .i64 k.level, .int .i64 k.item, .int .i64 k.chance.least, .int .i64 k.chance.most, .int .i64 k.chance.all], .bool true]) (by simp [results, Tryz.results25, go_sem, c9]) rfl ⟨k, true, rfl, hfin.out, K9⟩
end Go.Proofs.YtogpgnljomchcaaGreat
