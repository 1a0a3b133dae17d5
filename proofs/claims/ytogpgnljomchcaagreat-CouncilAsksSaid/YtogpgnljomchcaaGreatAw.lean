/- The chapter's example that every law asks. -/
import Derived.Test.YtogpgnljomchcaaGreatSe
namespace Go.Proofs.YtogpgnljomchcaaGreat
open Go.RowKit

theorem Rd.of_blk {α : Type} {w : World} {b : Nat} {t : TypeId} {sz : Nat} {enc : α → List Value} (xs : List α) (he : ∀ x, (enc x).length = sz) {cs : Array Value} (hc : cs.toList = xs.flatMap enc) (hB : Blk w b t cs) (row : Option Nat) (hr : some b ≠ row) :
    Rd row w sz enc (some ⟨b, 0, none⟩) xs.length xs := by
  refine ⟨rfl, fun _ => ⟨b, 0, rfl, hB.lt, hr, fun i hi j v hv => ?_⟩⟩
  have hj : j < sz := by
    have := (List.getElem?_eq_some_iff.1 hv).1
    rwa [he] at this
  rw [Nat.zero_add, hB.cell, ← Array.getElem?_toList, hc, flat_at he xs i hi j hj]
  exact hv
theorem CAt.next {w w' : World} {V : CV} {c : Council} (h : CAt w.heap.size w V c) (k : Kp w.heap.size none w w') : CAt w'.heap.size w' V c := (h.kpN k).wide k.size
theorem SAt.next {w w' : World} {X : HV} {h : House} (s : SAt w.heap.size w X h) (k : Kp w.heap.size none w w') : SAt w'.heap.size w' X h := (s.kpN k).wide k.size
theorem LAt.next {w w' : World} {L : LV} {l : Ledger} (s : LAt w.heap.size w L l) (k : Kp w.heap.size none w w') : LAt w'.heap.size w' L l := (s.kpN k).wide k.size
def shownC : Council := ⟨[⟨1, 50⟩, ⟨2, 30⟩, ⟨3, 20⟩], [⟨7, 1, 10, 600, 500⟩], [1000000, 100000000]⟩
def factI (tick target least most all : Int) : CItem := ⟨1, tick, false, target, 0, false, ⟨least, most, all⟩⟩
def moveI (tick target act : Int) : CItem := ⟨2, tick, false, target, act, false, ⟨0, 0, 0⟩⟩
def voteI (tick motion member : Int) (yes : Bool) : CItem := ⟨3, tick, false, motion, member, yes, ⟨0, 0, 0⟩⟩
def closedI (tick motion : Int) : CItem := ⟨4, tick, false, motion, 0, false, ⟨0, 0, 0⟩⟩
def zItem : CItem := ⟨0, 0, false, 0, 0, false, ⟨0, 0, 0⟩⟩
def awakeL : List CItem := [factI 1 9 0 1 1000, moveI 2 9 7, voteI 3 0 1 true, voteI 3 0 3 false, closedI 13 0]
def awakeM : Motion := ⟨9, 7, 2, 2, 50, 20, [1, 3], 0⟩
def awakeH : House := ⟨13, ⟨5, [⟨9, 1, 0, ⟨0, 1, 1000⟩⟩], [awakeM], [⟨1, 9, 1, false⟩]⟩, ⟨0, [], [], []⟩⟩
theorem awake_build : buildC shownC awakeL = (awakeH, -1, 0) := by decide
theorem awake_level : levelI shownC ⟨0, 1, 1000⟩ = 1 := by decide
set_option maxHeartbeats 1000000 in
theorem shown_any (w : World) : Calls Tryz.prog 39 #[] w fun e w' => ∃ V, e = .returned (.agg #[.slice V.am shownC.members.length V.cm, .slice V.al shownC.laws.length V.cl, .slice V.av shownC.levels.length V.cv]) ∧ CAt w'.heap.size w' V shownC ∧ Kp w.heap.size none w w' := by
  have fin : ∀ (e : Ending) (w' : World) (b1 b2 b3 : Nat) (t1 t2 t3 : TypeId), e = .returned (.agg #[.slice (some ⟨b1, 0, none⟩) 3 3, .slice (some ⟨b2, 0, none⟩) 1 1, .slice (some ⟨b3, 0, none⟩) 2 2]) →
      Blk w' b1 t1 #[.int .i64 1, .int .i64 50, .int .i64 2, .int .i64 30, .int .i64 3, .int .i64 20] → Blk w' b2 t2 #[.int .i64 7, .int .i64 1, .int .i64 10, .int .i64 600, .int .i64 500] → Blk w' b3 t3 #[.int .i64 1000000, .int .i64 100000000] → Kp w.heap.size none w w' →
      ∃ V, e = .returned (.agg #[.slice V.am shownC.members.length V.cm, .slice V.al shownC.laws.length V.cl, .slice V.av shownC.levels.length V.cv]) ∧ CAt w'.heap.size w' V shownC ∧ Kp w.heap.size none w w' := fun e w' b1 b2 b3 t1 t2 t3 he h1 h2 h3 k =>
    ⟨⟨some ⟨b1, 0, none⟩, 3, some ⟨b2, 0, none⟩, 1, some ⟨b3, 0, none⟩, 2⟩, he, ⟨Lo.of (Rd.of_blk (enc := encMember) (sz := 2) shownC.members (fun _ => rfl) rfl h1 none (by simp)), Lo.of (Rd.of_blk (enc := encLaw) (sz := 5) shownC.laws (fun _ => rfl) rfl h2 none (by simp)), Lo.of (Rd.of_blk (enc := encI) (sz := 1) shownC.levels (fun _ => rfl) rfl h3 none (by simp)), by decide, by decide, by decide⟩, k⟩
  replace fin := Lib.hid fin
  go_enter Tryz.func39, Tryz.ntmps39
  go_wp2_with fail
  obtain ⟨o0, ho0⟩ : ∃ q, q = Obj.cells #[Value.slice (some ⟨w.heap.size + 1, 0, none⟩) 3 3, Value.slice (some ⟨w.heap.size + 1 + 1, 0, none⟩) 1 1, Value.slice (some ⟨w.heap.size + 1 + 1 + 1, 0, none⟩) 2 2] 28 := ⟨_, rfl⟩
  obtain ⟨o1, ho1⟩ : ∃ q, q = Obj.cells #[Value.int .i64 1, .int .i64 50, .int .i64 2, .int .i64 30, .int .i64 3, .int .i64 20] 99 := ⟨_, rfl⟩
  obtain ⟨o2, ho2⟩ : ∃ q, q = Obj.cells #[Value.int .i64 7, .int .i64 1, .int .i64 10, .int .i64 600, .int .i64 500] 101 := ⟨_, rfl⟩
  obtain ⟨o3, ho3⟩ : ∃ q, q = Obj.cells #[Value.int .i64 1000000, .int .i64 100000000] 2 := ⟨_, rfl⟩
  have B0 := ((Blk.new w 28 #[Value.slice (some ⟨w.heap.size + 1, 0, none⟩) 3 3, Value.slice (some ⟨w.heap.size + 1 + 1, 0, none⟩) 1 1, Value.slice (some ⟨w.heap.size + 1 + 1 + 1, 0, none⟩) 2 2]).alloc o1).alloc o2 |>.alloc o3
  rw [← ho0] at B0
  have B1 := (Blk.newAt (w.alloc o0) 99 #[Value.int .i64 1, .int .i64 50, .int .i64 2, .int .i64 30, .int .i64 3, .int .i64 20] (n := w.heap.size + 1) (by simp)).alloc o2 |>.alloc o3
  rw [← ho1] at B1
  have B2 := (Blk.newAt ((w.alloc o0).alloc o1) 101 #[Value.int .i64 7, .int .i64 1, .int .i64 10, .int .i64 600, .int .i64 500] (n := w.heap.size + 1 + 1) (by simp)).alloc o3
  rw [← ho2] at B2
  have B3 := Blk.newAt (((w.alloc o0).alloc o1).alloc o2) 2 #[Value.int .i64 1000000, .int .i64 100000000] (n := w.heap.size + 1 + 1 + 1) (by simp)
  rw [← ho3] at B3
  have K3 : Kp w.heap.size none w ((((w.alloc o0).alloc o1).alloc o2).alloc o3) := (((Kp.new w o0).alloc (by simp) o1).alloc (by simp; omega) o2).alloc (by simp; omega) o3
  rw [← ho0, ← ho1, ← ho2, ← ho3]
  clear ho0 ho1 ho2 ho3
  generalize (((w.alloc o0).alloc o1).alloc o2).alloc o3 = w4 at B0 B1 B2 B3 K3 ⊢
  have c0 := fun i => B0.cell i
  exact bodyPost_ret (v := .agg #[.slice (some ⟨w.heap.size + 1, 0, none⟩) 3 3, .slice (some ⟨w.heap.size + 1 + 1, 0, none⟩) 1 1, .slice (some ⟨w.heap.size + 1 + 1 + 1, 0, none⟩) 2 2]) (by simp [results, Tryz.results39, go_sem, c0]) rfl (fin.out _ _ _ _ _ _ _ _ rfl B1 B2 B3 K3)
set_option maxHeartbeats 1000000 in
theorem fact_item (tick target least most all : Int) (w : World) (q : CItem) (hq : q = factI tick target least most all) : Calls Tryz.prog 40 #[.int .i64 tick, .int .i64 target, .int .i64 least, .int .i64 most, .int .i64 all] w fun e w' => e = .returned (.agg #[.int .i64 q.kind, .int .i64 q.tick, .bool q.drill, .int .i64 q.a, .int .i64 q.b, .bool q.yes, .int .i64 q.chance.least, .int .i64 q.chance.most, .int .i64 q.chance.all]) ∧ Kp w.heap.size none w w' := by
  have K0 := Kp.new w (.cells #[.int .i64 q.kind, .int .i64 q.tick, .bool q.drill, .int .i64 q.a, .int .i64 q.b, .bool q.yes, .int .i64 q.chance.least, .int .i64 q.chance.most, .int .i64 q.chance.all] 36)
  have B0 := Blk.new w 36 #[.int .i64 q.kind, .int .i64 q.tick, .bool q.drill, .int .i64 q.a, .int .i64 q.b, .bool q.yes, .int .i64 q.chance.least, .int .i64 q.chance.most, .int .i64 q.chance.all]
  subst hq
  go_enter Tryz.func40, Tryz.ntmps40
  go_wp2_with fail
  have cb := fun i => B0.cell i
  exact bodyPost_ret (v := .agg #[.int .i64 (factI tick target least most all).kind, .int .i64 (factI tick target least most all).tick, .bool (factI tick target least most all).drill, .int .i64 (factI tick target least most all).a, .int .i64 (factI tick target least most all).b, .bool (factI tick target least most all).yes, .int .i64 (factI tick target least most all).chance.least, .int .i64 (factI tick target least most all).chance.most, .int .i64 (factI tick target least most all).chance.all]) (by simp [results, Tryz.results40, go_sem, cb, factI]) rfl ⟨rfl, K0⟩
set_option maxHeartbeats 1000000 in
theorem move_item (tick target act : Int) (w : World) (q : CItem) (hq : q = moveI tick target act) : Calls Tryz.prog 41 #[.int .i64 tick, .int .i64 target, .int .i64 act] w fun e w' => e = .returned (.agg #[.int .i64 q.kind, .int .i64 q.tick, .bool q.drill, .int .i64 q.a, .int .i64 q.b, .bool q.yes, .int .i64 q.chance.least, .int .i64 q.chance.most, .int .i64 q.chance.all]) ∧ Kp w.heap.size none w w' := by
  have K0 := Kp.new w (.cells #[.int .i64 q.kind, .int .i64 q.tick, .bool q.drill, .int .i64 q.a, .int .i64 q.b, .bool q.yes, .int .i64 q.chance.least, .int .i64 q.chance.most, .int .i64 q.chance.all] 36)
  have B0 := Blk.new w 36 #[.int .i64 q.kind, .int .i64 q.tick, .bool q.drill, .int .i64 q.a, .int .i64 q.b, .bool q.yes, .int .i64 q.chance.least, .int .i64 q.chance.most, .int .i64 q.chance.all]
  subst hq
  go_enter Tryz.func41, Tryz.ntmps41
  go_wp2_with fail
  have cb := fun i => B0.cell i
  exact bodyPost_ret (v := .agg #[.int .i64 (moveI tick target act).kind, .int .i64 (moveI tick target act).tick, .bool (moveI tick target act).drill, .int .i64 (moveI tick target act).a, .int .i64 (moveI tick target act).b, .bool (moveI tick target act).yes, .int .i64 (moveI tick target act).chance.least, .int .i64 (moveI tick target act).chance.most, .int .i64 (moveI tick target act).chance.all]) (by simp [results, Tryz.results41, go_sem, cb, moveI]) rfl ⟨rfl, K0⟩
set_option maxHeartbeats 1000000 in
theorem vote_item (tick motion member : Int) (yes : Bool) (w : World) (q : CItem) (hq : q = voteI tick motion member yes) : Calls Tryz.prog 42 #[.int .i64 tick, .int .i64 motion, .int .i64 member, .bool yes] w fun e w' => e = .returned (.agg #[.int .i64 q.kind, .int .i64 q.tick, .bool q.drill, .int .i64 q.a, .int .i64 q.b, .bool q.yes, .int .i64 q.chance.least, .int .i64 q.chance.most, .int .i64 q.chance.all]) ∧ Kp w.heap.size none w w' := by
  have K0 := Kp.new w (.cells #[.int .i64 q.kind, .int .i64 q.tick, .bool q.drill, .int .i64 q.a, .int .i64 q.b, .bool q.yes, .int .i64 q.chance.least, .int .i64 q.chance.most, .int .i64 q.chance.all] 36)
  have B0 := Blk.new w 36 #[.int .i64 q.kind, .int .i64 q.tick, .bool q.drill, .int .i64 q.a, .int .i64 q.b, .bool q.yes, .int .i64 q.chance.least, .int .i64 q.chance.most, .int .i64 q.chance.all]
  subst hq
  go_enter Tryz.func42, Tryz.ntmps42
  go_wp2_with fail
  have cb := fun i => B0.cell i
  exact bodyPost_ret (v := .agg #[.int .i64 (voteI tick motion member yes).kind, .int .i64 (voteI tick motion member yes).tick, .bool (voteI tick motion member yes).drill, .int .i64 (voteI tick motion member yes).a, .int .i64 (voteI tick motion member yes).b, .bool (voteI tick motion member yes).yes, .int .i64 (voteI tick motion member yes).chance.least, .int .i64 (voteI tick motion member yes).chance.most, .int .i64 (voteI tick motion member yes).chance.all]) (by simp [results, Tryz.results42, go_sem, cb, voteI]) rfl ⟨rfl, K0⟩
set_option maxHeartbeats 1000000 in
theorem closed_item (tick motion : Int) (w : World) (q : CItem) (hq : q = closedI tick motion) : Calls Tryz.prog 43 #[.int .i64 tick, .int .i64 motion] w fun e w' => e = .returned (.agg #[.int .i64 q.kind, .int .i64 q.tick, .bool q.drill, .int .i64 q.a, .int .i64 q.b, .bool q.yes, .int .i64 q.chance.least, .int .i64 q.chance.most, .int .i64 q.chance.all]) ∧ Kp w.heap.size none w w' := by
  have K0 := Kp.new w (.cells #[.int .i64 q.kind, .int .i64 q.tick, .bool q.drill, .int .i64 q.a, .int .i64 q.b, .bool q.yes, .int .i64 q.chance.least, .int .i64 q.chance.most, .int .i64 q.chance.all] 36)
  have B0 := Blk.new w 36 #[.int .i64 q.kind, .int .i64 q.tick, .bool q.drill, .int .i64 q.a, .int .i64 q.b, .bool q.yes, .int .i64 q.chance.least, .int .i64 q.chance.most, .int .i64 q.chance.all]
  subst hq
  go_enter Tryz.func43, Tryz.ntmps43
  go_wp2_with fail
  have cb := fun i => B0.cell i
  exact bodyPost_ret (v := .agg #[.int .i64 (closedI tick motion).kind, .int .i64 (closedI tick motion).tick, .bool (closedI tick motion).drill, .int .i64 (closedI tick motion).a, .int .i64 (closedI tick motion).b, .bool (closedI tick motion).yes, .int .i64 (closedI tick motion).chance.least, .int .i64 (closedI tick motion).chance.most, .int .i64 (closedI tick motion).chance.all]) (by simp [results, Tryz.results43, go_sem, cb, closedI]) rfl ⟨rfl, K0⟩
def soleM (h : House) : Motion := if h.real.motions.length = 1 then motD h.real 0 else ⟨0, 0, 0, 0, 0, 0, [], 0⟩
def SolePost (h : House) (w : World) (e : Ending) (w' : World) : Prop := (∃ A l q m, m = soleM h ∧ e = .returned (.agg #[.int .i64 m.target, .int .i64 m.act, .int .i64 m.opened, .int .i64 m.state, .int .i64 m.yes, .int .i64 m.no, (.slice A l q), .int .i64 m.fact])) ∧ Kp w.heap.size none w w'
set_option maxHeartbeats 1000000 in
/-- the only motion, as it is told (without its votes) -/
theorem sole_any (X : HV) (h : House) (w : World) (s : SAt w.heap.size w X h) : Calls Tryz.prog 44 #[.agg #[.int .i64 h.tick, .int .i64 h.real.items, .slice X.r.fa h.real.facts.length X.r.fc, .slice X.r.ma h.real.motions.length X.r.mc, .slice X.r.sa h.real.sent.length X.r.sc, .int .i64 h.drill.items, .slice X.d.fa h.drill.facts.length X.d.fc, .slice X.d.ma h.drill.motions.length X.d.mc, .slice X.d.sa h.drill.sent.length X.d.sc]] w (SolePost h w) := by
  have K0 := (Kp.new w (.cells #[.int .i64 h.tick, .int .i64 h.real.items, .slice X.r.fa h.real.facts.length X.r.fc, .slice X.r.ma h.real.motions.length X.r.mc, .slice X.r.sa h.real.sent.length X.r.sc, .int .i64 h.drill.items, .slice X.d.fa h.drill.facts.length X.d.fc, .slice X.d.ma h.drill.motions.length X.d.mc, .slice X.d.sa h.drill.sent.length X.d.sc] 43))
  have H0 := (Blk.new w 43 #[.int .i64 h.tick, .int .i64 h.real.items, .slice X.r.fa h.real.facts.length X.r.fc, .slice X.r.ma h.real.motions.length X.r.mc, .slice X.r.sa h.real.sent.length X.r.sc, .int .i64 h.drill.items, .slice X.d.fa h.drill.facts.length X.d.fc, .slice X.d.ma h.drill.motions.length X.d.mc, .slice X.d.sa h.drill.sent.length X.d.sc])
  obtain ⟨m, hm⟩ : ∃ q, q = soleM h := ⟨_, rfl⟩
  by_cases h1 : h.real.motions.length = 1
  · have r := s.r.m.rdN
    have e1 : ∃ x, h.real.motions = [x] := List.length_eq_one_iff.1 h1
    obtain ⟨x, hx⟩ := e1
    have hmx : m = x := by rw [hm]; unfold soleM motD; rw [if_pos h1, hx]; rfl
    subst hmx
    obtain ⟨⟨fa, fc, ma, mc, sa, sc, vo⟩, X2⟩ := X
    obtain ⟨b, o, hma, hb, -, hcc⟩ := r.at_ (by omega)
    have hma' : ma = some ⟨b, o, none⟩ := hma
    subst hma'
    have rr : ∀ j u, (encMot (.slice (vo 0).1 (votedOf h.real 0).length (vo 0).2) m)[j]? = some u → w.cell? ⟨b, o + j, none⟩ = some u := fun j u hj => by
      have := hcc 0 (by rw [zipV_len]; omega) j u (by
        rw [zipV_at _ _ _ _ (by omega)]
        simp only [hx, List.getElem_cons_zero]
        exact hj)
      simpa using this
    generalize votedOf h.real 0 = vl at rr
    generalize vo 0 = v0 at rr
    obtain ⟨A, q⟩ := v0
    have c0 := rr 0 _ rfl
    have c1 := rr 1 _ rfl
    have c2 := rr 2 _ rfl
    have c3 := rr 3 _ rfl
    have c4 := rr 4 _ rfl
    have c5 := rr 5 _ rfl
    have c6 := rr 6 _ rfl
    have c7 := rr 7 _ rfl
    simp only [Nat.add_zero] at c0
    have h1' : (h.real.motions.length : Int) = 1 := by omega
    have h1'' : (0 : Int) < (h.real.motions.length : Int) := by omega
    have KK := K0.alloc (by simp) (.cells #[.int .i64 m.target, .int .i64 m.act, .int .i64 m.opened, .int .i64 m.state, .int .i64 m.yes, .int .i64 m.no, (.slice A vl.length q), .int .i64 m.fact] 52)
    have B1 := Blk.newAt (w.alloc (.cells #[.int .i64 h.tick, .int .i64 h.real.items, .slice fa h.real.facts.length fc, .slice (some ⟨b, o, none⟩) h.real.motions.length mc, .slice sa h.real.sent.length sc, .int .i64 h.drill.items, .slice X2.fa h.drill.facts.length X2.fc, .slice X2.ma h.drill.motions.length X2.mc, .slice X2.sa h.drill.sent.length X2.sc] 43)) 52 #[.int .i64 m.target, .int .i64 m.act, .int .i64 m.opened, .int .i64 m.state, .int .i64 m.yes, .int .i64 m.no, (.slice A vl.length q), .int .i64 m.fact] (n := w.heap.size + 1) (by simp)
    rw [h1] at KK B1 
    replace hm := Lib.hid hm
    clear hcc r rr hx hma s
    go_enter Tryz.func44, Tryz.ntmps44
    go_wp2_with fail
    have cb := fun i => B1.cell i
    exact bodyPost_ret (v := .agg #[.int .i64 m.target, .int .i64 m.act, .int .i64 m.opened, .int .i64 m.state, .int .i64 m.yes, .int .i64 m.no, (.slice A vl.length q), .int .i64 m.fact]) (by simp [results, Tryz.results44, go_sem, cb]) rfl ⟨⟨A, vl.length, q, m, hm.out, rfl⟩, KK⟩
  · have hm0 : m = ⟨0, 0, 0, 0, 0, 0, [], 0⟩ := by rw [hm]; unfold soleM; rw [if_neg h1]
    have h1' : ¬ (h.real.motions.length : Int) = 1 := by omega
    have KK := K0.alloc (by simp) (.cells #[.int .i64 0, .int .i64 0, .int .i64 0, .int .i64 0, .int .i64 0, .int .i64 0, .slice none 0 0, .int .i64 0] 52)
    have B1 := Blk.newAt (w.alloc (.cells #[.int .i64 h.tick, .int .i64 h.real.items, .slice X.r.fa h.real.facts.length X.r.fc, .slice X.r.ma h.real.motions.length X.r.mc, .slice X.r.sa h.real.sent.length X.r.sc, .int .i64 h.drill.items, .slice X.d.fa h.drill.facts.length X.d.fc, .slice X.d.ma h.drill.motions.length X.d.mc, .slice X.d.sa h.drill.sent.length X.d.sc] 43)) 52 #[.int .i64 0, .int .i64 0, .int .i64 0, .int .i64 0, .int .i64 0, .int .i64 0, .slice none 0 0, .int .i64 0] (n := w.heap.size + 1) (by simp)
    replace hm := Lib.hid hm
    replace hm0 := Lib.hid hm0
    go_enter Tryz.func44, Tryz.ntmps44
    go_wp2_with fail
    have cb := fun i => B1.cell i
    exact bodyPost_ret (v := .agg #[.int .i64 0, .int .i64 0, .int .i64 0, .int .i64 0, .int .i64 0, .int .i64 0, .slice none 0 0, .int .i64 0]) (by simp [results, Tryz.results44, go_sem, cb]) rfl ⟨⟨none, 0, 0, m, hm.out, by rw [hm0.out]⟩, KK⟩
def LitPost (R : House × Int × Int) (w : World) (e : Ending) (w' : World) : Prop :=
  ∃ v X, X = hvOf v ∧ e = .returned (.tuple #[.agg #[.int .i64 R.1.tick, .int .i64 R.1.real.items, .slice X.r.fa R.1.real.facts.length X.r.fc, .slice X.r.ma R.1.real.motions.length X.r.mc, .slice X.r.sa R.1.real.sent.length X.r.sc, .int .i64 R.1.drill.items, .slice X.d.fa R.1.drill.facts.length X.d.fc, .slice X.d.ma R.1.drill.motions.length X.d.mc, .slice X.d.sa R.1.drill.sent.length X.d.sc], .int .i64 R.2.1, .int .i64 R.2.2]) ∧ HAt w.heap.size w' v R.1 ∧ SAt w'.heap.size w' X R.1 ∧ Kp w.heap.size none w w'
theorem RowsAt.lower {B B' hb : Nat} {w : World} {R : Ky → RowV} (h : RowsAt B hb w R) (hB : B' ≤ B) : RowsAt B' hb w R :=
  ⟨fun k => ⟨(h.own k).1, by
    rcases (h.own k).2 with q | ⟨g, cap, cur, a, b, c⟩
    · exact .inl q
    · exact .inr ⟨g, cap, cur, a, Nat.le_trans hB b, c⟩⟩, h.ap, h.hb⟩
theorem build_lit (V : CV) (c : Council) (xs : List CItem) (R : House × Int × Int) (cs : Array Value) (n : Nat) (w : World) (hc : CAt w.heap.size w V c) (hcs : cs.toList = xs.flatMap encItem) (hn : n = xs.length) (hl : n ≤ 1000000) (hR : buildC c xs = R) :
    Calls Tryz.prog 8 #[.agg #[.slice V.am c.members.length V.cm, .slice V.al c.laws.length V.cl, .slice V.av c.levels.length V.cv], .slice (some ⟨w.heap.size, 0, none⟩) n n] (w.alloc (.cells cs 36)) (LitPost R w) := by
  subst hn
  have k1 := Kp.new w (.cells cs 36)
  have r := Rd.of_blk (enc := encItem) (sz := 9) xs (fun _ => rfl) hcs (Blk.new w 36 cs) none (by simp)
  refine (build_see V c _ _ xs _ ((hc.kpN k1).wide (by simp)) r hl).mono ?_
  rw [hR]
  rintro e w' ⟨v, X, h1, h2, ⟨hb, h3⟩, h4, k⟩
  exact ⟨v, X, h1, h2, ⟨hb, h3.lower (by simp)⟩, h4, k1.thenN k (Nat.le_refl _)⟩
set_option maxHeartbeats 2000000 in
set_option maxRecDepth 20000 in
theorem awake_any (w : World) : Calls Tryz.prog 12 #[] w fun e w' => e = .returned (.bool true) ∧ Kp w.heap.size none w w' := by
  obtain ⟨q0, hq0⟩ : ∃ q, q = factI 1 9 0 1 1000 := ⟨_, rfl⟩
  obtain ⟨q1, hq1⟩ : ∃ q, q = moveI 2 9 7 := ⟨_, rfl⟩
  obtain ⟨q2, hq2⟩ : ∃ q, q = voteI 3 0 1 true := ⟨_, rfl⟩
  obtain ⟨q3, hq3⟩ : ∃ q, q = voteI 3 0 3 false := ⟨_, rfl⟩
  obtain ⟨q4, hq4⟩ : ∃ q, q = closedI 13 0 := ⟨_, rfl⟩
  have hl : [q0, q1, q2, q3, q4] = awakeL := by rw [hq0, hq1, hq2, hq3, hq4]; rfl
  replace hq0 := Lib.hid hq0
  replace hq1 := Lib.hid hq1
  replace hq2 := Lib.hid hq2
  replace hq3 := Lib.hid hq3
  replace hq4 := Lib.hid hq4
  replace hl := Lib.hid hl
  go_enter Tryz.func12, Tryz.ntmps12
  go_wp2_with fail
  refine (shown_any _).mono ?_
  rintro e w1 ⟨V, rfl, hV, K1⟩
  go_wp2_with fail
  refine (fact_item 1 9 0 1 1000 _ _ hq0.out).mono ?_
  rintro e w2 ⟨rfl, k2⟩
  replace hV := hV.next k2
  replace K1 := K1.thenN k2 (Nat.le_refl _)
  clear k2
  rename World => w1
  go_wp2_with fail
  refine (move_item 2 9 7 _ _ hq1.out).mono ?_
  rintro e w2 ⟨rfl, k2⟩
  replace hV := hV.next k2
  replace K1 := K1.thenN k2 (Nat.le_refl _)
  clear k2
  rename World => w1
  go_wp2_with fail
  refine (vote_item 3 0 1 true _ _ hq2.out).mono ?_
  rintro e w2 ⟨rfl, k2⟩
  replace hV := hV.next k2
  replace K1 := K1.thenN k2 (Nat.le_refl _)
  clear k2
  rename World => w1
  go_wp2_with fail
  refine (vote_item 3 0 3 false _ _ hq3.out).mono ?_
  rintro e w2 ⟨rfl, k2⟩
  replace hV := hV.next k2
  replace K1 := K1.thenN k2 (Nat.le_refl _)
  clear k2
  rename World => w1
  go_wp2_with fail
  refine (closed_item 13 0 _ _ hq4.out).mono ?_
  rintro e w2 ⟨rfl, k2⟩
  replace hV := hV.next k2
  replace K1 := K1.thenN k2 (Nat.le_refl _)
  clear k2
  rename World => w1
  go_wp2_with fail
  refine (build_lit V shownC [q0, q1, q2, q3, q4] (awakeH, -1, 0) _ 5 _ hV rfl rfl (by omega) (by rw [hl.out]; exact awake_build)).mono ?_
  rintro e w2 ⟨v, X, -, rfl, -, hS, k2⟩
  replace hV := hV.next k2
  replace K1 := K1.thenN k2 (Nat.le_refl _)
  clear k2 hl hq0 hq1 hq2 hq3 hq4
  go_upto_region 2 with (fail)
  have R1 := Blk.new w2 43 #[.int .i64 awakeH.tick, .int .i64 awakeH.real.items, .slice X.r.fa awakeH.real.facts.length X.r.fc, .slice X.r.ma awakeH.real.motions.length X.r.mc, .slice X.r.sa awakeH.real.sent.length X.r.sc, .int .i64 awakeH.drill.items, .slice X.d.fa awakeH.drill.facts.length X.d.fc, .slice X.d.ma awakeH.drill.motions.length X.d.mc, .slice X.d.sa awakeH.drill.sent.length X.d.sc]
  have k2 := Kp.new w2 (.cells #[.int .i64 awakeH.tick, .int .i64 awakeH.real.items, .slice X.r.fa awakeH.real.facts.length X.r.fc, .slice X.r.ma awakeH.real.motions.length X.r.mc, .slice X.r.sa awakeH.real.sent.length X.r.sc, .int .i64 awakeH.drill.items, .slice X.d.fa awakeH.drill.facts.length X.d.fc, .slice X.d.ma awakeH.drill.motions.length X.d.mc, .slice X.d.sa awakeH.drill.sent.length X.d.sc] 43)
  replace hS := hS.next k2
  generalize w2.alloc (.cells #[.int .i64 awakeH.tick, .int .i64 awakeH.real.items, .slice X.r.fa awakeH.real.facts.length X.r.fc, .slice X.r.ma awakeH.real.motions.length X.r.mc, .slice X.r.sa awakeH.real.sent.length X.r.sc, .int .i64 awakeH.drill.items, .slice X.d.fa awakeH.drill.facts.length X.d.fc, .slice X.d.ma awakeH.drill.motions.length X.d.mc, .slice X.d.sa awakeH.drill.sent.length X.d.sc] 43) = w3 at R1 k2 hS ⊢
  replace K1 := K1.thenN k2 (Nat.le_refl _)
  clear k2 hV
  have c1 := fun i => R1.cell i
  go_wp2_with fail
  refine (sole_any X awakeH _ hS).mono ?_
  rintro e w4 ⟨⟨A, l, q, m, hm, rfl⟩, k2⟩
  have m3 : m.state = 2 := by rw [hm]; rfl
  have m4 : m.yes = 50 := by rw [hm]; rfl
  have m5 : m.no = 20 := by rw [hm]; rfl
  have m7 : m.fact = 0 := by rw [hm]; rfl
  replace K1 := K1.thenN k2 (Nat.le_refl _)
  have K2 := K1.alloc K1.size (.cells #[.int .i64 m.target, .int .i64 m.act, .int .i64 m.opened, .int .i64 m.state, .int .i64 m.yes, .int .i64 m.no, (.slice A l q), .int .i64 m.fact] 52)
  simp only [m3, m4, m5, m7] at K2
  clear k2 hS c1 R1 hm K1
  go_wp2_with fail
  refine (shown_any _).mono ?_
  rintro e w5 ⟨V2, rfl, hV, k2⟩
  replace K2 := K2.thenN k2 (Nat.le_refl _)
  go_wp2_with fail
  refine (council_Level_any ⟨0, 1, 1000⟩ _ V2 shownC _ hV).mono ?_
  rintro e w6 ⟨rfl, k3⟩
  rw [awake_level]
  replace K2 := K2.thenN k3 (Nat.le_refl _)
  clear k2 k3 hV
  go_wp2
  go_ret
  exact ⟨rfl, K2⟩
end Go.Proofs.YtogpgnljomchcaaGreat
