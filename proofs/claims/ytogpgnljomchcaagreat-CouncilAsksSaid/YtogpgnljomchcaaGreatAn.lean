/- Alarms, of the program and of the reference: the alarms themselves. -/
import Derived.Test.YtogpgnljomchcaaGreatAsAll
import Derived.Test.YtogpgnljomchcaaGreatRefBuildAll
namespace Go.Proofs.YtogpgnljomchcaaGreat
open Go.RowKit

def sentLV (A : Option Addr) (q : Nat) : LV := ⟨none, 0, none, 0, A, q, fun _ => (none, 0)⟩
def sentL (s : List Alarm) : Ledger := ⟨0, [], [], s⟩
theorem LAt.onlySent {B : Nat} {w : World} {L : LV} {l : Ledger} (h : LAt B w L l) : LAt B w (sentLV L.sa L.sc) (sentL l.sent) :=
  ⟨Lo.nil _ _ _ _ _, Lo.nil _ _ _ _ _, h.s, fun _ => Lo.nil _ _ _ _ _, by simp [sentL], by simp [sentL], h.ss, fun i => by simp [sentL, votedOf, vOf]⟩
def sentOf (R : House × Int × Int) : List Alarm := if R.2.2 = 0 then R.1.real.sent else []
def AlPost (R : House × Int × Int) (w : World) (e : Ending) (w' : World) : Prop :=
  ∃ A q, e = .returned (.tuple #[.slice A (sentOf R).length q, .int .i64 R.2.2]) ∧ LAt w'.heap.size w' (sentLV A q) (sentL (sentOf R)) ∧ Kp w.heap.size none w w'
set_option maxRecDepth 20000 in
set_option maxHeartbeats 2000000 in
theorem alarms_see (V : CV) (c : Council) (A : Option Addr) (cap : Nat) (l : List CItem) (w : World) (hc : CAt w.heap.size w V c) (hr : Rd none w 9 encItem A l.length l) (hl : l.length ≤ 1000000) :
    Calls Tryz.prog 20 #[.agg #[.slice V.am c.members.length V.cm, .slice V.al c.laws.length V.cl, .slice V.av c.levels.length V.cv], .slice A l.length cap] w (AlPost (buildC c l) w) := by
  obtain ⟨R, hR⟩ : ∃ R, R = buildC c l := ⟨_, rfl⟩
  rw [← hR]
  replace hR := Lib.hid hR
  have CB := Blk.new w 28 #[.slice V.am c.members.length V.cm, .slice V.al c.laws.length V.cl, .slice V.av c.levels.length V.cv]
  have KK := Kp.new w (.cells #[.slice V.am c.members.length V.cm, .slice V.al c.laws.length V.cl, .slice V.av c.levels.length V.cv] 28)
  replace hc := hc.next KK
  replace hr := hr.kpN KK
  go_enter Tryz.func20, Tryz.ntmps20
  go_upto_region 1 with (fail)
  change Code.wp _ _ _ _ (w.alloc (.cells #[.slice V.am c.members.length V.cm, .slice V.al c.laws.length V.cl, .slice V.av c.levels.length V.cv] 28))
  obtain ⟨cb, hcb⟩ : ∃ q, q = w.heap.size := ⟨_, rfl⟩
  rw [← hcb] at CB
  try rw [← hcb]
  generalize w.alloc (.cells #[.slice V.am c.members.length V.cm, .slice V.al c.laws.length V.cl, .slice V.av c.levels.length V.cv] 28) = w1 at CB KK hc hr ⊢
  clear hcb
  have cc := fun i => CB.cell i
  go_wp2_with fail
  refine (build_see V c A cap l _ hc hr hl).mono ?_
  rintro e w2 ⟨v, X, -, rfl, -, hs, k2⟩
  replace KK := KK.thenN k2 (Nat.le_refl _)
  clear k2 CB cc hc hr
  rw [← hR.out] at hs ⊢
  clear hR
  obtain ⟨x, i, er⟩ := R
  simp only at hs ⊢
  have HB := Blk.new w2 43 #[.int .i64 x.tick, .int .i64 x.real.items, .slice X.r.fa x.real.facts.length X.r.fc, .slice X.r.ma x.real.motions.length X.r.mc, .slice X.r.sa x.real.sent.length X.r.sc, .int .i64 x.drill.items, .slice X.d.fa x.drill.facts.length X.d.fc, .slice X.d.ma x.drill.motions.length X.d.mc, .slice X.d.sa x.drill.sent.length X.d.sc]
  have kh := Kp.new w2 (.cells #[.int .i64 x.tick, .int .i64 x.real.items, .slice X.r.fa x.real.facts.length X.r.fc, .slice X.r.ma x.real.motions.length X.r.mc, .slice X.r.sa x.real.sent.length X.r.sc, .int .i64 x.drill.items, .slice X.d.fa x.drill.facts.length X.d.fc, .slice X.d.ma x.drill.motions.length X.d.mc, .slice X.d.sa x.drill.sent.length X.d.sc] 43)
  replace KK := KK.thenN kh (Nat.le_refl _)
  have hq := (hs.next kh).r.onlySent
  clear kh hs
  replace hq := Lib.hid hq
  go_upto_region 2 with (fail)
  change Code.wp _ _ _ _ (w2.alloc (.cells #[.int .i64 x.tick, .int .i64 x.real.items, .slice X.r.fa x.real.facts.length X.r.fc, .slice X.r.ma x.real.motions.length X.r.mc, .slice X.r.sa x.real.sent.length X.r.sc, .int .i64 x.drill.items, .slice X.d.fa x.drill.facts.length X.d.fc, .slice X.d.ma x.drill.motions.length X.d.mc, .slice X.d.sa x.drill.sent.length X.d.sc] 43))
  obtain ⟨hb, hhb⟩ : ∃ q, q = w2.heap.size := ⟨_, rfl⟩
  rw [← hhb] at HB
  rw [← hhb]
  generalize w2.alloc (.cells #[.int .i64 x.tick, .int .i64 x.real.items, .slice X.r.fa x.real.facts.length X.r.fc, .slice X.r.ma x.real.motions.length X.r.mc, .slice X.r.sa x.real.sent.length X.r.sc, .int .i64 x.drill.items, .slice X.d.fa x.drill.facts.length X.d.fc, .slice X.d.ma x.drill.motions.length X.d.mc, .slice X.d.sa x.drill.sent.length X.d.sc] 43) = w3 at HB KK hq ⊢
  clear hhb
  have ch := fun i => HB.cell i
  by_cases he : er = 0
  · subst he
    go_wp2_with fail
    exact bodyPost_ret (v := .tuple #[.slice X.r.sa x.real.sent.length X.r.sc, .int .i64 0]) (by simp [results, Tryz.results20, go_sem]) rfl ⟨_, _, rfl, hq.out, KK⟩
  · have he' : (er == 0) = false := by simpa using he
    have hq2 : sentOf (x, i, er) = [] := by unfold sentOf; rw [if_neg he]
    go_wp2_with fail
    exact bodyPost_ret (v := .tuple #[.slice none 0 0, .int .i64 er]) (by simp [results, Tryz.results20, go_sem]) rfl ⟨none, 0, by rw [hq2]; rfl, by rw [hq2]; exact (LAt.none _ _).onlySent, KK⟩
set_option maxRecDepth 20000 in
set_option maxHeartbeats 2000000 in
theorem ref_alarms_see (V : CV) (c : Council) (A : Option Addr) (cap : Nat) (l : List CItem) (w : World) (hc : CAt w.heap.size w V c) (hr : Rd none w 9 encItem A l.length l) (hl : l.length ≤ 1000000) :
    Calls Tryz.prog 21 #[.agg #[.slice V.am c.members.length V.cm, .slice V.al c.laws.length V.cl, .slice V.av c.levels.length V.cv], .slice A l.length cap] w (AlPost (buildC c l) w) := by
  obtain ⟨R, hR⟩ : ∃ R, R = buildC c l := ⟨_, rfl⟩
  rw [← hR]
  replace hR := Lib.hid hR
  have CB := Blk.new w 28 #[.slice V.am c.members.length V.cm, .slice V.al c.laws.length V.cl, .slice V.av c.levels.length V.cv]
  have KK := Kp.new w (.cells #[.slice V.am c.members.length V.cm, .slice V.al c.laws.length V.cl, .slice V.av c.levels.length V.cv] 28)
  replace hc := hc.next KK
  replace hr := hr.kpN KK
  go_enter Tryz.func21, Tryz.ntmps21
  go_upto_region 1 with (fail)
  change Code.wp _ _ _ _ (w.alloc (.cells #[.slice V.am c.members.length V.cm, .slice V.al c.laws.length V.cl, .slice V.av c.levels.length V.cv] 28))
  obtain ⟨cb, hcb⟩ : ∃ q, q = w.heap.size := ⟨_, rfl⟩
  rw [← hcb] at CB
  try rw [← hcb]
  generalize w.alloc (.cells #[.slice V.am c.members.length V.cm, .slice V.al c.laws.length V.cl, .slice V.av c.levels.length V.cv] 28) = w1 at CB KK hc hr ⊢
  clear hcb
  have cc := fun i => CB.cell i
  go_wp2_with fail
  refine (ref_build_see V c A cap l _ hc hr hl).mono ?_
  rintro e w2 ⟨v, X, -, rfl, -, hs, k2⟩
  replace KK := KK.thenN k2 (Nat.le_refl _)
  clear k2 CB cc hc hr
  rw [← hR.out] at hs ⊢
  clear hR
  obtain ⟨x, i, er⟩ := R
  simp only at hs ⊢
  have HB := Blk.new w2 43 #[.int .i64 x.tick, .int .i64 x.real.items, .slice X.r.fa x.real.facts.length X.r.fc, .slice X.r.ma x.real.motions.length X.r.mc, .slice X.r.sa x.real.sent.length X.r.sc, .int .i64 x.drill.items, .slice X.d.fa x.drill.facts.length X.d.fc, .slice X.d.ma x.drill.motions.length X.d.mc, .slice X.d.sa x.drill.sent.length X.d.sc]
  have kh := Kp.new w2 (.cells #[.int .i64 x.tick, .int .i64 x.real.items, .slice X.r.fa x.real.facts.length X.r.fc, .slice X.r.ma x.real.motions.length X.r.mc, .slice X.r.sa x.real.sent.length X.r.sc, .int .i64 x.drill.items, .slice X.d.fa x.drill.facts.length X.d.fc, .slice X.d.ma x.drill.motions.length X.d.mc, .slice X.d.sa x.drill.sent.length X.d.sc] 43)
  replace KK := KK.thenN kh (Nat.le_refl _)
  have hq := (hs.next kh).r.onlySent
  clear kh hs
  replace hq := Lib.hid hq
  go_upto_region 2 with (fail)
  change Code.wp _ _ _ _ (w2.alloc (.cells #[.int .i64 x.tick, .int .i64 x.real.items, .slice X.r.fa x.real.facts.length X.r.fc, .slice X.r.ma x.real.motions.length X.r.mc, .slice X.r.sa x.real.sent.length X.r.sc, .int .i64 x.drill.items, .slice X.d.fa x.drill.facts.length X.d.fc, .slice X.d.ma x.drill.motions.length X.d.mc, .slice X.d.sa x.drill.sent.length X.d.sc] 43))
  obtain ⟨hb, hhb⟩ : ∃ q, q = w2.heap.size := ⟨_, rfl⟩
  rw [← hhb] at HB
  rw [← hhb]
  generalize w2.alloc (.cells #[.int .i64 x.tick, .int .i64 x.real.items, .slice X.r.fa x.real.facts.length X.r.fc, .slice X.r.ma x.real.motions.length X.r.mc, .slice X.r.sa x.real.sent.length X.r.sc, .int .i64 x.drill.items, .slice X.d.fa x.drill.facts.length X.d.fc, .slice X.d.ma x.drill.motions.length X.d.mc, .slice X.d.sa x.drill.sent.length X.d.sc] 43) = w3 at HB KK hq ⊢
  clear hhb
  have ch := fun i => HB.cell i
  by_cases he : er = 0
  · subst he
    go_wp2_with fail
    exact bodyPost_ret (v := .tuple #[.slice X.r.sa x.real.sent.length X.r.sc, .int .i64 0]) (by simp [results, Tryz.results21, go_sem]) rfl ⟨_, _, rfl, hq.out, KK⟩
  · have he' : (er == 0) = false := by simpa using he
    have hq2 : sentOf (x, i, er) = [] := by unfold sentOf; rw [if_neg he]
    go_wp2_with fail
    exact bodyPost_ret (v := .tuple #[.slice none 0 0, .int .i64 er]) (by simp [results, Tryz.results21, go_sem]) rfl ⟨none, 0, by rw [hq2]; rfl, by rw [hq2]; exact (LAt.none _ _).onlySent, KK⟩
end Go.Proofs.YtogpgnljomchcaaGreat
