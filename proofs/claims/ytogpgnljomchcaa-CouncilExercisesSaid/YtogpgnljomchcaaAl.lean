/- council.Alarms. -/
import Derived.Test.YtogpgnljomchcaaHn
namespace Go.Proofs.Ytogpgnljomchcaa
open Go.RowKit

def AlarmsPost (R : House × Int × Int) (w : World) (e : Ending) (w' : World) : Prop :=
  ∃ A n q, e = .returned (.tuple #[.slice A n q, .int .i64 R.2.2]) ∧ (R.2.2 = 0 → n = R.1.real.sent.length) ∧ Kp w.heap.size none w w'
set_option maxRecDepth 20000 in
set_option maxHeartbeats 2000000 in
theorem council_Alarms_any (V : CV) (c : Council) (A : Option Addr) (cap : Nat) (l : List CItem) (w : World) (hc : CAt w.heap.size w V c) (hr : Rd none w 9 encItem A l.length l) (hl : l.length ≤ 1000000) :
    Calls Try.prog 41 #[.agg #[.slice V.am c.members.length V.cm, .slice V.al c.laws.length V.cl, .slice V.av c.levels.length V.cv], .slice A l.length cap] w (AlarmsPost (buildC c l) w) := by
  obtain ⟨R, hR⟩ : ∃ R, R = buildC c l := ⟨_, rfl⟩
  rw [← hR]
  replace hR := Lib.hid hR
  have CB := Blk.new w 26 #[.slice V.am c.members.length V.cm, .slice V.al c.laws.length V.cl, .slice V.av c.levels.length V.cv]
  have KK := Kp.new w (.cells #[.slice V.am c.members.length V.cm, .slice V.al c.laws.length V.cl, .slice V.av c.levels.length V.cv] 26)
  replace hc := hc.next KK
  replace hr := hr.kpN KK
  go_enter Try.func41, Try.ntmps41
  go_upto_region 1 with (fail)
  change Code.wp _ _ _ _ (w.alloc (.cells #[.slice V.am c.members.length V.cm, .slice V.al c.laws.length V.cl, .slice V.av c.levels.length V.cv] 26))
  obtain ⟨cb, hcb⟩ : ∃ q, q = w.heap.size := ⟨_, rfl⟩
  rw [← hcb] at CB
  try rw [← hcb]
  generalize w.alloc (.cells #[.slice V.am c.members.length V.cm, .slice V.al c.laws.length V.cl, .slice V.av c.levels.length V.cv] 26) = w1 at CB KK hc hr ⊢
  clear hcb
  have cc := fun i => CB.cell i
  go_wp2_with fail
  refine (build_see V c A cap l _ hc hr hl).mono ?_
  rintro e w2 ⟨v, X, -, rfl, -, -, k2⟩
  replace KK := KK.thenN k2 (Nat.le_refl _)
  clear k2 CB cc hc hr
  rw [← hR.out]
  clear hR
  obtain ⟨x, i, er⟩ := R
  simp only
  have HB := Blk.new w2 46 #[.int .i64 x.tick, .int .i64 x.real.items, .slice X.r.fa x.real.facts.length X.r.fc, .slice X.r.ma x.real.motions.length X.r.mc, .slice X.r.sa x.real.sent.length X.r.sc, .int .i64 x.drill.items, .slice X.d.fa x.drill.facts.length X.d.fc, .slice X.d.ma x.drill.motions.length X.d.mc, .slice X.d.sa x.drill.sent.length X.d.sc]
  have kh := Kp.new w2 (.cells #[.int .i64 x.tick, .int .i64 x.real.items, .slice X.r.fa x.real.facts.length X.r.fc, .slice X.r.ma x.real.motions.length X.r.mc, .slice X.r.sa x.real.sent.length X.r.sc, .int .i64 x.drill.items, .slice X.d.fa x.drill.facts.length X.d.fc, .slice X.d.ma x.drill.motions.length X.d.mc, .slice X.d.sa x.drill.sent.length X.d.sc] 46)
  replace KK := KK.thenN kh (Nat.le_refl _)
  clear kh
  go_upto_region 2 with (fail)
  change Code.wp _ _ _ _ (w2.alloc (.cells #[.int .i64 x.tick, .int .i64 x.real.items, .slice X.r.fa x.real.facts.length X.r.fc, .slice X.r.ma x.real.motions.length X.r.mc, .slice X.r.sa x.real.sent.length X.r.sc, .int .i64 x.drill.items, .slice X.d.fa x.drill.facts.length X.d.fc, .slice X.d.ma x.drill.motions.length X.d.mc, .slice X.d.sa x.drill.sent.length X.d.sc] 46))
  obtain ⟨hb, hhb⟩ : ∃ q, q = w2.heap.size := ⟨_, rfl⟩
  rw [← hhb] at HB
  rw [← hhb]
  generalize w2.alloc (.cells #[.int .i64 x.tick, .int .i64 x.real.items, .slice X.r.fa x.real.facts.length X.r.fc, .slice X.r.ma x.real.motions.length X.r.mc, .slice X.r.sa x.real.sent.length X.r.sc, .int .i64 x.drill.items, .slice X.d.fa x.drill.facts.length X.d.fc, .slice X.d.ma x.drill.motions.length X.d.mc, .slice X.d.sa x.drill.sent.length X.d.sc] 46) = w3 at HB KK ⊢
  clear hhb
  have ch := fun i => HB.cell i
  by_cases he : er = 0
  · subst he
    go_wp2_with fail
    exact bodyPost_ret (v := .tuple #[.slice X.r.sa x.real.sent.length X.r.sc, .int .i64 0]) (by simp [results, Try.results41, go_sem]) rfl ⟨_, _, _, rfl, fun _ => rfl, KK⟩
  · have he' : (er == 0) = false := by simpa using he
    go_wp2_with fail
    exact bodyPost_ret (v := .tuple #[.slice none 0 0, .int .i64 er]) (by simp [results, Try.results41, go_sem]) rfl ⟨_, _, _, rfl, fun h => absurd h he, KK⟩
end Go.Proofs.Ytogpgnljomchcaa
