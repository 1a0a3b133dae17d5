/- What the statements on rocks and lands of numbers begin with: calls whose arguments are right. -/
import Derived.Test.YtdiigflbohbndaaDoorHarmAll
import Derived.Test.YtdiigflbohbndaaDoorLaw1
import Derived.Test.YtdiigflbohbndaaDoorSame
namespace Go.Proofs.YtdiigflbohbndaaDoor
open Go.RowKit

theorem rock_all {r : Rock} {f : Fall} (h : RockOk r f) : RockAll r f := by
  obtain ⟨⟨r1, r2, r3⟩, ⟨s1, s2, s3⟩, ⟨t1, t2, t3⟩, ⟨n1, n2, n3⟩, ⟨h1, h2, h3⟩, ⟨v1, v2, v3⟩, ⟨l1, l2, l3⟩⟩ := h
  intro i hi
  unfold rockErr
  rcases i with _ | _ | _ | _ | _ | _ | _ | i
  all_goals first | omega | skip
  all_goals
    simp only [rockSpan, bLo, bHi]
    rw [if_neg (by omega), if_neg (by omega)]
theorem air_made {ls : List Layer} (h6 : ls.length ≤ 6) (h : ∀ x ∈ ls, LayerOk x) : AirOk ls := ⟨by omega, fun i hi => by
  obtain ⟨h1, h2, h3, h4⟩ := h ls[i] (List.getElem_mem hi)
  exact ⟨⟨h1, by omega⟩, h3, h4⟩⟩
theorem air_lay {ls : List Layer} (h : AirOk ls) : ∀ x ∈ ls, LayOk x := fun x hx => by
  obtain ⟨i, hi, rfl⟩ := List.getElem_of_mem hx
  exact h.2 i hi
theorem air_chk {ls : List Layer} (h : AirOk ls) : AirChk ls 0 := .inl ⟨rfl, h⟩
theorem grades_chkM {gs : List Grade} (h : GradesOk gs) : GradesChk gs 0 := by
  refine .inr (.inr ⟨h.ne, h.le, .inl ⟨rfl, fun i hi => ?_⟩⟩)
  have h1 := h.rng gs[i] (List.getElem_mem hi)
  unfold gradeErr
  rw [if_neg (fun k => k ⟨(btw_true _ _ _).2 ⟨h1.1, h1.2.1⟩, (btw_true _ _ _).2 h1.2.2⟩), if_neg]
  rintro k
  rcases Nat.eq_zero_or_pos i with h0 | h0
  · subst h0
    simp only [Nat.lt_irrefl, dif_neg, not_false_eq_true] at k
    omega
  · rw [dif_pos h0, dif_pos h0] at k
    have := List.pairwise_iff_getElem.1 h.inc (i - 1) i (by omega) hi (by omega)
    omega
theorem blows_made (A : Option Addr) (cap : Nat) (ls : List Layer) (r : Rock) (f : Fall) (w : World) (h : Rd none w 2 encLayer A ls.length ls) (hb : Bnd w) (ha : AirOk ls) (hr : RockOk r f) :
    Calls Tryd.prog 54 #[.slice A ls.length cap, .agg #[.int .i64 r.size.lo, .int .i64 r.size.hi, .int .i64 r.dens.lo, .int .i64 r.dens.hi, .int .i64 r.strong.lo, .int .i64 r.strong.hi, .int .i64 r.spin.lo, .int .i64 r.spin.hi, .int .i64 r.shape.lo, .int .i64 r.shape.hi, .bool r.pile], .agg #[.int .i64 f.speed.lo, .int .i64 f.speed.hi, .int .i64 f.slope.lo, .int .i64 f.slope.hi]] w fun e w' => (∃ A c, e = .returned (.tuple #[.slice A (blowsOf ls r f).length c, .int .i64 0]) ∧ Rd none w' 3 encBlow A (blowsOf ls r f).length (blowsOf ls r f)) ∧ Kp w.heap.size none w w' :=
  (blast_Blows_any A cap ls r f w h hb).mono fun e w' ⟨⟨A, c, bl, n, h1, h2, h3⟩, h4⟩ => by
    rcases h3 with ⟨_, _, rfl, rfl⟩ | ⟨h5, _, h6⟩
    · exact ⟨⟨A, c, h1, h2⟩, h4⟩
    · exfalso
      rcases h6 with h6 | ⟨_, h6⟩
      · exact h5 (airChk_one h6 (.inl ⟨rfl, ha⟩))
      · exact h5 (rockChk_one h6 (.inl ⟨rfl, rock_all hr⟩))
theorem tollIs_made {ls : List Layer} {gs : List Grade} {ps : List Int} {bs : List Bool} {r : Rock} {f : Fall} {fr fi : Nat} {lo hi wo n : Int} (h : TollIs ls gs ps bs r f fr fi lo hi wo n) (ha : AirOk ls) (hr : RockOk r f) (hg : GradesOk gs) (hl : LandOk ps bs.length) (h1 : fr ≤ fi) (h2 : fi < ps.length) :
    lo = (tollOf (harmsOf ls.length gs ps bs) (blowsOf ls r f) fr fi).lo ∧ hi = (tollOf (harmsOf ls.length gs ps bs) (blowsOf ls r f) fr fi).hi ∧ wo = (tollOf (harmsOf ls.length gs ps bs) (blowsOf ls r f) fr fi).wo ∧ n = 0 := by
  have hgk : GroundChk gs ps bs.length 0 := .inr ⟨grades_chkM hg, .inl ⟨rfl, hl⟩⟩
  rcases h with ⟨h0, _, h⟩ | ⟨_, h0, _, h⟩ | ⟨_, _, ⟨h3, _, _⟩ | ⟨h3, ⟨h4, _, _⟩ | ⟨h4, h5, h6⟩⟩⟩
  · exfalso
    rcases h with ⟨_, _, h7, _⟩ | ⟨_, _, h | ⟨_, h⟩⟩
    · exact h0 h7
    · exact h0 (airChk_one h (.inl ⟨rfl, ha⟩))
    · exact h0 (rockChk_one h (.inl ⟨rfl, rock_all hr⟩))
  · exact absurd (groundChk_one h hgk) h0
  · omega
  · omega
  · rw [Int.toNat_natCast, Int.toNat_natCast] at h5
    exact ⟨h5.1, h5.2.1, h5.2.2, h6⟩
theorem toll_made (Aa : Option Addr) (ca : Nat) (ls : List Layer) (Ag : Option Addr) (cg : Nat) (gs : List Grade) (A A' : Option Addr) (c c' : Nat) (ps : List Int) (bs : List Bool) (r : Rock) (f : Fall) (fr fi : Nat) (w : World)
    (hl : Rd none w 2 encLayer Aa ls.length ls) (hg : Rd none w 2 encGrade Ag gs.length gs) (h : Rd none w 1 encI A ps.length ps) (hb : Rd none w 1 encB A' bs.length bs) (hc : ps.length ≤ c) (hbnd : Bnd w)
    (ha : AirOk ls) (hr : RockOk r f) (hgo : GradesOk gs) (hok : LandOk ps bs.length) (h1 : fr ≤ fi) (h2 : fi < ps.length) :
    Calls Tryd.prog 63 #[.slice Aa ls.length ca, .slice Ag gs.length cg, .agg #[.slice A ps.length c, .slice A' bs.length c'], .agg #[.int .i64 r.size.lo, .int .i64 r.size.hi, .int .i64 r.dens.lo, .int .i64 r.dens.hi, .int .i64 r.strong.lo, .int .i64 r.strong.hi, .int .i64 r.spin.lo, .int .i64 r.spin.hi, .int .i64 r.shape.lo, .int .i64 r.shape.hi, .bool r.pile], .agg #[.int .i64 f.speed.lo, .int .i64 f.speed.hi, .int .i64 f.slope.lo, .int .i64 f.slope.hi], .int .i64 fr, .int .i64 fi] w
      fun e w' => e = .returned (.tuple #[.agg #[.int .i64 (tollOf (harmsOf ls.length gs ps bs) (blowsOf ls r f) fr fi).lo, .int .i64 (tollOf (harmsOf ls.length gs ps bs) (blowsOf ls r f) fr fi).hi], .int .i64 0]) ∧ Kp w.heap.size none w w' :=
  (blast_Toll_any Aa ca ls Ag cg gs A A' c c' ps bs r f fr fi w hl hg h hb hc hbnd).mono fun e w' ⟨⟨lo, hi, wo, n, h3, h4⟩, h5⟩ => by
    obtain ⟨rfl, rfl, _, rfl⟩ := tollIs_made h4 ha hr hgo hok h1 h2
    exact ⟨h3, h5⟩
theorem worst_made (Aa : Option Addr) (ca : Nat) (ls : List Layer) (Ag : Option Addr) (cg : Nat) (gs : List Grade) (A A' : Option Addr) (c c' : Nat) (ps : List Int) (bs : List Bool) (r : Rock) (f : Fall) (fr fi : Nat) (w : World)
    (hl : Rd none w 2 encLayer Aa ls.length ls) (hg : Rd none w 2 encGrade Ag gs.length gs) (h : Rd none w 1 encI A ps.length ps) (hb : Rd none w 1 encB A' bs.length bs) (hc : ps.length ≤ c) (hbnd : Bnd w)
    (ha : AirOk ls) (hr : RockOk r f) (hgo : GradesOk gs) (hok : LandOk ps bs.length) (h1 : fr ≤ fi) (h2 : fi < ps.length) :
    Calls Tryd.prog 65 #[.slice Aa ls.length ca, .slice Ag gs.length cg, .agg #[.slice A ps.length c, .slice A' bs.length c'], .agg #[.int .i64 r.size.lo, .int .i64 r.size.hi, .int .i64 r.dens.lo, .int .i64 r.dens.hi, .int .i64 r.strong.lo, .int .i64 r.strong.hi, .int .i64 r.spin.lo, .int .i64 r.spin.hi, .int .i64 r.shape.lo, .int .i64 r.shape.hi, .bool r.pile], .agg #[.int .i64 f.speed.lo, .int .i64 f.speed.hi, .int .i64 f.slope.lo, .int .i64 f.slope.hi], .int .i64 fr, .int .i64 fi] w
      fun e w' => e = .returned (.tuple #[.int .i64 (tollOf (harmsOf ls.length gs ps bs) (blowsOf ls r f) fr fi).wo, .int .i64 0]) ∧ Kp w.heap.size none w w' :=
  (blast_Worst_any Aa ca ls Ag cg gs A A' c c' ps bs r f fr fi w hl hg h hb hc hbnd).mono fun e w' ⟨⟨lo, hi, wo, n, h3, h4⟩, h5⟩ => by
    obtain ⟨_, _, rfl, rfl⟩ := tollIs_made h4 ha hr hgo hok h1 h2
    exact ⟨h3, h5⟩
theorem harms_made (Aa : Option Addr) (ca : Nat) (ls : List Layer) (Ag : Option Addr) (cg : Nat) (gs : List Grade) (A A' : Option Addr) (c c' : Nat) (ps : List Int) (bs : List Bool) (layer en : Int) (a : Nat) (w : World)
    (hl : Rd none w 2 encLayer Aa ls.length ls) (hg : Rd none w 2 encGrade Ag gs.length gs) (h : Rd none w 1 encI A ps.length ps) (hb : Rd none w 1 encB A' bs.length bs) (hc : ps.length ≤ c)
    (ha : AirOk ls) (hgo : GradesOk gs) (hok : LandOk ps bs.length) (h1 : 0 ≤ layer ∧ layer ≤ ls.length) (h2 : a < ps.length) :
    Calls Tryd.prog 59 #[.slice Aa ls.length ca, .slice Ag gs.length cg, .agg #[.slice A ps.length c, .slice A' bs.length c'], .int .i64 layer, .int .i64 en, .int .i64 a] w
      fun e w' => e = .returned (.tuple #[.int .i64 (harmsOf ls.length gs ps bs layer en a), .int .i64 0]) ∧ Kp w.heap.size none w w' :=
  (blast_Harms_any Aa ca ls Ag cg gs A A' c c' ps bs layer en a w hl hg h hb hc).mono fun e w' ⟨⟨v, n, h3, h4⟩, h5⟩ => by
    have hgk : GroundChk gs ps bs.length 0 := .inr ⟨grades_chkM hgo, .inl ⟨rfl, hok⟩⟩
    obtain ⟨rfl, rfl⟩ := harmsIs_one h4 (.inr (.inr ⟨air_chk ha, hgk, .inr ⟨h1, .inr ⟨⟨by omega, by omega⟩, rfl, rfl⟩⟩⟩))
    rw [Int.toNat_natCast] at h3
    exact ⟨h3, h5⟩
/-- The numbers of a toll are those of a good one. -/
theorem toll_good {ls : List Layer} {gs : List Grade} {ps : List Int} {bs : List Bool} {r : Rock} {f : Fall} {fr fi : Nat} (ha : AirOk ls) (hr : RockOk r f) (hok : LandOk ps bs.length) (h1 : fr ≤ fi) (h2 : fi < ps.length) :
    Good (harmsOf ls.length gs ps bs) (fun a x => (fr ≤ a ∧ a ≤ fi) ∧ x ∈ blowsOf ls r f) (tollOf (harmsOf ls.length gs ps bs) (blowsOf ls r f) fr fi) :=
  (tollOf_good h1 (blowsOf_some (air_lay ha) hr) fun a _ h4 x _ => ⟨harmsOf_nonneg hok (by omega), harmsOf_nonneg hok (by omega)⟩).1
theorem land_made {ps : List Int} {bs : List Bool} (hbl : bs.length = ps.length) (hp1 : 1 ≤ ps.length) (hp16 : ps.length ≤ 16) (hpp : ∀ p ∈ ps, 0 ≤ p ∧ p ≤ 1998) : LandOk ps bs.length :=
  ⟨hp1, by omega, hbl, fun x hx => ⟨(hpp x hx).1, by have := (hpp x hx).2; omega⟩⟩
end Go.Proofs.YtdiigflbohbndaaDoor
