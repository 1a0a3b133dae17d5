/- Proved: the statement BlastLands returns true at every list of grades, every land, energy, cell and reach, and every list of numbers, and leaves its arguments as they were. Condition: the variable blast.bounds holds what the program lays in it (tied to the text of the program). -/
import Derived.Test.YtdiigflbohbndaaDoorCard
import Derived.Test.YtdiigflbohbndaaDoorOpen
import Derived.Test.YtdiigflbohbndaaDoorOpen3
import Derived.Test.YtdiigflbohbndaaDoorLaw5
namespace Go.Proofs.YtdiigflbohbndaaDoor
open Go.ChangeShapes Go.WideShapes Go.ChangeAt Go.WideMaps Go.WideElems Go.RowKit

set_option maxRecDepth 100000 in
theorem blastLands_lifted (os : Os) (started : os.Started) (H : Type) (enc : TypeId × Value → H) :
    ReturnsInHanded {} Tryd.checked os 7 .any (fun w args => (Rows.blastLandsSpec.pre enc Tryd.prog Tryd.f7 [] false w args ∧ laidMetH Tryd.prog laid1 w) ∧ sizedMet enc Tryd.prog Tryd.f7 (OpenSpec.ofChange Rows.blastLandsSpec) false w args)
      (Rows.blastLandsSpec.post enc Tryd.prog Tryd.f7 false true false false) := by
  refine returnsInHanded_of_change_and (C := Tryd.checked) (X := fun w _ => laidMetH Tryd.prog laid1 w) (fun _ _ _ hh h => h.of_heap hh) own started (by kernel_rfl) Tryd.func7
    (ChangeSpec.witness_shaped (enc := enc) (C := Tryd.checked) (os := os) (X := fun w _ => laidMetH Tryd.prog laid1 w) false (World.doorLaid Tryd.prog 400 os) #[.slice none 0 0, .agg #[.slice none 0 0, .slice none 0 0], .int .i64 0, .int .i64 0, .int .i64 0, .slice none 0 0] 8 rfl (World.shaped_of_RefB (by kernel_rfl) (by kernel_rfl)) (by kernel_rfl) (by kernel_rfl) (by kernel_rfl) (door_met os _)) ?_
  intro W base args ds gs before hval0 hW _ hsz hL _
  have hval : ∀ (j : Nat) t v, Tryd.f7.params[j]? = some t → args[j]? = some v → Value.okWide Tryd.prog W .any base t v := hval0
  have hW' := hW
  have hlt := fun x hx => hW'.lt x hx
  obtain ⟨p, q, hA0, hV, rfl, hfz, hnd⟩ := hW
  have hA : DataW.TrodAll enc Tryd.prog W 0 (fun _ => true) true Tryd.f7.params.toList args.toList ds p := hA0
  rw [Tryd.params7] at hA hval
  obtain ⟨v0, vs0, d0, ds0, p0, q0, hargs, rfl, rfl, h0, r0⟩ := trodAll_cons hA
  obtain ⟨v1, vs1, d1, ds1, p1, q1, rfl, rfl, rfl, h1, r1⟩ := trodAll_cons r0
  obtain ⟨v2, vs2, d2, ds2, p2, q2, rfl, rfl, rfl, h2, r2⟩ := trodAll_cons r1
  obtain ⟨v3, vs3, d3, ds3, p3, q3, rfl, rfl, rfl, h3, r3⟩ := trodAll_cons r2
  obtain ⟨v4, vs4, d4, ds4, p4, q4, rfl, rfl, rfl, h4, r4⟩ := trodAll_cons r3
  obtain ⟨v5, vs5, d5, ds5, p5, q5, rfl, rfl, rfl, h5, r5⟩ := trodAll_cons r4
  obtain ⟨rfl, rfl, rfl⟩ := trodAll_nil r5
  obtain rfl : args = #[v0, v1, v2, v3, v4, v5] := by cases args; simp_all
  obtain ⟨rfl, rfl⟩ := trodVars_none hV
  obtain ⟨A0, c0, gs, rfl, hR0, hc0⟩ := open_grades (hval 0 49 v0 rfl rfl) h0 (fun x hx => hlt x (by simp [hx]))
  obtain ⟨Ap1, Ab1, cp1, cb1, ps1, bs1, rfl, hP1, hB1, hcp1, -⟩ := open_land (hval 1 54 v1 rfl rfl) h1 (fun x hx => hlt x (by simp [hx]))
  obtain ⟨en, rfl, rfl, rfl, hI2⟩ := open_int Tryd.underlying2 (hval 2 2 v2 rfl rfl) h2
  have hen : en < 9223372036854775808 := by
    have h1 : (decide (IntKind.i64.min ≤ en) && decide (en ≤ IntKind.i64.max)) = true := hI2
    have h2 := of_decide_eq_true (Bool.and_eq_true _ _ ▸ h1).2
    have h3 : IntKind.i64.max = 9223372036854775807 := by decide
    omega
  obtain ⟨at0, rfl, rfl, rfl, hI3⟩ := open_int Tryd.underlying3 (hval 3 3 v3 rfl rfl) h3
  obtain ⟨re, rfl, rfl, rfl, hI4⟩ := open_int Tryd.underlying2 (hval 4 2 v4 rfl rfl) h4
  obtain ⟨A5, c5, nums, rfl, hR5, hd5⟩ := open_nums (hval 5 22 v5 rfl rfl) h5 (fun x hx => hlt x (by simp [hx]))
  have hn5 : nums.length ≤ 17592186044416 := by
    rcases hd5 with ⟨_, rfl⟩ | ⟨es, sp, rfl, hl⟩
    · simp
    · have h8 := sized_slice hsz (j := 5) (t := 22) rfl rfl Tryd.underlying22
      rw [show Tryd.checked.prog.bytesOf 3 = 8 by kernel_rfl, hl] at h8
      have : reachBytes ≤ 140737488355328 := by decide
      omega
  refine (law_BlastLands_any A0 c0 gs Ap1 cp1 ps1 Ab1 cb1 bs1 en at0 re A5 c5 nums W hR0 hP1 hB1 hcp1 hen hR5 hn5 (bnd_of_laid hL)).mono fun e W' ⟨he, hk⟩ => ?_
  subst he
  exact ⟨_, rfl, post_law rfl hW' rfl (by kernel_rfl) rfl hk.below⟩
theorem blastLands_holds : Rows.BlastLandsSaid :=
  OpenClaim.holds_of_wide 7 Tryd.f7 rfl rfl rfl rfl rfl rfl rfl ⟨rfl, rfl, rfl, rfl, rfl⟩ rfl rfl rfl rfl rfl (by kernel_rfl) Tryd.func7 (by kernel_rfl)
    (of_decide_eq_true (by kernel_rfl)) (by unfold Func.isWrapper; first | (rw [if_pos (by decide +kernel)]; kernel_rfl) | (rw [if_neg (by decide +kernel)]; exact ⟨rfl, rfl⟩))
    (fun os started H enc _ => blastLands_lifted os started H enc)
theorem blastLands_card : Rows.BlastLandsCardSaid :=
  Claim7.holds_tied_plain_at .later [] [.data] true (true, "64e91ae1107663cfb424624b8dae5066154f53e817cbcf0c5b5260e0831cd210") false
    blastLands_holds (fun _ h => by cases h) (by kernel_rfl) (fun _ h => by cases h) blastLands_row_tie rfl ⟨rfl, rfl⟩ (by kernel_rfl) rfl
    (fun f fn hf hfn => by
      obtain rfl : f = 7 := Option.some.inj ((show Tryd.prog.funcNamed "bolide/bolidelaw07.BlastLands" = some 7 by kernel_rfl).symm.trans hf) |>.symm
      obtain rfl : fn = Tryd.f7 := (Option.some.inj (Tryd.func7.symm.trans hfn)).symm
      exact ⟨by kernel_rfl, fun j t ht => by
        rw [Tryd.params7] at ht
        have hm : t ∈ (49 :: 54 :: 2 :: 3 :: 2 :: 22 :: [] : List TypeId) := by simpa using Array.mem_of_getElem? ht
        have hall : ((49 :: 54 :: 2 :: 3 :: 2 :: 22 :: [] : List TypeId).all fun u => !Tryd.prog.wantsStandIn u) = true := by kernel_rfl
        exact (show Tryd.prog.wantsStandIn t = false by simpa using List.all_eq_true.1 hall t hm)⟩)
    (by kernel_rfl)
end Go.Proofs.YtdiigflbohbndaaDoor
