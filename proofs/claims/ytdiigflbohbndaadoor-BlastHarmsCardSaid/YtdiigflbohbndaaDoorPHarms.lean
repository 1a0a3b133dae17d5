/- Proved: the statement BlastHarms returns true at every air, list of grades, land, layer, energy and cell, and every list of numbers, and leaves its arguments as they were. Condition: the variable blast.bounds holds what the program lays in it (tied to the text of the program). -/
import Derived.Test.YtdiigflbohbndaaDoorCard
import Derived.Test.YtdiigflbohbndaaDoorOpen
import Derived.Test.YtdiigflbohbndaaDoorOpen3
import Derived.Test.YtdiigflbohbndaaDoorLaw13
namespace Go.Proofs.YtdiigflbohbndaaDoor
open Go.ChangeShapes Go.WideShapes Go.ChangeAt Go.WideMaps Go.WideElems Go.RowKit

set_option maxRecDepth 100000 in
theorem blastHarms_lifted (os : Os) (started : os.Started) (H : Type) (enc : TypeId × Value → H) :
    ReturnsInHanded {} Tryd.checked os 10 .any (fun w args => (Rows.blastHarmsSpec.pre enc Tryd.prog Tryd.f10 [] false w args ∧ laidMetH Tryd.prog laid1 w) ∧ sizedMet enc Tryd.prog Tryd.f10 (OpenSpec.ofChange Rows.blastHarmsSpec) false w args)
      (Rows.blastHarmsSpec.post enc Tryd.prog Tryd.f10 false true false false) := by
  refine returnsInHanded_of_change_and (C := Tryd.checked) (X := fun w _ => laidMetH Tryd.prog laid1 w) (fun _ _ _ hh h => h.of_heap hh) own started (by kernel_rfl) Tryd.func10
    (ChangeSpec.witness_shaped (enc := enc) (C := Tryd.checked) (os := os) (X := fun w _ => laidMetH Tryd.prog laid1 w) false (World.doorLaid Tryd.prog 400 os) #[.slice none 0 0, .slice none 0 0, .agg #[.slice none 0 0, .slice none 0 0], .int .i64 0, .int .i64 0, .int .i64 0, .slice none 0 0] 8 rfl (World.shaped_of_RefB (by kernel_rfl) (by kernel_rfl)) (by kernel_rfl) (by kernel_rfl) (by kernel_rfl) (door_met os _)) ?_
  intro W base args ds gs before hval0 hW _ hsz hL _
  have hval : ∀ (j : Nat) t v, Tryd.f10.params[j]? = some t → args[j]? = some v → Value.okWide Tryd.prog W .any base t v := hval0
  have hW' := hW
  have hlt := fun x hx => hW'.lt x hx
  obtain ⟨p, q, hA0, hV, rfl, hfz, hnd⟩ := hW
  have hA : DataW.TrodAll enc Tryd.prog W 0 (fun _ => true) true Tryd.f10.params.toList args.toList ds p := hA0
  rw [Tryd.params10] at hA hval
  obtain ⟨v0, vs0, d0, ds0, p0, q0, hargs, rfl, rfl, h0, r0⟩ := trodAll_cons hA
  obtain ⟨v1, vs1, d1, ds1, p1, q1, rfl, rfl, rfl, h1, r1⟩ := trodAll_cons r0
  obtain ⟨v2, vs2, d2, ds2, p2, q2, rfl, rfl, rfl, h2, r2⟩ := trodAll_cons r1
  obtain ⟨v3, vs3, d3, ds3, p3, q3, rfl, rfl, rfl, h3, r3⟩ := trodAll_cons r2
  obtain ⟨v4, vs4, d4, ds4, p4, q4, rfl, rfl, rfl, h4, r4⟩ := trodAll_cons r3
  obtain ⟨v5, vs5, d5, ds5, p5, q5, rfl, rfl, rfl, h5, r5⟩ := trodAll_cons r4
  obtain ⟨v6, vs6, d6, ds6, p6, q6, rfl, rfl, rfl, h6, r6⟩ := trodAll_cons r5
  obtain ⟨rfl, rfl, rfl⟩ := trodAll_nil r6
  obtain rfl : args = #[v0, v1, v2, v3, v4, v5, v6] := by cases args; simp_all
  obtain ⟨rfl, rfl⟩ := trodVars_none hV
  obtain ⟨A0, c0, ls, rfl, hR0, hc0⟩ := open_layers (hval 0 33 v0 rfl rfl) h0 (fun x hx => hlt x (by simp [hx]))
  obtain ⟨A1, c1, gs, rfl, hR1, hc1⟩ := open_grades (hval 1 49 v1 rfl rfl) h1 (fun x hx => hlt x (by simp [hx]))
  obtain ⟨Ap2, Ab2, cp2, cb2, ps2, bs2, rfl, hP2, hB2, hcp2, -⟩ := open_land (hval 2 54 v2 rfl rfl) h2 (fun x hx => hlt x (by simp [hx]))
  obtain ⟨la0, rfl, rfl, rfl, hI3⟩ := open_int Tryd.underlying3 (hval 3 3 v3 rfl rfl) h3
  obtain ⟨en, rfl, rfl, rfl, hI4⟩ := open_int Tryd.underlying2 (hval 4 2 v4 rfl rfl) h4
  obtain ⟨at0, rfl, rfl, rfl, hI5⟩ := open_int Tryd.underlying3 (hval 5 3 v5 rfl rfl) h5
  obtain ⟨A6, c6, nums, rfl, hR6, hd6⟩ := open_nums (hval 6 22 v6 rfl rfl) h6 (fun x hx => hlt x (by simp [hx]))
  have hn6 : nums.length ≤ 17592186044416 := by
    rcases hd6 with ⟨_, rfl⟩ | ⟨es, sp, rfl, hl⟩
    · simp
    · have h8 := sized_slice hsz (j := 6) (t := 22) rfl rfl Tryd.underlying22
      rw [show Tryd.checked.prog.bytesOf 3 = 8 by kernel_rfl, hl] at h8
      have : reachBytes ≤ 140737488355328 := by decide
      omega
  refine (law_BlastHarms_any A0 c0 ls A1 c1 gs Ap2 cp2 ps2 Ab2 cb2 bs2 la0 en at0 A6 c6 nums W hR0 hR1 hP2 hB2 hcp2 hR6 hn6 (bnd_of_laid hL)).mono fun e W' ⟨he, hk⟩ => ?_
  subst he
  exact ⟨_, rfl, post_law rfl hW' rfl (by kernel_rfl) rfl hk.below⟩
theorem blastHarms_holds : Rows.BlastHarmsSaid :=
  OpenClaim.holds_of_wide 10 Tryd.f10 rfl rfl rfl rfl rfl rfl rfl ⟨rfl, rfl, rfl, rfl, rfl⟩ rfl rfl rfl rfl rfl (by kernel_rfl) Tryd.func10 (by kernel_rfl)
    (of_decide_eq_true (by kernel_rfl)) (by unfold Func.isWrapper; first | (rw [if_pos (by decide +kernel)]; kernel_rfl) | (rw [if_neg (by decide +kernel)]; exact ⟨rfl, rfl⟩))
    (fun os started H enc _ => blastHarms_lifted os started H enc)
theorem blastHarms_card : Rows.BlastHarmsCardSaid :=
  Claim7.holds_tied_plain_at .later [] [.data] true (true, "64e91ae1107663cfb424624b8dae5066154f53e817cbcf0c5b5260e0831cd210") false
    blastHarms_holds (fun _ h => by cases h) (by kernel_rfl) (fun _ h => by cases h) blastHarms_row_tie rfl ⟨rfl, rfl⟩ (by kernel_rfl) rfl
    (fun f fn hf hfn => by
      obtain rfl : f = 10 := Option.some.inj ((show Tryd.prog.funcNamed "bolide/bolidelaw07.BlastHarms" = some 10 by kernel_rfl).symm.trans hf) |>.symm
      obtain rfl : fn = Tryd.f10 := (Option.some.inj (Tryd.func10.symm.trans hfn)).symm
      exact ⟨by kernel_rfl, fun j t ht => by
        rw [Tryd.params10] at ht
        have hm : t ∈ (33 :: 49 :: 54 :: 3 :: 2 :: 3 :: 22 :: [] : List TypeId) := by simpa using Array.mem_of_getElem? ht
        have hall : ((33 :: 49 :: 54 :: 3 :: 2 :: 3 :: 22 :: [] : List TypeId).all fun u => !Tryd.prog.wantsStandIn u) = true := by kernel_rfl
        exact (show Tryd.prog.wantsStandIn t = false by simpa using List.all_eq_true.1 hall t hm)⟩)
    (by kernel_rfl)
end Go.Proofs.YtdiigflbohbndaaDoor
