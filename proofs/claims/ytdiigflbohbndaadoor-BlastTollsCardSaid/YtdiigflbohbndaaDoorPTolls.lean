/- Proved: the statement BlastTolls returns true at every air, list of grades, land, rock, fall and stretch, and every list of numbers, and leaves its arguments as they were. Condition: the variable blast.bounds holds what the program lays in it (tied to the text of the program). -/
import Derived.Test.YtdiigflbohbndaaDoorCard
import Derived.Test.YtdiigflbohbndaaDoorOpen
import Derived.Test.YtdiigflbohbndaaDoorOpen2
import Derived.Test.YtdiigflbohbndaaDoorOpen3
import Derived.Test.YtdiigflbohbndaaDoorLaw14
namespace Go.Proofs.YtdiigflbohbndaaDoor
open Go.ChangeShapes Go.WideShapes Go.ChangeAt Go.WideMaps Go.WideElems Go.RowKit

set_option maxRecDepth 100000 in
theorem blastTolls_lifted (os : Os) (started : os.Started) (H : Type) (enc : TypeId × Value → H) :
    ReturnsInHanded {} Tryd.checked os 12 .any (fun w args => (Rows.blastTollsSpec.pre enc Tryd.prog Tryd.f12 [] false w args ∧ laidMetH Tryd.prog laid1 w) ∧ sizedMet enc Tryd.prog Tryd.f12 (OpenSpec.ofChange Rows.blastTollsSpec) false w args)
      (Rows.blastTollsSpec.post enc Tryd.prog Tryd.f12 false true false false) := by
  refine returnsInHanded_of_change_and (C := Tryd.checked) (X := fun w _ => laidMetH Tryd.prog laid1 w) (fun _ _ _ hh h => h.of_heap hh) own started (by kernel_rfl) Tryd.func12
    (ChangeSpec.witness_shaped (enc := enc) (C := Tryd.checked) (os := os) (X := fun w _ => laidMetH Tryd.prog laid1 w) false (World.doorLaid Tryd.prog 400 os) #[.slice none 0 0, .slice none 0 0, .agg #[.slice none 0 0, .slice none 0 0], .agg #[.int .i64 0, .int .i64 0, .int .i64 0, .int .i64 0, .int .i64 0, .int .i64 0, .int .i64 0, .int .i64 0, .int .i64 0, .int .i64 0, .bool false], .agg #[.int .i64 0, .int .i64 0, .int .i64 0, .int .i64 0], .int .i64 0, .int .i64 0, .slice none 0 0] 8 rfl (World.shaped_of_RefB (by kernel_rfl) (by kernel_rfl)) (by kernel_rfl) (by kernel_rfl) (by kernel_rfl) (door_met os _)) ?_
  intro W base args ds gs before hval0 hW _ hsz hL _
  have hval : ∀ (j : Nat) t v, Tryd.f12.params[j]? = some t → args[j]? = some v → Value.okWide Tryd.prog W .any base t v := hval0
  have hW' := hW
  have hlt := fun x hx => hW'.lt x hx
  obtain ⟨p, q, hA0, hV, rfl, hfz, hnd⟩ := hW
  have hA : DataW.TrodAll enc Tryd.prog W 0 (fun _ => true) true Tryd.f12.params.toList args.toList ds p := hA0
  rw [Tryd.params12] at hA hval
  obtain ⟨v0, vs0, d0, ds0, p0, q0, hargs, rfl, rfl, h0, r0⟩ := trodAll_cons hA
  obtain ⟨v1, vs1, d1, ds1, p1, q1, rfl, rfl, rfl, h1, r1⟩ := trodAll_cons r0
  obtain ⟨v2, vs2, d2, ds2, p2, q2, rfl, rfl, rfl, h2, r2⟩ := trodAll_cons r1
  obtain ⟨v3, vs3, d3, ds3, p3, q3, rfl, rfl, rfl, h3, r3⟩ := trodAll_cons r2
  obtain ⟨v4, vs4, d4, ds4, p4, q4, rfl, rfl, rfl, h4, r4⟩ := trodAll_cons r3
  obtain ⟨v5, vs5, d5, ds5, p5, q5, rfl, rfl, rfl, h5, r5⟩ := trodAll_cons r4
  obtain ⟨v6, vs6, d6, ds6, p6, q6, rfl, rfl, rfl, h6, r6⟩ := trodAll_cons r5
  obtain ⟨v7, vs7, d7, ds7, p7, q7, rfl, rfl, rfl, h7, r7⟩ := trodAll_cons r6
  obtain ⟨rfl, rfl, rfl⟩ := trodAll_nil r7
  obtain rfl : args = #[v0, v1, v2, v3, v4, v5, v6, v7] := by cases args; simp_all
  obtain ⟨rfl, rfl⟩ := trodVars_none hV
  obtain ⟨A0, c0, ls, rfl, hR0, hc0⟩ := open_layers (hval 0 33 v0 rfl rfl) h0 (fun x hx => hlt x (by simp [hx]))
  obtain ⟨A1, c1, gs, rfl, hR1, hc1⟩ := open_grades (hval 1 49 v1 rfl rfl) h1 (fun x hx => hlt x (by simp [hx]))
  obtain ⟨Ap2, Ab2, cp2, cb2, ps2, bs2, rfl, hP2, hB2, hcp2, -⟩ := open_land (hval 2 54 v2 rfl rfl) h2 (fun x hx => hlt x (by simp [hx]))
  obtain ⟨r, rfl⟩ := open_rock (hval 3 28 v3 rfl rfl) h3
  obtain ⟨f, rfl⟩ := open_fall (hval 4 30 v4 rfl rfl) h4
  obtain ⟨fr0, rfl, rfl, rfl, hI5⟩ := open_int Tryd.underlying3 (hval 5 3 v5 rfl rfl) h5
  obtain ⟨to0, rfl, rfl, rfl, hI6⟩ := open_int Tryd.underlying3 (hval 6 3 v6 rfl rfl) h6
  obtain ⟨A7, c7, nums, rfl, hR7, hd7⟩ := open_nums (hval 7 22 v7 rfl rfl) h7 (fun x hx => hlt x (by simp [hx]))
  have hn7 : nums.length ≤ 17592186044416 := by
    rcases hd7 with ⟨_, rfl⟩ | ⟨es, sp, rfl, hl⟩
    · simp
    · have h8 := sized_slice hsz (j := 7) (t := 22) rfl rfl Tryd.underlying22
      rw [show Tryd.checked.prog.bytesOf 3 = 8 by kernel_rfl, hl] at h8
      have : reachBytes ≤ 140737488355328 := by decide
      omega
  refine (law_BlastTolls_any A0 c0 ls A1 c1 gs Ap2 cp2 ps2 Ab2 cb2 bs2 r f fr0 to0 A7 c7 nums W hR0 hR1 hP2 hB2 hcp2 hR7 hn7 (bnd_of_laid hL)).mono fun e W' ⟨he, hk⟩ => ?_
  subst he
  exact ⟨_, rfl, post_law rfl hW' rfl (by kernel_rfl) rfl hk.below⟩
theorem blastTolls_holds : Rows.BlastTollsSaid :=
  OpenClaim.holds_of_wide 12 Tryd.f12 rfl rfl rfl rfl rfl rfl rfl ⟨rfl, rfl, rfl, rfl, rfl⟩ rfl rfl rfl rfl rfl (by kernel_rfl) Tryd.func12 (by kernel_rfl)
    (of_decide_eq_true (by kernel_rfl)) (by unfold Func.isWrapper; first | (rw [if_pos (by decide +kernel)]; kernel_rfl) | (rw [if_neg (by decide +kernel)]; exact ⟨rfl, rfl⟩))
    (fun os started H enc _ => blastTolls_lifted os started H enc)
theorem blastTolls_card : Rows.BlastTollsCardSaid :=
  Claim7.holds_tied_plain_at .later [] [.data] true (true, "64e91ae1107663cfb424624b8dae5066154f53e817cbcf0c5b5260e0831cd210") false
    blastTolls_holds (fun _ h => by cases h) (by kernel_rfl) (fun _ h => by cases h) blastTolls_row_tie rfl ⟨rfl, rfl⟩ (by kernel_rfl) rfl
    (fun f fn hf hfn => by
      obtain rfl : f = 12 := Option.some.inj ((show Tryd.prog.funcNamed "bolide/bolidelaw07.BlastTolls" = some 12 by kernel_rfl).symm.trans hf) |>.symm
      obtain rfl : fn = Tryd.f12 := (Option.some.inj (Tryd.func12.symm.trans hfn)).symm
      exact ⟨by kernel_rfl, fun j t ht => by
        rw [Tryd.params12] at ht
        have hm : t ∈ (33 :: 49 :: 54 :: 28 :: 30 :: 3 :: 3 :: 22 :: [] : List TypeId) := by simpa using Array.mem_of_getElem? ht
        have hall : ((33 :: 49 :: 54 :: 28 :: 30 :: 3 :: 3 :: 22 :: [] : List TypeId).all fun u => !Tryd.prog.wantsStandIn u) = true := by kernel_rfl
        exact (show Tryd.prog.wantsStandIn t = false by simpa using List.all_eq_true.1 hall t hm)⟩)
    (by kernel_rfl)
end Go.Proofs.YtdiigflbohbndaaDoor
