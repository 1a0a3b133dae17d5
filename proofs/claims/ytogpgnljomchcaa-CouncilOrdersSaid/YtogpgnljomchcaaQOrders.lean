/- Proved: the statement CouncilOrders returns true at every list of numbers, every place and every item, and leaves its arguments as they were. No condition. -/
import Derived.Test.YtogpgnljomchcaaCrd
import Derived.Test.YtogpgnljomchcaaOpn
import Derived.Test.YtogpgnljomchcaaLOrd
namespace Go.Proofs.Ytogpgnljomchcaa
open Go.ChangeShapes Go.WideShapes Go.ChangeAt Go.WideMaps Go.WideElems Go.RowKit

set_option maxRecDepth 100000 in
theorem councilOrders_lifted (os : Os) (started : os.Started) (H : Type) (enc : TypeId × Value → H) :
    ReturnsInHanded {} Try.checked os 10 .any (fun w args => Rows.councilOrdersSpec.pre enc Try.prog Try.f10 [] false w args ∧ sizedMet enc Try.prog Try.f10 (OpenSpec.ofChange Rows.councilOrdersSpec) false w args)
      (Rows.councilOrdersSpec.post enc Try.prog Try.f10 false true false false) := by
  refine pre_and (returnsInHanded_of_change_and (C := Try.checked) (X := fun _ _ => True) (fun _ _ _ _ _ => trivial) own started (by kernel_rfl) Try.func10
    (ChangeSpec.witness_shaped (enc := enc) (C := Try.checked) (os := os) (X := fun _ _ => True) false (World.doorLaid Try.prog 400 os) #[.slice none 0 0, .int .i64 0, .agg #[.int .i64 0, .int .i64 0, .bool false, .int .i64 0, .int .i64 0, .bool false, .int .i64 0, .int .i64 0, .int .i64 0]] 8 rfl (World.shaped_of_RefB (by kernel_rfl) (by kernel_rfl)) (by kernel_rfl) (by kernel_rfl) (by kernel_rfl) trivial) ?_)
  intro W base args ds gs before hval0 hW _ hsz _ _
  have hval : ∀ (j : Nat) t v, Try.f10.params[j]? = some t → args[j]? = some v → Value.okWide Try.prog W .any base t v := hval0
  have hW' := hW
  have hlt := fun x hx => hW'.lt x hx
  obtain ⟨p, q, hA0, hV, rfl, hfz, hnd⟩ := hW
  have hA : DataW.TrodAll enc Try.prog W 0 (fun _ => true) true Try.f10.params.toList args.toList ds p := hA0
  rw [Try.params10] at hA hval
  obtain ⟨v0, vs0, d0, ds0, p0, q0, hargs, rfl, rfl, h0, r0⟩ := trodAll_cons hA
  obtain ⟨v1, vs1, d1, ds1, p1, q1, rfl, rfl, rfl, h1, r1⟩ := trodAll_cons r0
  obtain ⟨v2, vs2, d2, ds2, p2, q2, rfl, rfl, rfl, h2, r2⟩ := trodAll_cons r1
  obtain ⟨rfl, rfl, rfl⟩ := trodAll_nil r2
  obtain rfl : args = #[v0, v1, v2] := by cases args; simp_all
  obtain ⟨rfl, rfl⟩ := trodVars_none hV
  obtain ⟨A0, c0, nums, rfl, hR0, hd0⟩ := open_nums (hval 0 32 v0 rfl rfl) h0 (fun x hx => hlt x (by simp [hx]))
  have hn0 : nums.length ≤ 17592186044416 := by
    rcases hd0 with ⟨_, rfl⟩ | ⟨es, sp, rfl, hl⟩
    · simp
    · have h8 := sized_slice hsz (j := 0) (t := 32) rfl rfl Try.underlying32
      rw [show Try.checked.prog.bytesOf 3 = 8 by kernel_rfl, hl] at h8
      have : reachBytes ≤ 140737488355328 := by decide
      omega
  obtain ⟨at0, rfl, rfl, rfl, hI1⟩ := open_int Try.underlying3 (hval 1 3 v1 rfl rfl) h1
  obtain ⟨n, rfl⟩ := open_item (hval 2 31 v2 rfl rfl) h2
  refine (law_CouncilOrders_any A0 c0 nums at0 n W hR0 hn0).mono fun e W' ⟨he, hk⟩ => ?_
  subst he
  exact ⟨_, rfl, post_law rfl hW' rfl (by kernel_rfl) rfl hk.below⟩
theorem councilOrders_holds : Rows.CouncilOrdersSaid :=
  OpenClaim.holds_of_wide 10 Try.f10 rfl rfl rfl rfl rfl rfl rfl ⟨rfl, rfl, rfl, rfl, rfl⟩ rfl rfl rfl rfl rfl (by kernel_rfl) Try.func10 (by kernel_rfl)
    (of_decide_eq_true (by kernel_rfl)) (by unfold Func.isWrapper; first | (rw [if_pos (by decide +kernel)]; kernel_rfl) | (rw [if_neg (by decide +kernel)]; exact ⟨rfl, rfl⟩))
    (fun os started H enc _ => councilOrders_lifted os started H enc)
end Go.Proofs.Ytogpgnljomchcaa
