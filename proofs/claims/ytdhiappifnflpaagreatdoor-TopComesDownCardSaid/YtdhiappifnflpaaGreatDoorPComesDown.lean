/- Proved: the statement TopComesDown returns true at every list of numbers, and leaves its arguments as they were. Condition: the variable blast.bounds holds what the program lays in it (tied to the text of the program). -/
import Derived.Test.YtdhiappifnflpaaGreatDoorEh
import Derived.Test.YtdhiappifnflpaaGreatDoorEf
namespace Go.Proofs.YtdhiappifnflpaaGreatDoor
open Go.ChangeShapes Go.WideShapes Go.ChangeAt Go.WideMaps Go.WideElems Go.RowKit
set_option maxRecDepth 100000 in
theorem topComesDown_lifted (os:Os) (started:os.Started) (H:Type) (enc:TypeId × Value→H) :
  ReturnsInHanded {} Tryz.checked os 3 .any (fun w args=>(Rows.topComesDownSpec.pre enc Tryz.prog Tryz.f3 [] false w args∧laidMetH Tryz.prog laid1 w)∧sizedMet enc Tryz.prog Tryz.f3 (OpenSpec.ofChange Rows.topComesDownSpec) false w args)
   (Rows.topComesDownSpec.post enc Tryz.prog Tryz.f3 false true false false):=by
 refine returnsInHanded_of_change_and (C:=Tryz.checked) (X:=fun w _=>laidMetH Tryz.prog laid1 w) (fun _ _ _ hh h=>h.of_heap hh) own started (by kernel_rfl) Tryz.func3
  (ChangeSpec.witness_shaped (enc:=enc) (C:=Tryz.checked) (os:=os) (X:=fun w _=>laidMetH Tryz.prog laid1 w) false (World.doorLaid Tryz.prog 400 os) #[.slice none 0 0] 8 rfl (World.shaped_of_RefB (by kernel_rfl) (by kernel_rfl)) (by kernel_rfl) (by kernel_rfl) (by kernel_rfl) (door_met os _)) ?_
 intro W base args ds gs before hval0 hW _ hsz hL _;have hval:∀ (j:Nat) t v,Tryz.f3.params[j]?=some t→args[j]?=some v→Value.okWide Tryz.prog W .any base t v:=hval0;have hW':=hW;have hlt:=fun x hx=>hW'.lt x hx;obtain⟨p,q,hA0,hV,rfl,hfz,hnd⟩:=hW;have hA:DataW.TrodAll enc Tryz.prog W 0 (fun _=>true) true Tryz.f3.params.toList args.toList ds p:=hA0;rw[Tryz.params3] at hA hval;obtain⟨v0,vs0,d0,ds0,p0,q0,hargs,rfl,rfl,h0,r0⟩:=trodAll_cons hA;obtain⟨rfl,rfl,rfl⟩:=trodAll_nil r0;obtain rfl:args=#[v0]:=by cases args;simp_all
 obtain⟨rfl,rfl⟩:=trodVars_none hV;obtain⟨A0,c0,nums,rfl,hR0,hd0⟩:=open_nums (hval 0 22 v0 rfl rfl) h0 (fun x hx=>hlt x (by simp[hx]))
 have hn0:nums.length≤17592186044416:=by
  rcases hd0 with⟨_,rfl⟩|⟨es,sp,rfl,hl⟩
  · simp
  ·
   have h8:=sized_slice hsz (j:=0) (t:=22) rfl rfl Tryz.underlying22;rw[show Tryz.checked.prog.bytesOf 3=8 by kernel_rfl,hl] at h8;have:reachBytes≤140737488355328:=by decide
   omega
 refine(law_TopComesDown_any A0 c0 nums W hR0 hn0 (bnd_of_laid hL)).mono fun e W' ⟨he,hk⟩=>?_;subst he;exact⟨_,rfl,post_law rfl hW' rfl (by kernel_rfl) rfl hk.below⟩
theorem topComesDown_holds:Rows.TopComesDownSaid:=
 OpenClaim.holds_of_wide 3 Tryz.f3 rfl rfl rfl rfl rfl rfl rfl ⟨rfl,rfl,rfl,rfl,rfl⟩ rfl rfl rfl rfl rfl (by kernel_rfl) Tryz.func3 (by kernel_rfl)
  (of_decide_eq_true (by kernel_rfl)) (by unfold Func.isWrapper;first|(rw[if_pos (by decide +kernel)];kernel_rfl)|(rw[if_neg (by decide +kernel)];exact⟨rfl,rfl⟩))
  (fun os started H enc _=>topComesDown_lifted os started H enc)
theorem topComesDown_card:Rows.TopComesDownCardSaid:=
 Claim7.holds_tied_plain_at .later [] [.data] true (true, "2e3e333f2c19bc57f6d13f0664565ec1b66bc544c99fb580a5171a2fee84e4e8") false
  topComesDown_holds (fun _ h=>by cases h) (by kernel_rfl) (fun _ h=>by cases h) topComesDown_row_tie rfl ⟨rfl,rfl⟩ (by kernel_rfl) rfl
  (fun f fn hf hfn=>by
   obtain rfl : f = 3 := Option.some.inj ((show Tryz.prog.funcNamed "bolide/bolidetop.TopComesDown" = some 3 by kernel_rfl).symm.trans hf) |>.symm
   obtain rfl:fn=Tryz.f3:=(Option.some.inj (Tryz.func3.symm.trans hfn)).symm
   exact⟨by kernel_rfl,fun j t ht=>by
    rw[Tryz.params3] at ht;have hm:t∈(22::[]:List TypeId):=by simpa using Array.mem_of_getElem? ht
    have hall:((22::[]:List TypeId).all fun u=>!Tryz.prog.wantsStandIn u)=true:=by kernel_rfl
    exact(show Tryz.prog.wantsStandIn t=false by simpa using List.all_eq_true.1 hall t hm)⟩)
  (by kernel_rfl)
end Go.Proofs.YtdhiappifnflpaaGreatDoor
