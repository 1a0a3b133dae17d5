/- Proved: the statement TopSightings returns true at every list of numbers and however long it is watched, and leaves its arguments as they were. No condition. -/
import Derived.Test.YtdhiappifnflpaaGreatZq
import Derived.Test.YtdhiappifnflpaaGreatM52
namespace Go.Proofs.YtdhiappifnflpaaGreat
open Go.ChangeShapes Go.WideShapes Go.ChangeAt Go.WideMaps Go.WideElems Go.RowKit
set_option maxRecDepth 100000 in
theorem topSightings_lifted (os:Os) (started:os.Started) (H:Type) (enc:TypeId × Value→H) :
  ReturnsInHanded {} Tryz.checked os 4 .any (fun w args=>Rows.topSightingsSpec.pre enc Tryz.prog Tryz.f4 [] false w args∧sizedMet enc Tryz.prog Tryz.f4 (OpenSpec.ofChange Rows.topSightingsSpec) false w args)
   (Rows.topSightingsSpec.post enc Tryz.prog Tryz.f4 false true false false):=by
 refine pre_and (returnsInHanded_of_change_and (C:=Tryz.checked) (X:=fun _ _=>True) (fun _ _ _ _ _=>trivial) own started (by kernel_rfl) Tryz.func4
  (ChangeSpec.witness_shaped (enc:=enc) (C:=Tryz.checked) (os:=os) (X:=fun _ _=>True) false (World.doorLaid Tryz.prog 400 os) #[.slice none 0 0,(0:Int)] 8 rfl (World.shaped_of_RefB (by kernel_rfl) (by kernel_rfl)) (by kernel_rfl) (by kernel_rfl) (by kernel_rfl) trivial) ?_)
 intro W base args ds gs before hval0 hW _ hsz _ _;have hval:∀ (j:Nat) t v,Tryz.f4.params[j]?=some t→args[j]?=some v→Value.okWide Tryz.prog W .any base t v:=hval0;have hW':=hW;have hlt:=fun x hx=>hW'.lt x hx;obtain⟨p,q,hA0,hV,rfl,hfz,hnd⟩:=hW;have hA:DataW.TrodAll enc Tryz.prog W 0 (fun _=>true) true Tryz.f4.params.toList args.toList ds p:=hA0;rw[Tryz.params4] at hA hval;obtain⟨v0,vs0,d0,ds0,p0,q0,hargs,rfl,rfl,h0,r0⟩:=trodAll_cons hA;obtain⟨v1,vs1,d1,ds1,p1,q1,rfl,rfl,rfl,h1,r1⟩:=trodAll_cons r0;obtain⟨rfl,rfl,rfl⟩:=trodAll_nil r1;obtain rfl:args=#[v0,v1]:=by cases args;simp_all
 obtain⟨rfl,rfl⟩:=trodVars_none hV;obtain⟨A0,c0,nums,rfl,hR0,hd0⟩:=open_nums (hval 0 22 v0 rfl rfl) h0 (fun x hx=>hlt x (by simp[hx]))
 have hn0:nums.length≤17592186044416:=by
  rcases hd0 with⟨_,rfl⟩|⟨es,sp,rfl,hl⟩
  · simp
  ·
   have h8:=sized_slice hsz (j:=0) (t:=22) rfl rfl Tryz.underlying22;rw[show Tryz.checked.prog.bytesOf 3=8 by kernel_rfl,hl] at h8;have:reachBytes≤140737488355328:=by decide
   omega
 obtain⟨watch,rfl,rfl,rfl,hI1⟩:=open_int Tryz.underlying3 (hval 1 3 v1 rfl rfl) h1;refine(law_TopSightings_any A0 c0 nums watch W hR0 hn0).mono fun e W' ⟨he,hk⟩=>?_;subst he;exact⟨_,rfl,post_law rfl hW' rfl (by kernel_rfl) rfl hk.below⟩
theorem topSightings_holds:Rows.TopSightingsSaid:=
 OpenClaim.holds_of_wide 4 Tryz.f4 rfl rfl rfl rfl rfl rfl rfl ⟨rfl,rfl,rfl,rfl,rfl⟩ rfl rfl rfl rfl rfl (by kernel_rfl) Tryz.func4 (by kernel_rfl)
  (of_decide_eq_true (by kernel_rfl)) (by unfold Func.isWrapper;first|(rw[if_pos (by decide +kernel)];kernel_rfl)|(rw[if_neg (by decide +kernel)];exact⟨rfl,rfl⟩))
  (fun os started H enc _=>topSightings_lifted os started H enc)
end Go.Proofs.YtdhiappifnflpaaGreat
