/- From a row's hypotheses to what the walks ask, and back. -/
import Derived.Test.YtdhiappifnflpaaGreatDoorM06
import Derived.Test.YtdhiappifnflpaaGreatDoorCards
import Derived.Test.YtdhiappifnflpaaGreatDoorTie
import Derived.Test.YtdhiappifnflpaaGreatDoorChecked
import Derived.ProofKit
import Derived.LaidMore
import Derived.OpenShut
import Derived.Stop.Joined
import Derived.SizedLaws
import Derived.Deep.Slices
import Derived.Deep.Fields
set_option maxRecDepth 100000
namespace Go.Proofs.YtdhiappifnflpaaGreatDoor
open Go.ChangeShapes Go.WideShapes Go.ChangeAt Go.WideMaps Go.WideElems Go.RowKit
theorem own:ownKnob Tryz.prog.godebug=none:=by kernel_rfl
theorem laidOut:laidOutB Tryz.prog=true:=by kernel_rfl
theorem gBnd : Tryz.prog.globalNamed "bolide/blast.bounds" = some 0 := by kernel_rfl
theorem tBnd:(Tryz.prog.globals[0]?).map (·.type)=some 189:=by kernel_rfl
def laid1 : List (String × DataW Unit) := [("bolide/blast.bounds", Rows.laid_bolide_blast_bounds)]
theorem door_met (os:Os) (args:Array Value):laidMetH Tryz.prog laid1 ((World.doorLaid Tryz.prog 400 os).forCall (fun _ _=>0) ⟨#[],args,[]⟩).memory:=
 laidMetH_of_parts3 (fuel:=8) (laidMet_of_run' 8 (by kernel_rfl) (by kernel_rfl)) (by kernel_rfl) (by kernel_rfl)
theorem laid_list:(Rows.laid_bolide_blast_bounds:DataW Unit)=.agg ((List.range 7).map fun j=>.agg [.lit (.int .i64 (Bl.bLo j)),.lit (.int .i64 (Bl.bHi j))]):=rfl
theorem bnd_of_laid {W:World} (h:laidMetH Tryz.prog laid1 W):Bl.Bnd W:=by
 rw[MakeChecks.laidMetH_plain _ _ _ (by kernel_rfl)] at h;obtain⟨ps,⟨g0,t0,cs0,f0,p0,q0,hg0,ht0,hv0,hd0,_,_⟩,_⟩:=h;obtain rfl:=Option.some.inj (gBnd.symm.trans hg0);obtain rfl:=Option.some.inj (tBnd.symm.trans ht0);obtain⟨xs,m1,rfl,hx1,hlen,hn3,hel⟩:=DataW.trod_array Tryz.underlying189 hd0;have c26:Tryz.prog.cellsOf 29=2:=by kernel_rfl
 rw[laid_list] at hx1;simp only[Prod.mk.injEq,DataW.agg.injEq] at hx1;have hxs:=hx1.1
 have key:∀ j,j<7→cs0.toList[j * 2]?=some (.int .i64 (Bl.bLo j))∧cs0.toList[j * 2+1]?=some (.int .i64 (Bl.bHi j)):=by
  intro j hj;have h0:=hel j hj;rw[c26] at h0;have hjx:xs[j]?=some (xs[j]'(by omega)):=List.getElem?_eq_getElem oM;rw[hjx] at h0
  have hxj:(xs[j]'(by omega)).1=.agg [.lit (.int .i64 (Bl.bLo j)),.lit (.int .i64 (Bl.bHi j))]:=by
   have:=congrArg (·[j]?) hxs;simp only[List.getElem?_map,hjx,Option.map_some] at this;rw[List.getElem?_range hj] at this;simpa using this.symm
  generalize xs[j]'(by omega)=x at h0 hxj;obtain⟨y0,y1,n,hxy,hl2,t0,t1⟩:=trod_struct2 Tryz.underlying29 h0;obtain⟨a,ea,eb,_⟩:=DataW.trod_int Tryz.underlying2 t0;obtain⟨b,ec,ed,_⟩:=DataW.trod_int Tryz.underlying2 t1;have hc1:Tryz.prog.cellsOf 2=1:=by kernel_rfl
  rw[hxy,eb,ed] at hxj;simp only[DataW.agg.injEq,List.cons.injEq,DataW.lit.injEq,Lit.int.injEq,true_and,and_true] at hxj;dsimp only at ea ec;rw[hc1] at ea ec;have g1:=congrArg (·[0]?) ea;have g2:=congrArg (·[0]?) ec;simp[List.getElem?_drop] at g1 g2
  rw[← hxj.1,← hxj.2];exact⟨by simpa using g1,by simpa using g2⟩
 have hlt:0<W.heap.size:=by
  have:=(key 0 oM).1;have hc:=World.var?_cell hg0 hv0 0;rcases Nat.eq_zero_or_pos W.heap.size with h0|h0
  ·
   rw[← Array.getElem?_toList] at hc;rw[show (0:Nat)=0 * 2 from rfl,this] at hc;simp[World.cell?,Array.getElem?_eq_none (show W.heap.size≤0 by omega)] at hc
  · exact h0
 refine⟨hlt,fun j hj=>?_⟩;have h1:=World.var?_cell hg0 hv0 (j * 2);have h2:=World.var?_cell hg0 hv0 (j * 2+1);rw[← Array.getElem?_toList] at h1 h2;exact⟨h1.trans (key j hj).1,h2.trans (key j hj).2⟩
section
variable {H:Type} {enc:TypeId × Value→H}
theorem carry_all {P:Program} (hl:laidOutB P=true) {W W':World} (hb:Below W.heap.size W W') {sp':Nat→Bool}:∀ {ts:List TypeId} {vs:List Value} {ds:List (DataW H)} {p:List MemPlace},
  (ts.all fun t=>P.readableRec t&&decide (t<P.types.size))=true→DataW.TrodAll enc P W 0 (fun _=>true) true ts vs ds p→(∀ x∈p,x.block<W.heap.size)→(∀ x∈p,sp' x.block=true)→DataW.TrodAll enc P W' 0 sp' true ts vs ds p
 | [],_,_,_,_,h,_,_=>by
  obtain⟨rfl,rfl,rfl⟩:=trodAll_nil h;exact trodAll_mk0
 | t::ts,_,_,_,ht,h,hlt,hs=>by
  obtain⟨v,vs,d,ds,p,q,rfl,rfl,rfl,h1,h2⟩:=trodAll_cons h;simp only[List.all_cons,Bool.and_eq_true,decide_eq_true_eq] at ht;refine trodAll_cons_mk (Trod_stays hl ht.1.1 ht.1.2 h1 (fun x hx=>hb.same (hlt x (List.mem_append_left _ hx))) (fun x hx=>hs x (List.mem_append_left _ hx))) ?_;exact carry_all hl hb ht.2 h2 (fun x hx=>hlt x (List.mem_append_right _ hx)) (fun x hx=>hs x (List.mem_append_right _ hx))
theorem post_law {f:Func} {s:ChangeSpec} {W W':World} {args:Array Value} {ds gs:List (DataW H)} {before:List MemPlace}
  (hvs:s.vars=[]) (hW:DataW.Whole enc Tryz.prog f.params.toList s.vars false W args.toList ds gs before) (hr:f.resultTypes=#[4])
  (hread:(f.params.toList.all fun t=>Tryz.prog.readableRec t&&decide (t<Tryz.prog.types.size))=true)
  (hfn:s.fn H (ds++gs)={ results:=[.lit (.bool true)],args:=ds }) (hb:Below W.heap.size W W') :
  s.post enc Tryz.prog f false true false false W args (.bool true) W':=by
 have hlt:∀ p∈before,p.block<W.heap.size:=fun p hp=>hW.lt p hp;have hold:∀ p∈before,(fun b=>decide (b<W.heap.size)) p.block=true:=fun p hp=>by simpa using hlt p hp
 have hW':=hW;obtain⟨p,q,hA,hV,rfl,hz,hn⟩:=hW';rw[hvs] at hV;obtain⟨rfl,rfl⟩:=trodVars_none hV
 have hargs:∀ sp:Nat→Bool,(∀ x∈p++[],sp x.block=true)→DataW.TrodAll enc Tryz.prog W' 0 sp true f.params.toList args.toList (s.fn H (ds++[])).args p:=fun sp hsp=>by
  rw[hfn];exact carry_all laidOut hb hread hA (fun x hx=>hlt x (List.mem_append_left _ hx)) (fun x hx=>hsp x (List.mem_append_left _ hx))
 have hvars:∀ sp:Nat→Bool,DataW.TrodVars enc Tryz.prog W' sp s.vars (s.fn H (ds++[])).vars []:=fun sp=>by
  rw[hvs,hfn];rfl
 have hres:∀ (b:Nat) (sp:Nat→Bool) (hd:Bool),DataW.TrodAll enc Tryz.prog W' b sp hd f.resultTypes.toList ((Value.bool true).resultList f.resultTypes.size) (s.fn H (ds++[])).results []:=fun b sp hd=>by
  rw[hfn,hr];exact trodAll_mk1 (shut_bool Tryz.underlying4 true)
 refine⟨ds,[],p++[],[],p,[],hW,hres _ _ _,hargs _ hold,hvars _,World.keptBut_mono (fun x hx=>⟨hx,?_⟩) (hb.frame (·∈p++[])),fun _=>?_⟩
 ·
  rw[List.mem_append] at hx;exact Or.inr hx
 ·
  refine⟨ok_one hr rfl (okWide_bool_mk Tryz.underlying4 true),_,_,([]++p)++[],⟨[]++p,[],trodAll_append (hargs _ (fun _ _=>rfl)) (hres _ _ _),hvars _,rfl,?_,?_⟩,?_⟩
  ·
   intro b off hp;have hin:MemPlace.cell b off∈p++[]:=by simpa using hp
   rw[hb.frozen (hlt _ hin)];exact hz b off hin
  ·
   intro ha;exact absurd ha (by simp)
  ·
   intro x hx _;simpa using hx
theorem open_nums {W:World} {base:Nat} {v:Value} {d:DataW H} {p:List MemPlace} (hv:Value.okWide Tryz.prog W .any base 22 v) (h:DataW.Trod enc Tryz.prog W 0 (fun _=>true) true 22 v d p) (hlt:∀ x∈p,x.block<W.heap.size) :
  ∃ (A:Option Addr) (cap:Nat) (nums:List Int),v=.slice A nums.length cap∧Rd none W 1 (fun x=>[Value.int .i64 x]) A nums.length nums∧((d=.nil∧nums=[])∨∃ es sp,d=.slice es sp∧es.length=nums.length):=by
 obtain⟨A0,n0,c0,rfl⟩:=okWide_slice Tryz.underlying22 hv;obtain⟨fuel,h⟩:=h;rcases open_ints Tryz.underlying22 Tryz.underlying3 (by kernel_rfl) h with⟨h1,h2⟩|⟨a,len,cap,zs,h1,hb,hle,hm,hz,hx,hc,hw⟩
 ·
  simp only[Value.cells,Array.toList,List.cons.injEq,Value.slice.injEq,and_true] at h1;obtain⟨rfl,rfl,rfl⟩:=h1;injection h2 with h2 _
  exact⟨none,0,[],rfl,Rd.nil _ _ _ _ _,.inl ⟨h2,rfl⟩⟩
 ·
  simp only[Value.cells,Array.toList,List.cons.injEq,Value.slice.injEq,and_true] at h1;obtain⟨rfl,rfl,rfl⟩:=h1;simp only[Prod.mk.injEq] at hx;have hzl:n0≤zs.length:=by rw[hz];simpa using hle
  have hl:(zs.take n0).length=n0:=by rw[List.length_take];omega
  refine⟨some a,c0,zs.take n0,by rw[hl],⟨rfl,fun hn=>?_⟩,.inr ⟨_,_,hx.1,?_⟩⟩
  ·
   have hn0:0<n0:=by rwa [hl] at hn
   obtain⟨b,off,rfl,hcell⟩:=ints_at hc oM;refine⟨b,off,rfl,?_,by simp,fun i hi j v hv=>?_⟩
   ·
    refine hlt (.cell b off) ?_;rw[hx.2];exact List.mem_map.2 ⟨0,List.mem_range.2 oM,rfl⟩
   ·
    match j,hv with
    | 0,hv=>
     simp only[List.getElem?_cons_zero,Option.some.injEq] at hv;subst hv;have hi':i<n0:=by rwa [hl] at hi
     rw[Nat.mul_one,Nat.add_zero,hcell i oM];simp[List.getD,List.getElem?_eq_getElem (show i<zs.length by omega)]
    | j+1,hv=>simp at hv
  · simp[lits]
end
end Go.Proofs.YtdhiappifnflpaaGreatDoor
