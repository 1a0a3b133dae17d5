/- From a row's hypotheses to what the walks ask, and back. -/
import Derived.Test.YtdhiappifnflpaaGreatM13
import Derived.Test.YtdhiappifnflpaaGreatRows
import Derived.Test.YtdhiappifnflpaaGreatChecked
import Derived.ProofKit
import Derived.LaidLaws
import Derived.LaidMore
import Derived.OpenShut
import Derived.SizedLaws
import Derived.Deep.Slices
import Derived.Deep.Fields
set_option maxRecDepth 100000
namespace Go.Proofs.YtdhiappifnflpaaGreat
open Go.ChangeShapes Go.WideShapes Go.ChangeAt Go.WideMaps Go.WideElems Go.RowKit
theorem own:ownKnob Tryz.prog.godebug=none:=by kernel_rfl
theorem laidOut:laidOutB Tryz.prog=true:=by kernel_rfl
section
variable {H:Type} {enc:TypeId × Value→H}
theorem carry_all {P:Program} (hl:laidOutB P=true) {W W':World} (hb:Below W.heap.size W W') {sp':Nat→Bool}:∀ {ts:List TypeId} {vs:List Value} {ds:List (DataW H)} {p:List MemPlace},
  (ts.all fun t=>P.readableRec t&&decide (t<P.types.size))=true→DataW.TrodAll enc P W 0 (fun _=>true) true ts vs ds p→(∀ x∈p,x.block<W.heap.size)→(∀ x∈p,sp' x.block=true)→DataW.TrodAll enc P W' 0 sp' true ts vs ds p
 | [],_,_,_,_,h,_,_=>by
  obtain⟨rfl,rfl,rfl⟩:=trodAll_nil h;exact trodAll_mk0
 | t::ts,_,_,_,ht,h,hlt,hs=>by
  obtain⟨v,vs,d,ds,p,q,rfl,rfl,rfl,h1,h2⟩:=trodAll_cons h;simp only[List.all_cons,Bool.and_eq_true,decide_eq_true_eq] at ht;refine trodAll_cons_mk (Trod_stays hl ht.1.1 ht.1.2 h1 (fun x hx=>hb.same (hlt x (List.mem_append_left _ hx))) (fun x hx=>hs x (List.mem_append_left _ hx))) ?_;exact carry_all hl hb ht.2 h2 (fun x hx=>hlt x (List.mem_append_right _ hx)) (fun x hx=>hs x (List.mem_append_right _ hx))
theorem post_law {f:Func} {s:ChangeSpec} {W W':World} {args:Array Value} {ds gs:List (DataW H)} {before:List MemPlace}
  (hvs:s.vars=[]) (hW:DataW.Whole enc Tryz.prog f.params.toList s.vars false W args.toList ds gs before) (hr:f.resultTypes=#[4])
  (hread:(f.params.toList.all fun t=>Tryz.prog.readableRec t&&decide (t<Tryz.prog.types.size))=true)
  (hfn:s.fn H (ds++gs)={ results:=[.lit (.bool true)],args:=ds }) (hb:Below W.heap.size W W') :
  s.post enc Tryz.prog f false true false false W args (.bool true) W':=by
 have hlt:∀ p∈before,p.block<W.heap.size:=fun p hp=>hW.lt p hp;have hold:∀ p∈before,(fun b=>decide (b<W.heap.size)) p.block=true:=fun p hp=>by simpa using hlt p hp
 have hW':=hW;obtain⟨p,q,hA,hV,rfl,hz,hn⟩:=hW';rw[hvs] at hV;obtain⟨rfl,rfl⟩:=trodVars_none hV
 have hargs:∀ sp:Nat→Bool,(∀ x∈p++[],sp x.block=true)→DataW.TrodAll enc Tryz.prog W' 0 sp true f.params.toList args.toList (s.fn H (ds++[])).args p:=fun sp hsp=>by
  rw[hfn];exact carry_all laidOut hb hread hA (fun x hx=>hlt x (List.mem_append_left _ hx)) (fun x hx=>hsp x (List.mem_append_left _ hx))
 have hvars:∀ sp:Nat→Bool,DataW.TrodVars enc Tryz.prog W' sp s.vars (s.fn H (ds++[])).vars []:=fun sp=>by
  rw[hvs,hfn];rfl
 have hres:∀ (b:Nat) (sp:Nat→Bool) (hd:Bool),DataW.TrodAll enc Tryz.prog W' b sp hd f.resultTypes.toList ((Value.bool true).resultList f.resultTypes.size) (s.fn H (ds++[])).results []:=fun b sp hd=>by
  rw[hfn,hr];exact trodAll_mk1 (shut_bool Tryz.underlying4 true)
 refine⟨ds,[],p++[],[],p,[],hW,hres _ _ _,hargs _ hold,hvars _,World.keptBut_mono (fun x hx=>⟨hx,?_⟩) (hb.frame (·∈p++[])),fun _=>?_⟩
 ·
  rw[List.mem_append] at hx;exact Or.inr hx
 ·
  refine⟨ok_one hr rfl (okWide_bool_mk Tryz.underlying4 true),_,_,([]++p)++[],⟨[]++p,[],trodAll_append (hargs _ (fun _ _=>rfl)) (hres _ _ _),hvars _,rfl,?_,?_⟩,?_⟩
  ·
   intro b off hp;have hin:MemPlace.cell b off∈p++[]:=by simpa using hp
   rw[hb.frozen (hlt _ hin)];exact hz b off hin
  ·
   intro ha;exact absurd ha (by simp)
  ·
   intro x hx _;simpa using hx
theorem open_nums {W:World} {base:Nat} {v:Value} {d:DataW H} {p:List MemPlace} (hv:Value.okWide Tryz.prog W .any base 22 v) (h:DataW.Trod enc Tryz.prog W 0 (fun _=>true) true 22 v d p) (hlt:∀ x∈p,x.block<W.heap.size) :
  ∃ (A:Option Addr) (cap:Nat) (nums:List Int),v=.slice A nums.length cap∧Rd none W 1 (fun x=>[Value.int .i64 x]) A nums.length nums∧((d=.nil∧nums=[])∨∃ es sp,d=.slice es sp∧es.length=nums.length):=by
 obtain⟨A0,n0,c0,rfl⟩:=okWide_slice Tryz.underlying22 hv;obtain⟨fuel,h⟩:=h;rcases open_ints Tryz.underlying22 Tryz.underlying3 (by kernel_rfl) h with⟨h1,h2⟩|⟨a,len,cap,zs,h1,hb,hle,hm,hz,hx,hc,hw⟩
 ·
  simp only[Value.cells,Array.toList,List.cons.injEq,Value.slice.injEq,and_true] at h1;obtain⟨rfl,rfl,rfl⟩:=h1;injection h2 with h2 _
  exact⟨none,0,[],rfl,Rd.nil _ _ _ _ _,.inl ⟨h2,rfl⟩⟩
 ·
  simp only[Value.cells,Array.toList,List.cons.injEq,Value.slice.injEq,and_true] at h1;obtain⟨rfl,rfl,rfl⟩:=h1;simp only[Prod.mk.injEq] at hx;have hzl:n0≤zs.length:=by rw[hz];simpa using hle
  have hl:(zs.take n0).length=n0:=by rw[List.length_take];omega
  refine⟨some a,c0,zs.take n0,by rw[hl],⟨rfl,fun hn=>?_⟩,.inr ⟨_,_,hx.1,?_⟩⟩
  ·
   have hn0:0<n0:=by rwa [hl] at hn
   obtain⟨b,off,rfl,hcell⟩:=ints_at hc oM;refine⟨b,off,rfl,?_,by simp,fun i hi j v hv=>?_⟩
   ·
    refine hlt (.cell b off) ?_;rw[hx.2];exact List.mem_map.2 ⟨0,List.mem_range.2 oM,rfl⟩
   ·
    match j,hv with
    | 0,hv=>
     simp only[List.getElem?_cons_zero,Option.some.injEq] at hv;subst hv;have hi':i<n0:=by rwa [hl] at hi
     rw[Nat.mul_one,Nat.add_zero,hcell i oM];simp[List.getD,List.getElem?_eq_getElem (show i<zs.length by omega)]
    | j+1,hv=>simp at hv
  · simp[lits]
end
theorem pre_and {P:Program} {f:Func} {H:Type} {enc:TypeId × Value→H} {s:ChangeSpec} {a:Assume} {C:Checked} {os:Os} {k:FuncId} {ap fr ho ag:Bool}
  (h:ReturnsInHanded a C os k .any (fun w args=>(s.pre enc P f [] false w args∧True)∧sizedMet enc P f (OpenSpec.ofChange s) false w args) (s.post enc P f ap fr ho ag)) :
  ReturnsInHanded a C os k .any (fun w args=>s.pre enc P f [] false w args∧sizedMet enc P f (OpenSpec.ofChange s) false w args) (s.post enc P f ap fr ho ag):=by
 have e:(fun (w:World) (args:Array Value)=>(s.pre enc P f [] false w args∧True)∧sizedMet enc P f (OpenSpec.ofChange s) false w args)=fun w args=>s.pre enc P f [] false w args∧sizedMet enc P f (OpenSpec.ofChange s) false w args:=
  funext fun w=>funext fun args=>propext (by simp)
 rw[← e];exact h
end Go.Proofs.YtdhiappifnflpaaGreat
