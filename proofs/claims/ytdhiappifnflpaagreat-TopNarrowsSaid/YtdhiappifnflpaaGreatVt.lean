/- Orbits: the walks of orbit, fourth part: step. -/
import Derived.Test.YtdhiappifnflpaaGreatM19
import Derived.Test.YtdhiappifnflpaaGreatM18
namespace Go.Proofs.YtdhiappifnflpaaGreat
open Go.RowKit
theorem overA_bd {W:Wd} {d:Dr} {t:Int} {a:Ar} (hW:W.ok) (hd:d.ok):(overA mp d a (W.hvs t)).bd 17179869184:=by
 rw[← accO_all]
 have h:=accO_bd hd (pullsL W t a) (fun p hp=>by
  unfold pullsL at hp;obtain⟨q9,-,rfl⟩:=List.mem_map.1 hp;exact pull_bd _ _)
 rw[pullsL_len] at h;have:=hW.n1;exact h.mono (by omega)
set_option maxRecDepth 100000 in
set_option maxHeartbeats 4000000 in
theorem orbit_step_any (A:Option Addr) (c:Nat) (W:Wd) (d:Dr) (t:Int) (b:Bx) (w:World) (hW:W.ok) (hA:WdAt none w A W) (hd:d.ok) (ht:0≤t∧t≤1073741824) (hb:okBx b=true) :
  Calls Tryz.prog 151 #[.agg #[.slice A W.bs.length c,.int .i64 W.home],.agg #[.int .i64 d.light.lo,.int .i64 d.light.hi,.int .i64 d.heat.lo,.int .i64 d.heat.hi,.int .i64 d.gas],.int .i64 t,.agg #[.int .i64 b.x.lo,.int .i64 b.x.hi,.int .i64 b.y.lo,.int .i64 b.y.hi,.int .i64 b.u.lo,.int .i64 b.u.hi,.int .i64 b.v.lo,.int .i64 b.v.hi]] w fun e w'=>e=.returned (.tuple #[.agg #[.int .i64 (stepB mp d (W.hvs t) b).x.lo,.int .i64 (stepB mp d (W.hvs t) b).x.hi,.int .i64 (stepB mp d (W.hvs t) b).y.lo,.int .i64 (stepB mp d (W.hvs t) b).y.hi,.int .i64 (stepB mp d (W.hvs t) b).u.lo,.int .i64 (stepB mp d (W.hvs t) b).u.hi,.int .i64 (stepB mp d (W.hvs t) b).v.lo,.int .i64 (stepB mp d (W.hvs t) b).v.hi],.bool (okBx (stepB mp d (W.hvs t) b))])∧Kp w.heap.size none w w':=by
 obtain⟨⟨o1,o2,o3,o4⟩,b1,b2,b3,b4,b5,b6,b7,b8⟩:=(okBx_iff b).1 hb;have cv:=fun w h=>force_Over_any A c W d t b.place w hW h hd ht (by unfold Ar.bd Sp.bd Bx.place;simp only;omega);have ub:=overA_bd (t:=t) (a:=b.place) hW hd;obtain⟨out,hout⟩:∃ q9,Hid (q9=stepB mp d (W.hvs t) b):=⟨_,Lib.hid rfl⟩;have eo:out=⟨addS b.x (addS b.u (overA mp d b.place (W.hvs t)).x),addS b.y (addS b.v (overA mp d b.place (W.hvs t)).y),addS b.u (overA mp d b.place (W.hvs t)).x,addS b.v (overA mp d b.place (W.hvs t)).y⟩:=hout.out;rw[← hout.out];generalize overA mp d b.place (W.hvs t)=a at *;simp only[Bx.place] at cv;unfold Ar.bd Sp.bd at ub;have a1:=fun w=>orbit_add_any b.u a.x (by unfold wrap64;omega) (by unfold wrap64;omega) w;have a2:=fun w=>orbit_add_any b.v a.y (by unfold wrap64;omega) (by unfold wrap64;omega) w;have a3:=fun w=>orbit_add_any b.x (addS b.u a.x) (by unfold wrap64 addS;simp only;omega) (by unfold wrap64 addS;simp only;omega) w;have a4:=fun w=>orbit_add_any b.y (addS b.v a.y) (by unfold wrap64 addS;simp only;omega) (by unfold wrap64 addS;simp only;omega) w;have e1:addS b.u a.x=out.u:=by rw[eo]
 have e2:addS b.v a.y=out.v:=by rw[eo]
 have e3:addS b.x (addS b.u a.x)=out.x:=by rw[eo]
 have e4:addS b.y (addS b.v a.y)=out.y:=by rw[eo]
 rw[e3] at a3;rw[e4] at a4;rw[e1] at a1 a3;rw[e2] at a2 a4;have ck:=fun w=>orbit_Check_any out w;obtain⟨rb,hrb⟩:∃ q9,Hid (q9=okBx out):=⟨_,Lib.hid rfl⟩;rw[← hrb.out]
 have ck:∀ w,Calls Tryz.prog 84 #[.agg #[.int .i64 out.x.lo,.int .i64 out.x.hi,.int .i64 out.y.lo,.int .i64 out.y.hi,.int .i64 out.u.lo,.int .i64 out.u.hi,.int .i64 out.v.lo,.int .i64 out.v.hi]] w fun e w'=>e=.returned (.int .i64 (if rb=true then 0 else 2))∧Kp w.heap.size none w w':=by
  intro w;have:=ck w;unfold errBx at this;rwa [← hrb.out] at this
 clear e1 e2 e3 e4 eo ub o1 o2 o3 o4 b1 b2 b3 b4 b5 b6 b7 b8 hb hW hd ht;obtain⟨w1,hw1,D,F,B,R,K,hz⟩:=box4 w 27 #[.slice A W.bs.length c,.int .i64 W.home] 31 #[.int .i64 d.light.lo,.int .i64 d.light.hi,.int .i64 d.heat.lo,.int .i64 d.heat.hi,.int .i64 d.gas] 33 #[.int .i64 b.x.lo,.int .i64 b.x.hi,.int .i64 b.y.lo,.int .i64 b.y.hi,.int .i64 b.u.lo,.int .i64 b.u.hi,.int .i64 b.v.lo,.int .i64 b.v.hi] 33 #[.int .i64 0,.int .i64 0,.int .i64 0,.int .i64 0,.int .i64 0,.int .i64 0,.int .i64 0,.int .i64 0];go_enter Tryz.func151,Tryz.ntmps151
 go_wp2_with fail
 rw[← hw1];clear hw1;refine(cv _ (hA.kpN K)).mono ?_;rintro e w2 ⟨rfl,k⟩;replace D:=D.kpN k;replace F:=F.kpN k;replace B:=B.kpN k;replace R:=R.kpN k;replace K:=K.tN k;have hzk:=k.size;clear k;have pB:=B.cell;have pR:=R.cell;obtain⟨w9_,rfl,U,k9_,hzn⟩:=box1 w2 167 #[.int .i64 a.x.lo,.int .i64 a.x.hi,.int .i64 a.y.lo,.int .i64 a.y.hi];replace B:=B.kpN k9_;replace R:=R.kpN k9_;replace K:=K.thenN k9_ (by first|exact Nat.le_refl _|omega);clear k9_;have cB:=B.cell;have fB:=B.frozen;have cR:=R.cell;have fR:=R.frozen;go_wp2_with fail
 clear cB fB pB cR fR pR;generalize (w2.alloc (.cells #[.int .i64 a.x.lo,.int .i64 a.x.hi,.int .i64 a.y.lo,.int .i64 a.y.hi] 167))=w3 at *;obtain⟨x,hx⟩:∃ q9,q9=w2.heap.size:=⟨_,rfl⟩;rw[← hx] at U ⊢;replace hx:=Lib.hid hx;have hxw:w.heap.size+4≤x:=by have:=hx.out;omega
 clear hx hzn hzk hz D F;refine wp_region_inv (Γ:=GF) [none,none,none,none,none,none,none,none,none,none,none,none,some 10,some 11,none,none,none,none,none,none,none,none,none,none,none,none,none,none,none,none,some 0,some 1,some 2,some 3,some 4,some 5,some 6,some 7,some 8,some 9] [[],[0],[],[2],[0,1,2,3],[],[5],[],[7],[0,1,2,3,4,5,6,7,8],[],[],[0,1,2,3,4,5,6,7,8,9,10,11],[0,1,2,3,4,5,6,7,8,9,10,11,12]] [[2,3,5,6,7,8,10,11],[0,2,3,5,6,7,8,10,11],[0,1,5,6,7,8,10,11],[0,1,2,5,6,7,8,10,11],[0,1,2,3,5,6,7,8,10,11],[0,1,2,3,4,7,8,10,11],[0,1,2,3,4,5,7,8,10,11],[0,1,2,3,4,5,6,10,11],[0,1,2,3,4,5,6,7,10,11],[0,1,2,3,4,5,6,7,8,10,11],[0,1,2,3,4,5,6,7,8,9,11],[0,1,2,3,4,5,6,7,8,9,10],[0,1,2,3,4,5,6,7,8,9,10,11],[0,1,2,3,4,5,6,7,8,9,10,11,12]] (fun γ=>[.pointer (some ⟨w.heap.size+2,4,none⟩),.agg #[.int .i64 b.u.lo,.int .i64 b.u.hi],.pointer (some ⟨x,0,none⟩),.agg #[.int .i64 a.x.lo,.int .i64 a.x.hi],.agg #[.int .i64 out.u.lo,.int .i64 out.u.hi],.pointer (some ⟨w.heap.size+2,6,none⟩),.agg #[.int .i64 b.v.lo,.int .i64 b.v.hi],.pointer (some ⟨x,2,none⟩),.agg #[.int .i64 a.y.lo,.int .i64 a.y.hi],.agg #[.int .i64 out.v.lo,.int .i64 out.v.hi],.pointer (some ⟨γ.n1,0,none⟩),.pointer (some ⟨γ.n2,0,none⟩),undef,undef]) (fun γ=>[none,none,none,none,none,none,none,none,none,none,none,none,some (.pointer (some ⟨γ.n1,0,none⟩)),some (.pointer (some ⟨γ.n2,0,none⟩)),none,none,none,none,none,none,none,none,none,none,none,none,none,none,none,none,some (.pointer (some ⟨w.heap.size+2,4,none⟩)),some (.agg #[.int .i64 b.u.lo,.int .i64 b.u.hi]),some (.pointer (some ⟨x,0,none⟩)),some (.agg #[.int .i64 a.x.lo,.int .i64 a.x.hi]),some (.agg #[.int .i64 out.u.lo,.int .i64 out.u.hi]),some (.pointer (some ⟨w.heap.size+2,6,none⟩)),some (.agg #[.int .i64 b.v.lo,.int .i64 b.v.hi]),some (.pointer (some ⟨x,2,none⟩)),some (.agg #[.int .i64 a.y.lo,.int .i64 a.y.hi]),some (.agg #[.int .i64 out.v.lo,.int .i64 out.v.hi])]) ?A4_1 (fun n D γ w=>Kp w3.heap.size none w3 w∧FreeB 29 γ.n1 γ.c1 w3.heap.size (#[(if γ.s1=true then .int .i64 out.u.lo else .int .i64 0),(if γ.s1=true then .int .i64 out.u.hi else .int .i64 0)]) w∧FreeB 29 γ.n2 γ.c2 w3.heap.size (#[(if γ.s2=true then .int .i64 out.v.lo else .int .i64 0),(if γ.s2=true then .int .i64 out.v.hi else .int .i64 0)]) w∧(γ.c1=true→γ.c2=true→γ.n1≠γ.n2)) (fun k γ w=>match k with|10=>γ.c1=true|11=>γ.c2=true|12=>γ.s1=true|13=>γ.s2=true|_=>True) ⟨0,0,false,false,false,false⟩ (by kernel_rfl) (fun _=>rfl) ?hA4_1 (by kernel_rfl) ?hB04_1 ?hop4_1 ?hend4_1
 case hA4_1=>intro γ;dsimp only[fullV];rfl
 case hB04_1=>
  exact⟨(Kp.refl _ none _).drew,fun e=>(by cases e),fun e=>(by cases e),fun e _=>(by cases e)⟩
 case hop4_1=>
  intro hA;refine⟨?_,?_,?_,?_,?_,?_,?_,?_,?_,?_,?_,?_,?_,?_,trivial⟩
  ·
   refine opOk_v hA (fun _=>rfl) (fun _ _=>trivial) ?_ ?_
   ·
    intro n D γ w hn h;replace hn:n<14:=hn;try dsimp only at h
    exact h
   intro n D γ w hB hU K hK;try dsimp only at hB
   try dsimp only
   clear hB hU;go_step;exact hK _ rfl
  ·
   refine opOk_v hA (fun _=>rfl) (fun _ _=>trivial) ?_ ?_
   ·
    intro n D γ w hn h;replace hn:n<14:=hn;try dsimp only at h
    exact h
   intro n D γ w hB hU K hK;try dsimp only at hB
   try dsimp only
   have cB:=fun i=>(B.kpN hB.1).cell i;have cR:=fun i=>(R.kpN hB.1).cell i;have cU:=fun i=>(U.kpN hB.1).cell i;clear hB hU;go_step;exact hK _ rfl
  ·
   refine opOk_v hA (fun _=>rfl) (fun _ _=>trivial) ?_ ?_
   ·
    intro n D γ w hn h;replace hn:n<14:=hn;try dsimp only at h
    exact h
   intro n D γ w hB hU K hK;try dsimp only at hB
   try dsimp only
   clear hB hU;go_step;exact hK _ rfl
  ·
   refine opOk_v hA (fun _=>rfl) (fun _ _=>trivial) ?_ ?_
   ·
    intro n D γ w hn h;replace hn:n<14:=hn;try dsimp only at h
    exact h
   intro n D γ w hB hU K hK;try dsimp only at hB
   try dsimp only
   have cB:=fun i=>(B.kpN hB.1).cell i;have cR:=fun i=>(R.kpN hB.1).cell i;have cU:=fun i=>(U.kpN hB.1).cell i;clear hB hU;go_step;exact hK _ rfl
  ·
   refine opOk_l hA (fun _=>rfl) ?_;intro n D γ w hn hD hB hU K hK;try dsimp only at hB
   clear hU;replace hn:n<14:=hn;try dsimp only
   have K9:=hB.1;go_step;refine(a1 _).mono ?_;rintro e w5 ⟨rfl,k5⟩;refine hK _ _ γ rfl ⟨hB.1.thenN k5 (Nat.le_refl _),(hB.2.1).kpN k5,(hB.2.2.1).kpN k5,hB.2.2.2⟩ trivial ?_;try dsimp only[allP,List.getD_cons_zero,List.getD_cons_succ]
   (repeat' apply And.intro)<;>first|exact rfl|exact trivial|exact id|assumption
  ·
   refine opOk_v hA (fun _=>rfl) (fun _ _=>trivial) ?_ ?_
   ·
    intro n D γ w hn h;replace hn:n<14:=hn;try dsimp only at h
    exact h
   intro n D γ w hB hU K hK;try dsimp only at hB
   try dsimp only
   clear hB hU;go_step;exact hK _ rfl
  ·
   refine opOk_v hA (fun _=>rfl) (fun _ _=>trivial) ?_ ?_
   ·
    intro n D γ w hn h;replace hn:n<14:=hn;try dsimp only at h
    exact h
   intro n D γ w hB hU K hK;try dsimp only at hB
   try dsimp only
   have cB:=fun i=>(B.kpN hB.1).cell i;have cR:=fun i=>(R.kpN hB.1).cell i;have cU:=fun i=>(U.kpN hB.1).cell i;clear hB hU;go_step;exact hK _ rfl
  ·
   refine opOk_v hA (fun _=>rfl) (fun _ _=>trivial) ?_ ?_
   ·
    intro n D γ w hn h;replace hn:n<14:=hn;try dsimp only at h
    exact h
   intro n D γ w hB hU K hK;try dsimp only at hB
   try dsimp only
   clear hB hU;go_step;exact hK _ rfl
  ·
   refine opOk_v hA (fun _=>rfl) (fun _ _=>trivial) ?_ ?_
   ·
    intro n D γ w hn h;replace hn:n<14:=hn;try dsimp only at h
    exact h
   intro n D γ w hB hU K hK;try dsimp only at hB
   try dsimp only
   have cB:=fun i=>(B.kpN hB.1).cell i;have cR:=fun i=>(R.kpN hB.1).cell i;have cU:=fun i=>(U.kpN hB.1).cell i;clear hB hU;go_step;exact hK _ rfl
  ·
   refine opOk_l hA (fun _=>rfl) ?_;intro n D γ w hn hD hB hU K hK;try dsimp only at hB
   clear hU;replace hn:n<14:=hn;try dsimp only
   have K9:=hB.1;go_step;refine(a2 _).mono ?_;rintro e w5 ⟨rfl,k5⟩;refine hK _ _ γ rfl ⟨hB.1.thenN k5 (Nat.le_refl _),(hB.2.1).kpN k5,(hB.2.2.1).kpN k5,hB.2.2.2⟩ trivial ?_;try dsimp only[allP,List.getD_cons_zero,List.getD_cons_succ]
   (repeat' apply And.intro)<;>first|exact rfl|exact trivial|exact id|assumption
  ·
   refine opOk_l hA (fun _=>rfl) ?_;intro n D γ w hn hD hB hU K hK;try dsimp only at hB
   clear hU;replace hn:n<14:=hn;try dsimp only
   go_step;obtain⟨w5,hw5⟩:∃ w5,w5=w.alloc (.cells #[.int .i64 0,.int .i64 0] 29):=⟨_,rfl⟩;have k5:Kp w.heap.size none w w5:=hw5 ▸ Kp.new1 _ _;have hBn:Blk w5 w.heap.size 29 #[.int .i64 0,.int .i64 0]:=hw5 ▸ Blk.new _ _ _;rw[← hw5];refine hK _ _ { γ with n1:=w.heap.size,c1:=true,s1:=false } rfl ⟨hB.1.thenN k5 (Nat.le_refl _),fun _=>⟨hBn,hB.1.size⟩,(hB.2.2.1).kpN k5,fun _ hc9=>(by have:=(hB.2.2.1 hc9).1.lt;show w.heap.size≠γ.n2;omega)⟩ rfl ?_;try dsimp only[allP,List.getD_cons_zero,List.getD_cons_succ]
   (repeat' apply And.intro)<;>first|exact rfl|exact trivial|exact id|assumption
  ·
   refine opOk_l hA (fun _=>rfl) ?_;intro n D γ w hn hD hB hU K hK;try dsimp only at hB
   clear hU;replace hn:n<14:=hn;try dsimp only
   go_step;obtain⟨w5,hw5⟩:∃ w5,w5=w.alloc (.cells #[.int .i64 0,.int .i64 0] 29):=⟨_,rfl⟩;have k5:Kp w.heap.size none w w5:=hw5 ▸ Kp.new1 _ _;have hBn:Blk w5 w.heap.size 29 #[.int .i64 0,.int .i64 0]:=hw5 ▸ Blk.new _ _ _;rw[← hw5];refine hK _ _ { γ with n2:=w.heap.size,c2:=true,s2:=false } rfl ⟨hB.1.thenN k5 (Nat.le_refl _),(hB.2.1).kpN k5,fun _=>⟨hBn,hB.1.size⟩,fun hc9 _=>(by have:=(hB.2.1 hc9).1.lt;show γ.n1≠w.heap.size;omega)⟩ rfl ?_;try dsimp only[allP,List.getD_cons_zero,List.getD_cons_succ]
   (repeat' apply And.intro)<;>first|exact rfl|exact trivial|exact id|assumption
  ·
   refine opOk_l hA (fun _=>rfl) ?_;intro n D γ w hn hD hB hU K hK;try dsimp only at hB
   replace hU:(γ.c1=true)∧(γ.c2=true):=⟨hU.2.2.2.2.2.2.2.2.2.2.1,hU.2.2.2.2.2.2.2.2.2.2.2.1⟩;replace hn:n<14:=hn;try dsimp only
   obtain⟨O9,g9⟩:=hB.2.1 hU.1;have cO:=O9.cell;have fO:=O9.frozen;go_step;obtain⟨w5,hw5,R9,kst,hzst⟩:=O9.st2 (.int .i64 out.u.lo) (.int .i64 out.u.hi);rw[← hw5];simp only[sbt,sc0,scs] at R9;refine hK _ _ { γ with s1:=true } rfl ⟨hB.1.thenOwn kst (Nat.le_refl _) g9,fun _=>⟨R9,g9⟩,(fun hc9=>⟨((hB.2.2.1 hc9).1).kp kst ((hB.2.2.1 hc9).1).lt (sne ((hB.2.2.2 hU.1 hc9).symm)),(hB.2.2.1 hc9).2⟩),hB.2.2.2⟩ rfl ?_;try dsimp only[allP,List.getD_cons_zero,List.getD_cons_succ]
   (repeat' apply And.intro)<;>first|exact rfl|exact trivial|exact id|assumption
  ·
   refine opOk_l hA (fun _=>rfl) ?_;intro n D γ w hn hD hB hU K hK;try dsimp only at hB
   replace hU:(γ.c1=true)∧(γ.c2=true)∧(γ.s1=true):=⟨hU.2.2.2.2.2.2.2.2.2.2.1,hU.2.2.2.2.2.2.2.2.2.2.2.1,hU.2.2.2.2.2.2.2.2.2.2.2.2.1⟩;replace hn:n<14:=hn;try dsimp only
   obtain⟨O9,g9⟩:=hB.2.2.1 hU.2.1;have cO:=O9.cell;have fO:=O9.frozen;go_step;obtain⟨w5,hw5,R9,kst,hzst⟩:=O9.st2 (.int .i64 out.v.lo) (.int .i64 out.v.hi);rw[← hw5];simp only[sbt,sc0,scs] at R9;refine hK _ _ { γ with s2:=true } rfl ⟨hB.1.thenOwn kst (Nat.le_refl _) g9,(fun hc9=>⟨((hB.2.1 hc9).1).kp kst ((hB.2.1 hc9).1).lt (sne (hB.2.2.2 hc9 hU.2.1)),(hB.2.1 hc9).2⟩),fun _=>⟨R9,g9⟩,hB.2.2.2⟩ rfl ?_;try dsimp only[allP,List.getD_cons_zero,List.getD_cons_succ]
   (repeat' apply And.intro)<;>first|exact rfl|exact trivial|exact id|assumption
 case hend4_1=>
  intro n D γ w hn hD hB hF;replace hF:=fun k (hk:k<14)=>hF k hk;replace hF:=(⟨hF 10 (by decide),hF 11 (by decide),hF 12 (by decide),hF 13 (by decide)⟩:_∧_∧_∧_);try dsimp only at hB
  try dsimp only at hF
  replace hn:n≤14:=hn;try dsimp only
  obtain⟨np,nq,c1_9,c2_9,s1_9,s2_9⟩:=γ;dsimp only at hB hF ⊢;obtain⟨rfl,rfl,rfl,rfl⟩:=hF;obtain⟨K9,f1_9,f2_9,ne9⟩:=hB;obtain⟨P,gP⟩:=f1_9 rfl;rw[show (#[(if true=true then .int .i64 out.u.lo else .int .i64 0),(if true=true then .int .i64 out.u.hi else .int .i64 0)]:Array Value)=#[.int .i64 out.u.lo,.int .i64 out.u.hi] from rfl] at P;obtain⟨Q,gQ⟩:=f2_9 rfl;rw[show (#[(if true=true then .int .i64 out.v.lo else .int .i64 0),(if true=true then .int .i64 out.v.hi else .int .i64 0)]:Array Value)=#[.int .i64 out.v.lo,.int .i64 out.v.hi] from rfl] at Q;have ne:=ne9 rfl rfl;clear ne9;clear f1_9 f2_9;clear hD hn;have gB:=B.lt;have gR:=R.lt;have gU:=U.lt;replace B:=B.kpN K9;replace R:=R.kpN K9;replace U:=U.kpN K9;replace K:=K.trans (K9.mono K.size);clear K9;rename World=>w4;go_wp2_with fail
  clear U a1 a2 cv gU;have gBP:w.heap.size+2<np:=by omega
  have gBQ:w.heap.size+2<nq:=by omega
  have gRP:w.heap.size+3<np:=by omega
  have gRQ:w.heap.size+3<nq:=by omega
  refine wp_region_inv (Γ:=GF) [none,none,none,none,none,none,none,none,none,none,none,none,none,none,some 11,none,none,none,none,none,none,none,none,none,none,none,none,none,none,none,none,none,none,none,none,none,none,none,none,none,some 0,some 1,some 2,some 3,some 4,some 5,some 6,some 7,some 8,some 9,some 10] [[],[0],[],[0,1,2],[],[4],[],[0,1,2,3,4,5,6],[],[],[0,1,2,3,4,5,6,7,8,9],[],[0,1,2,3,4,5,6,7,8,9,10,11]] [[2,4,5,6,8,9,11],[0,2,4,5,6,8,9,11],[0,1,4,5,6,8,9,11],[0,1,2,4,5,6,8,9,11],[0,1,2,3,6,8,9,11],[0,1,2,3,4,6,8,9,11],[0,1,2,3,4,5,8,9,11],[0,1,2,3,4,5,6,8,9,11],[0,1,2,3,4,5,6,7,9,11],[0,1,2,3,4,5,6,7,8,11],[0,1,2,3,4,5,6,7,8,9,11],[0,1,2,3,4,5,6,7,8,9,10],[0,1,2,3,4,5,6,7,8,9,10,11]] (fun γ=>[.pointer (some ⟨w.heap.size+2,0,none⟩),.agg #[.int .i64 b.x.lo,.int .i64 b.x.hi],.agg #[.int .i64 out.u.lo,.int .i64 out.u.hi],.agg #[.int .i64 out.x.lo,.int .i64 out.x.hi],.pointer (some ⟨w.heap.size+2,2,none⟩),.agg #[.int .i64 b.y.lo,.int .i64 b.y.hi],.agg #[.int .i64 out.v.lo,.int .i64 out.v.hi],.agg #[.int .i64 out.y.lo,.int .i64 out.y.hi],.agg #[.int .i64 out.u.lo,.int .i64 out.u.hi],.agg #[.int .i64 out.v.lo,.int .i64 out.v.hi],.agg #[.int .i64 out.x.lo,.int .i64 out.x.hi,.int .i64 out.y.lo,.int .i64 out.y.hi,.int .i64 out.u.lo,.int .i64 out.u.hi,.int .i64 out.v.lo,.int .i64 out.v.hi],.pointer (some ⟨γ.n1,0,none⟩),undef]) (fun γ=>[none,none,none,none,none,none,none,none,none,none,none,none,none,none,some (.pointer (some ⟨γ.n1,0,none⟩)),none,none,none,none,none,none,none,none,none,none,none,none,none,none,none,none,none,none,none,none,none,none,none,none,none,some (.pointer (some ⟨w.heap.size+2,0,none⟩)),some (.agg #[.int .i64 b.x.lo,.int .i64 b.x.hi]),some (.agg #[.int .i64 out.u.lo,.int .i64 out.u.hi]),some (.agg #[.int .i64 out.x.lo,.int .i64 out.x.hi]),some (.pointer (some ⟨w.heap.size+2,2,none⟩)),some (.agg #[.int .i64 b.y.lo,.int .i64 b.y.hi]),some (.agg #[.int .i64 out.v.lo,.int .i64 out.v.hi]),some (.agg #[.int .i64 out.y.lo,.int .i64 out.y.hi]),some (.agg #[.int .i64 out.u.lo,.int .i64 out.u.hi]),some (.agg #[.int .i64 out.v.lo,.int .i64 out.v.hi]),some (.agg #[.int .i64 out.x.lo,.int .i64 out.x.hi,.int .i64 out.y.lo,.int .i64 out.y.hi,.int .i64 out.u.lo,.int .i64 out.u.hi,.int .i64 out.v.lo,.int .i64 out.v.hi])]) ?A5_2 (fun n D γ w=>Kp w4.heap.size none w4 w∧FreeB 33 γ.n1 γ.c1 w4.heap.size (#[(if γ.s1=true then .int .i64 out.x.lo else .int .i64 0),(if γ.s1=true then .int .i64 out.x.hi else .int .i64 0),(if γ.s1=true then .int .i64 out.y.lo else .int .i64 0),(if γ.s1=true then .int .i64 out.y.hi else .int .i64 0),(if γ.s1=true then .int .i64 out.u.lo else .int .i64 0),(if γ.s1=true then .int .i64 out.u.hi else .int .i64 0),(if γ.s1=true then .int .i64 out.v.lo else .int .i64 0),(if γ.s1=true then .int .i64 out.v.hi else .int .i64 0)]) w) (fun k γ w=>match k with|11=>γ.c1=true|12=>γ.s1=true|_=>True) ⟨0,0,false,false,false,false⟩ (by kernel_rfl) (fun _=>rfl) ?hA5_2 (by kernel_rfl) ?hB05_2 ?hop5_2 ?hend5_2
  case hA5_2=>intro γ;dsimp only[fullV];rfl
  case hB05_2=>
   exact⟨(Kp.refl _ none _).drew,fun e=>(by cases e)⟩
  case hop5_2=>
   intro hA;refine⟨?_,?_,?_,?_,?_,?_,?_,?_,?_,?_,?_,?_,?_,trivial⟩
   ·
    refine opOk_v hA (fun _=>rfl) (fun _ _=>trivial) ?_ ?_
    ·
     intro n D γ w hn h;replace hn:n<13:=hn;try dsimp only at h
     exact h
    intro n D γ w hB hU K hK;try dsimp only at hB
    try dsimp only
    clear hB hU;go_step;exact hK _ rfl
   ·
    refine opOk_v hA (fun _=>rfl) (fun _ _=>trivial) ?_ ?_
    ·
     intro n D γ w hn h;replace hn:n<13:=hn;try dsimp only at h
     exact h
    intro n D γ w hB hU K hK;try dsimp only at hB
    try dsimp only
    have cB:=fun i=>(B.kpN hB.1).cell i;have cR:=fun i=>(R.kpN hB.1).cell i;have cP:=fun i=>(P.kpN hB.1).cell i;have cQ:=fun i=>(Q.kpN hB.1).cell i;clear hB hU;go_step;exact hK _ rfl
   ·
    refine opOk_v hA (fun _=>rfl) (fun _ _=>trivial) ?_ ?_
    ·
     intro n D γ w hn h;replace hn:n<13:=hn;try dsimp only at h
     exact h
    intro n D γ w hB hU K hK;try dsimp only at hB
    try dsimp only
    have cB:=fun i=>(B.kpN hB.1).cell i;have cR:=fun i=>(R.kpN hB.1).cell i;have cP:=fun i=>(P.kpN hB.1).cell i;have cQ:=fun i=>(Q.kpN hB.1).cell i;clear hB hU;go_step;exact hK _ rfl
   ·
    refine opOk_l hA (fun _=>rfl) ?_;intro n D γ w hn hD hB hU K hK;try dsimp only at hB
    clear hU;replace hn:n<13:=hn;try dsimp only
    have K9:=hB.1;go_step;refine(a3 _).mono ?_;rintro e w5 ⟨rfl,k5⟩;refine hK _ _ γ rfl ⟨hB.1.thenN k5 (Nat.le_refl _),(hB.2).kpN k5⟩ trivial ?_;try dsimp only[allP,List.getD_cons_zero,List.getD_cons_succ]
    (repeat' apply And.intro)<;>first|exact rfl|exact trivial|exact id|assumption
   ·
    refine opOk_v hA (fun _=>rfl) (fun _ _=>trivial) ?_ ?_
    ·
     intro n D γ w hn h;replace hn:n<13:=hn;try dsimp only at h
     exact h
    intro n D γ w hB hU K hK;try dsimp only at hB
    try dsimp only
    clear hB hU;go_step;exact hK _ rfl
   ·
    refine opOk_v hA (fun _=>rfl) (fun _ _=>trivial) ?_ ?_
    ·
     intro n D γ w hn h;replace hn:n<13:=hn;try dsimp only at h
     exact h
    intro n D γ w hB hU K hK;try dsimp only at hB
    try dsimp only
    have cB:=fun i=>(B.kpN hB.1).cell i;have cR:=fun i=>(R.kpN hB.1).cell i;have cP:=fun i=>(P.kpN hB.1).cell i;have cQ:=fun i=>(Q.kpN hB.1).cell i;clear hB hU;go_step;exact hK _ rfl
   ·
    refine opOk_v hA (fun _=>rfl) (fun _ _=>trivial) ?_ ?_
    ·
     intro n D γ w hn h;replace hn:n<13:=hn;try dsimp only at h
     exact h
    intro n D γ w hB hU K hK;try dsimp only at hB
    try dsimp only
    have cB:=fun i=>(B.kpN hB.1).cell i;have cR:=fun i=>(R.kpN hB.1).cell i;have cP:=fun i=>(P.kpN hB.1).cell i;have cQ:=fun i=>(Q.kpN hB.1).cell i;clear hB hU;go_step;exact hK _ rfl
   ·
    refine opOk_l hA (fun _=>rfl) ?_;intro n D γ w hn hD hB hU K hK;try dsimp only at hB
    clear hU;replace hn:n<13:=hn;try dsimp only
    have K9:=hB.1;go_step;refine(a4 _).mono ?_;rintro e w5 ⟨rfl,k5⟩;refine hK _ _ γ rfl ⟨hB.1.thenN k5 (Nat.le_refl _),(hB.2).kpN k5⟩ trivial ?_;try dsimp only[allP,List.getD_cons_zero,List.getD_cons_succ]
    (repeat' apply And.intro)<;>first|exact rfl|exact trivial|exact id|assumption
   ·
    refine opOk_v hA (fun _=>rfl) (fun _ _=>trivial) ?_ ?_
    ·
     intro n D γ w hn h;replace hn:n<13:=hn;try dsimp only at h
     exact h
    intro n D γ w hB hU K hK;try dsimp only at hB
    try dsimp only
    have cB:=fun i=>(B.kpN hB.1).cell i;have cR:=fun i=>(R.kpN hB.1).cell i;have cP:=fun i=>(P.kpN hB.1).cell i;have cQ:=fun i=>(Q.kpN hB.1).cell i;clear hB hU;go_step;exact hK _ rfl
   ·
    refine opOk_v hA (fun _=>rfl) (fun _ _=>trivial) ?_ ?_
    ·
     intro n D γ w hn h;replace hn:n<13:=hn;try dsimp only at h
     exact h
    intro n D γ w hB hU K hK;try dsimp only at hB
    try dsimp only
    have cB:=fun i=>(B.kpN hB.1).cell i;have cR:=fun i=>(R.kpN hB.1).cell i;have cP:=fun i=>(P.kpN hB.1).cell i;have cQ:=fun i=>(Q.kpN hB.1).cell i;clear hB hU;go_step;exact hK _ rfl
   ·
    refine opOk_v hA (fun _=>rfl) (fun _ _=>trivial) ?_ ?_
    ·
     intro n D γ w hn h;replace hn:n<13:=hn;try dsimp only at h
     exact h
    intro n D γ w hB hU K hK;try dsimp only at hB
    try dsimp only
    clear hB hU;go_step;exact hK _ rfl
   ·
    refine opOk_l hA (fun _=>rfl) ?_;intro n D γ w hn hD hB hU K hK;try dsimp only at hB
    clear hU;replace hn:n<13:=hn;try dsimp only
    go_step;obtain⟨w5,hw5⟩:∃ w5,w5=w.alloc (.cells #[.int .i64 0,.int .i64 0,.int .i64 0,.int .i64 0,.int .i64 0,.int .i64 0,.int .i64 0,.int .i64 0] 33):=⟨_,rfl⟩;have k5:Kp w.heap.size none w w5:=hw5 ▸ Kp.new1 _ _;have hBn:Blk w5 w.heap.size 33 #[.int .i64 0,.int .i64 0,.int .i64 0,.int .i64 0,.int .i64 0,.int .i64 0,.int .i64 0,.int .i64 0]:=hw5 ▸ Blk.new _ _ _;rw[← hw5];refine hK _ _ { γ with n1:=w.heap.size,c1:=true,s1:=false } rfl ⟨hB.1.thenN k5 (Nat.le_refl _),fun _=>⟨hBn,hB.1.size⟩⟩ rfl ?_;try dsimp only[allP,List.getD_cons_zero,List.getD_cons_succ]
    (repeat' apply And.intro)<;>first|exact rfl|exact trivial|exact id|assumption
   ·
    refine opOk_l hA (fun _=>rfl) ?_;intro n D γ w hn hD hB hU K hK;try dsimp only at hB
    replace hU:(γ.c1=true):=hU.2.2.2.2.2.2.2.2.2.2.2.1;replace hn:n<13:=hn;try dsimp only
    obtain⟨O9,g9⟩:=hB.2 hU;have cO:=O9.cell;have fO:=O9.frozen;go_step;obtain⟨w5,hw5,R9,kst,hzst⟩:=O9.st8 (.int .i64 out.x.lo) (.int .i64 out.x.hi) (.int .i64 out.y.lo) (.int .i64 out.y.hi) (.int .i64 out.u.lo) (.int .i64 out.u.hi) (.int .i64 out.v.lo) (.int .i64 out.v.hi);rw[← hw5];simp only[sbt,sc0,scs] at R9;refine hK _ _ { γ with s1:=true } rfl ⟨hB.1.thenOwn kst (Nat.le_refl _) g9,fun _=>⟨R9,g9⟩⟩ rfl ?_;try dsimp only[allP,List.getD_cons_zero,List.getD_cons_succ]
    (repeat' apply And.intro)<;>first|exact rfl|exact trivial|exact id|assumption
  case hend5_2=>
   intro n D γ w hn hD hB hF;replace hF:=fun k (hk:k<13)=>hF k hk;replace hF:=(⟨hF 11 (by decide),hF 12 (by decide)⟩:_∧_);try dsimp only at hB
   try dsimp only at hF
   replace hn:n≤13:=hn;try dsimp only
   obtain⟨nz,n2_9,c1_9,c2_9,s1_9,s2_9⟩:=γ;dsimp only at hB hF ⊢;obtain⟨rfl,rfl⟩:=hF;obtain⟨K9,f1_9⟩:=hB;obtain⟨Z,gZ⟩:=f1_9 rfl;rw[show (#[(if true=true then .int .i64 out.x.lo else .int .i64 0),(if true=true then .int .i64 out.x.hi else .int .i64 0),(if true=true then .int .i64 out.y.lo else .int .i64 0),(if true=true then .int .i64 out.y.hi else .int .i64 0),(if true=true then .int .i64 out.u.lo else .int .i64 0),(if true=true then .int .i64 out.u.hi else .int .i64 0),(if true=true then .int .i64 out.v.lo else .int .i64 0),(if true=true then .int .i64 out.v.hi else .int .i64 0)]:Array Value)=#[.int .i64 out.x.lo,.int .i64 out.x.hi,.int .i64 out.y.lo,.int .i64 out.y.hi,.int .i64 out.u.lo,.int .i64 out.u.hi,.int .i64 out.v.lo,.int .i64 out.v.hi] from rfl] at Z;clear f1_9;clear hD hn;have gB:=B.lt;have gR:=R.lt;have gP:=P.lt;have gQ:=Q.lt;replace B:=B.kpN K9;replace R:=R.kpN K9;replace P:=P.kpN K9;replace Q:=Q.kpN K9;replace K:=K.trans (K9.mono K.size);clear K9;rename World=>w5;go_wp2_with fail
   clear B P Q;cases rb
   all_goals
    simp only[if_true,if_false,Bool.false_eq_true] at ck;obtain⟨S,hS0,hS1⟩:=cls_of2 (P:=fun w'=>Blk w' _ _ _∧Kp _ _ _ w') w5 ⟨Z,K⟩;try dsimp only at hS0
    have cZ:=fun (x:Ev (S 0)) i=>((hS0 _).1 x.h).1.cell i;replace Z:=Z.drew;replace K:=K.drew;replace R:=R.drew;have hevT:=ev_true;refine wp_region_ord S [(0,1),(1,1),(2,2),(3,0),(4,2),(5,0)] [] (by kernel_rfl) (by kernel_rfl) ((hS0 _).2 ⟨Z,K⟩) ?_;intro _hev;iterate 2 (first|((first|refine oV ?_|refine oQ ?_);intro K hK;go_big_quiet_op;go_big_quiet_on)|refine oS ?_)
    refine oL ?_;intro Kc hKc;generalize w5.drew=wd9 at *;go_step;refine(ck _).mono ?_;rintro e w6 ⟨rfl,k⟩;replace Z:=Z.kpN k;replace R:=R.kpN k;replace K:=K.tN k;clear k;refine hKc _ _ ((hS0 _).2 ⟨Z,K⟩) ?_;clear hKc Kc;iterate 1 (first|((first|refine oV ?_|refine oQ ?_);intro K hK;go_big_quiet_op;go_big_quiet_on)|refine oS ?_)
    refine oL ?_;intro Kc hKc;have cR:=R.cell;have fR:=R.frozen;go_step;obtain⟨w9,hwn,RB9,kst,hzst⟩:=R.st8 (.int .i64 out.x.lo) (.int .i64 out.x.hi) (.int .i64 out.y.lo) (.int .i64 out.y.hi) (.int .i64 out.u.lo) (.int .i64 out.u.hi) (.int .i64 out.v.lo) (.int .i64 out.v.hi);rw[← hwn];clear hwn cR fR;replace Z:=Z.kq kst (by omega);first|replace K:=K.thenOwn kst (Nat.le_refl _) (by omega)|replace K:=K.then_ kst (Nat.le_refl _)
    replace R:=RB9;clear RB9 kst;simp only[sbt,sc0,scs] at R;refine hKc _ _ ((hS0 _).2 ⟨Z,K⟩) ?_;clear hKc Kc;iterate 1 (first|((first|refine oV ?_|refine oQ ?_);intro K hK;go_big_quiet_op;go_big_quiet_on)|refine oS ?_)
    refine wpOrd_nil ?_;clear hevT _hev;clear cZ hS0 hS1 S;have cR:=R.cell;go_wp2_with fail
    exact bodyPost_ret (by simp[results,Tryz.results151,go_sem,cR]) rfl ⟨rfl,K⟩
end Go.Proofs.YtdhiappifnflpaaGreat
