/- The aim of a passage in plain Lean: that of a smaller passage lies in that of a greater one. No program here. The aim of a passage: the walks of meet, seventh part: take, Aim. -/
import Derived.Test.YtdhiappifnflpaaGreatDoorM08
import Derived.Test.YtdhiappifnflpaaGreatDoorM25
import Derived.Test.YtdhiappifnflpaaGreatDoorM23
set_option maxRecDepth 100000
set_option maxHeartbeats 8000000
namespace Go.Proofs.YtdhiappifnflpaaGreatDoor
def longS (a b:Ar):Sp:=rootsS (addS (squareS (subS b.x a.x)) (squareS (subS b.y a.y)))
def crossS (a b:Ar):Sp:=subS (mulS a.x b.y) (mulS a.y b.x)
def aimS (a b:Ar):Sp:=quotS (crossS a b) (longS a b)
theorem squareS_nonneg (a:Sp):0≤(squareS a).lo:=by
 unfold squareS;simp only;exact Int.mul_nonneg (by omega) (by omega)
theorem rootsS_mono' {a c:Sp} (h:a.sub c) (h1:0≤c.lo) (ha:a.lo≤a.hi):(rootsS a).sub (rootsS c):=by
 unfold Sp.sub at h;exact⟨root_mono (isq_root (by omega)) (isq_root (by omega)) h.1,rootUp_mono (isq_root (by omega)) (isq_root (by omega)) h.2⟩
theorem rootsS_ok' {a:Sp} (h1:0≤a.lo) (ha:a.lo≤a.hi):(rootsS a).lo≤(rootsS a).hi:=by
 have k:=root_mono (isq_root h1) (isq_root (show 0≤a.hi by omega)) ha;have:=le_rootUp a.hi (isq a.hi);unfold rootsS;simp only;omega
theorem aim_mono {a b c d:Ar} (h:a.sub c) (k:b.sub d) (ha:a.ok) (hb:b.ok) (h0:0<(longS c d).lo):(aimS a b).sub (aimS c d):=by
 have ox:(subS b.x a.x).lo≤(subS b.x a.x).hi:=by unfold Ar.ok at ha hb;unfold subS;simp only;omega
 have oy:(subS b.y a.y).lo≤(subS b.y a.y).hi:=by unfold Ar.ok at ha hb;unfold subS;simp only;omega
 have s:=addS_mono (squareS_mono (subS_mono k.1 h.1) ox) (squareS_mono (subS_mono k.2 h.2) oy)
 have so:(addS (squareS (subS b.x a.x)) (squareS (subS b.y a.y))).lo≤(addS (squareS (subS b.x a.x)) (squareS (subS b.y a.y))).hi:=by
  have:=squareS_ok _ ox;have:=squareS_ok _ oy;unfold addS;simp only;omega
 have n1:=squareS_nonneg (subS d.x c.x);have n2:=squareS_nonneg (subS d.y c.y);have l:=rootsS_mono' s (by unfold addS;simp only;omega) so;have n3:=squareS_nonneg (subS b.x a.x);have n4:=squareS_nonneg (subS b.y a.y);have lo:=rootsS_ok' (a:=addS (squareS (subS b.x a.x)) (squareS (subS b.y a.y))) (by unfold addS;simp only;omega) so;have m1:=mulS_mono h.1 k.2 ha.1 hb.2;have m2:=mulS_mono h.2 k.1 ha.2 hb.1;have o1:=mulS_ok a.x b.y;have o2:=mulS_ok a.y b.x;refine quotS_mono (subS_mono m1 m2) l ?_ lo (.inl h0);unfold crossS subS;simp only;omega
def cellI (aim radius:Int) (cells:Int):Int:=(max (-radius) (min radius aim)+radius) * (cells-1) / (2 * radius+1)
theorem cellI_mono {a b radius cells:Int} (hr:0≤radius) (hc:1≤cells) (h:a≤b):cellI a radius cells≤cellI b radius cells:=
 Int.ediv_le_ediv (by omega) (Int.mul_le_mul_of_nonneg_right (by omega) (by omega))
theorem cellI_bd {a radius cells:Int} (hr:0≤radius) (hc:1≤cells):0≤cellI a radius cells∧cellI a radius cells≤cells-1:=by
 refine⟨Int.ediv_nonneg (Int.mul_nonneg (by omega) (by omega)) (by omega),?_⟩;refine Int.ediv_le_of_le_mul (by omega) ?_;rw[Int.mul_comm];exact Int.mul_le_mul_of_nonneg_left (by omega) (by omega)
end Go.Proofs.YtdhiappifnflpaaGreatDoor
namespace Go.Proofs.YtdhiappifnflpaaGreatDoor
open Go.RowKit
theorem Kp.unrow {B g:Nat} {T:TypeId} {cs:Array Value} {w w':World} (K:Kp B (some g) w w') (h:Blk w g T cs) (h':Blk w' g T cs):Kp B none w w':=
 ⟨K.os,K.tape,K.output,K.size,fun k hk _=>by
  by_cases e:k=g
  · subst e;exact h'.trans h.symm
  · exact K.block k hk (sne e)⟩
theorem meet_take_any (kb:Nat) (s:Sp) (w:World) (hk:Blk w kb 111 #[.bool false]) :
  Calls Tryz.prog 44 #[.pointer (some ⟨kb,0,none⟩),s,(0:Int)] w fun e w'=>e=.returned s∧Kp w.heap.size none w w':=by
 have hlt:=hk.lt;obtain⟨w1,hw1,P,R,K,hz⟩:=box2 w 29 s 29 #[(0:Int),(0:Int)];have M:=hk.kpN K;go_enter Tryz.func44,Tryz.ntmps44
 go_upto_region 1 with(fail)
 rw[← hw1];clear hw1;have cP:=P.cell;have fP:=P.frozen;have cR:=R.cell;have fR:=R.frozen;have cM:=M.cell;have fM:=M.frozen;go_wp2_with fail
 clear cP fP cR fR cM fM;have M1:Blk (w1.setCell ⟨kb,0,none⟩ (.bool false)) kb 111 #[.bool false]:=M.set_ 0 (.bool false);have M2:=(M1.far (p:=⟨w.heap.size+1,0,none⟩) (by simp;omega) (.int .i64 s.lo)).far (p:=⟨w.heap.size+1,1,none⟩) (by simp;omega) (.int .i64 s.hi);have BR:=((R.far (p:=⟨kb,0,none⟩) (by simp;omega) (.bool false)).set_ 0 (.int .i64 s.lo)).set_ 1 (.int .i64 s.hi);have cR:=BR.cell;exact bodyPost_ret (by simp[results,Tryz.results44,go_sem,cR]) rfl ⟨rfl,(((((K.wide (some kb)).setRow (p:=⟨kb,0,none⟩) rfl _).setNew (by simp) _).setNew (by simp) _).unrow hk M2)⟩
theorem isq_le {n:Int} (h:0≤n):isq n≤n:=by
 have r:=isq_root h;rcases Int.lt_or_le n (isq n) with g|g
 ·
  have:=Int.mul_le_mul (show 1≤isq n by omega) (Int.le_refl (isq n)) r.1 oM;have:=r.2.1;omega
 · exact g
theorem rootsS_fit {q:Sp} (h0:0≤q.lo) (h1:q.lo≤q.hi) (h2:q.hi≤1152921504606846975):(rootsS q).fit:=by
 have o:=rootsS_ok' h0 h1;have r:=isq_root h0;have k:=isq_le (n:=q.hi) oM;have e:(rootsS q).lo=isq q.lo:=rfl;have r0:=r.1;refine⟨by omega,o,?_⟩;unfold rootsS rootUp;simp only;split<;>omega
theorem meet_Aim_any (a b:Ar) (ha:a.bd 268435456) (hb:b.bd 268435456) (w:World) :
  Calls Tryz.prog 10 #[a,b] w fun e w'=>e=.returned (if (longS a b).lo=0 then .tuple #[.agg #[(0:Int),(0:Int)],.bool false] else .tuple #[.agg #[(aimS a b).lo,(aimS a b).hi],.bool true])∧Kp w.heap.size none w w':=by
 have c1:=fun w=>span_CheckArea_any a ha w;have c2:=fun w=>span_CheckArea_any b hb w;have fx:=subS_bd hb.1 ha.1;have fy:=subS_bd hb.2 ha.2;have qx:=squareS_bd fx;have qy:=squareS_bd fy;have m1:=mulS_bd (A:=268435456) (B:=268435456) ha.1 hb.2;have m2:=mulS_bd (A:=268435456) (B:=268435456) ha.2 hb.1;have fc:=subS_bd m1 m2;have fit:∀ {s:Sp} {M:Int},s.bd M→M≤1152921504606846976→s.fit:=fun h k=>by unfold Sp.bd at h;unfold Sp.fit;omega
 have hq:(addS (squareS (subS b.x a.x)) (squareS (subS b.y a.y))).lo=(squareS (subS b.x a.x)).lo+(squareS (subS b.y a.y)).lo∧(addS (squareS (subS b.x a.x)) (squareS (subS b.y a.y))).hi=(squareS (subS b.x a.x)).hi+(squareS (subS b.y a.y)).hi:=⟨rfl,rfl⟩;have sx:=fun w=>span_Sub_any b.x a.x (fit hb.1 (by decide)) (fit ha.1 (by decide)) (fit fx (by decide)) w;have sy:=fun w=>span_Sub_any b.y a.y (fit hb.2 (by decide)) (fit ha.2 (by decide)) (fit fy (by decide)) w;have fx':=fx;have fy':=fy;unfold Sp.bd at fx' fy';have cx:=fun w=>span_Square_any (subS b.x a.x) (fit fx (by decide)) oM oM w;have cy:=fun w=>span_Square_any (subS b.y a.y) (fit fy (by decide)) oM oM w;have ca:=fun w=>span_Add_any (squareS (subS b.x a.x)) (squareS (subS b.y a.y)) (by unfold Sp.fit;omega) (by unfold Sp.fit;omega) (by unfold Sp.fit;omega) w;have cr:=fun w=>span_Roots_any (addS (squareS (subS b.x a.x)) (squareS (subS b.y a.y))) (by unfold Sp.fit;omega) oM w;have lf:=rootsS_fit (q:=addS (squareS (subS b.x a.x)) (squareS (subS b.y a.y))) oM oM oM;have l0:0≤(rootsS (addS (squareS (subS b.x a.x)) (squareS (subS b.y a.y)))).lo:=(isq_root oM).1;have cm:=fun w=>span_Mul_any a.x b.y (fit ha.1 (by decide)) (fit hb.2 (by decide)) (mulS_fit (A:=268435456) (B:=268435456) ha.1 hb.2 (by decide)) w;have cn:=fun w=>span_Mul_any a.y b.x (fit ha.2 (by decide)) (fit hb.1 (by decide)) (mulS_fit (A:=268435456) (B:=268435456) ha.2 hb.1 (by decide)) w;have cs:=fun w=>span_Sub_any (mulS a.x b.y) (mulS a.y b.x) (fit m1 (by decide)) (fit m2 (by decide)) (fit fc (by decide)) w;have cq:=fun w h=>span_Quot_any (crossS a b) (longS a b) (fit fc (by decide)) lf h w;have el:Hid (longS a b=rootsS (addS (squareS (subS b.x a.x)) (squareS (subS b.y a.y)))):=Lib.hid rfl;have ec:Hid (crossS a b=subS (mulS a.x b.y) (mulS a.y b.x)):=Lib.hid rfl;rw[← el.out] at cr l0;rw[← ec.out] at cs;have ea:aimS a b=quotS (crossS a b) (longS a b):=rfl;rw[ea];clear ea el ec lf hq fit fc m1 m2 qx qy fx fy fx' fy' ha hb;generalize longS a b=lg at *;generalize crossS a b=cc at *;generalize addS (squareS (subS b.x a.x)) (squareS (subS b.y a.y))=su at *;generalize squareS (subS b.x a.x)=qx at *;generalize squareS (subS b.y a.y)=qy at *;generalize subS b.x a.x=x at *;generalize subS b.y a.y=y at *;generalize mulS a.x b.y=m1 at *;generalize mulS a.y b.x=m2 at *;generalize quotS cc lg=out at *;have tk:=fun kb s w h=>meet_take_any kb s w h;obtain⟨v0,hv0⟩:∃ q9,Hid (q9=if lg.lo=0 then Value.tuple #[.agg #[(0:Int),(0:Int)],.bool false] else .tuple #[.agg #[out.lo,out.hi],.bool true]):=⟨_,Lib.hid rfl⟩;rw[← hv0.out];obtain⟨w1,hw1,P,Q,R,K,hz⟩:=box3 w 53 a 53 b 29 #[(0:Int),(0:Int)];go_enter Tryz.func10,Tryz.ntmps10
 go_wp2_with fail
 rw[← hw1];clear hw1;refine mK (c1 _) fun w2 k=>?_;replace P:=P.kpN k;replace Q:=Q.kpN k;replace R:=R.kpN k;replace K:=K.thenN k oM;have hzk:=k.size;clear k;have cP:=P.cell;have fP:=P.frozen;have cQ:=Q.cell;have fQ:=Q.frozen;have cR:=R.cell;have fR:=R.frozen;go_wp2_with fail
 refine mK (c2 _) fun w3 k=>?_;clear cP fP cQ fQ cR fR;replace P:=P.kpN k;replace Q:=Q.kpN k;replace R:=R.kpN k;replace K:=K.thenN k oM;have hzk:=k.size;clear k;clear c1 c2;have pP:=P.cell;have pQ:=Q.cell;have pR:=R.cell;obtain⟨w9_,rfl,M,k9_,hzn⟩:=box1 w3 111 #[.bool false];replace P:=P.kpN k9_;replace Q:=Q.kpN k9_;replace R:=R.kpN k9_;replace K:=K.thenN k9_ oU;clear k9_;have cP:=P.cell;have fP:=P.frozen;have cQ:=Q.cell;have fQ:=Q.frozen;have cR:=R.cell;have fR:=R.frozen;go_wp2_with fail
 clear cP fP pP cQ fQ pQ cR fR pR;generalize (w3.alloc (.cells #[.bool false] 111))=w4 at *;obtain⟨kb,hx⟩:∃ q9,q9=w3.heap.size:=⟨_,rfl⟩;rw[← hx] at M ⊢;replace hx:=Lib.hid hx;have hkb:w.heap.size+3≤kb:=by have:=hx.out;omega
 clear hx hzn hzk hz;refine wp_region_inv (Γ:=GF) [none,none,none,none,none,none,none,some 16,some 17,none,none,none,none,none,none,none,none,none,none,none,none,some 0,some 1,some 2,some 3,some 4,some 5,some 6,some 7,some 8,some 9,some 10,some 11,some 12,some 13,some 14,some 15] [[],[0],[],[2],[0,1,2,3],[0,1,2,3,4],[0,1,2,3,4],[0,1,2,3,4,5,6],[],[8],[],[10],[0,1,2,3,4,5,6,7,8,9,10,11],[0,1,2,3,4,5,6,7,8,9,10,11,12],[0,1,2,3,4,5,6,7,8,9,10,11,12],[0,1,2,3,4,5,6,7,8,9,10,11,12,13,14],[],[],[0,1,2,3,4,5,6,7,8,9,10,11,12,13,14,15,16,17],[0,1,2,3,4,5,6,7,8,9,10,11,12,13,14,15,16,17,18]] [[2,3,8,9,10,11,16,17],[0,2,3,8,9,10,11,16,17],[0,1,8,9,10,11,16,17],[0,1,2,8,9,10,11,16,17],[0,1,2,3,8,9,10,11,16,17],[0,1,2,3,4,6,8,9,10,11,16,17],[0,1,2,3,4,5,8,9,10,11,16,17],[0,1,2,3,4,5,6,8,9,10,11,16,17],[0,1,2,3,4,5,6,7,10,11,16,17],[0,1,2,3,4,5,6,7,8,10,11,16,17],[0,1,2,3,4,5,6,7,8,9,16,17],[0,1,2,3,4,5,6,7,8,9,10,16,17],[0,1,2,3,4,5,6,7,8,9,10,11,16,17],[0,1,2,3,4,5,6,7,8,9,10,11,12,14,16,17],[0,1,2,3,4,5,6,7,8,9,10,11,12,13,16,17],[0,1,2,3,4,5,6,7,8,9,10,11,12,13,14,16,17],[0,1,2,3,4,5,6,7,8,9,10,11,12,13,14,15,17],[0,1,2,3,4,5,6,7,8,9,10,11,12,13,14,15,16],[0,1,2,3,4,5,6,7,8,9,10,11,12,13,14,15,16,17],[0,1,2,3,4,5,6,7,8,9,10,11,12,13,14,15,16,17,18]] (fun γ=>[.pointer (some ⟨w.heap.size+1,0,none⟩),.agg b.x,.pointer (some ⟨w.heap.size,0,none⟩),.agg a.x,.tuple #[.agg #[x.lo,x.hi],(0:Int)],.agg #[x.lo,x.hi],.int .i64 0,.agg #[x.lo,x.hi],.pointer (some ⟨w.heap.size+1,2,none⟩),.agg b.y,.pointer (some ⟨w.heap.size,2,none⟩),.agg a.y,.tuple #[.agg #[y.lo,y.hi],(0:Int)],.agg #[y.lo,y.hi],.int .i64 0,.agg #[y.lo,y.hi],.pointer (some ⟨γ.n1,0,none⟩),.pointer (some ⟨γ.n2,0,none⟩),undef,undef]) (fun γ=>[none,none,none,none,none,none,none,some (.pointer (some ⟨γ.n1,0,none⟩)),some (.pointer (some ⟨γ.n2,0,none⟩)),none,none,none,none,none,none,none,none,none,none,none,none,some (.pointer (some ⟨w.heap.size+1,0,none⟩)),some (.agg b.x),some (.pointer (some ⟨w.heap.size,0,none⟩)),some (.agg a.x),some (.tuple #[.agg #[x.lo,x.hi],(0:Int)]),some (.agg #[x.lo,x.hi]),some (.int .i64 0),some (.agg #[x.lo,x.hi]),some (.pointer (some ⟨w.heap.size+1,2,none⟩)),some (.agg b.y),some (.pointer (some ⟨w.heap.size,2,none⟩)),some (.agg a.y),some (.tuple #[.agg #[y.lo,y.hi],(0:Int)]),some (.agg #[y.lo,y.hi]),some (.int .i64 0),some (.agg #[y.lo,y.hi])]) ?A4_1 (fun n D γ w=>Kp w4.heap.size none w4 w∧FreeB 29 γ.n1 γ.c1 w4.heap.size (#[(if γ.s1=true then .int .i64 x.lo else .int .i64 0),(if γ.s1=true then .int .i64 x.hi else .int .i64 0)]) w∧FreeB 29 γ.n2 γ.c2 w4.heap.size (#[(if γ.s2=true then .int .i64 y.lo else .int .i64 0),(if γ.s2=true then .int .i64 y.hi else .int .i64 0)]) w∧(γ.c1=true→γ.c2=true→γ.n1≠γ.n2)) (fun k γ w=>match k with|16=>γ.c1=true|17=>γ.c2=true|18=>γ.s1=true|19=>γ.s2=true|_=>True) ⟨0,0,false,false,false,false⟩ (by kernel_rfl) (fun _=>rfl) ?hA4_1 (by kernel_rfl) ?hB04_1 ?hop4_1 ?hend4_1
 case hA4_1=>intro γ;dsimp only[fullV];rfl
 case hB04_1=>
  exact⟨(Kp.refl _ none _).drew,fun e=>(by cases e),fun e=>(by cases e),fun e _=>(by cases e)⟩
 case hop4_1=>
  intro hA;refine⟨oKv hA,?_,oKv hA,?_,?_,oKv hA,oKv hA,?_,oKv hA,?_,oKv hA,?_,?_,oKv hA,oKv hA,?_,?_,?_,?_,?_,trivial⟩
  ·
   refine oKv hA (h:=?_);intro n D γ w hB hU K hK;try dsimp only at hB
   try dsimp only
   have cP:=fun i=>(P.kpN hB.1).cell i;have cQ:=fun i=>(Q.kpN hB.1).cell i;have cR:=fun i=>(R.kpN hB.1).cell i;have cM:=fun i=>(M.kpN hB.1).cell i;clear hB hU;go_step;exact hK _ rfl
  ·
   refine oKv hA (h:=?_);intro n D γ w hB hU K hK;try dsimp only at hB
   try dsimp only
   have cP:=fun i=>(P.kpN hB.1).cell i;have cQ:=fun i=>(Q.kpN hB.1).cell i;have cR:=fun i=>(R.kpN hB.1).cell i;have cM:=fun i=>(M.kpN hB.1).cell i;clear hB hU;go_step;exact hK _ rfl
  ·
   refine opOk_l hA (fun _=>rfl) ?_;intro n D γ w hn hD hB hU K hK;try dsimp only at hB
   clear hU;replace hn:n<20:=hn;try dsimp only
   have K9:=hB.1;go_step;refine mK (sx _) fun w5 k5=>?_;refine hK _ _ γ rfl ⟨hB.1.thenN k5 (Nat.le_refl _),(hB.2.1).kpN k5,(hB.2.2.1).kpN k5,hB.2.2.2⟩ trivial ?_;exact dA
  ·
   refine opOk_l hA (fun _=>rfl) ?_;intro n D γ w hn hD hB hU K hK;try dsimp only at hB
   clear hU;replace hn:n<20:=hn;try dsimp only
   have K9:=hB.1;go_step;refine mK (tk kb x _ (M.kpN K9)) fun w5 k5=>?_;refine hK _ _ γ rfl ⟨hB.1.thenN k5 (Nat.le_refl _),(hB.2.1).kpN k5,(hB.2.2.1).kpN k5,hB.2.2.2⟩ trivial ?_;exact dA
  ·
   refine oKv hA (h:=?_);intro n D γ w hB hU K hK;try dsimp only at hB
   try dsimp only
   have cP:=fun i=>(P.kpN hB.1).cell i;have cQ:=fun i=>(Q.kpN hB.1).cell i;have cR:=fun i=>(R.kpN hB.1).cell i;have cM:=fun i=>(M.kpN hB.1).cell i;clear hB hU;go_step;exact hK _ rfl
  ·
   refine oKv hA (h:=?_);intro n D γ w hB hU K hK;try dsimp only at hB
   try dsimp only
   have cP:=fun i=>(P.kpN hB.1).cell i;have cQ:=fun i=>(Q.kpN hB.1).cell i;have cR:=fun i=>(R.kpN hB.1).cell i;have cM:=fun i=>(M.kpN hB.1).cell i;clear hB hU;go_step;exact hK _ rfl
  ·
   refine opOk_l hA (fun _=>rfl) ?_;intro n D γ w hn hD hB hU K hK;try dsimp only at hB
   clear hU;replace hn:n<20:=hn;try dsimp only
   have K9:=hB.1;go_step;refine mK (sy _) fun w5 k5=>?_;refine hK _ _ γ rfl ⟨hB.1.thenN k5 (Nat.le_refl _),(hB.2.1).kpN k5,(hB.2.2.1).kpN k5,hB.2.2.2⟩ trivial ?_;exact dA
  ·
   refine opOk_l hA (fun _=>rfl) ?_;intro n D γ w hn hD hB hU K hK;try dsimp only at hB
   clear hU;replace hn:n<20:=hn;try dsimp only
   have K9:=hB.1;go_step;refine mK (tk kb y _ (M.kpN K9)) fun w5 k5=>?_;refine hK _ _ γ rfl ⟨hB.1.thenN k5 (Nat.le_refl _),(hB.2.1).kpN k5,(hB.2.2.1).kpN k5,hB.2.2.2⟩ trivial ?_;exact dA
  ·
   refine opOk_l hA (fun _=>rfl) ?_;intro n D γ w hn hD hB hU K hK;try dsimp only at hB
   clear hU;replace hn:n<20:=hn;try dsimp only
   go_step;obtain⟨w5,hw5⟩:∃ w5,w5=w.alloc (.cells #[(0:Int),(0:Int)] 29):=⟨_,rfl⟩;have k5:Kp w.heap.size none w w5:=hw5 ▸ Kp.new1 _ _;have hBn:Blk w5 w.heap.size 29 #[(0:Int),(0:Int)]:=hw5 ▸ Blk.new _ _ _;rw[← hw5];refine hK _ _ { γ with n1:=w.heap.size,c1:=true,s1:=false } rfl ⟨hB.1.thenN k5 (Nat.le_refl _),fun _=>⟨hBn,hB.1.size⟩,(hB.2.2.1).kpN k5,fun _ hc9=>(by have:=(hB.2.2.1 hc9).1.lt;show w.heap.size≠γ.n2;omega)⟩ rfl ?_;exact dA
  ·
   refine opOk_l hA (fun _=>rfl) ?_;intro n D γ w hn hD hB hU K hK;try dsimp only at hB
   clear hU;replace hn:n<20:=hn;try dsimp only
   go_step;obtain⟨w5,hw5⟩:∃ w5,w5=w.alloc (.cells #[(0:Int),(0:Int)] 29):=⟨_,rfl⟩;have k5:Kp w.heap.size none w w5:=hw5 ▸ Kp.new1 _ _;have hBn:Blk w5 w.heap.size 29 #[(0:Int),(0:Int)]:=hw5 ▸ Blk.new _ _ _;rw[← hw5];refine hK _ _ { γ with n2:=w.heap.size,c2:=true,s2:=false } rfl ⟨hB.1.thenN k5 (Nat.le_refl _),(hB.2.1).kpN k5,fun _=>⟨hBn,hB.1.size⟩,fun hc9 _=>(by have:=(hB.2.1 hc9).1.lt;show γ.n1≠w.heap.size;omega)⟩ rfl ?_;exact dA
  ·
   refine opOk_l hA (fun _=>rfl) ?_;intro n D γ w hn hD hB hU K hK;try dsimp only at hB
   replace hU:(γ.c1=true)∧(γ.c2=true):=⟨hU.2.2.2.2.2.2.2.2.2.2.2.2.2.2.2.2.1,hU.2.2.2.2.2.2.2.2.2.2.2.2.2.2.2.2.2.1⟩;replace hn:n<20:=hn;try dsimp only
   obtain⟨O9,g9⟩:=hB.2.1 hU.1;have cO:=O9.cell;have fO:=O9.frozen;go_step;obtain⟨w5,hw5,R9,kst,hzst⟩:=O9.st2 (.int .i64 x.lo) (.int .i64 x.hi);rw[← hw5];simp only[sbt,sc0,scs] at R9;refine hK _ _ { γ with s1:=true } rfl ⟨hB.1.thenOwn kst (Nat.le_refl _) g9,fun _=>⟨R9,g9⟩,(fun hc9=>⟨((hB.2.2.1 hc9).1).kp kst ((hB.2.2.1 hc9).1).lt (sne ((hB.2.2.2 hU.1 hc9).symm)),(hB.2.2.1 hc9).2⟩),hB.2.2.2⟩ rfl ?_;exact dA
  ·
   refine opOk_l hA (fun _=>rfl) ?_;intro n D γ w hn hD hB hU K hK;try dsimp only at hB
   replace hU:(γ.c1=true)∧(γ.c2=true)∧(γ.s1=true):=⟨hU.2.2.2.2.2.2.2.2.2.2.2.2.2.2.2.2.1,hU.2.2.2.2.2.2.2.2.2.2.2.2.2.2.2.2.2.1,hU.2.2.2.2.2.2.2.2.2.2.2.2.2.2.2.2.2.2.1⟩;replace hn:n<20:=hn;try dsimp only
   obtain⟨O9,g9⟩:=hB.2.2.1 hU.2.1;have cO:=O9.cell;have fO:=O9.frozen;go_step;obtain⟨w5,hw5,R9,kst,hzst⟩:=O9.st2 (.int .i64 y.lo) (.int .i64 y.hi);rw[← hw5];simp only[sbt,sc0,scs] at R9;refine hK _ _ { γ with s2:=true } rfl ⟨hB.1.thenOwn kst (Nat.le_refl _) g9,(fun hc9=>⟨((hB.2.1 hc9).1).kp kst ((hB.2.1 hc9).1).lt (sne (hB.2.2.2 hc9 hU.2.1)),(hB.2.1 hc9).2⟩),fun _=>⟨R9,g9⟩,hB.2.2.2⟩ rfl ?_;exact dA
 case hend4_1=>
  intro n D γ w hn hD hB hF;replace hF:=fun k (hk:k<20)=>hF k hk;replace hF:=(⟨hF 16 (by decide),hF 17 (by decide),hF 18 (by decide),hF 19 (by decide)⟩:_∧_∧_∧_);try dsimp only at hB
  try dsimp only at hF
  replace hn:n≤20:=hn;try dsimp only
  obtain⟨nx,ny,c1_9,c2_9,s1_9,s2_9⟩:=γ;dsimp only at hB hF ⊢;obtain⟨rfl,rfl,rfl,rfl⟩:=hF;obtain⟨K9,f1_9,f2_9,ne9⟩:=hB;obtain⟨X,gX⟩:=f1_9 rfl;simp only[reduceIte] at X;obtain⟨Y,gY⟩:=f2_9 rfl;simp only[reduceIte] at Y;have ne:=ne9 rfl rfl;clear ne9;clear f1_9 f2_9;clear hD hn;have gP:=P.lt;have gQ:=Q.lt;have gR:=R.lt;have gM:=M.lt;replace P:=P.kpN K9;replace Q:=Q.kpN K9;replace R:=R.kpN K9;replace M:=M.kpN K9;replace K:=K.trans (K9.mono K.size);skip
  clear K9;rename World=>w5;go_wp2_with fail
  clear sx sy;have g1:w.heap.size<nx:=by omega
  have g2:w.heap.size+1<nx:=by omega
  refine wp_region_inv (Γ:=GF) [none,none,none,none,none,none,none,none,none,some 18,none,none,none,none,none,none,none,none,none,none,none,none,none,none,none,none,none,none,none,none,none,none,none,none,none,none,none,some 0,some 1,some 2,some 3,some 4,some 5,some 6,some 7,some 8,some 9,some 10,some 11,some 12,some 13,some 14,some 15,some 16,some 17] [[],[0],[0,1],[0,1],[0,1,2,3],[],[0,1,2,3,4,5],[0,1,2,3,4,5,6],[0,1,2,3,4,5,6],[0,1,2,3,4,5,6,7,8],[0,1,2,3,4,5,6,7,8,9],[0,1,2,3,4,5,6,7,8,9,10],[0,1,2,3,4,5,6,7,8,9,10],[0,1,2,3,4,5,6,7,8,9,10,11,12],[0,1,2,3,4,5,6,7,8,9,10,11,12,13],[0,1,2,3,4,5,6,7,8,9,10,11,12,13,14],[0,1,2,3,4,5,6,7,8,9,10,11,12,13,14],[0,1,2,3,4,5,6,7,8,9,10,11,12,13,14,15,16],[],[0,1,2,3,4,5,6,7,8,9,10,11,12,13,14,15,16,17,18]] [[5,18],[0,5,18],[0,1,3,5,18],[0,1,2,5,18],[0,1,2,3,5,18],[0,1,2,3,4,18],[0,1,2,3,4,5,18],[0,1,2,3,4,5,6,8,18],[0,1,2,3,4,5,6,7,18],[0,1,2,3,4,5,6,7,8,18],[0,1,2,3,4,5,6,7,8,9,18],[0,1,2,3,4,5,6,7,8,9,10,12,18],[0,1,2,3,4,5,6,7,8,9,10,11,18],[0,1,2,3,4,5,6,7,8,9,10,11,12,18],[0,1,2,3,4,5,6,7,8,9,10,11,12,13,18],[0,1,2,3,4,5,6,7,8,9,10,11,12,13,14,16,18],[0,1,2,3,4,5,6,7,8,9,10,11,12,13,14,15,18],[0,1,2,3,4,5,6,7,8,9,10,11,12,13,14,15,16,18],[0,1,2,3,4,5,6,7,8,9,10,11,12,13,14,15,16,17],[0,1,2,3,4,5,6,7,8,9,10,11,12,13,14,15,16,17,18]] (fun γ=>[.agg #[x.lo,x.hi],.tuple #[.agg #[qx.lo,qx.hi],(0:Int)],.agg #[qx.lo,qx.hi],.int .i64 0,.agg #[qx.lo,qx.hi],.agg #[y.lo,y.hi],.tuple #[.agg #[qy.lo,qy.hi],(0:Int)],.agg #[qy.lo,qy.hi],.int .i64 0,.agg #[qy.lo,qy.hi],.tuple #[.agg #[su.lo,su.hi],(0:Int)],.agg #[su.lo,su.hi],.int .i64 0,.agg #[su.lo,su.hi],.tuple #[.agg #[lg.lo,lg.hi],(0:Int)],.agg #[lg.lo,lg.hi],.int .i64 0,.agg #[lg.lo,lg.hi],.pointer (some ⟨γ.n1,0,none⟩),undef]) (fun γ=>[none,none,none,none,none,none,none,none,none,some (.pointer (some ⟨γ.n1,0,none⟩)),none,none,none,none,none,none,none,none,none,none,none,none,none,none,none,none,none,none,none,none,none,none,none,none,none,none,none,some (.agg #[x.lo,x.hi]),some (.tuple #[.agg #[qx.lo,qx.hi],(0:Int)]),some (.agg #[qx.lo,qx.hi]),some (.int .i64 0),some (.agg #[qx.lo,qx.hi]),some (.agg #[y.lo,y.hi]),some (.tuple #[.agg #[qy.lo,qy.hi],(0:Int)]),some (.agg #[qy.lo,qy.hi]),some (.int .i64 0),some (.agg #[qy.lo,qy.hi]),some (.tuple #[.agg #[su.lo,su.hi],(0:Int)]),some (.agg #[su.lo,su.hi]),some (.int .i64 0),some (.agg #[su.lo,su.hi]),some (.tuple #[.agg #[lg.lo,lg.hi],(0:Int)]),some (.agg #[lg.lo,lg.hi]),some (.int .i64 0),some (.agg #[lg.lo,lg.hi])]) ?A5_2 (fun n D γ w=>Kp w5.heap.size none w5 w∧FreeB 29 γ.n1 γ.c1 w5.heap.size (#[(if γ.s1=true then .int .i64 lg.lo else .int .i64 0),(if γ.s1=true then .int .i64 lg.hi else .int .i64 0)]) w) (fun k γ w=>match k with|18=>γ.c1=true|19=>γ.s1=true|_=>True) ⟨0,0,false,false,false,false⟩ (by kernel_rfl) (fun _=>rfl) ?hA5_2 (by kernel_rfl) ?hB05_2 ?hop5_2 ?hend5_2
  case hA5_2=>intro γ;dsimp only[fullV];rfl
  case hB05_2=>
   exact⟨(Kp.refl _ none _).drew,fun e=>(by cases e)⟩
  case hop5_2=>
   intro hA;refine⟨?_,?_,oKv hA,oKv hA,?_,?_,?_,oKv hA,oKv hA,?_,?_,oKv hA,oKv hA,?_,?_,oKv hA,oKv hA,?_,?_,?_,trivial⟩
   ·
    refine oKv hA (h:=?_);intro n D γ w hB hU K hK;try dsimp only at hB
    try dsimp only
    have cP:=fun i=>(P.kpN hB.1).cell i;have cQ:=fun i=>(Q.kpN hB.1).cell i;have cR:=fun i=>(R.kpN hB.1).cell i;have cM:=fun i=>(M.kpN hB.1).cell i;have cX:=fun i=>(X.kpN hB.1).cell i;have cY:=fun i=>(Y.kpN hB.1).cell i;clear hB hU;go_step;exact hK _ rfl
   ·
    refine opOk_l hA (fun _=>rfl) ?_;intro n D γ w hn hD hB hU K hK;try dsimp only at hB
    clear hU;replace hn:n<20:=hn;try dsimp only
    have K9:=hB.1;go_step;refine mK (cx _) fun w5 k5=>?_;refine hK _ _ γ rfl ⟨hB.1.thenN k5 (Nat.le_refl _),(hB.2).kpN k5⟩ trivial ?_;exact dA
   ·
    refine opOk_l hA (fun _=>rfl) ?_;intro n D γ w hn hD hB hU K hK;try dsimp only at hB
    clear hU;replace hn:n<20:=hn;try dsimp only
    have K9:=hB.1;go_step;refine mK (tk kb qx _ (M.kpN K9)) fun w5 k5=>?_;refine hK _ _ γ rfl ⟨hB.1.thenN k5 (Nat.le_refl _),(hB.2).kpN k5⟩ trivial ?_;exact dA
   ·
    refine oKv hA (h:=?_);intro n D γ w hB hU K hK;try dsimp only at hB
    try dsimp only
    have cP:=fun i=>(P.kpN hB.1).cell i;have cQ:=fun i=>(Q.kpN hB.1).cell i;have cR:=fun i=>(R.kpN hB.1).cell i;have cM:=fun i=>(M.kpN hB.1).cell i;have cX:=fun i=>(X.kpN hB.1).cell i;have cY:=fun i=>(Y.kpN hB.1).cell i;clear hB hU;go_step;exact hK _ rfl
   ·
    refine opOk_l hA (fun _=>rfl) ?_;intro n D γ w hn hD hB hU K hK;try dsimp only at hB
    clear hU;replace hn:n<20:=hn;try dsimp only
    have K9:=hB.1;go_step;refine mK (cy _) fun w5 k5=>?_;refine hK _ _ γ rfl ⟨hB.1.thenN k5 (Nat.le_refl _),(hB.2).kpN k5⟩ trivial ?_;exact dA
   ·
    refine opOk_l hA (fun _=>rfl) ?_;intro n D γ w hn hD hB hU K hK;try dsimp only at hB
    clear hU;replace hn:n<20:=hn;try dsimp only
    have K9:=hB.1;go_step;refine mK (tk kb qy _ (M.kpN K9)) fun w5 k5=>?_;refine hK _ _ γ rfl ⟨hB.1.thenN k5 (Nat.le_refl _),(hB.2).kpN k5⟩ trivial ?_;exact dA
   ·
    refine opOk_l hA (fun _=>rfl) ?_;intro n D γ w hn hD hB hU K hK;try dsimp only at hB
    clear hU;replace hn:n<20:=hn;try dsimp only
    have K9:=hB.1;go_step;refine mK (ca _) fun w5 k5=>?_;refine hK _ _ γ rfl ⟨hB.1.thenN k5 (Nat.le_refl _),(hB.2).kpN k5⟩ trivial ?_;exact dA
   ·
    refine opOk_l hA (fun _=>rfl) ?_;intro n D γ w hn hD hB hU K hK;try dsimp only at hB
    clear hU;replace hn:n<20:=hn;try dsimp only
    have K9:=hB.1;go_step;refine mK (tk kb su _ (M.kpN K9)) fun w5 k5=>?_;refine hK _ _ γ rfl ⟨hB.1.thenN k5 (Nat.le_refl _),(hB.2).kpN k5⟩ trivial ?_;exact dA
   ·
    refine opOk_l hA (fun _=>rfl) ?_;intro n D γ w hn hD hB hU K hK;try dsimp only at hB
    clear hU;replace hn:n<20:=hn;try dsimp only
    have K9:=hB.1;go_step;refine mK (cr _) fun w5 k5=>?_;refine hK _ _ γ rfl ⟨hB.1.thenN k5 (Nat.le_refl _),(hB.2).kpN k5⟩ trivial ?_;exact dA
   ·
    refine opOk_l hA (fun _=>rfl) ?_;intro n D γ w hn hD hB hU K hK;try dsimp only at hB
    clear hU;replace hn:n<20:=hn;try dsimp only
    have K9:=hB.1;go_step;refine mK (tk kb lg _ (M.kpN K9)) fun w5 k5=>?_;refine hK _ _ γ rfl ⟨hB.1.thenN k5 (Nat.le_refl _),(hB.2).kpN k5⟩ trivial ?_;exact dA
   ·
    refine opOk_l hA (fun _=>rfl) ?_;intro n D γ w hn hD hB hU K hK;try dsimp only at hB
    clear hU;replace hn:n<20:=hn;try dsimp only
    go_step;obtain⟨w5,hw5⟩:∃ w5,w5=w.alloc (.cells #[(0:Int),(0:Int)] 29):=⟨_,rfl⟩;have k5:Kp w.heap.size none w w5:=hw5 ▸ Kp.new1 _ _;have hBn:Blk w5 w.heap.size 29 #[(0:Int),(0:Int)]:=hw5 ▸ Blk.new _ _ _;rw[← hw5];refine hK _ _ { γ with n1:=w.heap.size,c1:=true,s1:=false } rfl ⟨hB.1.thenN k5 (Nat.le_refl _),fun _=>⟨hBn,hB.1.size⟩⟩ rfl ?_;exact dA
   ·
    refine opOk_l hA (fun _=>rfl) ?_;intro n D γ w hn hD hB hU K hK;try dsimp only at hB
    replace hU:(γ.c1=true):=hU.2.2.2.2.2.2.2.2.2.2.2.2.2.2.2.2.2.2.1;replace hn:n<20:=hn;try dsimp only
    obtain⟨O9,g9⟩:=hB.2 hU;have cO:=O9.cell;have fO:=O9.frozen;go_step;obtain⟨w5,hw5,R9,kst,hzst⟩:=O9.st2 (.int .i64 lg.lo) (.int .i64 lg.hi);rw[← hw5];simp only[sbt,sc0,scs] at R9;refine hK _ _ { γ with s1:=true } rfl ⟨hB.1.thenOwn kst (Nat.le_refl _) g9,fun _=>⟨R9,g9⟩⟩ rfl ?_;exact dA
  case hend5_2=>
   intro n D γ w hn hD hB hF;replace hF:=fun k (hk:k<20)=>hF k hk;replace hF:=(⟨hF 18 (by decide),hF 19 (by decide)⟩:_∧_);try dsimp only at hB
   try dsimp only at hF
   replace hn:n≤20:=hn;try dsimp only
   obtain⟨nl,n2_9,c1_9,c2_9,s1_9,s2_9⟩:=γ;dsimp only at hB hF ⊢;obtain⟨rfl,rfl⟩:=hF;obtain⟨K9,f1_9⟩:=hB;obtain⟨L,gL⟩:=f1_9 rfl;simp only[reduceIte] at L;clear f1_9;clear hD hn;have gP:=P.lt;have gQ:=Q.lt;have gR:=R.lt;have gM:=M.lt;have gX:=X.lt;have gY:=Y.lt;replace P:=P.kpN K9;replace Q:=Q.kpN K9;replace R:=R.kpN K9;replace M:=M.kpN K9;replace X:=X.kpN K9;replace Y:=Y.kpN K9;replace K:=K.trans (K9.mono K.size);skip
   clear K9;rename World=>w6;go_wp2_with fail
   clear cx cy ca cr X Y;refine wp_region_inv (Γ:=GF) [none,none,none,none,none,none,none,none,none,none,some 20,none,none,none,none,none,none,none,none,none,none,none,none,none,none,none,none,none,none,none,none,none,none,none,none,none,none,none,none,none,none,none,none,none,none,none,none,none,none,none,none,none,none,none,none,some 0,some 1,some 2,some 3,some 4,some 5,some 6,some 7,some 8,some 9,some 10,some 11,some 12,some 13,some 14,some 15,some 16,some 17,some 18,some 19] [[],[0],[],[2],[0,1,2,3],[0,1,2,3,4],[0,1,2,3,4],[0,1,2,3,4,5,6],[],[8],[],[10],[0,1,2,3,4,5,6,7,8,9,10,11],[0,1,2,3,4,5,6,7,8,9,10,11,12],[0,1,2,3,4,5,6,7,8,9,10,11,12],[0,1,2,3,4,5,6,7,8,9,10,11,12,13,14],[0,1,2,3,4,5,6,7,8,9,10,11,12,13,14,15],[0,1,2,3,4,5,6,7,8,9,10,11,12,13,14,15,16],[0,1,2,3,4,5,6,7,8,9,10,11,12,13,14,15,16],[0,1,2,3,4,5,6,7,8,9,10,11,12,13,14,15,16,17,18],[],[0,1,2,3,4,5,6,7,8,9,10,11,12,13,14,15,16,17,18,19,20]] [[2,3,8,9,10,11,20],[0,2,3,8,9,10,11,20],[0,1,8,9,10,11,20],[0,1,2,8,9,10,11,20],[0,1,2,3,8,9,10,11,20],[0,1,2,3,4,6,8,9,10,11,20],[0,1,2,3,4,5,8,9,10,11,20],[0,1,2,3,4,5,6,8,9,10,11,20],[0,1,2,3,4,5,6,7,10,11,20],[0,1,2,3,4,5,6,7,8,10,11,20],[0,1,2,3,4,5,6,7,8,9,20],[0,1,2,3,4,5,6,7,8,9,10,20],[0,1,2,3,4,5,6,7,8,9,10,11,20],[0,1,2,3,4,5,6,7,8,9,10,11,12,14,20],[0,1,2,3,4,5,6,7,8,9,10,11,12,13,20],[0,1,2,3,4,5,6,7,8,9,10,11,12,13,14,20],[0,1,2,3,4,5,6,7,8,9,10,11,12,13,14,15,20],[0,1,2,3,4,5,6,7,8,9,10,11,12,13,14,15,16,18,20],[0,1,2,3,4,5,6,7,8,9,10,11,12,13,14,15,16,17,20],[0,1,2,3,4,5,6,7,8,9,10,11,12,13,14,15,16,17,18,20],[0,1,2,3,4,5,6,7,8,9,10,11,12,13,14,15,16,17,18,19],[0,1,2,3,4,5,6,7,8,9,10,11,12,13,14,15,16,17,18,19,20]] (fun γ=>[.pointer (some ⟨w.heap.size,0,none⟩),.agg a.x,.pointer (some ⟨w.heap.size+1,2,none⟩),.agg b.y,.tuple #[.agg #[m1.lo,m1.hi],(0:Int)],.agg #[m1.lo,m1.hi],.int .i64 0,.agg #[m1.lo,m1.hi],.pointer (some ⟨w.heap.size,2,none⟩),.agg a.y,.pointer (some ⟨w.heap.size+1,0,none⟩),.agg b.x,.tuple #[.agg #[m2.lo,m2.hi],(0:Int)],.agg #[m2.lo,m2.hi],.int .i64 0,.agg #[m2.lo,m2.hi],.tuple #[.agg #[cc.lo,cc.hi],(0:Int)],.agg #[cc.lo,cc.hi],.int .i64 0,.agg #[cc.lo,cc.hi],.pointer (some ⟨γ.n1,0,none⟩),undef]) (fun γ=>[none,none,none,none,none,none,none,none,none,none,some (.pointer (some ⟨γ.n1,0,none⟩)),none,none,none,none,none,none,none,none,none,none,none,none,none,none,none,none,none,none,none,none,none,none,none,none,none,none,none,none,none,none,none,none,none,none,none,none,none,none,none,none,none,none,none,none,some (.pointer (some ⟨w.heap.size,0,none⟩)),some (.agg a.x),some (.pointer (some ⟨w.heap.size+1,2,none⟩)),some (.agg b.y),some (.tuple #[.agg #[m1.lo,m1.hi],(0:Int)]),some (.agg #[m1.lo,m1.hi]),some (.int .i64 0),some (.agg #[m1.lo,m1.hi]),some (.pointer (some ⟨w.heap.size,2,none⟩)),some (.agg a.y),some (.pointer (some ⟨w.heap.size+1,0,none⟩)),some (.agg b.x),some (.tuple #[.agg #[m2.lo,m2.hi],(0:Int)]),some (.agg #[m2.lo,m2.hi]),some (.int .i64 0),some (.agg #[m2.lo,m2.hi]),some (.tuple #[.agg #[cc.lo,cc.hi],(0:Int)]),some (.agg #[cc.lo,cc.hi]),some (.int .i64 0),some (.agg #[cc.lo,cc.hi])]) ?A6_3 (fun n D γ w=>Kp w6.heap.size none w6 w∧FreeB 29 γ.n1 γ.c1 w6.heap.size (#[(if γ.s1=true then .int .i64 cc.lo else .int .i64 0),(if γ.s1=true then .int .i64 cc.hi else .int .i64 0)]) w) (fun k γ w=>match k with|20=>γ.c1=true|21=>γ.s1=true|_=>True) ⟨0,0,false,false,false,false⟩ (by kernel_rfl) (fun _=>rfl) ?hA6_3 (by kernel_rfl) ?hB06_3 ?hop6_3 ?hend6_3
   case hA6_3=>intro γ;dsimp only[fullV];rfl
   case hB06_3=>
    exact⟨(Kp.refl _ none _).drew,fun e=>(by cases e)⟩
   case hop6_3=>
    intro hA;refine⟨oKv hA,?_,oKv hA,?_,?_,oKv hA,oKv hA,?_,oKv hA,?_,oKv hA,?_,?_,oKv hA,oKv hA,?_,?_,oKv hA,oKv hA,?_,?_,?_,trivial⟩
    ·
     refine oKv hA (h:=?_);intro n D γ w hB hU K hK;try dsimp only at hB
     try dsimp only
     have cP:=fun i=>(P.kpN hB.1).cell i;have cQ:=fun i=>(Q.kpN hB.1).cell i;have cR:=fun i=>(R.kpN hB.1).cell i;have cM:=fun i=>(M.kpN hB.1).cell i;have cL:=fun i=>(L.kpN hB.1).cell i;clear hB hU;go_step;exact hK _ rfl
    ·
     refine oKv hA (h:=?_);intro n D γ w hB hU K hK;try dsimp only at hB
     try dsimp only
     have cP:=fun i=>(P.kpN hB.1).cell i;have cQ:=fun i=>(Q.kpN hB.1).cell i;have cR:=fun i=>(R.kpN hB.1).cell i;have cM:=fun i=>(M.kpN hB.1).cell i;have cL:=fun i=>(L.kpN hB.1).cell i;clear hB hU;go_step;exact hK _ rfl
    ·
     refine opOk_l hA (fun _=>rfl) ?_;intro n D γ w hn hD hB hU K hK;try dsimp only at hB
     clear hU;replace hn:n<22:=hn;try dsimp only
     have K9:=hB.1;go_step;refine mK (cm _) fun w5 k5=>?_;refine hK _ _ γ rfl ⟨hB.1.thenN k5 (Nat.le_refl _),(hB.2).kpN k5⟩ trivial ?_;exact dA
    ·
     refine opOk_l hA (fun _=>rfl) ?_;intro n D γ w hn hD hB hU K hK;try dsimp only at hB
     clear hU;replace hn:n<22:=hn;try dsimp only
     have K9:=hB.1;go_step;refine mK (tk kb m1 _ (M.kpN K9)) fun w5 k5=>?_;refine hK _ _ γ rfl ⟨hB.1.thenN k5 (Nat.le_refl _),(hB.2).kpN k5⟩ trivial ?_;exact dA
    ·
     refine oKv hA (h:=?_);intro n D γ w hB hU K hK;try dsimp only at hB
     try dsimp only
     have cP:=fun i=>(P.kpN hB.1).cell i;have cQ:=fun i=>(Q.kpN hB.1).cell i;have cR:=fun i=>(R.kpN hB.1).cell i;have cM:=fun i=>(M.kpN hB.1).cell i;have cL:=fun i=>(L.kpN hB.1).cell i;clear hB hU;go_step;exact hK _ rfl
    ·
     refine oKv hA (h:=?_);intro n D γ w hB hU K hK;try dsimp only at hB
     try dsimp only
     have cP:=fun i=>(P.kpN hB.1).cell i;have cQ:=fun i=>(Q.kpN hB.1).cell i;have cR:=fun i=>(R.kpN hB.1).cell i;have cM:=fun i=>(M.kpN hB.1).cell i;have cL:=fun i=>(L.kpN hB.1).cell i;clear hB hU;go_step;exact hK _ rfl
    ·
     refine opOk_l hA (fun _=>rfl) ?_;intro n D γ w hn hD hB hU K hK;try dsimp only at hB
     clear hU;replace hn:n<22:=hn;try dsimp only
     have K9:=hB.1;go_step;refine mK (cn _) fun w5 k5=>?_;refine hK _ _ γ rfl ⟨hB.1.thenN k5 (Nat.le_refl _),(hB.2).kpN k5⟩ trivial ?_;exact dA
    ·
     refine opOk_l hA (fun _=>rfl) ?_;intro n D γ w hn hD hB hU K hK;try dsimp only at hB
     clear hU;replace hn:n<22:=hn;try dsimp only
     have K9:=hB.1;go_step;refine mK (tk kb m2 _ (M.kpN K9)) fun w5 k5=>?_;refine hK _ _ γ rfl ⟨hB.1.thenN k5 (Nat.le_refl _),(hB.2).kpN k5⟩ trivial ?_;exact dA
    ·
     refine opOk_l hA (fun _=>rfl) ?_;intro n D γ w hn hD hB hU K hK;try dsimp only at hB
     clear hU;replace hn:n<22:=hn;try dsimp only
     have K9:=hB.1;go_step;refine mK (cs _) fun w5 k5=>?_;refine hK _ _ γ rfl ⟨hB.1.thenN k5 (Nat.le_refl _),(hB.2).kpN k5⟩ trivial ?_;exact dA
    ·
     refine opOk_l hA (fun _=>rfl) ?_;intro n D γ w hn hD hB hU K hK;try dsimp only at hB
     clear hU;replace hn:n<22:=hn;try dsimp only
     have K9:=hB.1;go_step;refine mK (tk kb cc _ (M.kpN K9)) fun w5 k5=>?_;refine hK _ _ γ rfl ⟨hB.1.thenN k5 (Nat.le_refl _),(hB.2).kpN k5⟩ trivial ?_;exact dA
    ·
     refine opOk_l hA (fun _=>rfl) ?_;intro n D γ w hn hD hB hU K hK;try dsimp only at hB
     clear hU;replace hn:n<22:=hn;try dsimp only
     go_step;obtain⟨w5,hw5⟩:∃ w5,w5=w.alloc (.cells #[(0:Int),(0:Int)] 29):=⟨_,rfl⟩;have k5:Kp w.heap.size none w w5:=hw5 ▸ Kp.new1 _ _;have hBn:Blk w5 w.heap.size 29 #[(0:Int),(0:Int)]:=hw5 ▸ Blk.new _ _ _;rw[← hw5];refine hK _ _ { γ with n1:=w.heap.size,c1:=true,s1:=false } rfl ⟨hB.1.thenN k5 (Nat.le_refl _),fun _=>⟨hBn,hB.1.size⟩⟩ rfl ?_;exact dA
    ·
     refine opOk_l hA (fun _=>rfl) ?_;intro n D γ w hn hD hB hU K hK;try dsimp only at hB
     replace hU:(γ.c1=true):=hU.2.2.2.2.2.2.2.2.2.2.2.2.2.2.2.2.2.2.2.2.1;replace hn:n<22:=hn;try dsimp only
     obtain⟨O9,g9⟩:=hB.2 hU;have cO:=O9.cell;have fO:=O9.frozen;go_step;obtain⟨w5,hw5,R9,kst,hzst⟩:=O9.st2 (.int .i64 cc.lo) (.int .i64 cc.hi);rw[← hw5];simp only[sbt,sc0,scs] at R9;refine hK _ _ { γ with s1:=true } rfl ⟨hB.1.thenOwn kst (Nat.le_refl _) g9,fun _=>⟨R9,g9⟩⟩ rfl ?_;exact dA
   case hend6_3=>
    intro n D γ w hn hD hB hF;replace hF:=fun k (hk:k<22)=>hF k hk;replace hF:=(⟨hF 20 (by decide),hF 21 (by decide)⟩:_∧_);try dsimp only at hB
    try dsimp only at hF
    replace hn:n≤22:=hn;try dsimp only
    obtain⟨nc,n2_9,c1_9,c2_9,s1_9,s2_9⟩:=γ;dsimp only at hB hF ⊢;obtain⟨rfl,rfl⟩:=hF;obtain⟨K9,f1_9⟩:=hB;obtain⟨C,gC⟩:=f1_9 rfl;simp only[reduceIte] at C;clear f1_9;clear hD hn;have gP:=P.lt;have gQ:=Q.lt;have gR:=R.lt;have gM:=M.lt;have gL:=L.lt;replace P:=P.kpN K9;replace Q:=Q.kpN K9;replace R:=R.kpN K9;replace M:=M.kpN K9;replace L:=L.kpN K9;replace K:=K.trans (K9.mono K.size);skip
    clear K9;rename World=>w7;clear P Q cm cn cs;have cL:=L.cell;by_cases h0:lg.lo=0
    ·
     have h1:(lg.lo==(0:Int))=true:=by simp[h0]
     replace hv0:=hv0.out.trans (if_pos h0);clear cq l0 h0;have cR:=R.cell;have fR:=R.frozen;have cM:=M.cell;have fM:=M.frozen;go_wp2_with fail
     clear cR fR cM fM;have BR:=(R.set_ 0 (.int .i64 0)).set_ 1 (.int .i64 0);have cR:=BR.cell;exact bodyPost_ret (v:=.tuple #[.agg #[(0:Int),(0:Int)],.bool false]) (by simp[results,Tryz.results10,go_sem,cR]) rfl ⟨by rw[hv0],(K.setNew (by simp<;>omega) _).setNew (by simp<;>omega) _⟩
    ·
     have h1:(lg.lo==(0:Int))=false:=by simp[h0]
     replace hv0:=hv0.out.trans (if_neg h0);have h2:0<lg.lo:=by omega
     clear l0 h0;have cC:=C.cell;have cR:=R.cell;have fR:=R.frozen;have cM:=M.cell;have fM:=M.frozen;go_wp2_with fail
     refine mK (cq _ h2) fun w8 k=>?_;clear cR fR cM fM;replace R:=R.kpN k;replace M:=M.kpN k;replace K:=K.thenN k oM;have hzk:=k.size;clear k;have cR:=R.cell;have fR:=R.frozen;have cM:=M.cell;have fM:=M.frozen;go_wp2_with fail
     refine mK (tk kb out _ M) fun w9 k=>?_;clear cR fR cM fM;replace R:=R.kpN k;replace M:=M.kpN k;replace K:=K.thenN k oM;have hzk:=k.size;clear k;clear cC cL L C h1 h2;have hMl:=M.lt;have pR:=R.cell;have pM:=M.cell;obtain⟨w9_,rfl,Z,k9_,hzn⟩:=box1 w9 29 #[out.lo,out.hi];replace R:=R.kpN k9_;replace M:=M.kpN k9_;replace K:=K.thenN k9_ oU;clear k9_;have cR:=R.cell;have fR:=R.frozen;have cM:=M.cell;have fM:=M.frozen;go_wp2_with fail
     clear cR fR pR cM fM pM;generalize (w9.alloc (.cells #[out.lo,out.hi] 29))=w10 at *;obtain⟨z,hx⟩:∃ q9,q9=w9.heap.size:=⟨_,rfl⟩;rw[← hx] at Z ⊢;replace hx:=Lib.hid hx;have hzz:w.heap.size+3≤z:=by have:=hx.out;omega
     clear hx hzn hzk hMl;obtain⟨S,hS0,hS1⟩:=cls_of2 (P:=fun w'=>Blk w' _ _ _∧Blk w' _ _ _∧Kp _ _ _ w') w10 ⟨Z,M,K⟩;try dsimp only at hS0
     have cZ:=fun (x:Ev (S 0)) i=>((hS0 _).1 x.h).1.cell i;have cM:=fun (x:Ev (S 0)) i=>((hS0 _).1 x.h).2.1.cell i;replace Z:=Z.drew;replace M:=M.drew;replace K:=K.drew;replace R:=R.drew;have hevT:=ev_true;refine wro S [(0,1),(1,0),(2,1),(3,0),(4,2),(5,0)] [] ((hS0 _).2 ⟨Z,M,K⟩) ?_;intro _hev;refine oX ?_;refine oL ?_;intro Kc hKc;generalize w10.drew=wd9 at *;have cR:=R.cell;have fR:=R.frozen;go_step;obtain⟨wE,hwn,RB9,kst,hzst⟩:=R.st2 (.int .i64 out.lo) (.int .i64 out.hi);rw[← hwn];clear hwn cR fR;replace Z:=Z.kq kst;replace M:=M.kq kst;first|replace K:=K.thenOwn kst (Nat.le_refl _) oM|replace K:=K.then_ kst (Nat.le_refl _)
     replace R:=RB9;clear RB9 kst;simp only[sbt,sc0,scs] at R;refine hKc _ _ ((hS0 _).2 ⟨Z,M,K⟩) ?_;clear hKc Kc;refine oX ?_;refine wpOrd_nil ?_;clear hevT _hev;clear cZ cM hS0 hS1 S;have cR:=R.cell;go_wp2_with fail
     exact bodyPost_ret (v:=.tuple #[.agg #[out.lo,out.hi],.bool true]) (by simp[results,Tryz.results10,go_sem,cR]) rfl ⟨by rw[hv0],K⟩
end Go.Proofs.YtdhiappifnflpaaGreatDoor
