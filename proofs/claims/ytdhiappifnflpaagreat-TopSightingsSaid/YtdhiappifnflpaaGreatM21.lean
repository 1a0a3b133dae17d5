/- Orbits: the walks of orbit, third part: boxes. Regions that draw their order, whose allocs are not ordered: what is at hand of a block that may be there. Orbits: the walks of orbit, fourth part: step. -/
import Derived.Test.YtdhiappifnflpaaGreatM19
import Derived.Test.YtdhiappifnflpaaGreatM13
set_option maxRecDepth 100000
set_option maxHeartbeats 4000000
namespace Go.Proofs.YtdhiappifnflpaaGreat
open Go.RowKit
def spansC (b:Bx):Array Value:=b
theorem orbit_of_any (b:Bx) (w:World) :
  Calls Tryz.prog 92 #[b] w fun e w'=>e=.returned (.agg (spansC b))∧Kp w.heap.size none w w':=by
 go_enter Tryz.func92,Tryz.ntmps92
 go_wp2_with fail
 exact bodyPost_ret (by simp[results,Tryz.results92,go_sem];rfl) rfl ⟨rfl,Kp.new2 _ _ _⟩
theorem index4s_0 (a0 a1 a2 a3 a4 a5 a6 a7:Int) (w:World):(Instr.index 171 (.agg #[a0,a1,a2,a3,a4,a5,a6,a7]) (.int .i64 0)).run Tryz.prog w=.ok (.agg #[a0,a1]) w:=by kernel_rfl
theorem index4s_1 (a0 a1 a2 a3 a4 a5 a6 a7:Int) (w:World):(Instr.index 171 (.agg #[a0,a1,a2,a3,a4,a5,a6,a7]) (.int .i64 1)).run Tryz.prog w=.ok (.agg #[a2,a3]) w:=by kernel_rfl
theorem index4s_2 (a0 a1 a2 a3 a4 a5 a6 a7:Int) (w:World):(Instr.index 171 (.agg #[a0,a1,a2,a3,a4,a5,a6,a7]) (.int .i64 2)).run Tryz.prog w=.ok (.agg #[a4,a5]) w:=by kernel_rfl
theorem index4s_3 (a0 a1 a2 a3 a4 a5 a6 a7:Int) (w:World):(Instr.index 171 (.agg #[a0,a1,a2,a3,a4,a5,a6,a7]) (.int .i64 3)).run Tryz.prog w=.ok (.agg #[a6,a7]) w:=by kernel_rfl
def errBx (b:Bx):Int:=if okBx b=true then 0 else 2
def ordN (b:Bx) (i:Nat):Prop:=(0<i→b.x.lo≤b.x.hi)∧(1<i→b.y.lo≤b.y.hi)∧(2<i→b.u.lo≤b.u.hi)∧(3<i→b.v.lo≤b.v.hi)
theorem errBx_two {b:Bx} (h:¬ (b.x.lo≤b.x.hi∧b.y.lo≤b.y.hi∧b.u.lo≤b.u.hi∧b.v.lo≤b.v.hi)):errBx b=2:=by
 unfold errBx okBx Bx.ord;rw[decide_eq_false h];rfl
theorem errBx_ord {b:Bx} (h:ordN b 4):errBx b=if (okSt b.los&&okSt b.his)=true then 0 else 2:=by
 unfold errBx okBx Bx.ord;rw[decide_eq_true ⟨h.1 oM,h.2.1 oM,h.2.2.1 oM,h.2.2.2 oM⟩];rfl
theorem orbit_Check_any (b:Bx) (w:World) :
  Calls Tryz.prog 84 #[b] w fun e w'=>e=.returned (.int .i64 (errBx b))∧Kp w.heap.size none w w':=by
 have co:=fun w=>orbit_of_any b w;unfold spansC at co;have i0:=index4s_0;have i1:=index4s_1;have i2:=index4s_2;have i3:=index4s_3;obtain⟨r,hr⟩:∃ q9,Hid (q9=errBx b):=⟨_,Lib.hid rfl⟩;rw[← hr.out];obtain⟨w1,hw1,B,K,hz⟩:=box1 w 33 b;go_enter Tryz.func84,Tryz.ntmps84
 go_wp2_with fail
 rw[← hw1];clear hw1;refine mK (co _) fun w2 k=>?_;replace B:=B.kpN k;replace K:=K.thenN k oM;have hzk:=k.size;clear k;have cB:=B.cell;have fB:=B.frozen;go_wp2_with fail
 clear cB fB;go_loopw [7] (fun v wr=>∃ i:Nat,v=.int .i64 i∧i≤4∧ordN b i∧Blk wr w.heap.size 33 b∧Kp w.heap.size none w wr) (fun v _=>4-(intOf v).toNat)
 case atStart=>exact⟨0,rfl,by omega,⟨fun h=>by omega,fun h=>by omega,fun h=>by omega,fun h=>by omega⟩,B,K⟩
 case round=>
  obtain⟨i,rfl,hi,ho,B1,KK⟩:=hrel;clear K B co;unfold ordN at ho;have hi':i=0∨i=1∨i=2∨i=3∨i=4:=by omega
  rcases hi' with rfl|hi'
  ·
   rw[show ((0:Nat):Int)=(0:Int) from rfl];by_cases h:b.x.hi<b.x.lo
   ·
    have hr2:r=2:=by rw[hr.out];exact errBx_two oM
    clear ho hi hr;subst hr2;go_wp2
    go_ret
    exact⟨rfl,KK.thenN (Kp.new1 _ _) (Nat.le_refl _)⟩
   ·
    have hn:ordN b (0+1):=by unfold ordN;omega
    clear ho hi;have hn:=Lib.hid hn;go_wp2
    go_roundw
    case rel=>exact⟨0+1,rfl,by omega,hn.out,B1.kpN (Kp.new1 _ _),KK.thenN (Kp.new1 _ _) (Nat.le_refl _)⟩
    case measure=>simp[intOf]
  rcases hi' with rfl|hi'
  ·
   rw[show ((1:Nat):Int)=(1:Int) from rfl];by_cases h:b.y.hi<b.y.lo
   ·
    have hr2:r=2:=by rw[hr.out];exact errBx_two oM
    clear ho hi hr;subst hr2;go_wp2
    go_ret
    exact⟨rfl,KK.thenN (Kp.new1 _ _) (Nat.le_refl _)⟩
   ·
    have hn:ordN b (1+1):=by unfold ordN;omega
    clear ho hi;have hn:=Lib.hid hn;go_wp2
    go_roundw
    case rel=>exact⟨1+1,rfl,by omega,hn.out,B1.kpN (Kp.new1 _ _),KK.thenN (Kp.new1 _ _) (Nat.le_refl _)⟩
    case measure=>simp[intOf]
  rcases hi' with rfl|hi'
  ·
   rw[show ((2:Nat):Int)=(2:Int) from rfl];by_cases h:b.u.hi<b.u.lo
   ·
    have hr2:r=2:=by rw[hr.out];exact errBx_two oM
    clear ho hi hr;subst hr2;go_wp2
    go_ret
    exact⟨rfl,KK.thenN (Kp.new1 _ _) (Nat.le_refl _)⟩
   ·
    have hn:ordN b (2+1):=by unfold ordN;omega
    clear ho hi;have hn:=Lib.hid hn;go_wp2
    go_roundw
    case rel=>exact⟨2+1,rfl,by omega,hn.out,B1.kpN (Kp.new1 _ _),KK.thenN (Kp.new1 _ _) (Nat.le_refl _)⟩
    case measure=>simp[intOf]
  rcases hi' with rfl|hi'
  ·
   rw[show ((3:Nat):Int)=(3:Int) from rfl];by_cases h:b.v.hi<b.v.lo
   ·
    have hr2:r=2:=by rw[hr.out];exact errBx_two oM
    clear ho hi hr;subst hr2;go_wp2
    go_ret
    exact⟨rfl,KK.thenN (Kp.new1 _ _) (Nat.le_refl _)⟩
   ·
    have hn:ordN b (3+1):=by unfold ordN;omega
    clear ho hi;have hn:=Lib.hid hn;go_wp2
    go_roundw
    case rel=>exact⟨3+1,rfl,by omega,hn.out,B1.kpN (Kp.new1 _ _),KK.thenN (Kp.new1 _ _) (Nat.le_refl _)⟩
    case measure=>simp[intOf]
  subst hi';have hr2:r=if (okSt b.los&&okSt b.his)=true then 0 else 2:=by rw[hr.out];exact errBx_ord ho
  clear hr ho hi i0 i1 i2 i3;have c1:=fun w=>orbit_CheckState_any b.los w;have c2:=fun w=>orbit_CheckState_any b.his w;unfold errSt at c1 c2;generalize okSt b.los=x1 at *;generalize okSt b.his=x2 at *;simp only[Bx.los,Bx.his] at c1 c2;have B:=B1;have K:=KK;clear B1 KK;have m1:r=max (if x1=true then (0:Int) else 2) (if x2=true then (0:Int) else 2):=by rw[hr2];cases x1<;>cases x2<;>rfl
  clear hr2;generalize (if x1=true then (0:Int) else 2)=r1 at *;generalize (if x2=true then (0:Int) else 2)=r2 at *;replace m1:=Lib.hid m1;go_wp2_with fail
  obtain⟨S,hS0,hS1⟩:=cls_of2 (P:=fun w'=>Blk w' _ _ _∧Kp _ _ _ w') wr ⟨B,K⟩;try dsimp only at hS0
  have cB:=fun (x:Ev (S 0)) i=>((hS0 _).1 x.h).1.cell i;replace B:=B.drew;replace K:=K.drew;have hevT:=ev_true;refine wro S [(0,0),(1,0),(2,1),(3,0),(4,0),(5,1),(6,0),(7,0),(8,1),(9,0),(10,0),(11,1),(12,0),(14,0),(15,0),(16,1),(17,0),(18,0),(19,1),(20,0),(21,0),(22,1),(23,0),(24,0),(25,1),(26,0),(13,2),(27,2),(28,0),(29,0)] [] ((hS0 _).2 ⟨B,K⟩) ?_;intro _hev;refine oX ?_;refine oL ?_;intro Kc hKc;generalize wr.drew=wd9 at *;go_step;refine mK (c1 _) fun w3 k=>?_;replace B:=B.kpN k;replace K:=K.tN k;clear k;refine hKc _ _ ((hS0 _).2 ⟨B,K⟩) ?_;clear hKc Kc;refine oL ?_;intro Kc hKc;go_step;refine mK (c2 _) fun w4 k=>?_;replace B:=B.kpN k;replace K:=K.tN k;clear k;refine hKc _ _ ((hS0 _).2 ⟨B,K⟩) ?_;clear hKc Kc;refine oX ?_;refine wpOrd_nil ?_;clear hevT _hev;clear cB hS0 hS1 S;go_wp2
  rw[m1.out];go_ret
  exact⟨rfl,K⟩
theorem orbit_add_any (a b:Sp) (h1:wrap64 (a.lo+b.lo)=a.lo+b.lo) (h2:wrap64 (a.hi+b.hi)=a.hi+b.hi) (w:World) :
  Calls Tryz.prog 177 #[a,b] w fun e w'=>e=.returned (.agg #[(addS a b).lo,(addS a b).hi])∧Kp w.heap.size none w w':=by
 go_enter Tryz.func177,Tryz.ntmps177
 go_wp2_with fail
 exact bodyPost_ret (by simp[results,Tryz.results177,go_sem];exact⟨rfl,rfl⟩) rfl ⟨rfl,(Kp.new2 _ _ _).alloc (by simp;omega) _⟩
structure GF where
 n1:Nat
 n2:Nat
 c1:Bool
 c2:Bool
 s1:Bool
 s2:Bool
def FreeB (T:TypeId) (n:Nat) (c:Bool) (base:Nat) (cells:Array Value) (w:World):Prop:=c=true→Blk w n T cells∧base≤n
theorem FreeB.kpN {T:TypeId} {n:Nat} {c:Bool} {base:Nat} {cells:Array Value} {w w':World} (h:FreeB T n c base cells w) (k:Kp w.heap.size none w w'):FreeB T n c base cells w':=fun e=>⟨(h e).1.kpN k,(h e).2⟩
theorem overA_bd {W:Wd} {d:Dr} {t:Int} {a:Ar} (hW:W.ok) (hd:d.ok):(overA mp d a (W.hvs t)).bd 17179869184:=by
 rw[← accO_all]
 have h:=accO_bd hd (pullsL W t a) (fun p hp=>by
  unfold pullsL at hp;obtain⟨q9,-,rfl⟩:=List.mem_map.1 hp;exact pull_bd _ _)
 rw[pullsL_len] at h;have:=hW.n1;exact h.mono oM
theorem orbit_step_any (A:Option Addr) (c:Nat) (W:Wd) (d:Dr) (t:Int) (b:Bx) (w:World) (hW:W.ok) (hA:WdAt none w A W) (hd:d.ok) (ht:0≤t∧t≤1073741824) (hb:okBx b=true) :
  Calls Tryz.prog 151 #[.agg #[.slice A W.bs.length c,W.home],d,t,b] w fun e w'=>e=.returned (.tuple #[.agg #[(stepB mp d (W.hvs t) b).x.lo,(stepB mp d (W.hvs t) b).x.hi,(stepB mp d (W.hvs t) b).y.lo,(stepB mp d (W.hvs t) b).y.hi,(stepB mp d (W.hvs t) b).u.lo,(stepB mp d (W.hvs t) b).u.hi,(stepB mp d (W.hvs t) b).v.lo,(stepB mp d (W.hvs t) b).v.hi],.bool (okBx (stepB mp d (W.hvs t) b))])∧Kp w.heap.size none w w':=by
 obtain⟨⟨o1,o2,o3,o4⟩,b1,b2,b3,b4,b5,b6,b7,b8⟩:=(okBx_iff b).1 hb;have cv:=fun w h=>force_Over_any A c W d t b.place w hW h hd ht (by unfold Ar.bd Sp.bd Bx.place;simp only;omega);have ub:=overA_bd (t:=t) (a:=b.place) hW hd;obtain⟨out,hout⟩:∃ q9,Hid (q9=stepB mp d (W.hvs t) b):=⟨_,Lib.hid rfl⟩;have eo:out=⟨addS b.x (addS b.u (overA mp d b.place (W.hvs t)).x),addS b.y (addS b.v (overA mp d b.place (W.hvs t)).y),addS b.u (overA mp d b.place (W.hvs t)).x,addS b.v (overA mp d b.place (W.hvs t)).y⟩:=hout.out;rw[← hout.out];generalize overA mp d b.place (W.hvs t)=a at *;simp only[Bx.place] at cv;unfold Ar.bd Sp.bd at ub;have a1:=fun w=>orbit_add_any b.u a.x (by unfold wrap64;omega) (by unfold wrap64;omega) w;have a2:=fun w=>orbit_add_any b.v a.y (by unfold wrap64;omega) (by unfold wrap64;omega) w;have a3:=fun w=>orbit_add_any b.x (addS b.u a.x) (by unfold wrap64 addS;simp only;omega) (by unfold wrap64 addS;simp only;omega) w;have a4:=fun w=>orbit_add_any b.y (addS b.v a.y) (by unfold wrap64 addS;simp only;omega) (by unfold wrap64 addS;simp only;omega) w;have e1:addS b.u a.x=out.u:=by rw[eo]
 have e2:addS b.v a.y=out.v:=by rw[eo]
 have e3:addS b.x (addS b.u a.x)=out.x:=by rw[eo]
 have e4:addS b.y (addS b.v a.y)=out.y:=by rw[eo]
 rw[e3] at a3;rw[e4] at a4;rw[e1] at a1 a3;rw[e2] at a2 a4;have ck:=fun w=>orbit_Check_any out w;obtain⟨rb,hrb⟩:∃ q9,Hid (q9=okBx out):=⟨_,Lib.hid rfl⟩;rw[← hrb.out]
 have ck:∀ w,Calls Tryz.prog 84 #[out] w fun e w'=>e=.returned (.int .i64 (if rb=true then 0 else 2))∧Kp w.heap.size none w w':=by
  intro w;have:=ck w;unfold errBx at this;rwa [← hrb.out] at this
 clear e1 e2 e3 e4 eo ub o1 o2 o3 o4 b1 b2 b3 b4 b5 b6 b7 b8 hb hW hd ht;obtain⟨w1,hw1,D,F,B,R,K,hz⟩:=box4 w 27 #[.slice A W.bs.length c,W.home] 31 d 33 b 33 #[(0:Int),(0:Int),(0:Int),(0:Int),(0:Int),(0:Int),(0:Int),(0:Int)];go_enter Tryz.func151,Tryz.ntmps151
 go_wp2_with fail
 rw[← hw1];clear hw1;refine mK (cv _ (hA.kpN K)) fun w2 k=>?_;replace D:=D.kpN k;replace F:=F.kpN k;replace B:=B.kpN k;replace R:=R.kpN k;replace K:=K.thenN k oM;have hzk:=k.size;clear k;have pB:=B.cell;have pR:=R.cell;obtain⟨w9_,rfl,U,k9_,hzn⟩:=box1 w2 167 #[a.x.lo,a.x.hi,a.y.lo,a.y.hi];replace B:=B.kpN k9_;replace R:=R.kpN k9_;replace K:=K.thenN k9_ oU;clear k9_;have cB:=B.cell;have fB:=B.frozen;have cR:=R.cell;have fR:=R.frozen;go_wp2_with fail
 clear cB fB pB cR fR pR;generalize (w2.alloc (.cells #[a.x.lo,a.x.hi,a.y.lo,a.y.hi] 167))=w3 at *;obtain⟨x,hx⟩:∃ q9,q9=w2.heap.size:=⟨_,rfl⟩;rw[← hx] at U ⊢;replace hx:=Lib.hid hx;have hxw:w.heap.size+4≤x:=by have:=hx.out;omega
 clear hx hzn hzk hz D F;refine wp_region_inv (Γ:=GF) [none,none,none,none,none,none,none,none,none,none,none,none,some 10,some 11,none,none,none,none,none,none,none,none,none,none,none,none,none,none,none,none,some 0,some 1,some 2,some 3,some 4,some 5,some 6,some 7,some 8,some 9] [[],[0],[],[2],[0,1,2,3],[],[5],[],[7],[0,1,2,3,4,5,6,7,8],[],[],[0,1,2,3,4,5,6,7,8,9,10,11],[0,1,2,3,4,5,6,7,8,9,10,11,12]] [[2,3,5,6,7,8,10,11],[0,2,3,5,6,7,8,10,11],[0,1,5,6,7,8,10,11],[0,1,2,5,6,7,8,10,11],[0,1,2,3,5,6,7,8,10,11],[0,1,2,3,4,7,8,10,11],[0,1,2,3,4,5,7,8,10,11],[0,1,2,3,4,5,6,10,11],[0,1,2,3,4,5,6,7,10,11],[0,1,2,3,4,5,6,7,8,10,11],[0,1,2,3,4,5,6,7,8,9,11],[0,1,2,3,4,5,6,7,8,9,10],[0,1,2,3,4,5,6,7,8,9,10,11],[0,1,2,3,4,5,6,7,8,9,10,11,12]] (fun γ=>[.pointer (some ⟨w.heap.size+2,4,none⟩),.agg b.u,.pointer (some ⟨x,0,none⟩),.agg a.x,.agg out.u,.pointer (some ⟨w.heap.size+2,6,none⟩),.agg b.v,.pointer (some ⟨x,2,none⟩),.agg a.y,.agg out.v,.pointer (some ⟨γ.n1,0,none⟩),.pointer (some ⟨γ.n2,0,none⟩),undef,undef]) (fun γ=>[none,none,none,none,none,none,none,none,none,none,none,none,some (.pointer (some ⟨γ.n1,0,none⟩)),some (.pointer (some ⟨γ.n2,0,none⟩)),none,none,none,none,none,none,none,none,none,none,none,none,none,none,none,none,some (.pointer (some ⟨w.heap.size+2,4,none⟩)),some (.agg b.u),some (.pointer (some ⟨x,0,none⟩)),some (.agg a.x),some (.agg out.u),some (.pointer (some ⟨w.heap.size+2,6,none⟩)),some (.agg b.v),some (.pointer (some ⟨x,2,none⟩)),some (.agg a.y),some (.agg out.v)]) ?A4_1 (fun n D γ w=>Kp w3.heap.size none w3 w∧FreeB 29 γ.n1 γ.c1 w3.heap.size (#[(if γ.s1=true then .int .i64 out.u.lo else .int .i64 0),(if γ.s1=true then .int .i64 out.u.hi else .int .i64 0)]) w∧FreeB 29 γ.n2 γ.c2 w3.heap.size (#[(if γ.s2=true then .int .i64 out.v.lo else .int .i64 0),(if γ.s2=true then .int .i64 out.v.hi else .int .i64 0)]) w∧(γ.c1=true→γ.c2=true→γ.n1≠γ.n2)) (fun k γ w=>match k with|10=>γ.c1=true|11=>γ.c2=true|12=>γ.s1=true|13=>γ.s2=true|_=>True) ⟨0,0,false,false,false,false⟩ (by kernel_rfl) (fun _=>rfl) ?hA4_1 (by kernel_rfl) ?hB04_1 ?hop4_1 ?hend4_1
 case hA4_1=>intro γ;dsimp only[fullV];rfl
 case hB04_1=>
  exact⟨(Kp.refl _ none _).drew,fun e=>(by cases e),fun e=>(by cases e),fun e _=>(by cases e)⟩
 case hop4_1=>
  intro hA;refine⟨oKv hA,?_,oKv hA,?_,?_,oKv hA,?_,oKv hA,?_,?_,?_,?_,?_,?_,trivial⟩
  ·
   refine oKv hA (h:=?_);intro n D γ w hB hU K hK;try dsimp only at hB
   try dsimp only
   have cB:=fun i=>(B.kpN hB.1).cell i;have cR:=fun i=>(R.kpN hB.1).cell i;have cU:=fun i=>(U.kpN hB.1).cell i;clear hB hU;go_step;exact hK _ rfl
  ·
   refine oKv hA (h:=?_);intro n D γ w hB hU K hK;try dsimp only at hB
   try dsimp only
   have cB:=fun i=>(B.kpN hB.1).cell i;have cR:=fun i=>(R.kpN hB.1).cell i;have cU:=fun i=>(U.kpN hB.1).cell i;clear hB hU;go_step;exact hK _ rfl
  ·
   refine opOk_l hA (fun _=>rfl) ?_;intro n D γ w hn hD hB hU K hK;try dsimp only at hB
   clear hU;replace hn:n<14:=hn;try dsimp only
   have K9:=hB.1;go_step;refine mK (a1 _) fun w5 k5=>?_;refine hK _ _ γ rfl ⟨hB.1.thenN k5 (Nat.le_refl _),(hB.2.1).kpN k5,(hB.2.2.1).kpN k5,hB.2.2.2⟩ trivial ?_;exact dA
  ·
   refine oKv hA (h:=?_);intro n D γ w hB hU K hK;try dsimp only at hB
   try dsimp only
   have cB:=fun i=>(B.kpN hB.1).cell i;have cR:=fun i=>(R.kpN hB.1).cell i;have cU:=fun i=>(U.kpN hB.1).cell i;clear hB hU;go_step;exact hK _ rfl
  ·
   refine oKv hA (h:=?_);intro n D γ w hB hU K hK;try dsimp only at hB
   try dsimp only
   have cB:=fun i=>(B.kpN hB.1).cell i;have cR:=fun i=>(R.kpN hB.1).cell i;have cU:=fun i=>(U.kpN hB.1).cell i;clear hB hU;go_step;exact hK _ rfl
  ·
   refine opOk_l hA (fun _=>rfl) ?_;intro n D γ w hn hD hB hU K hK;try dsimp only at hB
   clear hU;replace hn:n<14:=hn;try dsimp only
   have K9:=hB.1;go_step;refine mK (a2 _) fun w5 k5=>?_;refine hK _ _ γ rfl ⟨hB.1.thenN k5 (Nat.le_refl _),(hB.2.1).kpN k5,(hB.2.2.1).kpN k5,hB.2.2.2⟩ trivial ?_;exact dA
  ·
   refine opOk_l hA (fun _=>rfl) ?_;intro n D γ w hn hD hB hU K hK;try dsimp only at hB
   clear hU;replace hn:n<14:=hn;try dsimp only
   go_step;obtain⟨w5,hw5⟩:∃ w5,w5=w.alloc (.cells #[(0:Int),(0:Int)] 29):=⟨_,rfl⟩;have k5:Kp w.heap.size none w w5:=hw5 ▸ Kp.new1 _ _;have hBn:Blk w5 w.heap.size 29 #[(0:Int),(0:Int)]:=hw5 ▸ Blk.new _ _ _;rw[← hw5];refine hK _ _ { γ with n1:=w.heap.size,c1:=true,s1:=false } rfl ⟨hB.1.thenN k5 (Nat.le_refl _),fun _=>⟨hBn,hB.1.size⟩,(hB.2.2.1).kpN k5,fun _ hc9=>(by have:=(hB.2.2.1 hc9).1.lt;show w.heap.size≠γ.n2;omega)⟩ rfl ?_;exact dA
  ·
   refine opOk_l hA (fun _=>rfl) ?_;intro n D γ w hn hD hB hU K hK;try dsimp only at hB
   clear hU;replace hn:n<14:=hn;try dsimp only
   go_step;obtain⟨w5,hw5⟩:∃ w5,w5=w.alloc (.cells #[(0:Int),(0:Int)] 29):=⟨_,rfl⟩;have k5:Kp w.heap.size none w w5:=hw5 ▸ Kp.new1 _ _;have hBn:Blk w5 w.heap.size 29 #[(0:Int),(0:Int)]:=hw5 ▸ Blk.new _ _ _;rw[← hw5];refine hK _ _ { γ with n2:=w.heap.size,c2:=true,s2:=false } rfl ⟨hB.1.thenN k5 (Nat.le_refl _),(hB.2.1).kpN k5,fun _=>⟨hBn,hB.1.size⟩,fun hc9 _=>(by have:=(hB.2.1 hc9).1.lt;show γ.n1≠w.heap.size;omega)⟩ rfl ?_;exact dA
  ·
   refine opOk_l hA (fun _=>rfl) ?_;intro n D γ w hn hD hB hU K hK;try dsimp only at hB
   replace hU:(γ.c1=true)∧(γ.c2=true):=⟨hU.2.2.2.2.2.2.2.2.2.2.1,hU.2.2.2.2.2.2.2.2.2.2.2.1⟩;replace hn:n<14:=hn;try dsimp only
   obtain⟨O9,g9⟩:=hB.2.1 hU.1;have cO:=O9.cell;have fO:=O9.frozen;go_step;obtain⟨w5,hw5,R9,kst,hzst⟩:=O9.st2 (.int .i64 out.u.lo) (.int .i64 out.u.hi);rw[← hw5];simp only[sbt,sc0,scs] at R9;refine hK _ _ { γ with s1:=true } rfl ⟨hB.1.thenOwn kst (Nat.le_refl _) g9,fun _=>⟨R9,g9⟩,(fun hc9=>⟨((hB.2.2.1 hc9).1).kp kst ((hB.2.2.1 hc9).1).lt (sne ((hB.2.2.2 hU.1 hc9).symm)),(hB.2.2.1 hc9).2⟩),hB.2.2.2⟩ rfl ?_;exact dA
  ·
   refine opOk_l hA (fun _=>rfl) ?_;intro n D γ w hn hD hB hU K hK;try dsimp only at hB
   replace hU:(γ.c1=true)∧(γ.c2=true)∧(γ.s1=true):=⟨hU.2.2.2.2.2.2.2.2.2.2.1,hU.2.2.2.2.2.2.2.2.2.2.2.1,hU.2.2.2.2.2.2.2.2.2.2.2.2.1⟩;replace hn:n<14:=hn;try dsimp only
   obtain⟨O9,g9⟩:=hB.2.2.1 hU.2.1;have cO:=O9.cell;have fO:=O9.frozen;go_step;obtain⟨w5,hw5,R9,kst,hzst⟩:=O9.st2 (.int .i64 out.v.lo) (.int .i64 out.v.hi);rw[← hw5];simp only[sbt,sc0,scs] at R9;refine hK _ _ { γ with s2:=true } rfl ⟨hB.1.thenOwn kst (Nat.le_refl _) g9,(fun hc9=>⟨((hB.2.1 hc9).1).kp kst ((hB.2.1 hc9).1).lt (sne (hB.2.2.2 hc9 hU.2.1)),(hB.2.1 hc9).2⟩),fun _=>⟨R9,g9⟩,hB.2.2.2⟩ rfl ?_;exact dA
 case hend4_1=>
  intro n D γ w hn hD hB hF;replace hF:=fun k (hk:k<14)=>hF k hk;replace hF:=(⟨hF 10 (by decide),hF 11 (by decide),hF 12 (by decide),hF 13 (by decide)⟩:_∧_∧_∧_);try dsimp only at hB
  try dsimp only at hF
  replace hn:n≤14:=hn;try dsimp only
  obtain⟨np,nq,c1_9,c2_9,s1_9,s2_9⟩:=γ;dsimp only at hB hF ⊢;obtain⟨rfl,rfl,rfl,rfl⟩:=hF;obtain⟨K9,f1_9,f2_9,ne9⟩:=hB;obtain⟨P,gP⟩:=f1_9 rfl;simp only[reduceIte] at P;obtain⟨Q,gQ⟩:=f2_9 rfl;simp only[reduceIte] at Q;have ne:=ne9 rfl rfl;clear ne9;clear f1_9 f2_9;clear hD hn;have gB:=B.lt;have gR:=R.lt;have gU:=U.lt;replace B:=B.kpN K9;replace R:=R.kpN K9;replace U:=U.kpN K9;replace K:=K.trans (K9.mono K.size);clear K9;rename World=>w4;go_wp2_with fail
  clear U a1 a2 cv gU;have gBP:w.heap.size+2<np:=by omega
  have gBQ:w.heap.size+2<nq:=by omega
  have gRP:w.heap.size+3<np:=by omega
  have gRQ:w.heap.size+3<nq:=by omega
  refine wp_region_inv (Γ:=GF) [none,none,none,none,none,none,none,none,none,none,none,none,none,none,some 11,none,none,none,none,none,none,none,none,none,none,none,none,none,none,none,none,none,none,none,none,none,none,none,none,none,some 0,some 1,some 2,some 3,some 4,some 5,some 6,some 7,some 8,some 9,some 10] [[],[0],[],[0,1,2],[],[4],[],[0,1,2,3,4,5,6],[],[],[0,1,2,3,4,5,6,7,8,9],[],[0,1,2,3,4,5,6,7,8,9,10,11]] [[2,4,5,6,8,9,11],[0,2,4,5,6,8,9,11],[0,1,4,5,6,8,9,11],[0,1,2,4,5,6,8,9,11],[0,1,2,3,6,8,9,11],[0,1,2,3,4,6,8,9,11],[0,1,2,3,4,5,8,9,11],[0,1,2,3,4,5,6,8,9,11],[0,1,2,3,4,5,6,7,9,11],[0,1,2,3,4,5,6,7,8,11],[0,1,2,3,4,5,6,7,8,9,11],[0,1,2,3,4,5,6,7,8,9,10],[0,1,2,3,4,5,6,7,8,9,10,11]] (fun γ=>[.pointer (some ⟨w.heap.size+2,0,none⟩),.agg b.x,.agg out.u,.agg out.x,.pointer (some ⟨w.heap.size+2,2,none⟩),.agg b.y,.agg out.v,.agg out.y,.agg out.u,.agg out.v,.agg out,.pointer (some ⟨γ.n1,0,none⟩),undef]) (fun γ=>[none,none,none,none,none,none,none,none,none,none,none,none,none,none,some (.pointer (some ⟨γ.n1,0,none⟩)),none,none,none,none,none,none,none,none,none,none,none,none,none,none,none,none,none,none,none,none,none,none,none,none,none,some (.pointer (some ⟨w.heap.size+2,0,none⟩)),some (.agg b.x),some (.agg out.u),some (.agg out.x),some (.pointer (some ⟨w.heap.size+2,2,none⟩)),some (.agg b.y),some (.agg out.v),some (.agg out.y),some (.agg out.u),some (.agg out.v),some (.agg out)]) ?A5_2 (fun n D γ w=>Kp w4.heap.size none w4 w∧FreeB 33 γ.n1 γ.c1 w4.heap.size (#[(if γ.s1=true then .int .i64 out.x.lo else .int .i64 0),(if γ.s1=true then .int .i64 out.x.hi else .int .i64 0),(if γ.s1=true then .int .i64 out.y.lo else .int .i64 0),(if γ.s1=true then .int .i64 out.y.hi else .int .i64 0),(if γ.s1=true then .int .i64 out.u.lo else .int .i64 0),(if γ.s1=true then .int .i64 out.u.hi else .int .i64 0),(if γ.s1=true then .int .i64 out.v.lo else .int .i64 0),(if γ.s1=true then .int .i64 out.v.hi else .int .i64 0)]) w) (fun k γ w=>match k with|11=>γ.c1=true|12=>γ.s1=true|_=>True) ⟨0,0,false,false,false,false⟩ (by kernel_rfl) (fun _=>rfl) ?hA5_2 (by kernel_rfl) ?hB05_2 ?hop5_2 ?hend5_2
  case hA5_2=>intro γ;dsimp only[fullV];rfl
  case hB05_2=>
   exact⟨(Kp.refl _ none _).drew,fun e=>(by cases e)⟩
  case hop5_2=>
   intro hA;refine⟨oKv hA,?_,?_,?_,oKv hA,?_,?_,?_,?_,?_,oKv hA,?_,?_,trivial⟩
   ·
    refine oKv hA (h:=?_);intro n D γ w hB hU K hK;try dsimp only at hB
    try dsimp only
    have cB:=fun i=>(B.kpN hB.1).cell i;have cR:=fun i=>(R.kpN hB.1).cell i;have cP:=fun i=>(P.kpN hB.1).cell i;have cQ:=fun i=>(Q.kpN hB.1).cell i;clear hB hU;go_step;exact hK _ rfl
   ·
    refine oKv hA (h:=?_);intro n D γ w hB hU K hK;try dsimp only at hB
    try dsimp only
    have cB:=fun i=>(B.kpN hB.1).cell i;have cR:=fun i=>(R.kpN hB.1).cell i;have cP:=fun i=>(P.kpN hB.1).cell i;have cQ:=fun i=>(Q.kpN hB.1).cell i;clear hB hU;go_step;exact hK _ rfl
   ·
    refine opOk_l hA (fun _=>rfl) ?_;intro n D γ w hn hD hB hU K hK;try dsimp only at hB
    clear hU;replace hn:n<13:=hn;try dsimp only
    have K9:=hB.1;go_step;refine mK (a3 _) fun w5 k5=>?_;refine hK _ _ γ rfl ⟨hB.1.thenN k5 (Nat.le_refl _),(hB.2).kpN k5⟩ trivial ?_;exact dA
   ·
    refine oKv hA (h:=?_);intro n D γ w hB hU K hK;try dsimp only at hB
    try dsimp only
    have cB:=fun i=>(B.kpN hB.1).cell i;have cR:=fun i=>(R.kpN hB.1).cell i;have cP:=fun i=>(P.kpN hB.1).cell i;have cQ:=fun i=>(Q.kpN hB.1).cell i;clear hB hU;go_step;exact hK _ rfl
   ·
    refine oKv hA (h:=?_);intro n D γ w hB hU K hK;try dsimp only at hB
    try dsimp only
    have cB:=fun i=>(B.kpN hB.1).cell i;have cR:=fun i=>(R.kpN hB.1).cell i;have cP:=fun i=>(P.kpN hB.1).cell i;have cQ:=fun i=>(Q.kpN hB.1).cell i;clear hB hU;go_step;exact hK _ rfl
   ·
    refine opOk_l hA (fun _=>rfl) ?_;intro n D γ w hn hD hB hU K hK;try dsimp only at hB
    clear hU;replace hn:n<13:=hn;try dsimp only
    have K9:=hB.1;go_step;refine mK (a4 _) fun w5 k5=>?_;refine hK _ _ γ rfl ⟨hB.1.thenN k5 (Nat.le_refl _),(hB.2).kpN k5⟩ trivial ?_;exact dA
   ·
    refine oKv hA (h:=?_);intro n D γ w hB hU K hK;try dsimp only at hB
    try dsimp only
    have cB:=fun i=>(B.kpN hB.1).cell i;have cR:=fun i=>(R.kpN hB.1).cell i;have cP:=fun i=>(P.kpN hB.1).cell i;have cQ:=fun i=>(Q.kpN hB.1).cell i;clear hB hU;go_step;exact hK _ rfl
   ·
    refine oKv hA (h:=?_);intro n D γ w hB hU K hK;try dsimp only at hB
    try dsimp only
    have cB:=fun i=>(B.kpN hB.1).cell i;have cR:=fun i=>(R.kpN hB.1).cell i;have cP:=fun i=>(P.kpN hB.1).cell i;have cQ:=fun i=>(Q.kpN hB.1).cell i;clear hB hU;go_step;exact hK _ rfl
   ·
    refine opOk_l hA (fun _=>rfl) ?_;intro n D γ w hn hD hB hU K hK;try dsimp only at hB
    clear hU;replace hn:n<13:=hn;try dsimp only
    go_step;obtain⟨w5,hw5⟩:∃ w5,w5=w.alloc (.cells #[(0:Int),(0:Int),(0:Int),(0:Int),(0:Int),(0:Int),(0:Int),(0:Int)] 33):=⟨_,rfl⟩;have k5:Kp w.heap.size none w w5:=hw5 ▸ Kp.new1 _ _;have hBn:Blk w5 w.heap.size 33 #[(0:Int),(0:Int),(0:Int),(0:Int),(0:Int),(0:Int),(0:Int),(0:Int)]:=hw5 ▸ Blk.new _ _ _;rw[← hw5];refine hK _ _ { γ with n1:=w.heap.size,c1:=true,s1:=false } rfl ⟨hB.1.thenN k5 (Nat.le_refl _),fun _=>⟨hBn,hB.1.size⟩⟩ rfl ?_;exact dA
   ·
    refine opOk_l hA (fun _=>rfl) ?_;intro n D γ w hn hD hB hU K hK;try dsimp only at hB
    replace hU:(γ.c1=true):=hU.2.2.2.2.2.2.2.2.2.2.2.1;replace hn:n<13:=hn;try dsimp only
    obtain⟨O9,g9⟩:=hB.2 hU;have cO:=O9.cell;have fO:=O9.frozen;go_step;obtain⟨w5,hw5,R9,kst,hzst⟩:=O9.st8 (.int .i64 out.x.lo) (.int .i64 out.x.hi) (.int .i64 out.y.lo) (.int .i64 out.y.hi) (.int .i64 out.u.lo) (.int .i64 out.u.hi) (.int .i64 out.v.lo) (.int .i64 out.v.hi);rw[← hw5];simp only[sbt,sc0,scs] at R9;refine hK _ _ { γ with s1:=true } rfl ⟨hB.1.thenOwn kst (Nat.le_refl _) g9,fun _=>⟨R9,g9⟩⟩ rfl ?_;exact dA
  case hend5_2=>
   intro n D γ w hn hD hB hF;replace hF:=fun k (hk:k<13)=>hF k hk;replace hF:=(⟨hF 11 (by decide),hF 12 (by decide)⟩:_∧_);try dsimp only at hB
   try dsimp only at hF
   replace hn:n≤13:=hn;try dsimp only
   obtain⟨nz,n2_9,c1_9,c2_9,s1_9,s2_9⟩:=γ;dsimp only at hB hF ⊢;obtain⟨rfl,rfl⟩:=hF;obtain⟨K9,f1_9⟩:=hB;obtain⟨Z,gZ⟩:=f1_9 rfl;simp only[reduceIte] at Z;clear f1_9;clear hD hn;have gB:=B.lt;have gR:=R.lt;have gP:=P.lt;have gQ:=Q.lt;replace B:=B.kpN K9;replace R:=R.kpN K9;replace P:=P.kpN K9;replace Q:=Q.kpN K9;replace K:=K.trans (K9.mono K.size);clear K9;rename World=>w5;go_wp2_with fail
   clear B P Q;cases rb
   all_goals
    simp only[if_true,if_false,Bool.false_eq_true] at ck;obtain⟨S,hS0,hS1⟩:=cls_of2 (P:=fun w'=>Blk w' _ _ _∧Kp _ _ _ w') w5 ⟨Z,K⟩;try dsimp only at hS0
    have cZ:=fun (x:Ev (S 0)) i=>((hS0 _).1 x.h).1.cell i;replace Z:=Z.drew;replace K:=K.drew;replace R:=R.drew;have hevT:=ev_true;refine wro S [(0,1),(1,1),(2,2),(3,0),(4,2),(5,0)] [] ((hS0 _).2 ⟨Z,K⟩) ?_;intro _hev;refine oX ?_;refine oL ?_;intro Kc hKc;generalize w5.drew=wd9 at *;go_step;refine mK (ck _) fun w6 k=>?_;replace Z:=Z.kpN k;replace R:=R.kpN k;replace K:=K.tN k;clear k;refine hKc _ _ ((hS0 _).2 ⟨Z,K⟩) ?_;clear hKc Kc;refine oX ?_;refine oL ?_;intro Kc hKc;have cR:=R.cell;have fR:=R.frozen;go_step;obtain⟨w9,hwn,RB9,kst,hzst⟩:=R.st8 (.int .i64 out.x.lo) (.int .i64 out.x.hi) (.int .i64 out.y.lo) (.int .i64 out.y.hi) (.int .i64 out.u.lo) (.int .i64 out.u.hi) (.int .i64 out.v.lo) (.int .i64 out.v.hi);rw[← hwn];clear hwn cR fR;replace Z:=Z.kq kst;first|replace K:=K.thenOwn kst (Nat.le_refl _) oM|replace K:=K.then_ kst (Nat.le_refl _)
    replace R:=RB9;clear RB9 kst;simp only[sbt,sc0,scs] at R;refine hKc _ _ ((hS0 _).2 ⟨Z,K⟩) ?_;clear hKc Kc;refine oX ?_;refine wpOrd_nil ?_;clear hevT _hev;clear cZ hS0 hS1 S;have cR:=R.cell;go_wp2_with fail
    exact bodyPost_ret (by simp[results,Tryz.results151,go_sem,cR]) rfl ⟨rfl,K⟩
end Go.Proofs.YtdhiappifnflpaaGreat
