/- The common end of the statements: awake. Skies in memory: the walks of sky, eleventh part: Excludes. -/
import Derived.Test.YtdhiappifnflpaaGreatM12
import Derived.Test.YtdhiappifnflpaaGreatM11
import Derived.Laws.EntriesVeiled
import Derived.Test.YtdhiappifnflpaaGreatM32
import Derived.Test.YtdhiappifnflpaaGreatM21
set_option maxRecDepth 100000
set_option maxHeartbeats 4000000
namespace Go.Proofs.YtdhiappifnflpaaGreat
open Go.RowKit
theorem comes_four (r:Int) (h0:0≤r):comesP ⟨2,3⟩ ⟨10,3⟩ r↔4≤r:=by
 have e:comesP ⟨2,3⟩ ⟨10,3⟩ r↔13≤r * r:=by unfold comesP;simp[n2]
 rw[e];constructor
 ·
  intro h;rcases Int.lt_or_le r 4 with k|k
  ·
   have:r=0∨r=1∨r=2∨r=3:=by omega
   rcases this with rfl|rfl|rfl|rfl<;>omega
  · exact k
 ·
  intro h;have:=Int.mul_le_mul h h oM oM;omega
theorem miss1_any (pb qb:Nat) (r:Int) (w:World) (h0:0≤r) (h1:r≤268435456) (P:Blk w pb 73 #[(2:Int),(3:Int)]) (Q:Blk w qb 73 #[(10:Int),(3:Int)]) :
  Calls Tryz.prog 75 #[r,.pointer (some ⟨pb,0,none⟩),.pointer (some ⟨qb,0,none⟩)] w fun e w'=>e=.returned (.bool (decide (4≤r)))∧Kp w.heap.size none w w':=by
 have cc:=fun w=>span_comes_any ⟨2,3⟩ ⟨10,3⟩ r (by unfold Fr Fr1;dsimp only;omega) (by unfold Fr Fr1;dsimp only;omega) h0 h1 w;have e:decide (comesP ⟨2,3⟩ ⟨10,3⟩ r)=decide (4≤r):=decide_eq_decide.2 (comes_four r h0);rw[e] at cc;have cP:=P.cell;have cQ:=Q.cell;generalize decide (4≤r)=v at *;clear e h0 h1 P Q;go_enter Tryz.func75,Tryz.ntmps75
 go_wp2_with fail
 refine mK (cc _) fun w2 k=>?_;go_wp2
 go_ret
 exact⟨rfl,k⟩
def SrAt (w:World) (a b:Value) (wr:World):Prop:=∃ i j:Nat,a=.int .i64 i∧b=.int .i64 j∧i≤4∧4≤j∧(i=0∧j=536870912∨j≤268435456)∧Kp w.heap.size none w wr
theorem search_four (pb qb:Nat) (w:World) (P:Blk w pb 73 #[(2:Int),(3:Int)]) (Q:Blk w qb 73 #[(10:Int),(3:Int)]) :
  Calls Tryz.prog 74 #[(536870912:Int),.func (.func 75) #[] #[.pointer (some ⟨pb,0,none⟩),.pointer (some ⟨qb,0,none⟩)]] w fun e w'=>e=.returned (.int .i64 4)∧Kp w.heap.size none w w':=by
 go_enter Tryz.func74,Tryz.ntmps74
 go_wp2_with fail
 go_loopw [5,6] (fun a b wr=>SrAt w a b wr) (fun a b _=>(intOf b).toNat-(intOf a).toNat)
 case atStart=>exact⟨0,536870912,rfl,rfl,by omega,by omega,.inl ⟨rfl,rfl⟩,Kp.refl _ _ _⟩
 case round=>
  obtain⟨i,j,rfl,rfl,hi,hj,hij,K⟩:=hrel;by_cases h:i<j
  ·
   have hii:(i:Int)<(j:Int):=by omega
   obtain⟨m,hm⟩:∃ m:Nat,Hid (m=(i+j) / 2):=⟨_,Lib.hid rfl⟩;have hm1:(m:Int)≤268435456:=by have:=hm.out;omega
   have cc:=fun w P Q=>miss1_any pb qb (m:Int) w oM hm1 P Q;have g1:Hid (m<4→m+1≤4∧j-(m+1)<j-i∧(j≤268435456)):=Lib.hid (by have:=hm.out;omega);have g2:Hid (4≤m→m-i<j-i∧m≤268435456):=Lib.hid (by have:=hm.out;omega);have e9:wrap64 (IntKind.u64.wrap (wrap64 ((i:Int)+(j:Int))) / 2)=(m:Int):=by have:=hm.out;rw[wrapu];unfold wrap64;omega
   replace e9:=Lib.hid e9;clear hm1;replace hij:=Lib.hid hij;clear hm;go_wp2_with fail
   rw[e9.out];refine mK (cc _ (P.kpN K) (Q.kpN K)) fun w2 k=>?_;clear cc e9;have K2:=K.tN k;by_cases h4:(4:Int)≤(m:Int)
   ·
    obtain⟨q1,q2⟩:=g2.out oM;have d:decide ((4:Int)≤(m:Int))=true:=decide_eq_true h4;have h5:=Lib.hid h4;replace q1:=Lib.hid q1;replace q2:=Lib.hid q2;rw[d];clear h4 g1 g2;go_wp2
    go_roundw
    case rel=>exact⟨i,m,rfl,rfl,hi,by have:=h5.out;omega,.inr q2.out,K2⟩
    case measure=>have:=q1.out;simp[intOf];omega
   ·
    obtain⟨q1,q2,q3⟩:=g1.out oM;have d:decide ((4:Int)≤(m:Int))=false:=decide_eq_false h4;have h5:(m:Int)<4:=by omega
    replace q1:=Lib.hid q1;replace q2:=Lib.hid q2;rw[d];clear h4 g1 g2;go_wp2
    go_roundw
    case rel=>exact⟨m+1,j,by congr 1,rfl,q1.out,hj,.inr q3,K2⟩
    case measure=>have:=q2.out;simp[intOf];omega
  ·
   obtain rfl:i=4:=by omega
   obtain rfl:j=4:=by omega
   go_wp2
   go_ret
   exact⟨rfl,K⟩
theorem span_Miss_four (w:World) :
  Calls Tryz.prog 30 #[.agg #[(2:Int),(3:Int)],.agg #[(10:Int),(3:Int)]] w fun e w'=>e=.returned (.int .i64 4)∧Kp w.heap.size none w w':=by
 have ca:∀ b T w,Blk w b T #[(2:Int),(3:Int),(10:Int),(3:Int)]→Calls Tryz.prog 73 #[(0:Int),.slice (some ⟨b,0,none⟩) 2 2] w fun e w'=>e=.returned (.bool true)∧Kp w.heap.size none w w':=fun b T w h=>span_asks_any (some ⟨b,0,none⟩) 2 0 [⟨2,3⟩,⟨10,3⟩] w (rd_pt2 h) (by simp) (by intro x hx;simp only[List.mem_cons,List.not_mem_nil,or_false] at hx;rcases hx with rfl|rfl<;>(unfold Fr Fr1;dsimp only;omega)) oM oM;obtain⟨w1,hw1,P,Q,K,hz⟩:=box2 w 73 #[(2:Int),(3:Int)] 73 #[(10:Int),(3:Int)];go_enter Tryz.func30,Tryz.ntmps30
 go_wp2_with fail
 rw[← hw1];clear hw1;have k1:=Kp.new1 w1 (.cells #[(2:Int),(3:Int),(10:Int),(3:Int)] 73);refine mK (ca _ 73 _ (Blk.newAt w1 _ _ oM)) fun w2 k=>?_;replace P:=(P.kpN k1).kpN k;replace Q:=(Q.kpN k1).kpN k;replace K:=(K.thenN k1 oM).thenN k (by simp);clear k k1;go_wp2_with fail
 refine mK (search_four _ _ _ P Q) fun w3 k=>?_;go_wp2
 go_ret
 exact⟨rfl,K.thenN k (by have:=K.size;omega)⟩
theorem awake_any (w:World):Calls Tryz.prog 8 #[] w fun e w'=>e=.returned (.bool true)∧Kp w.heap.size none w w':=by
 have cm:=fun w=>span_Mul_any ⟨-2,3⟩ ⟨-5,4⟩ (by unfold Sp.fit;dsimp only;omega) (by unfold Sp.fit;dsimp only;omega) (by
  intro x y hx hy;unfold Sp.has at hx hy;dsimp only at hx hy;have h:=mul_bd (a:=x) (b:=y) (A:=5) (B:=5) oM oM;unfold Fit1;omega) w
 have e1:mulS ⟨-2,3⟩ ⟨-5,4⟩=⟨-15,12⟩:=by decide
 rw[e1] at cm
 have cr:∀ w,Calls Tryz.prog 29 #[(15:Int)] w fun e w'=>e=.returned (.int .i64 3)∧Kp w.heap.size none w w':=fun w=>(span_Root_any 15 oM w).mono fun e w' ⟨⟨r,h1,h2⟩,h3⟩=>⟨by
  have:r=3:=root_one h2.1 h2.2 oM oM;rw[h1,this];rfl,h3⟩
 have cs:=fun w=>span_Miss_four w;clear e1;go_enter Tryz.func8,Tryz.ntmps8
 go_wp2_with fail
 refine mK (cm _) fun w2 k2=>?_;have S:=Blk.new w2 29 #[.int .i64 (-15),(12:Int)];have k3:=Kp.new1 w2 (.cells #[.int .i64 (-15),(12:Int)] 29);have cS:=S.cell;dsimp only;go_wp2_with fail
 refine mK (cr _) fun w4 k4=>?_;clear cS;go_wp2_with fail
 refine mK (cs _) fun w5 k5=>?_;go_wp2
 go_ret
 exact⟨rfl,((k2.thenN k3 (Nat.le_refl _)).thenN k4 (Nat.le_refl _)).thenN k5 (Nat.le_refl _)⟩
end Go.Proofs.YtdhiappifnflpaaGreat
namespace Go.Proofs.YtdhiappifnflpaaGreat
open Go.RowKit
attribute [local go_sem] Oper.semAt_some
theorem exc1_test (q:Nat) (fx fy lo hi:Int) (a:Ar) (w:World) (hf:-5000≤fx∧fx≤5000∧-5000≤fy∧fy≤5000) (hl:0≤lo∧lo≤134217728) (ha:a.bd 33554432) (hb:Blk w q 215 #[fx,fy,lo,hi]) :
  TestP 140 #[.pointer (some ⟨q,0,none⟩)] (fun p=>decide (dist2 p fx fy<lo * lo)) a.crn w:=fun W p hp hk=>by
 have C:=hb.kpN hk;have cd:=fun w=>sky_distance_any p fx fy (NearV.crn ha p hp) hf w;have e1:wrap64 (lo * lo)=lo * lo:=sq_wrap ⟨by omega,by omega⟩;change Calls Tryz.prog 140 #[.agg #[p.x,p.y],.pointer (some ⟨q,0,none⟩)] W fun e w'=>e=.returned (.bool (decide (dist2 p fx fy<lo * lo)))∧Kp W.heap.size none W w';generalize dist2 p fx fy=d at *;clear hb hk ha hp hf hl;obtain⟨w1,hw1,P,K,hz⟩:=box1 W 73 #[p.x,p.y];replace C:=C.kpN K;go_enter Tryz.func140,Tryz.ntmps140
 go_wp2_with fail
 rw[← hw1];clear hw1;obtain⟨S,hS0,hS1⟩:=cls_of2 (P:=fun w'=>Blk w' _ _ _∧Blk w' _ _ _∧Kp _ _ _ w') w1 ⟨P,C,K⟩;try dsimp only at hS0
 have cP:=fun (x:Ev (S 0)) i=>((hS0 _).1 x.h).1.cell i;have cC:=fun (x:Ev (S 0)) i=>((hS0 _).1 x.h).2.1.cell i;replace P:=P.drew;replace C:=C.drew;replace K:=K.drew;have hevT:=ev_true;refine wro S [(0,1),(1,0),(2,1),(4,0),(5,1),(6,0),(7,1),(8,0),(3,2),(9,0),(10,0)] [] ((hS0 _).2 ⟨P,C,K⟩) ?_;intro _hev;refine oX ?_;refine oL ?_;intro Kc hKc;generalize w1.drew=wd9 at *;go_step;refine mK (cd _) fun w2 k=>?_;replace P:=P.kpN k;replace C:=C.kpN k;replace K:=K.tN k;clear k;refine hKc _ _ ((hS0 _).2 ⟨P,C,K⟩) ?_;clear hKc Kc;refine oX ?_;refine wpOrd_nil ?_;clear hevT _hev;clear cP cC hS0 hS1 S;go_wp2
 go_ret
 exact⟨rfl,K⟩
theorem exc2_test (q:Nat) (c:Cone) (hi:Int) (a:Ar) (w:World) (hc:c.sm) (hh:1≤hi∧hi≤134217728) (ha:a.bd 33554432) (hb:Blk w q 221 #[c.fx,c.fy,c.dx,c.dy,c.low,c.high,hi]) :
  TestP 141 #[.pointer (some ⟨q,0,none⟩)] (fun p=>c.hasP p&&decide (dist2 p c.fx c.fy≤hi * hi)) a.crn w:=fun W p hp hk=>by
 have C:=hb.kpN hk;have hpn:=NearV.crn ha p hp;have cd:=fun w=>sky_distance_any p c.fx c.fy hpn hc.f w;have ch:=fun w=>cone_has_any c p hc hpn w;have e1:wrap64 (hi * hi)=hi * hi:=sq_wrap ⟨by omega,by omega⟩;change Calls Tryz.prog 141 #[.agg #[p.x,p.y],.pointer (some ⟨q,0,none⟩)] W fun e w'=>e=.returned (.bool (c.hasP p&&decide (dist2 p c.fx c.fy≤hi * hi)))∧Kp W.heap.size none W w';generalize dist2 p c.fx c.fy=d at *;generalize c.hasP p=b at *;clear hb hk ha hp hc hh hpn;obtain⟨w1,hw1,P,K,hz⟩:=box1 W 73 #[p.x,p.y];replace C:=C.kpN K;go_enter Tryz.func141,Tryz.ntmps141
 go_wp2_with fail
 rw[← hw1];clear hw1;cases b
 ·
  obtain⟨S,hS0,hS1⟩:=cls_of2 (P:=fun w'=>Blk w' _ _ _∧Blk w' _ _ _∧Kp _ _ _ w') w1 ⟨P,C,K⟩;try dsimp only at hS0
  have cP:=fun (x:Ev (S 0)) i=>((hS0 _).1 x.h).1.cell i;have cC:=fun (x:Ev (S 0)) i=>((hS0 _).1 x.h).2.1.cell i;replace P:=P.drew;replace C:=C.drew;replace K:=K.drew;have hevT:=ev_true;refine wro S [(0,0),(1,1),(2,1),(3,2),(4,0),(5,1),(6,0),(7,0),(8,1),(10,0),(11,1),(12,0),(13,1),(14,0),(9,2),(15,0),(16,0),(17,0)] [] ((hS0 _).2 ⟨P,C,K⟩) ?_;intro _hev;refine oX ?_;refine oL ?_;intro Kc hKc;generalize w1.drew=wd9 at *;go_step;refine mK (ch _) fun w2 k=>?_;replace P:=P.kpN k;replace C:=C.kpN k;replace K:=K.tN k;clear k;refine hKc _ _ ((hS0 _).2 ⟨P,C,K⟩) ?_;clear hKc Kc;refine oY ?_;iterate 9 (refine oZ ?_)
  refine wpOrd_s2 (by decide) rfl rfl rfl ?_;intro Kc hKc;go_big_quiet_op
  go_big_quiet_on
  refine oZ ?_;refine oY ?_;refine wpOrd_nil ?_;clear hevT _hev;clear cP cC hS0 hS1 S;go_wp2
  go_ret
  exact⟨rfl,K⟩
 ·
  obtain⟨S,hS0,hS1⟩:=cls_of2 (P:=fun w'=>Blk w' _ _ _∧Blk w' _ _ _∧Kp _ _ _ w') w1 ⟨P,C,K⟩;try dsimp only at hS0
  have cP:=fun (x:Ev (S 0)) i=>((hS0 _).1 x.h).1.cell i;have cC:=fun (x:Ev (S 0)) i=>((hS0 _).1 x.h).2.1.cell i;replace P:=P.drew;replace C:=C.drew;replace K:=K.drew;have hevT:=ev_true;refine wro S [(0,0),(1,1),(2,1),(3,2),(4,0),(5,1),(6,0),(7,0),(8,1),(10,0),(11,1),(12,0),(13,1),(14,0),(9,2),(15,0),(16,0),(17,0)] [] ((hS0 _).2 ⟨P,C,K⟩) ?_;intro _hev;refine oX ?_;refine oL ?_;intro Kc hKc;generalize w1.drew=wd9 at *;go_step;refine mK (ch _) fun w2 k=>?_;replace P:=P.kpN k;replace C:=C.kpN k;replace K:=K.tN k;clear k;refine hKc _ _ ((hS0 _).2 ⟨P,C,K⟩) ?_;clear hKc Kc;refine oX ?_;refine oL ?_;intro Kc hKc;go_step;refine mK (cd _) fun w3 k=>?_;replace P:=P.kpN k;replace C:=C.kpN k;replace K:=K.tN k;clear k;refine hKc _ _ ((hS0 _).2 ⟨P,C,K⟩) ?_;clear hKc Kc;refine oX ?_;refine wpOrd_nil ?_;clear hevT _hev;clear cP cC hS0 hS1 S;go_wp2
  go_ret
  exact⟨rfl,K⟩
theorem nearS_near {s:Sp} {n:Int} (h:s.bd 33554432):-33554432≤nearS s n∧nearS s n≤33554432:=by
 unfold Sp.bd at h;unfold nearS;omega
def All3 (f g h:Pt→Bool) (x y z:Nat) (S:Nat→Prop) (pre:List Pt) (W:World):Prop:=(Blk W x 4 #[.bool (pre.all f)]∧¬ S x)∧(Blk W y 4 #[.bool (pre.all g)]∧¬ S y)∧(Blk W z 4 #[.bool (pre.all h)]∧¬ S z)
theorem All3.abide (f g h:Pt→Bool) (x y z:Nat):AbideZ (All3 f g h x y z):=by
 have a1:=AtB.abide x 4 (fun pre:List Pt=>#[Value.bool (pre.all f)]);have a2:=AtB.abide y 4 (fun pre:List Pt=>#[Value.bool (pre.all g)]);have a3:=AtB.abide z 4 (fun pre:List Pt=>#[Value.bool (pre.all h)]);exact⟨fun S s W W' row ⟨h1,h2,h3⟩ hk hr=>⟨a1.step S s W W' row h1 hk hr,a2.step S s W W' row h2 hk hr,a3.step S s W W' row h3 hk hr⟩,fun S S' s W ⟨h1,h2,h3⟩ hs=>⟨a1.less S S' s W h1 hs,a2.less S S' s W h2 hs,a3.less S S' s W h3 hs⟩⟩
theorem All3.put (f g h:Pt→Bool) (x y z M:Nat):PutZ M (All3 f g h x y z):=fun S s W l o o' _ ⟨h1,h2,h3⟩ ho hc=>⟨⟨h1.1.put_ o' ho hc,h1.2⟩,⟨h2.1.put_ o' ho hc,h2.2⟩,⟨h3.1.put_ o' ho hc,h3.2⟩⟩
theorem all_snoc (f:Pt→Bool) (pre:List Pt) (p:Pt):(pre++[p]).all f=(pre.all f&&f p):=by simp
theorem Kz.under3 {M N x y z:Nat} {w w':World} (h:Kz M (fun k=>(k=x∨k=y∨k=z)∨False) w w') (hN:N≤M) (hx:N≤x) (hy:N≤y) (hz:N≤z):Kp N none w w':=
 (h.less hN (fun k hk e=>by rcases e with(e|e|e)|e;all_goals first|exact absurd e oM|exact e):Kz N (fun _=>False) w w').kpN
theorem ta_aa (v:Value) (w:World):(Instr.typeAssert (.iface 219 v) 154 219 true).run Tryz.prog w=.ok (.tuple #[v,.bool true]) w:=by kernel_rfl
theorem ta_ra (v:Value) (w:World):(Instr.typeAssert (.iface 215 v) 154 219 true).run Tryz.prog w=.ok (.tuple #[.agg #[(0:Int),(0:Int),(0:Int),(0:Int),(0:Int),(0:Int)],.bool false]) w:=by kernel_rfl
theorem ta_rr (v:Value) (w:World):(Instr.typeAssert (.iface 215 v) 154 215 true).run Tryz.prog w=.ok (.tuple #[v,.bool true]) w:=by kernel_rfl
theorem ta_ea (v:Value) (w:World):(Instr.typeAssert (.iface 221 v) 154 219 true).run Tryz.prog w=.ok (.tuple #[.agg #[(0:Int),(0:Int),(0:Int),(0:Int),(0:Int),(0:Int)],.bool false]) w:=by kernel_rfl
theorem ta_er (v:Value) (w:World):(Instr.typeAssert (.iface 221 v) 154 215 true).run Tryz.prog w=.ok (.tuple #[.agg #[(0:Int),(0:Int),(0:Int),(0:Int)],.bool false]) w:=by kernel_rfl
theorem ta_ee (v:Value) (w:World):(Instr.typeAssert (.iface 221 v) 154 221 true).run Tryz.prog w=.ok (.tuple #[v,.bool true]) w:=by kernel_rfl
theorem set3 {W:World} {x y z:Nat} {T:TypeId} {a b c:Value} (hx:Blk W x T #[a]) (hy:Blk W y T #[b]) (hz:Blk W z T #[c]) (hxy:x≠y) (hxz:x≠z) (hyz:y≠z) (u v t:Value) :
  ∃ W',W'=((W.setCell ⟨x,0,none⟩ u).setCell ⟨y,0,none⟩ v).setCell ⟨z,0,none⟩ t∧Blk W' x T #[u]∧Blk W' y T #[v]∧Blk W' z T #[t]∧Kz W.heap.size (fun k=>k=x∨k=y∨k=z) W W':=by
 refine⟨_,rfl,((hx.set_ 0 u).far hxy v).far hxz t,((hy.far (Ne.symm hxy) u).set_ 0 v).far hyz t,((hz.far (Ne.symm hxz) u).far (Ne.symm hyz) v).set_ 0 t,?_⟩;refine⟨rfl,rfl,rfl,by simp[World.setCell],fun k _ hn=>?_⟩;have n1:k≠x:=fun e=>hn (.inl e);have n2:k≠y:=fun e=>hn (.inr (.inl e));have n3:k≠z:=fun e=>hn (.inr (.inr e));exact(Below.heap_setCell _ _ _ _ n3).trans ((Below.heap_setCell _ _ _ _ n2).trans (Below.heap_setCell _ _ _ _ n1))
theorem sky_Excludes_any (A B C:Option Addr) (c e f:Nat) (S:Sky) (x:Sg) (a:Ar) (w:World) (hS:S.ok) (hA:SkyAt none w A B C S) (hx:S.okSg x) (ha:a.bd 33554432) :
  Calls Tryz.prog 90 #[.agg #[.slice A S.W.bs.length c,S.W.home,.slice B S.st.length e,.slice C S.ct.length f],x,a] w fun e9 w'=>e9=.returned (.bool ((S.look x).excl a))∧Kp w.heap.size none w w':=by
 have ck:∀ w,SkyAt none w A B C S→Calls Tryz.prog 78 #[.agg #[.slice A S.W.bs.length c,S.W.home,.slice B S.st.length e,.slice C S.ct.length f],x] w fun e9 w'=>e9=.returned (.int .i64 0)∧Kp w.heap.size none w w':=fun w h=>(sky_CheckSight_any A B C c e f S x w hS h).mono fun e9 w' ⟨⟨v,h1,h2⟩,h3⟩=>⟨by rw[h1,h2.2 hx],h3⟩;have cl:=fun w h=>sky_lookOf_any A B C c e f S x w hS h hx;have cr:=fun w=>sky_right_any a ha w;have hsm:=S.look_sm hS hx;generalize S.look x=L at *;clear hx hS;obtain⟨w1,hw1,D,X,Y,K,hz⟩:=box3 w 43 #[.slice A S.W.bs.length c,S.W.home,.slice B S.st.length e,.slice C S.ct.length f] 90 x 167 a;cases L with
 | angle c=>
  obtain⟨rr,hrr⟩:∃ q9,Hid (q9=(Look.angle c).excl a):=⟨_,Lib.hid rfl⟩;rw[← hrr.out];refine calls_of_wp_m Tryz.func90 rfl ?_;simp only[Tryz.ntmps90,List.size_toArray,List.length_cons,List.length_nil,Nat.reduceAdd,Nat.reduceSub,Array.replicate_succ,Array.replicate_zero,List.push_toArray,List.append_toArray,List.nil_append,List.cons_append];go_wp2_with fail
  rw[← hw1];clear hw1;refine mK (ck _ (hA.kpN K)) fun w2 k=>?_;replace D:=D.kpN k;replace X:=X.kpN k;replace Y:=Y.kpN k;replace K:=K.thenN k oM;have hzk:=k.size;clear k;have cD:=D.cell;have fD:=D.frozen;have cX:=X.cell;have fX:=X.frozen;have cY:=Y.cell;have fY:=Y.frozen;go_wp2_with fail
  refine mK (cr _) fun w3 k=>?_;clear cD fD cX fX cY fY;replace D:=D.kpN k;replace X:=X.kpN k;replace Y:=Y.kpN k;replace K:=K.thenN k oM;have hzk:=k.size;clear k;have cD:=D.cell;have fD:=D.frozen;have cX:=X.cell;have fX:=X.frozen;have cY:=Y.cell;have fY:=Y.frozen;go_wp2_with fail
  refine mK (cl _ (hA.kpN K)) fun w4 k=>?_;clear cD fD cX fX cY fY;replace D:=D.kpN k;replace X:=X.kpN k;replace Y:=Y.kpN k;replace K:=K.thenN k oM;have hzk:=k.size;clear k;unfold lookV;have t1:=ta_aa;clear ck cl cr hA;have pY:=Y.cell;obtain⟨w9_,rfl,G,B1,B2,B3,k9_,hzn⟩:=box4 w4 219 #[c.fx,c.fy,c.dx,c.dy,c.low,c.high] 4 #[.bool true] 4 #[.bool true] 4 #[.bool true];replace Y:=Y.kpN k9_;replace K:=K.thenN k9_ oU;clear k9_;have cY:=Y.cell;have fY:=Y.frozen;go_wp2_with fail
  clear cY fY pY;generalize ((((w4.alloc (.cells #[c.fx,c.fy,c.dx,c.dy,c.low,c.high] 219)).alloc (.cells #[.bool true] 4)).alloc (.cells #[.bool true] 4)).alloc (.cells #[.bool true] 4))=w5 at *;obtain⟨z,hx⟩:∃ q9,q9=w4.heap.size:=⟨_,rfl⟩;rw[← hx] at G B1 B2 B3 ⊢;replace hx:=Lib.hid hx;have hzw:w.heap.size+3≤z:=by have:=hx.out;omega
  have hz5:w5.heap.size=z+4:=by have:=hx.out;omega
  clear hx hzn hzk hz t1 Y;refine(sky_corners_any a _).mono ?_;rintro e w6 ⟨rfl,Cb,hz6,k⟩;replace G:=G.kpN k;replace B1:=B1.kpN k;replace B2:=B2.kpN k;replace B3:=B3.kpN k;replace K:=K.thenN k oM;rw[hz5] at Cb hz6 ⊢;clear k;go_wp2_with fail
  refine wp_rangeFunc_z (gf:=170) (lb:=#[.pointer (some ⟨z+4,0,none⟩)]) rfl (enters_of Tryz.func170 (by kernel_rfl) rfl) (corners_seq (z+4) a (fun k=>k=z+1∨k=z+2∨k=z+3) oM) (Nat.zero_le _) (fun w' k=>Cb.kpN k) (by rintro p v W rfl;rfl) (fun _ h=>h.elim) (fun k hk=>by omega)
   (All3 c.behind c.below c.above (z+1) (z+2) (z+3)) (fun _=>NoC) (All3.abide _ _ _ _ _ _) (fun _=>NoC.abide) (All3.put _ _ _ _ _ _ _) (fun _=>NoC.put _) ⟨⟨B1,id⟩,⟨B2,id⟩,⟨B3,id⟩⟩ ?round ?done (fun _ _ _ h=>h.elim)
  case round=>
   rintro l S pre p rest vals W K1 hxs hC rfl hl hsz hkz hS hK;have hp:NearV p:=NearV.crn ha p (by rw[hxs];simp);have cs:=fun w=>cone_sides_any c p hsm hp w;have s1:=Lib.hid (all_snoc c.behind pre p);have s2:=Lib.hid (all_snoc c.below pre p);have s3:=Lib.hid (all_snoc c.above pre p);clear hxs hC hp;have e0:(#[35].zip #[Value.agg #[p.x,p.y]]:Array (Nat × Value))=#[(35,.agg #[p.x,p.y])]:=by simp
   rw[e0];clear e0;simp only[List.foldl_toArray',List.foldl_cons,List.foldl_nil,sbt,sc0,scs];gi_wp2_with fail
   refine hK _ _ (Kp.new1 _ _) (fun W3 kr hsz3 hrec hC3=>?_);have hzz:=hkz.size;have P3:=(Blk.new W 73 #[p.x,p.y]).kp kr (by simp) oN;have G3:=((G.kz hkz G.lt (by rintro (e|e);exact absurd e oM;exact e)).kpN (Kp.new1 W (.cells #[p.x,p.y] 73))).kp kr (by have:=G.lt;simp;omega) (sne (by have:=G.lt;omega));obtain⟨⟨R1,n1⟩,⟨R2,n2⟩,⟨R3,n3⟩⟩:=hC3;obtain⟨u1,hu1⟩:∃ q9,Hid (q9=pre.all c.behind):=⟨_,Lib.hid rfl⟩;obtain⟨u2,hu2⟩:∃ q9,Hid (q9=pre.all c.below):=⟨_,Lib.hid rfl⟩;obtain⟨u3,hu3⟩:∃ q9,Hid (q9=pre.all c.above):=⟨_,Lib.hid rfl⟩;obtain⟨v1,hv1⟩:∃ q9,Hid (q9=c.behind p):=⟨_,Lib.hid rfl⟩;obtain⟨v2,hv2⟩:∃ q9,Hid (q9=c.below p):=⟨_,Lib.hid rfl⟩;obtain⟨v3,hv3⟩:∃ q9,Hid (q9=c.above p):=⟨_,Lib.hid rfl⟩;rw[← hu1.out] at R1;rw[← hu2.out] at R2;rw[← hu3.out] at R3;rw[← hv1.out,← hv2.out,← hv3.out] at cs;replace s1:Hid ((pre++[p]).all c.behind=(u1&&v1)):=Lib.hid (by rw[s1.out,hu1.out,hv1.out]);replace s2:Hid ((pre++[p]).all c.below=(u2&&v2)):=Lib.hid (by rw[s2.out,hu2.out,hv2.out]);replace s3:Hid ((pre++[p]).all c.above=(u3&&v3)):=Lib.hid (by rw[s3.out,hu3.out,hv3.out]);obtain⟨y3,hy3⟩:∃ q9,q9=W.heap.size:=⟨_,rfl⟩;rw[← hy3] at P3 ⊢;clear hK K1 hrec hkz hsz hsz3 Cb K kr hu1 hu2 hu3 hv1 hv2 hv3 hy3 G B1 B2 B3 hS;have cP:=P3.cell;have cG:=G3.cell;gi_wp2_with fail
   refine⟨trivial,rfl,(CallsIn.inRound _ (callsIn_wide.2 (cs _))).mono ?_⟩;rintro e W4 ⟨rfl,k4⟩;replace R1:=R1.kpN k4;replace R2:=R2.kpN k4;replace R3:=R3.kpN k4;clear cP cG P3 G3 cs;have c1:=R1.cell;have c2:=R2.cell;have c3:=R3.cell;have f1:=R1.frozen;have f2:=R2.frozen;have f3:=R3.frozen;cases u1
   all_goals
    cases u2
    all_goals
     cases u3
     all_goals
      gi_wp2
      obtain⟨W5,hwn,Z1,Z2,Z3,kz⟩:=set3 R1 R2 R3 oM oM oM _ _ _;rw[← hwn];refine⟨(Kz.ofN k4).trans (kz.less k4.size (fun _ _ e=>e)),?_⟩;unfold All3;rw[s1.out,s2.out,s3.out];exact⟨⟨Z1,n1⟩,⟨Z2,n2⟩,⟨Z3,n3⟩⟩
  case done=>
   intro W hC hkz hD hsz;obtain⟨⟨R1,-⟩,⟨R2,-⟩,⟨R3,-⟩⟩:=hC;obtain⟨u1,hu1⟩:∃ q9,Hid (q9=a.crn.all c.behind):=⟨_,Lib.hid rfl⟩;obtain⟨u2,hu2⟩:∃ q9,Hid (q9=a.crn.all c.below):=⟨_,Lib.hid rfl⟩;obtain⟨u3,hu3⟩:∃ q9,Hid (q9=a.crn.all c.above):=⟨_,Lib.hid rfl⟩;rw[← hu1.out] at R1;rw[← hu2.out] at R2;rw[← hu3.out] at R3;have hr:Hid (rr=(u1||u2||u3)):=Lib.hid (by rw[hrr.out,hu1.out,hu2.out,hu3.out];rfl);have K2:=K.trans (hkz.under3 (N:=w.heap.size) (by have:=K.size;omega) oM oM oM);have hKs:=K.size;clear hkz hu1 hu2 hu3 hrr Cb G B1 B2 B3 K;replace hD:=Lib.hid hD;have c1:=R1.cell;have c2:=R2.cell;have c3:=R3.cell;dsimp only;cases u1
   all_goals
    cases u2
    all_goals
     go_wp2
     exact postM_mark rfl hD.out (by simp[results,Tryz.results90,go_sem];rfl) ⟨by rw[hr.out];cases u3<;>rfl,mark_kp K2 oM⟩
 | reach fx fy lo hi=>
  obtain⟨rr,hrr⟩:∃ q9,Hid (q9=(Look.reach fx fy lo hi).excl a):=⟨_,Lib.hid rfl⟩;rw[← hrr.out];refine calls_of_wp_m Tryz.func90 rfl ?_;simp only[Tryz.ntmps90,List.size_toArray,List.length_cons,List.length_nil,Nat.reduceAdd,Nat.reduceSub,Array.replicate_succ,Array.replicate_zero,List.push_toArray,List.append_toArray,List.nil_append,List.cons_append];go_wp2_with fail
  rw[← hw1];clear hw1;refine mK (ck _ (hA.kpN K)) fun w2 k=>?_;replace D:=D.kpN k;replace X:=X.kpN k;replace Y:=Y.kpN k;replace K:=K.thenN k oM;have hzk:=k.size;clear k;have cD:=D.cell;have fD:=D.frozen;have cX:=X.cell;have fX:=X.frozen;have cY:=Y.cell;have fY:=Y.frozen;go_wp2_with fail
  refine mK (cr _) fun w3 k=>?_;clear cD fD cX fX cY fY;replace D:=D.kpN k;replace X:=X.kpN k;replace Y:=Y.kpN k;replace K:=K.thenN k oM;have hzk:=k.size;clear k;have cD:=D.cell;have fD:=D.frozen;have cX:=X.cell;have fX:=X.frozen;have cY:=Y.cell;have fY:=Y.frozen;go_wp2_with fail
  refine mK (cl _ (hA.kpN K)) fun w4 k=>?_;clear cD fD cX fX cY fY;replace D:=D.kpN k;replace X:=X.kpN k;replace Y:=Y.kpN k;replace K:=K.thenN k oM;have hzk:=k.size;clear k;unfold lookV;have t1:=ta_ra;have t2:=ta_rr;obtain⟨hf,l1,l2,l3⟩:=hsm;clear ck cl cr hA;have pY:=Y.cell;obtain⟨w9_,rfl,G,k9_,hzn⟩:=box1 w4 215 #[fx,fy,lo,hi];replace Y:=Y.kpN k9_;replace K:=K.thenN k9_ oU;clear k9_;have cY:=Y.cell;have fY:=Y.frozen;go_wp2_with fail
  clear cY fY pY;generalize (w4.alloc (.cells #[fx,fy,lo,hi] 215))=w5 at *;obtain⟨z,hx⟩:∃ q9,q9=w4.heap.size:=⟨_,rfl⟩;rw[← hx] at G ⊢;replace hx:=Lib.hid hx;have hzw:w.heap.size+3≤z:=by have:=hx.out;omega
  clear hx hzn hzk hz t1 t2;have c1:=fun w=>sky_nearest_any a.x fx w;have c2:=fun w=>sky_nearest_any a.y fy w;have d1:=nearS_near (n:=fx) ha.1;have d2:=nearS_near (n:=fy) ha.2;have cd:=fun w=>sky_distance_any ⟨nearS a.x fx,nearS a.y fy⟩ fx fy ⟨d1.1,d1.2,d2.1,d2.2⟩ hf w;have ht:=fun w hb=>exc1_test z fx fy lo hi a w hf ⟨l1,by omega⟩ ha hb;have e1:wrap64 (hi * hi)=hi * hi:=sq_wrap ⟨by omega,by omega⟩;have hr:Hid (rr=(decide (hi * hi<dist2 ⟨nearS a.x fx,nearS a.y fy⟩ fx fy)||a.crn.all (fun p=>decide (dist2 p fx fy<lo * lo)))):=Lib.hid (by rw[hrr.out];rfl);have ca:=fun w hb=>sky_all_1 a z _ w (ht w hb);generalize a.crn.all (fun p=>decide (dist2 p fx fy<lo * lo))=r at *;generalize dist2 ⟨nearS a.x fx,nearS a.y fy⟩ fx fy=d at *;generalize nearS a.x fx=nx at *;generalize nearS a.y fy=ny at *;clear ht hrr d1 d2 ha l1 l2 l3 hf;refine wp_region_inv (Γ:=GF) [none,none,none,none,none,none,none,none,none,none,none,none,none,none,none,none,some 13,none,none,none,none,none,none,none,none,none,none,none,none,none,none,none,none,none,none,none,none,none,none,none,none,none,none,none,none,none,none,none,none,none,none,none,none,none,none,none,none,none,none,none,none,none,none,none,none,none,some 0,some 1,some 2,some 3,some 4,some 5,some 6,some 7,some 8,some 9,some 10,some 11,some 12] [[],[0],[],[2],[2,3],[0,1,2,3,4],[],[6],[],[8],[8,9],[0,1,2,3,4,5,6,7,8,9,10],[0,1,2,3,4,5,6,7,8,9,10,11],[],[0,1,2,3,4,5,6,7,8,9,10,11,12,13]] [[2,3,4,6,7,8,9,10,13],[0,2,3,4,6,7,8,9,10,13],[0,1,6,7,8,9,10,13],[0,1,2,6,7,8,9,10,13],[0,1,2,3,6,7,8,9,10,13],[0,1,2,3,4,6,7,8,9,10,13],[0,1,2,3,4,5,8,9,10,13],[0,1,2,3,4,5,6,8,9,10,13],[0,1,2,3,4,5,6,7,13],[0,1,2,3,4,5,6,7,8,13],[0,1,2,3,4,5,6,7,8,9,13],[0,1,2,3,4,5,6,7,8,9,10,13],[0,1,2,3,4,5,6,7,8,9,10,11,13],[0,1,2,3,4,5,6,7,8,9,10,11,12],[0,1,2,3,4,5,6,7,8,9,10,11,12,13]] (fun γ=>[.pointer (some ⟨w.heap.size+2,0,none⟩),.agg a.x,.pointer (some ⟨z,0,none⟩),.pointer (some ⟨z,0,none⟩),.int .i64 fx,.int .i64 nx,.pointer (some ⟨w.heap.size+2,2,none⟩),.agg a.y,.pointer (some ⟨z,0,none⟩),.pointer (some ⟨z,1,none⟩),.int .i64 fy,.int .i64 ny,.agg #[nx,ny],.pointer (some ⟨γ.n1,0,none⟩),undef]) (fun γ=>[none,none,none,none,none,none,none,none,none,none,none,none,none,none,none,none,some (.pointer (some ⟨γ.n1,0,none⟩)),none,none,none,none,none,none,none,none,none,none,none,none,none,none,none,none,none,none,none,none,none,none,none,none,none,none,none,none,none,none,none,none,none,none,none,none,none,none,none,none,none,none,none,none,none,none,none,none,none,some (.pointer (some ⟨w.heap.size+2,0,none⟩)),some (.agg a.x),some (.pointer (some ⟨z,0,none⟩)),some (.pointer (some ⟨z,0,none⟩)),some (.int .i64 fx),some (.int .i64 nx),some (.pointer (some ⟨w.heap.size+2,2,none⟩)),some (.agg a.y),some (.pointer (some ⟨z,0,none⟩)),some (.pointer (some ⟨z,1,none⟩)),some (.int .i64 fy),some (.int .i64 ny),some (.agg #[nx,ny])]) ?A14_1 (fun n D γ w=>Kp w5.heap.size none w5 w∧FreeB 73 γ.n1 γ.c1 w5.heap.size (#[(if γ.s1=true then .int .i64 nx else .int .i64 0),(if γ.s1=true then .int .i64 ny else .int .i64 0)]) w) (fun k γ w=>match k with|13=>γ.c1=true|14=>γ.s1=true|_=>True) ⟨0,0,false,false,false,false⟩ (by kernel_rfl) (fun _=>rfl) ?hA14_1 (by kernel_rfl) ?hB014_1 ?hop14_1 ?hend14_1
  case hA14_1=>intro γ;dsimp only[fullV];rfl
  case hB014_1=>
   exact⟨(Kp.refl _ none _).drew,fun e=>(by cases e)⟩
  case hop14_1=>
   intro hA;refine⟨oKv hA,?_,oKv hA,oKv hA,?_,?_,oKv hA,?_,oKv hA,oKv hA,?_,?_,oKv hA,?_,?_,trivial⟩
   ·
    refine oKv hA (h:=?_);intro n D γ w hB hU K hK;try dsimp only at hB
    try dsimp only
    have cY:=fun i=>(Y.kpN hB.1).cell i;have cG:=fun i=>(G.kpN hB.1).cell i;clear hB hU;go_step;exact hK _ rfl
   ·
    refine oKv hA (h:=?_);intro n D γ w hB hU K hK;try dsimp only at hB
    try dsimp only
    have cY:=fun i=>(Y.kpN hB.1).cell i;have cG:=fun i=>(G.kpN hB.1).cell i;clear hB hU;go_step;exact hK _ rfl
   ·
    refine opOk_l hA (fun _=>rfl) ?_;intro n D γ w hn hD hB hU K hK;try dsimp only at hB
    clear hU;replace hn:n<15:=hn;try dsimp only
    have K9:=hB.1;go_step;refine mK (c1 _) fun w5 k5=>?_;refine hK _ _ γ rfl ⟨hB.1.thenN k5 (Nat.le_refl _),(hB.2).kpN k5⟩ trivial ?_;exact dA
   ·
    refine oKv hA (h:=?_);intro n D γ w hB hU K hK;try dsimp only at hB
    try dsimp only
    have cY:=fun i=>(Y.kpN hB.1).cell i;have cG:=fun i=>(G.kpN hB.1).cell i;clear hB hU;go_step;exact hK _ rfl
   ·
    refine oKv hA (h:=?_);intro n D γ w hB hU K hK;try dsimp only at hB
    try dsimp only
    have cY:=fun i=>(Y.kpN hB.1).cell i;have cG:=fun i=>(G.kpN hB.1).cell i;clear hB hU;go_step;exact hK _ rfl
   ·
    refine opOk_l hA (fun _=>rfl) ?_;intro n D γ w hn hD hB hU K hK;try dsimp only at hB
    clear hU;replace hn:n<15:=hn;try dsimp only
    have K9:=hB.1;go_step;refine mK (c2 _) fun w5 k5=>?_;refine hK _ _ γ rfl ⟨hB.1.thenN k5 (Nat.le_refl _),(hB.2).kpN k5⟩ trivial ?_;exact dA
   ·
    refine opOk_l hA (fun _=>rfl) ?_;intro n D γ w hn hD hB hU K hK;try dsimp only at hB
    clear hU;replace hn:n<15:=hn;try dsimp only
    go_step;obtain⟨w5,hw5⟩:∃ w5,w5=w.alloc (.cells #[(0:Int),(0:Int)] 73):=⟨_,rfl⟩;have k5:Kp w.heap.size none w w5:=hw5 ▸ Kp.new1 _ _;have hBn:Blk w5 w.heap.size 73 #[(0:Int),(0:Int)]:=hw5 ▸ Blk.new _ _ _;rw[← hw5];refine hK _ _ { γ with n1:=w.heap.size,c1:=true,s1:=false } rfl ⟨hB.1.thenN k5 (Nat.le_refl _),fun _=>⟨hBn,hB.1.size⟩⟩ rfl ?_;exact dA
   ·
    refine opOk_l hA (fun _=>rfl) ?_;intro n D γ w hn hD hB hU K hK;try dsimp only at hB
    replace hU:(γ.c1=true):=hU.2.2.2.2.2.2.2.2.2.2.2.2.2.1;replace hn:n<15:=hn;try dsimp only
    obtain⟨O9,g9⟩:=hB.2 hU;have cO:=O9.cell;have fO:=O9.frozen;go_step;obtain⟨w5,hw5,R9,kst,hzst⟩:=O9.st2 (.int .i64 nx) (.int .i64 ny);rw[← hw5];simp only[sbt,sc0,scs] at R9;refine hK _ _ { γ with s1:=true } rfl ⟨hB.1.thenOwn kst (Nat.le_refl _) g9,fun _=>⟨R9,g9⟩⟩ rfl ?_;exact dA
  case hend14_1=>
   intro n D γ w hn hD hB hF;replace hF:=fun k (hk:k<15)=>hF k hk;replace hF:=(⟨hF 13 (by decide),hF 14 (by decide)⟩:_∧_);try dsimp only at hB
   try dsimp only at hF
   replace hn:n≤15:=hn;try dsimp only
   obtain⟨np,n2_9,c1_9,c2_9,s1_9,s2_9⟩:=γ;dsimp only at hB hF ⊢;obtain⟨rfl,rfl⟩:=hF;obtain⟨K9,f1_9⟩:=hB;obtain⟨P,gP⟩:=f1_9 rfl;simp only[reduceIte] at P;clear f1_9;clear hD hn;have gY:=Y.lt;have gG:=G.lt;replace Y:=Y.kpN K9;replace G:=G.kpN K9;replace K:=K.trans (K9.mono K.size);clear K9;rename World=>w6;go_wp2_with fail
   clear c1 c2;by_cases hd:hi * hi<d
   ·
    have h1:decide (hi * hi<d)=true:=decide_eq_true hd;clear hd;obtain⟨S,hS0,hS1⟩:=cls_of2 (P:=fun w'=>Blk w' _ _ _∧Blk w' _ _ _∧Blk w' _ _ _∧Kp _ _ _ w') w6 ⟨Y,G,P,K⟩;try dsimp only at hS0
    have cY:=fun (x:Ev (S 0)) i=>((hS0 _).1 x.h).1.cell i;have cG:=fun (x:Ev (S 0)) i=>((hS0 _).1 x.h).2.1.cell i;have cP:=fun (x:Ev (S 0)) i=>((hS0 _).1 x.h).2.2.1.cell i;replace Y:=Y.drew;replace G:=G.drew;replace P:=P.drew;replace K:=K.drew;have hevT:=ev_true;refine wro S [(0,1),(1,0),(2,1),(4,0),(5,1),(6,0),(7,1),(8,0),(3,2),(9,0),(10,0),(11,1),(12,2),(13,2),(14,0),(15,0)] [] ((hS0 _).2 ⟨Y,G,P,K⟩) ?_;intro _hev;refine oX ?_;refine oL ?_;intro Kc hKc;generalize w6.drew=wd9 at *;go_step;refine mK (cd _) fun w7 k=>?_;replace Y:=Y.kpN k;replace G:=G.kpN k;replace P:=P.kpN k;replace K:=K.tN k;clear k;refine hKc _ _ ((hS0 _).2 ⟨Y,G,P,K⟩) ?_;clear hKc Kc;refine oY ?_;refine oZ ?_;refine wpOrd_s2 (by decide) rfl rfl rfl ?_;intro Kc hKc;go_big_quiet_op
    go_big_quiet_on
    refine wpOrd_s2 (by decide) rfl rfl rfl ?_;intro Kc hKc;go_big_quiet_op
    go_big_quiet_on
    refine oX ?_;refine wpOrd_nil ?_;clear hevT _hev;clear cY cG cP hS0 hS1 S;go_wp2
    exact postM_ret (v:=.bool true) (by simp[results,Tryz.results90,go_sem]) rfl ⟨by rw[hr.out,h1];rfl,K⟩
   ·
    have h1:decide (hi * hi<d)=false:=decide_eq_false hd;clear hd;obtain⟨S,hS0,hS1⟩:=cls_of2 (P:=fun w'=>Blk w' _ _ _∧Blk w' _ _ _∧Blk w' _ _ _∧Kp _ _ _ w') w6 ⟨Y,G,P,K⟩;try dsimp only at hS0
    have cY:=fun (x:Ev (S 0)) i=>((hS0 _).1 x.h).1.cell i;have cG:=fun (x:Ev (S 0)) i=>((hS0 _).1 x.h).2.1.cell i;have cP:=fun (x:Ev (S 0)) i=>((hS0 _).1 x.h).2.2.1.cell i;replace Y:=Y.drew;replace G:=G.drew;replace P:=P.drew;replace K:=K.drew;have hevT:=ev_true;refine wro S [(0,1),(1,0),(2,1),(4,0),(5,1),(6,0),(7,1),(8,0),(3,2),(9,0),(10,0),(11,1),(12,2),(13,2),(14,0),(15,0)] [] ((hS0 _).2 ⟨Y,G,P,K⟩) ?_;intro _hev;refine oX ?_;refine oL ?_;intro Kc hKc;generalize w6.drew=wd9 at *;go_step;refine mK (cd _) fun w7 k=>?_;replace Y:=Y.kpN k;replace G:=G.kpN k;replace P:=P.kpN k;replace K:=K.tN k;clear k;refine hKc _ _ ((hS0 _).2 ⟨Y,G,P,K⟩) ?_;clear hKc Kc;refine oX ?_;refine oL ?_;intro Kc hKc;go_step;refine hKc _ _ ((hS0 _).2 ⟨Y,G,P,K⟩) ?_;clear hKc Kc;refine oL ?_;intro Kc hKc;go_step;refine mK (ca _ G) fun w8 k=>?_;replace Y:=Y.kpN k;replace G:=G.kpN k;replace P:=P.kpN k;replace K:=K.tN k;clear k;refine hKc _ _ ((hS0 _).2 ⟨Y,G,P,K⟩) ?_;clear hKc Kc;refine oX ?_;refine wpOrd_nil ?_;clear hevT _hev;clear cY cG cP hS0 hS1 S;go_wp2
    exact postM_ret (v:=.bool r) (by simp[results,Tryz.results90,go_sem]) rfl ⟨by rw[hr.out,h1];rfl,K⟩
 | empty c hi=>
  obtain⟨rr,hrr⟩:∃ q9,Hid (q9=(Look.empty c hi).excl a):=⟨_,Lib.hid rfl⟩;rw[← hrr.out];refine calls_of_wp_m Tryz.func90 rfl ?_;simp only[Tryz.ntmps90,List.size_toArray,List.length_cons,List.length_nil,Nat.reduceAdd,Nat.reduceSub,Array.replicate_succ,Array.replicate_zero,List.push_toArray,List.append_toArray,List.nil_append,List.cons_append];go_wp2_with fail
  rw[← hw1];clear hw1;refine mK (ck _ (hA.kpN K)) fun w2 k=>?_;replace D:=D.kpN k;replace X:=X.kpN k;replace Y:=Y.kpN k;replace K:=K.thenN k oM;have hzk:=k.size;clear k;have cD:=D.cell;have fD:=D.frozen;have cX:=X.cell;have fX:=X.frozen;have cY:=Y.cell;have fY:=Y.frozen;go_wp2_with fail
  refine mK (cr _) fun w3 k=>?_;clear cD fD cX fX cY fY;replace D:=D.kpN k;replace X:=X.kpN k;replace Y:=Y.kpN k;replace K:=K.thenN k oM;have hzk:=k.size;clear k;have cD:=D.cell;have fD:=D.frozen;have cX:=X.cell;have fX:=X.frozen;have cY:=Y.cell;have fY:=Y.frozen;go_wp2_with fail
  refine mK (cl _ (hA.kpN K)) fun w4 k=>?_;clear cD fD cX fX cY fY;replace D:=D.kpN k;replace X:=X.kpN k;replace Y:=Y.kpN k;replace K:=K.thenN k oM;have hzk:=k.size;clear k;unfold lookV;have t1:=ta_ea;have t2:=ta_er;have t3:=ta_ee;clear ck cl cr hA;have pY:=Y.cell;obtain⟨w9_,rfl,G,k9_,hzn⟩:=box1 w4 221 #[c.fx,c.fy,c.dx,c.dy,c.low,c.high,hi];replace Y:=Y.kpN k9_;replace K:=K.thenN k9_ oU;clear k9_;have cY:=Y.cell;have fY:=Y.frozen;go_wp2_with fail
  clear cY fY pY;generalize (w4.alloc (.cells #[c.fx,c.fy,c.dx,c.dy,c.low,c.high,hi] 221))=w5 at *;obtain⟨z,hx⟩:∃ q9,q9=w4.heap.size:=⟨_,rfl⟩;rw[← hx] at G ⊢;replace hx:=Lib.hid hx;have hzw:w.heap.size+3≤z:=by have:=hx.out;omega
  clear hx hzn hzk hz t1 t2 t3;have ht:=exc2_test z c hi a w5 hsm.1 hsm.2 ha G;have ca:=sky_all_2 a z _ w5 ht;have hr:Hid (rr=a.crn.all (fun p=>c.hasP p&&decide (dist2 p c.fx c.fy≤hi * hi))):=Lib.hid (by rw[hrr.out];rfl);generalize a.crn.all (fun p=>c.hasP p&&decide (dist2 p c.fx c.fy≤hi * hi))=r at *;clear ht hrr;refine ca.mono ?_;rintro e w6 ⟨rfl,k⟩;go_wp2
  exact postM_ret (v:=.bool r) (by simp[results,Tryz.results90,go_sem]) rfl ⟨by rw[hr.out],K.thenN k oM⟩
end Go.Proofs.YtdhiappifnflpaaGreat
