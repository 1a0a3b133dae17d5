/- Orbits: the walks of orbit, ninth part: Within. Skies in memory: the walks of sky, eleventh part: Excludes. -/
import Derived.Test.YtdhiappifnflpaaGreatVw
import Derived.Deep.LoopGhost
import Derived.Test.YtdhiappifnflpaaGreatM30
import Derived.Test.YtdhiappifnflpaaGreatM19
namespace Go.Proofs.YtdhiappifnflpaaGreat
open Go.RowKit
set_option maxHeartbeats 4000000 in
theorem orbit_Within_any (A B:Option Addr) (c1 c2:Nat) (a b:List Bx) (w:World) (ha:Rd none w 8 encBx A a.length a) (hb:Rd none w 8 encBx B b.length b) (hla:a.length≤1000) (hlb:b.length≤1000) (h:∀ x∈a,∃ y∈b,insB x y=true) :
  Calls Tryz.prog 14 #[.slice A a.length c1,.slice B b.length c2] w fun e w'=>e=.returned (.bool true)∧Kp w.heap.size none w w':=by
 go_enter Tryz.func14,Tryz.ntmps14
 go_wp2_with fail
 go_step3
 go_wp2_with fail
 go_step3
 go_wp2_with fail
 go_loopg [11] (a.length) (fun g v wr=>∃ i:Nat,v=.int .i64 i∧g+i=a.length∧Kp w.heap.size none w wr)
 case atStart=>exact⟨0,rfl,by omega,Kp.refl _ _ _⟩
 case round=>
  obtain⟨i,rfl,hi,K⟩:=hrel;have hzs:=K.size;by_cases h7:i<a.length
  ·
   obtain⟨p,o,rfl,hlt,d0,d1,d2,d3,d4,d5,d6,d7⟩:=(ha.kpN K).bx h7;have hii:(i:Int)<(a.length:Int):=by omega
   have hi0:(0:Int)≤(i:Int):=by omega
   have hex:=h _ (List.getElem_mem h7);generalize a[i]=x at *;clear h;replace h7:=Lib.hid h7;replace hex:=Lib.hid hex;replace hi:=Lib.hid hi;obtain⟨w9_,rfl,X,k9_,hzn⟩:=box1 wr 33 #[.int .i64 x.x.lo,.int .i64 x.x.hi,.int .i64 x.y.lo,.int .i64 x.y.hi,.int .i64 x.u.lo,.int .i64 x.u.hi,.int .i64 x.v.lo,.int .i64 x.v.hi];replace K:=K.thenN k9_ (by first|exact Nat.le_refl _|omega);clear k9_;go_wp2_with fail
   generalize (wr.alloc (.cells #[.int .i64 x.x.lo,.int .i64 x.x.hi,.int .i64 x.y.lo,.int .i64 x.y.hi,.int .i64 x.u.lo,.int .i64 x.u.hi,.int .i64 x.v.lo,.int .i64 x.v.hi] 33))=w2 at *;obtain⟨x9,hx⟩:∃ q9,q9=wr.heap.size:=⟨_,rfl⟩;rw[← hx] at X ⊢;replace hx:=Lib.hid hx;have hxw:w.heap.size≤x9:=by have:=hx.out;have:=K.size;omega
   clear hx hzn d0 d1 d2 d3 d4 d5 d6 d7;replace ha:=Lib.hid ha;go_loopg [17] (b.length) (fun g v wr=>∃ j:Nat,v=.int .i64 j∧g+j=b.length∧(∀ k (hk:k<b.length),k<j→insB x b[k]=false)∧Blk wr x9 33 #[.int .i64 x.x.lo,.int .i64 x.x.hi,.int .i64 x.y.lo,.int .i64 x.y.hi,.int .i64 x.u.lo,.int .i64 x.u.hi,.int .i64 x.v.lo,.int .i64 x.v.hi]∧Kp w.heap.size none w wr)
   case atStart=>exact⟨0,rfl,by omega,fun k _ h=>by omega,X,K⟩
   case round=>
    obtain⟨j,rfl,hj,hno,X1,K1⟩:=hrel;clear X K;have X:=X1;have K:=K1;have hzs2:=K.size;clear X1 K1;by_cases h8:j<b.length
    ·
     obtain⟨p2,o2,rfl,hlt2,d0,d1,d2,d3,d4,d5,d6,d7⟩:=(hb.kpN K).bx h8;have hjj:(j:Int)<(b.length:Int):=by omega
     have hj0:(0:Int)≤(j:Int):=by omega
     have hc:=fun w=>orbit_inside_any x b[j] w
     have hno2:insB x b[j]=false→∀ k (hk:k<b.length),k<j+1→insB x b[k]=false:=fun e k hk hkj=>by
      by_cases ek:k=j
      · subst ek;exact e
      · exact hno k hk (by omega)
     clear hno;obtain⟨r,hr⟩:∃ q9,Hid (q9=insB x b[j]):=⟨_,Lib.hid rfl⟩;rw[← hr.out] at hc hno2;obtain⟨y,hy⟩:∃ q9,Hid (q9=b[j]):=⟨_,Lib.hid rfl⟩;rw[← hy.out] at hc d0 d1 d2 d3 d4 d5 d6 d7;clear hr hy;replace h8:=Lib.hid h8;replace hno2:=Lib.hid hno2;replace hj:=Lib.hid hj;have k1:=Kp.new1 wr (.cells #[.int .i64 y.x.lo,.int .i64 y.x.hi,.int .i64 y.y.lo,.int .i64 y.y.hi,.int .i64 y.u.lo,.int .i64 y.u.hi,.int .i64 y.v.lo,.int .i64 y.v.hi] 33);have X1:=X.kpN k1;have K1:=K.tN k1;have cX:=X1.cell;clear k1;go_wp2_with fail
     refine(hc _).mono ?_;rintro e w3 ⟨rfl,k⟩;replace X:=X1.kpN k;replace K:=K1.tN k;clear X1 K1 k cX d0 d1 d2 d3 d4 d5 d6 d7;cases r
     ·
      go_wp2
      go_roundg (b.length-(j+1))
      case measure=>have:=hj.out;have:=h8.out;omega
      case rel=>exact⟨j+1,by congr 1,by have:=h8.out;omega,hno2.out (by simp),X,K⟩
     ·
      go_wp2
      go_roundg (a.length-(i+1))
      case measure=>have:=hi.out;have:=h7.out;omega
      case rel=>exact⟨i+1,by congr 1,by have:=h7.out;omega,K⟩
    ·
     exfalso
     obtain⟨y,hy,hyx⟩:=hex.out;obtain⟨k,hk,rfl⟩:=List.getElem_of_mem hy;rw[hno k hk (by omega)] at hyx;cases hyx
  ·
   obtain rfl:i=a.length:=by omega
   clear ha hb h;go_wp2
   try rw[Exit.noGoto_ret]
   go_ret
   exact⟨rfl,K⟩
end Go.Proofs.YtdhiappifnflpaaGreat
namespace Go.Proofs.YtdhiappifnflpaaGreat
open Go.RowKit
attribute [local go_sem] Oper.semAt_some
theorem exc1_test (q:Nat) (fx fy lo hi:Int) (a:Ar) (w:World) (hf:-5000≤fx∧fx≤5000∧-5000≤fy∧fy≤5000) (hl:0≤lo∧lo≤134217728) (ha:a.bd 33554432) (hb:Blk w q 215 #[.int .i64 fx,.int .i64 fy,.int .i64 lo,.int .i64 hi]) :
  TestP 140 #[.pointer (some ⟨q,0,none⟩)] (fun p=>decide (dist2 p fx fy<lo * lo)) a.crn w:=fun W p hp hk=>by
 have C:=hb.kpN hk;have cd:=fun w=>sky_distance_any p fx fy (NearV.crn ha p hp) hf w;have e1:wrap64 (lo * lo)=lo * lo:=sq_wrap ⟨by omega,by omega⟩;change Calls Tryz.prog 140 #[.agg #[.int .i64 p.x,.int .i64 p.y],.pointer (some ⟨q,0,none⟩)] W fun e w'=>e=.returned (.bool (decide (dist2 p fx fy<lo * lo)))∧Kp W.heap.size none W w';generalize dist2 p fx fy=d at *;clear hb hk ha hp hf hl;obtain⟨w1,hw1,P,K,hz⟩:=box1 W 73 #[.int .i64 p.x,.int .i64 p.y];replace C:=C.kpN K;go_enter Tryz.func140,Tryz.ntmps140
 go_wp2_with fail
 rw[← hw1];clear hw1;obtain⟨S,hS0,hS1⟩:=cls_of2 (P:=fun w'=>Blk w' _ _ _∧Blk w' _ _ _∧Kp _ _ _ w') w1 ⟨P,C,K⟩;try dsimp only at hS0
 have cP:=fun (x:Ev (S 0)) i=>((hS0 _).1 x.h).1.cell i;have cC:=fun (x:Ev (S 0)) i=>((hS0 _).1 x.h).2.1.cell i;replace P:=P.drew;replace C:=C.drew;replace K:=K.drew;have hevT:=ev_true;refine wp_region_ord S [(0,1),(1,0),(2,1),(4,0),(5,1),(6,0),(7,1),(8,0),(3,2),(9,0),(10,0)] [] (by kernel_rfl) (by kernel_rfl) ((hS0 _).2 ⟨P,C,K⟩) ?_;intro _hev;iterate 8 (first|((first|refine oV ?_|refine oQ ?_);intro K hK;go_big_quiet_op;go_big_quiet_on)|refine oS ?_)
 refine oL ?_;intro Kc hKc;generalize w1.drew=wd9 at *;go_step;refine(cd _).mono ?_;rintro e w2 ⟨rfl,k⟩;replace P:=P.kpN k;replace C:=C.kpN k;replace K:=K.tN k;clear k;refine hKc _ _ ((hS0 _).2 ⟨P,C,K⟩) ?_;clear hKc Kc;iterate 2 (first|((first|refine oV ?_|refine oQ ?_);intro K hK;go_big_quiet_op;go_big_quiet_on)|refine oS ?_)
 refine wpOrd_nil ?_;clear hevT _hev;clear cP cC hS0 hS1 S;go_wp2
 go_ret
 exact⟨rfl,K⟩
set_option maxHeartbeats 1000000 in
theorem exc2_test (q:Nat) (c:Cone) (hi:Int) (a:Ar) (w:World) (hc:c.sm) (hh:1≤hi∧hi≤134217728) (ha:a.bd 33554432) (hb:Blk w q 221 #[.int .i64 c.fx,.int .i64 c.fy,.int .i64 c.dx,.int .i64 c.dy,.int .i64 c.low,.int .i64 c.high,.int .i64 hi]) :
  TestP 141 #[.pointer (some ⟨q,0,none⟩)] (fun p=>c.hasP p&&decide (dist2 p c.fx c.fy≤hi * hi)) a.crn w:=fun W p hp hk=>by
 have C:=hb.kpN hk;have hpn:=NearV.crn ha p hp;have cd:=fun w=>sky_distance_any p c.fx c.fy hpn hc.f w;have ch:=fun w=>cone_has_any c p hc hpn w;have e1:wrap64 (hi * hi)=hi * hi:=sq_wrap ⟨by omega,by omega⟩;change Calls Tryz.prog 141 #[.agg #[.int .i64 p.x,.int .i64 p.y],.pointer (some ⟨q,0,none⟩)] W fun e w'=>e=.returned (.bool (c.hasP p&&decide (dist2 p c.fx c.fy≤hi * hi)))∧Kp W.heap.size none W w';generalize dist2 p c.fx c.fy=d at *;generalize c.hasP p=b at *;clear hb hk ha hp hc hh hpn;obtain⟨w1,hw1,P,K,hz⟩:=box1 W 73 #[.int .i64 p.x,.int .i64 p.y];replace C:=C.kpN K;go_enter Tryz.func141,Tryz.ntmps141
 go_wp2_with fail
 rw[← hw1];clear hw1;cases b
 ·
  obtain⟨S,hS0,hS1⟩:=cls_of2 (P:=fun w'=>Blk w' _ _ _∧Blk w' _ _ _∧Kp _ _ _ w') w1 ⟨P,C,K⟩;try dsimp only at hS0
  have cP:=fun (x:Ev (S 0)) i=>((hS0 _).1 x.h).1.cell i;have cC:=fun (x:Ev (S 0)) i=>((hS0 _).1 x.h).2.1.cell i;replace P:=P.drew;replace C:=C.drew;replace K:=K.drew;have hevT:=ev_true;refine wp_region_ord S [(0,0),(1,1),(2,1),(3,2),(4,0),(5,1),(6,0),(7,0),(8,1),(10,0),(11,1),(12,0),(13,1),(14,0),(9,2),(15,0),(16,0),(17,0)] [] (by kernel_rfl) (by kernel_rfl) ((hS0 _).2 ⟨P,C,K⟩) ?_;intro _hev;iterate 3 (first|((first|refine oV ?_|refine oQ ?_);intro K hK;go_big_quiet_op;go_big_quiet_on)|refine oS ?_)
  refine oL ?_;intro Kc hKc;generalize w1.drew=wd9 at *;go_step;refine(ch _).mono ?_;rintro e w2 ⟨rfl,k⟩;replace P:=P.kpN k;replace C:=C.kpN k;replace K:=K.tN k;clear k;refine hKc _ _ ((hS0 _).2 ⟨P,C,K⟩) ?_;clear hKc Kc;(first|refine oV ?_|refine oQ ?_);intro K hK;go_big_quiet_op;go_big_quiet_on
  iterate 9 (refine wpOrd_s2 (by decide) rfl rfl rfl ?_;intro K hK;go_big_quiet_op;go_big_quiet_on)
  refine wpOrd_s2 (by decide) rfl rfl rfl ?_;intro Kc hKc;go_big_quiet_op
  go_big_quiet_on
  refine wpOrd_s2 (by decide) rfl rfl rfl ?_;intro K hK;go_big_quiet_op;go_big_quiet_on;(first|refine oV ?_|refine oQ ?_);intro K hK;go_big_quiet_op;go_big_quiet_on
  (first|refine oV ?_|refine oQ ?_);intro K hK;go_big_quiet_op;go_big_quiet_on
  refine wpOrd_nil ?_;clear hevT _hev;clear cP cC hS0 hS1 S;go_wp2
  go_ret
  exact⟨rfl,K⟩
 ·
  obtain⟨S,hS0,hS1⟩:=cls_of2 (P:=fun w'=>Blk w' _ _ _∧Blk w' _ _ _∧Kp _ _ _ w') w1 ⟨P,C,K⟩;try dsimp only at hS0
  have cP:=fun (x:Ev (S 0)) i=>((hS0 _).1 x.h).1.cell i;have cC:=fun (x:Ev (S 0)) i=>((hS0 _).1 x.h).2.1.cell i;replace P:=P.drew;replace C:=C.drew;replace K:=K.drew;have hevT:=ev_true;refine wp_region_ord S [(0,0),(1,1),(2,1),(3,2),(4,0),(5,1),(6,0),(7,0),(8,1),(10,0),(11,1),(12,0),(13,1),(14,0),(9,2),(15,0),(16,0),(17,0)] [] (by kernel_rfl) (by kernel_rfl) ((hS0 _).2 ⟨P,C,K⟩) ?_;intro _hev;iterate 3 (first|((first|refine oV ?_|refine oQ ?_);intro K hK;go_big_quiet_op;go_big_quiet_on)|refine oS ?_)
  refine oL ?_;intro Kc hKc;generalize w1.drew=wd9 at *;go_step;refine(ch _).mono ?_;rintro e w2 ⟨rfl,k⟩;replace P:=P.kpN k;replace C:=C.kpN k;replace K:=K.tN k;clear k;refine hKc _ _ ((hS0 _).2 ⟨P,C,K⟩) ?_;clear hKc Kc;iterate 10 (first|((first|refine oV ?_|refine oQ ?_);intro K hK;go_big_quiet_op;go_big_quiet_on)|refine oS ?_)
  refine oL ?_;intro Kc hKc;go_step;refine(cd _).mono ?_;rintro e w3 ⟨rfl,k⟩;replace P:=P.kpN k;replace C:=C.kpN k;replace K:=K.tN k;clear k;refine hKc _ _ ((hS0 _).2 ⟨P,C,K⟩) ?_;clear hKc Kc;iterate 3 (first|((first|refine oV ?_|refine oQ ?_);intro K hK;go_big_quiet_op;go_big_quiet_on)|refine oS ?_)
  refine wpOrd_nil ?_;clear hevT _hev;clear cP cC hS0 hS1 S;go_wp2
  go_ret
  exact⟨rfl,K⟩
theorem nearS_near {s:Sp} {n:Int} (h:s.bd 33554432):-33554432≤nearS s n∧nearS s n≤33554432:=by
 unfold Sp.bd at h;unfold nearS;omega
def All3 (f g h:Pt→Bool) (x y z:Nat) (S:Nat→Prop) (pre:List Pt) (W:World):Prop:=(Blk W x 4 #[.bool (pre.all f)]∧¬ S x)∧(Blk W y 4 #[.bool (pre.all g)]∧¬ S y)∧(Blk W z 4 #[.bool (pre.all h)]∧¬ S z)
theorem All3.abide (f g h:Pt→Bool) (x y z:Nat):AbideZ (All3 f g h x y z):=by
 have a1:=AtB.abide x 4 (fun pre:List Pt=>#[Value.bool (pre.all f)]);have a2:=AtB.abide y 4 (fun pre:List Pt=>#[Value.bool (pre.all g)]);have a3:=AtB.abide z 4 (fun pre:List Pt=>#[Value.bool (pre.all h)]);exact⟨fun S s W W' row ⟨h1,h2,h3⟩ hk hr=>⟨a1.step S s W W' row h1 hk hr,a2.step S s W W' row h2 hk hr,a3.step S s W W' row h3 hk hr⟩,fun S S' s W ⟨h1,h2,h3⟩ hs=>⟨a1.less S S' s W h1 hs,a2.less S S' s W h2 hs,a3.less S S' s W h3 hs⟩⟩
theorem All3.put (f g h:Pt→Bool) (x y z M:Nat):PutZ M (All3 f g h x y z):=fun S s W l o o' _ ⟨h1,h2,h3⟩ ho hc=>⟨⟨h1.1.put_ o' ho hc,h1.2⟩,⟨h2.1.put_ o' ho hc,h2.2⟩,⟨h3.1.put_ o' ho hc,h3.2⟩⟩
theorem all_snoc (f:Pt→Bool) (pre:List Pt) (p:Pt):(pre++[p]).all f=(pre.all f&&f p):=by simp
theorem Kz.under3 {M N x y z:Nat} {w w':World} (h:Kz M (fun k=>(k=x∨k=y∨k=z)∨False) w w') (hN:N≤M) (hx:N≤x) (hy:N≤y) (hz:N≤z):Kp N none w w':=
 (h.less hN (fun k hk e=>by rcases e with(e|e|e)|e;all_goals first|exact absurd e (by omega)|exact e):Kz N (fun _=>False) w w').kpN
theorem ta_aa (v:Value) (w:World):(Instr.typeAssert (.iface 219 v) 154 219 true).run Tryz.prog w=.ok (.tuple #[v,.bool true]) w:=by kernel_rfl
theorem ta_ra (v:Value) (w:World):(Instr.typeAssert (.iface 215 v) 154 219 true).run Tryz.prog w=.ok (.tuple #[.agg #[.int .i64 0,.int .i64 0,.int .i64 0,.int .i64 0,.int .i64 0,.int .i64 0],.bool false]) w:=by kernel_rfl
theorem ta_rr (v:Value) (w:World):(Instr.typeAssert (.iface 215 v) 154 215 true).run Tryz.prog w=.ok (.tuple #[v,.bool true]) w:=by kernel_rfl
theorem ta_ea (v:Value) (w:World):(Instr.typeAssert (.iface 221 v) 154 219 true).run Tryz.prog w=.ok (.tuple #[.agg #[.int .i64 0,.int .i64 0,.int .i64 0,.int .i64 0,.int .i64 0,.int .i64 0],.bool false]) w:=by kernel_rfl
theorem ta_er (v:Value) (w:World):(Instr.typeAssert (.iface 221 v) 154 215 true).run Tryz.prog w=.ok (.tuple #[.agg #[.int .i64 0,.int .i64 0,.int .i64 0,.int .i64 0],.bool false]) w:=by kernel_rfl
theorem ta_ee (v:Value) (w:World):(Instr.typeAssert (.iface 221 v) 154 221 true).run Tryz.prog w=.ok (.tuple #[v,.bool true]) w:=by kernel_rfl
theorem set3 {W:World} {x y z:Nat} {T:TypeId} {a b c:Value} (hx:Blk W x T #[a]) (hy:Blk W y T #[b]) (hz:Blk W z T #[c]) (hxy:x≠y) (hxz:x≠z) (hyz:y≠z) (u v t:Value) :
  ∃ W',W'=((W.setCell ⟨x,0,none⟩ u).setCell ⟨y,0,none⟩ v).setCell ⟨z,0,none⟩ t∧Blk W' x T #[u]∧Blk W' y T #[v]∧Blk W' z T #[t]∧Kz W.heap.size (fun k=>k=x∨k=y∨k=z) W W':=by
 refine⟨_,rfl,((hx.set_ 0 u).far hxy v).far hxz t,((hy.far (Ne.symm hxy) u).set_ 0 v).far hyz t,((hz.far (Ne.symm hxz) u).far (Ne.symm hyz) v).set_ 0 t,?_⟩;refine⟨rfl,rfl,rfl,by simp[World.setCell],fun k _ hn=>?_⟩;have n1:k≠x:=fun e=>hn (.inl e);have n2:k≠y:=fun e=>hn (.inr (.inl e));have n3:k≠z:=fun e=>hn (.inr (.inr e));exact(Below.heap_setCell _ _ _ _ n3).trans ((Below.heap_setCell _ _ _ _ n2).trans (Below.heap_setCell _ _ _ _ n1))
set_option maxRecDepth 100000 in
set_option maxHeartbeats 4000000 in
theorem sky_Excludes_any (A B C:Option Addr) (c e f:Nat) (S:Sky) (x:Sg) (a:Ar) (w:World) (hS:S.ok) (hA:SkyAt none w A B C S) (hx:S.okSg x) (ha:a.bd 33554432) :
  Calls Tryz.prog 90 #[.agg #[.slice A S.W.bs.length c,.int .i64 S.W.home,.slice B S.st.length e,.slice C S.ct.length f],.agg #[.int .i64 x.kind,.int .i64 x.stn,.int .i64 x.cat,.int .i64 x.tick,.int .i64 x.dx,.int .i64 x.dy,.int .i64 x.err,.int .i64 x.lo,.int .i64 x.hi],.agg #[.int .i64 a.x.lo,.int .i64 a.x.hi,.int .i64 a.y.lo,.int .i64 a.y.hi]] w fun e9 w'=>e9=.returned (.bool ((S.look x).excl a))∧Kp w.heap.size none w w':=by
 have ck:∀ w,SkyAt none w A B C S→Calls Tryz.prog 78 #[.agg #[.slice A S.W.bs.length c,.int .i64 S.W.home,.slice B S.st.length e,.slice C S.ct.length f],.agg #[.int .i64 x.kind,.int .i64 x.stn,.int .i64 x.cat,.int .i64 x.tick,.int .i64 x.dx,.int .i64 x.dy,.int .i64 x.err,.int .i64 x.lo,.int .i64 x.hi]] w fun e9 w'=>e9=.returned (.int .i64 0)∧Kp w.heap.size none w w':=fun w h=>(sky_CheckSight_any A B C c e f S x w hS h).mono fun e9 w' ⟨⟨v,h1,h2⟩,h3⟩=>⟨by rw[h1,h2.2 hx],h3⟩;have cl:=fun w h=>sky_lookOf_any A B C c e f S x w hS h hx;have cr:=fun w=>sky_right_any a ha w;have hsm:=S.look_sm hS hx;generalize S.look x=L at *;clear hx hS;obtain⟨w1,hw1,D,X,Y,K,hz⟩:=box3 w 43 #[.slice A S.W.bs.length c,.int .i64 S.W.home,.slice B S.st.length e,.slice C S.ct.length f] 90 #[.int .i64 x.kind,.int .i64 x.stn,.int .i64 x.cat,.int .i64 x.tick,.int .i64 x.dx,.int .i64 x.dy,.int .i64 x.err,.int .i64 x.lo,.int .i64 x.hi] 167 #[.int .i64 a.x.lo,.int .i64 a.x.hi,.int .i64 a.y.lo,.int .i64 a.y.hi];cases L with
 | angle c=>
  obtain⟨rr,hrr⟩:∃ q9,Hid (q9=(Look.angle c).excl a):=⟨_,Lib.hid rfl⟩;rw[← hrr.out];refine calls_of_wp_m Tryz.func90 rfl ?_;simp only[Tryz.ntmps90,List.size_toArray,List.length_cons,List.length_nil,Nat.reduceAdd,Nat.reduceSub,Array.replicate_succ,Array.replicate_zero,List.push_toArray,List.append_toArray,List.nil_append,List.cons_append];go_wp2_with fail
  rw[← hw1];clear hw1;refine(ck _ (hA.kpN K)).mono ?_;rintro e w2 ⟨rfl,k⟩;replace D:=D.kpN k;replace X:=X.kpN k;replace Y:=Y.kpN k;replace K:=K.tN k;have hzk:=k.size;clear k;have cD:=D.cell;have fD:=D.frozen;have cX:=X.cell;have fX:=X.frozen;have cY:=Y.cell;have fY:=Y.frozen;go_wp2_with fail
  refine(cr _).mono ?_;rintro e w3 ⟨rfl,k⟩;clear cD fD cX fX cY fY;replace D:=D.kpN k;replace X:=X.kpN k;replace Y:=Y.kpN k;replace K:=K.tN k;have hzk:=k.size;clear k;have cD:=D.cell;have fD:=D.frozen;have cX:=X.cell;have fX:=X.frozen;have cY:=Y.cell;have fY:=Y.frozen;go_wp2_with fail
  refine(cl _ (hA.kpN K)).mono ?_;rintro e w4 ⟨rfl,k⟩;clear cD fD cX fX cY fY;replace D:=D.kpN k;replace X:=X.kpN k;replace Y:=Y.kpN k;replace K:=K.tN k;have hzk:=k.size;clear k;unfold lookV;have t1:=ta_aa;clear ck cl cr hA;have pY:=Y.cell;obtain⟨w9_,rfl,G,B1,B2,B3,k9_,hzn⟩:=box4 w4 219 #[.int .i64 c.fx,.int .i64 c.fy,.int .i64 c.dx,.int .i64 c.dy,.int .i64 c.low,.int .i64 c.high] 4 #[.bool true] 4 #[.bool true] 4 #[.bool true];replace Y:=Y.kpN k9_;replace K:=K.thenN k9_ (by first|exact Nat.le_refl _|omega);clear k9_;have cY:=Y.cell;have fY:=Y.frozen;go_wp2_with fail
  clear cY fY pY;generalize ((((w4.alloc (.cells #[.int .i64 c.fx,.int .i64 c.fy,.int .i64 c.dx,.int .i64 c.dy,.int .i64 c.low,.int .i64 c.high] 219)).alloc (.cells #[.bool true] 4)).alloc (.cells #[.bool true] 4)).alloc (.cells #[.bool true] 4))=w5 at *;obtain⟨z,hx⟩:∃ q9,q9=w4.heap.size:=⟨_,rfl⟩;rw[← hx] at G B1 B2 B3 ⊢;replace hx:=Lib.hid hx;have hzw:w.heap.size+3≤z:=by have:=hx.out;omega
  have hz5:w5.heap.size=z+4:=by have:=hx.out;omega
  clear hx hzn hzk hz t1 Y;refine(sky_corners_any a _).mono ?_;rintro e w6 ⟨rfl,Cb,hz6,k⟩;replace G:=G.kpN k;replace B1:=B1.kpN k;replace B2:=B2.kpN k;replace B3:=B3.kpN k;replace K:=K.tN k;rw[hz5] at Cb hz6 ⊢;clear k;go_wp2_with fail
  refine wp_rangeFunc_z (gf:=170) (lb:=#[.pointer (some ⟨z+4,0,none⟩)]) rfl (enters_of Tryz.func170 (by kernel_rfl) rfl) (corners_seq (z+4) a (fun k=>k=z+1∨k=z+2∨k=z+3) (by omega)) (Nat.zero_le _) (fun w' k=>Cb.kpN k) (by rintro p v W rfl;rfl) (fun _ h=>h.elim) (fun k hk=>by omega)
   (All3 c.behind c.below c.above (z+1) (z+2) (z+3)) (fun _=>NoC) (All3.abide _ _ _ _ _ _) (fun _=>NoC.abide) (All3.put _ _ _ _ _ _ _) (fun _=>NoC.put _) ⟨⟨B1,id⟩,⟨B2,id⟩,⟨B3,id⟩⟩ ?round ?done (fun _ _ _ h=>h.elim)
  case round=>
   rintro l S pre p rest vals W K1 hxs hC rfl hl hsz hkz hS hK;have hp:NearV p:=NearV.crn ha p (by rw[hxs];simp);have cs:=fun w=>cone_sides_any c p hsm hp w;have s1:=Lib.hid (all_snoc c.behind pre p);have s2:=Lib.hid (all_snoc c.below pre p);have s3:=Lib.hid (all_snoc c.above pre p);clear hxs hC hp;have e0:(#[35].zip #[Value.agg #[.int .i64 p.x,.int .i64 p.y]]:Array (Nat × Value))=#[(35,.agg #[.int .i64 p.x,.int .i64 p.y])]:=by simp
   rw[e0];clear e0;simp only[List.foldl_toArray',List.foldl_cons,List.foldl_nil,sbt,sc0,scs];gi_wp2_with fail
   refine hK _ _ (Kp.new1 _ _) (fun W3 kr hsz3 hrec hC3=>?_);have hzz:=hkz.size;have P3:=(Blk.new W 73 #[.int .i64 p.x,.int .i64 p.y]).kp kr (by simp) (sne (by omega));have G3:=((G.kz hkz G.lt (by rintro (e|e);exact absurd e (by omega);exact e)).kpN (Kp.new1 W (.cells #[.int .i64 p.x,.int .i64 p.y] 73))).kp kr (by have:=G.lt;simp;omega) (sne (by have:=G.lt;omega));obtain⟨⟨R1,n1⟩,⟨R2,n2⟩,⟨R3,n3⟩⟩:=hC3;obtain⟨u1,hu1⟩:∃ q9,Hid (q9=pre.all c.behind):=⟨_,Lib.hid rfl⟩;obtain⟨u2,hu2⟩:∃ q9,Hid (q9=pre.all c.below):=⟨_,Lib.hid rfl⟩;obtain⟨u3,hu3⟩:∃ q9,Hid (q9=pre.all c.above):=⟨_,Lib.hid rfl⟩;obtain⟨v1,hv1⟩:∃ q9,Hid (q9=c.behind p):=⟨_,Lib.hid rfl⟩;obtain⟨v2,hv2⟩:∃ q9,Hid (q9=c.below p):=⟨_,Lib.hid rfl⟩;obtain⟨v3,hv3⟩:∃ q9,Hid (q9=c.above p):=⟨_,Lib.hid rfl⟩;rw[← hu1.out] at R1;rw[← hu2.out] at R2;rw[← hu3.out] at R3;rw[← hv1.out,← hv2.out,← hv3.out] at cs;replace s1:Hid ((pre++[p]).all c.behind=(u1&&v1)):=Lib.hid (by rw[s1.out,hu1.out,hv1.out]);replace s2:Hid ((pre++[p]).all c.below=(u2&&v2)):=Lib.hid (by rw[s2.out,hu2.out,hv2.out]);replace s3:Hid ((pre++[p]).all c.above=(u3&&v3)):=Lib.hid (by rw[s3.out,hu3.out,hv3.out]);obtain⟨y3,hy3⟩:∃ q9,q9=W.heap.size:=⟨_,rfl⟩;rw[← hy3] at P3 ⊢;clear hK K1 hrec hkz hsz hsz3 Cb K kr hu1 hu2 hu3 hv1 hv2 hv3 hy3 G B1 B2 B3 hS;have cP:=P3.cell;have cG:=G3.cell;gi_wp2_with fail
   refine⟨trivial,rfl,(CallsIn.inRound _ (callsIn_wide.2 (cs _))).mono ?_⟩;rintro e W4 ⟨rfl,k4⟩;replace R1:=R1.kpN k4;replace R2:=R2.kpN k4;replace R3:=R3.kpN k4;clear cP cG P3 G3 cs;have c1:=R1.cell;have c2:=R2.cell;have c3:=R3.cell;have f1:=R1.frozen;have f2:=R2.frozen;have f3:=R3.frozen;cases u1
   all_goals
    cases u2
    all_goals
     cases u3
     all_goals
      gi_wp2
      obtain⟨W5,hwn,Z1,Z2,Z3,kz⟩:=set3 R1 R2 R3 (by omega) (by omega) (by omega) _ _ _;rw[← hwn];refine⟨(Kz.ofN k4).trans (kz.less k4.size (fun _ _ e=>e)),?_⟩;unfold All3;rw[s1.out,s2.out,s3.out];exact⟨⟨Z1,n1⟩,⟨Z2,n2⟩,⟨Z3,n3⟩⟩
  case done=>
   intro W hC hkz hD hsz;obtain⟨⟨R1,-⟩,⟨R2,-⟩,⟨R3,-⟩⟩:=hC;obtain⟨u1,hu1⟩:∃ q9,Hid (q9=a.crn.all c.behind):=⟨_,Lib.hid rfl⟩;obtain⟨u2,hu2⟩:∃ q9,Hid (q9=a.crn.all c.below):=⟨_,Lib.hid rfl⟩;obtain⟨u3,hu3⟩:∃ q9,Hid (q9=a.crn.all c.above):=⟨_,Lib.hid rfl⟩;rw[← hu1.out] at R1;rw[← hu2.out] at R2;rw[← hu3.out] at R3;have hr:Hid (rr=(u1||u2||u3)):=Lib.hid (by rw[hrr.out,hu1.out,hu2.out,hu3.out];rfl);have K2:=K.trans (hkz.under3 (N:=w.heap.size) (by have:=K.size;omega) (by omega) (by omega) (by omega));have hKs:=K.size;clear hkz hu1 hu2 hu3 hrr Cb G B1 B2 B3 K;replace hD:=Lib.hid hD;have c1:=R1.cell;have c2:=R2.cell;have c3:=R3.cell;dsimp only;cases u1
   all_goals
    cases u2
    all_goals
     go_wp2
     exact postM_mark rfl hD.out (by simp[results,Tryz.results90,go_sem];rfl) ⟨by rw[hr.out];cases u3<;>rfl,mark_kp K2 (by omega)⟩
 | reach fx fy lo hi=>
  obtain⟨rr,hrr⟩:∃ q9,Hid (q9=(Look.reach fx fy lo hi).excl a):=⟨_,Lib.hid rfl⟩;rw[← hrr.out];refine calls_of_wp_m Tryz.func90 rfl ?_;simp only[Tryz.ntmps90,List.size_toArray,List.length_cons,List.length_nil,Nat.reduceAdd,Nat.reduceSub,Array.replicate_succ,Array.replicate_zero,List.push_toArray,List.append_toArray,List.nil_append,List.cons_append];go_wp2_with fail
  rw[← hw1];clear hw1;refine(ck _ (hA.kpN K)).mono ?_;rintro e w2 ⟨rfl,k⟩;replace D:=D.kpN k;replace X:=X.kpN k;replace Y:=Y.kpN k;replace K:=K.tN k;have hzk:=k.size;clear k;have cD:=D.cell;have fD:=D.frozen;have cX:=X.cell;have fX:=X.frozen;have cY:=Y.cell;have fY:=Y.frozen;go_wp2_with fail
  refine(cr _).mono ?_;rintro e w3 ⟨rfl,k⟩;clear cD fD cX fX cY fY;replace D:=D.kpN k;replace X:=X.kpN k;replace Y:=Y.kpN k;replace K:=K.tN k;have hzk:=k.size;clear k;have cD:=D.cell;have fD:=D.frozen;have cX:=X.cell;have fX:=X.frozen;have cY:=Y.cell;have fY:=Y.frozen;go_wp2_with fail
  refine(cl _ (hA.kpN K)).mono ?_;rintro e w4 ⟨rfl,k⟩;clear cD fD cX fX cY fY;replace D:=D.kpN k;replace X:=X.kpN k;replace Y:=Y.kpN k;replace K:=K.tN k;have hzk:=k.size;clear k;unfold lookV;have t1:=ta_ra;have t2:=ta_rr;obtain⟨hf,l1,l2,l3⟩:=hsm;clear ck cl cr hA;have pY:=Y.cell;obtain⟨w9_,rfl,G,k9_,hzn⟩:=box1 w4 215 #[.int .i64 fx,.int .i64 fy,.int .i64 lo,.int .i64 hi];replace Y:=Y.kpN k9_;replace K:=K.thenN k9_ (by first|exact Nat.le_refl _|omega);clear k9_;have cY:=Y.cell;have fY:=Y.frozen;go_wp2_with fail
  clear cY fY pY;generalize (w4.alloc (.cells #[.int .i64 fx,.int .i64 fy,.int .i64 lo,.int .i64 hi] 215))=w5 at *;obtain⟨z,hx⟩:∃ q9,q9=w4.heap.size:=⟨_,rfl⟩;rw[← hx] at G ⊢;replace hx:=Lib.hid hx;have hzw:w.heap.size+3≤z:=by have:=hx.out;omega
  clear hx hzn hzk hz t1 t2;have c1:=fun w=>sky_nearest_any a.x fx w;have c2:=fun w=>sky_nearest_any a.y fy w;have d1:=nearS_near (n:=fx) ha.1;have d2:=nearS_near (n:=fy) ha.2;have cd:=fun w=>sky_distance_any ⟨nearS a.x fx,nearS a.y fy⟩ fx fy ⟨d1.1,d1.2,d2.1,d2.2⟩ hf w;have ht:=fun w hb=>exc1_test z fx fy lo hi a w hf ⟨l1,by omega⟩ ha hb;have e1:wrap64 (hi * hi)=hi * hi:=sq_wrap ⟨by omega,by omega⟩;have hr:Hid (rr=(decide (hi * hi<dist2 ⟨nearS a.x fx,nearS a.y fy⟩ fx fy)||a.crn.all (fun p=>decide (dist2 p fx fy<lo * lo)))):=Lib.hid (by rw[hrr.out];rfl);have ca:=fun w hb=>sky_all_1 a z _ w (ht w hb);generalize a.crn.all (fun p=>decide (dist2 p fx fy<lo * lo))=r at *;generalize dist2 ⟨nearS a.x fx,nearS a.y fy⟩ fx fy=d at *;generalize nearS a.x fx=nx at *;generalize nearS a.y fy=ny at *;clear ht hrr d1 d2 ha l1 l2 l3 hf;refine wp_region_inv (Γ:=GF) [none,none,none,none,none,none,none,none,none,none,none,none,none,none,none,none,some 13,none,none,none,none,none,none,none,none,none,none,none,none,none,none,none,none,none,none,none,none,none,none,none,none,none,none,none,none,none,none,none,none,none,none,none,none,none,none,none,none,none,none,none,none,none,none,none,none,none,some 0,some 1,some 2,some 3,some 4,some 5,some 6,some 7,some 8,some 9,some 10,some 11,some 12] [[],[0],[],[2],[2,3],[0,1,2,3,4],[],[6],[],[8],[8,9],[0,1,2,3,4,5,6,7,8,9,10],[0,1,2,3,4,5,6,7,8,9,10,11],[],[0,1,2,3,4,5,6,7,8,9,10,11,12,13]] [[2,3,4,6,7,8,9,10,13],[0,2,3,4,6,7,8,9,10,13],[0,1,6,7,8,9,10,13],[0,1,2,6,7,8,9,10,13],[0,1,2,3,6,7,8,9,10,13],[0,1,2,3,4,6,7,8,9,10,13],[0,1,2,3,4,5,8,9,10,13],[0,1,2,3,4,5,6,8,9,10,13],[0,1,2,3,4,5,6,7,13],[0,1,2,3,4,5,6,7,8,13],[0,1,2,3,4,5,6,7,8,9,13],[0,1,2,3,4,5,6,7,8,9,10,13],[0,1,2,3,4,5,6,7,8,9,10,11,13],[0,1,2,3,4,5,6,7,8,9,10,11,12],[0,1,2,3,4,5,6,7,8,9,10,11,12,13]] (fun γ=>[.pointer (some ⟨w.heap.size+2,0,none⟩),.agg #[.int .i64 a.x.lo,.int .i64 a.x.hi],.pointer (some ⟨z,0,none⟩),.pointer (some ⟨z,0,none⟩),.int .i64 fx,.int .i64 nx,.pointer (some ⟨w.heap.size+2,2,none⟩),.agg #[.int .i64 a.y.lo,.int .i64 a.y.hi],.pointer (some ⟨z,0,none⟩),.pointer (some ⟨z,1,none⟩),.int .i64 fy,.int .i64 ny,.agg #[.int .i64 nx,.int .i64 ny],.pointer (some ⟨γ.n1,0,none⟩),undef]) (fun γ=>[none,none,none,none,none,none,none,none,none,none,none,none,none,none,none,none,some (.pointer (some ⟨γ.n1,0,none⟩)),none,none,none,none,none,none,none,none,none,none,none,none,none,none,none,none,none,none,none,none,none,none,none,none,none,none,none,none,none,none,none,none,none,none,none,none,none,none,none,none,none,none,none,none,none,none,none,none,none,some (.pointer (some ⟨w.heap.size+2,0,none⟩)),some (.agg #[.int .i64 a.x.lo,.int .i64 a.x.hi]),some (.pointer (some ⟨z,0,none⟩)),some (.pointer (some ⟨z,0,none⟩)),some (.int .i64 fx),some (.int .i64 nx),some (.pointer (some ⟨w.heap.size+2,2,none⟩)),some (.agg #[.int .i64 a.y.lo,.int .i64 a.y.hi]),some (.pointer (some ⟨z,0,none⟩)),some (.pointer (some ⟨z,1,none⟩)),some (.int .i64 fy),some (.int .i64 ny),some (.agg #[.int .i64 nx,.int .i64 ny])]) ?A14_1 (fun n D γ w=>Kp w5.heap.size none w5 w∧FreeB 73 γ.n1 γ.c1 w5.heap.size (#[(if γ.s1=true then .int .i64 nx else .int .i64 0),(if γ.s1=true then .int .i64 ny else .int .i64 0)]) w) (fun k γ w=>match k with|13=>γ.c1=true|14=>γ.s1=true|_=>True) ⟨0,0,false,false,false,false⟩ (by kernel_rfl) (fun _=>rfl) ?hA14_1 (by kernel_rfl) ?hB014_1 ?hop14_1 ?hend14_1
  case hA14_1=>intro γ;dsimp only[fullV];rfl
  case hB014_1=>
   exact⟨(Kp.refl _ none _).drew,fun e=>(by cases e)⟩
  case hop14_1=>
   intro hA;refine⟨?_,?_,?_,?_,?_,?_,?_,?_,?_,?_,?_,?_,?_,?_,?_,trivial⟩
   ·
    refine opOk_v hA (fun _=>rfl) (fun _ _=>trivial) ?_ ?_
    ·
     intro n D γ w hn h;replace hn:n<15:=hn;try dsimp only at h
     exact h
    intro n D γ w hB hU K hK;try dsimp only at hB
    try dsimp only
    clear hB hU;go_step;exact hK _ rfl
   ·
    refine opOk_v hA (fun _=>rfl) (fun _ _=>trivial) ?_ ?_
    ·
     intro n D γ w hn h;replace hn:n<15:=hn;try dsimp only at h
     exact h
    intro n D γ w hB hU K hK;try dsimp only at hB
    try dsimp only
    have cY:=fun i=>(Y.kpN hB.1).cell i;have cG:=fun i=>(G.kpN hB.1).cell i;clear hB hU;go_step;exact hK _ rfl
   ·
    refine opOk_v hA (fun _=>rfl) (fun _ _=>trivial) ?_ ?_
    ·
     intro n D γ w hn h;replace hn:n<15:=hn;try dsimp only at h
     exact h
    intro n D γ w hB hU K hK;try dsimp only at hB
    try dsimp only
    clear hB hU;go_step;exact hK _ rfl
   ·
    refine opOk_v hA (fun _=>rfl) (fun _ _=>trivial) ?_ ?_
    ·
     intro n D γ w hn h;replace hn:n<15:=hn;try dsimp only at h
     exact h
    intro n D γ w hB hU K hK;try dsimp only at hB
    try dsimp only
    clear hB hU;go_step;exact hK _ rfl
   ·
    refine opOk_v hA (fun _=>rfl) (fun _ _=>trivial) ?_ ?_
    ·
     intro n D γ w hn h;replace hn:n<15:=hn;try dsimp only at h
     exact h
    intro n D γ w hB hU K hK;try dsimp only at hB
    try dsimp only
    have cY:=fun i=>(Y.kpN hB.1).cell i;have cG:=fun i=>(G.kpN hB.1).cell i;clear hB hU;go_step;exact hK _ rfl
   ·
    refine opOk_l hA (fun _=>rfl) ?_;intro n D γ w hn hD hB hU K hK;try dsimp only at hB
    clear hU;replace hn:n<15:=hn;try dsimp only
    have K9:=hB.1;go_step;refine(c1 _).mono ?_;rintro e w5 ⟨rfl,k5⟩;refine hK _ _ γ rfl ⟨hB.1.thenN k5 (Nat.le_refl _),(hB.2).kpN k5⟩ trivial ?_;try dsimp only[allP,List.getD_cons_zero,List.getD_cons_succ]
    (repeat' apply And.intro)<;>first|exact rfl|exact trivial|exact id|assumption
   ·
    refine opOk_v hA (fun _=>rfl) (fun _ _=>trivial) ?_ ?_
    ·
     intro n D γ w hn h;replace hn:n<15:=hn;try dsimp only at h
     exact h
    intro n D γ w hB hU K hK;try dsimp only at hB
    try dsimp only
    clear hB hU;go_step;exact hK _ rfl
   ·
    refine opOk_v hA (fun _=>rfl) (fun _ _=>trivial) ?_ ?_
    ·
     intro n D γ w hn h;replace hn:n<15:=hn;try dsimp only at h
     exact h
    intro n D γ w hB hU K hK;try dsimp only at hB
    try dsimp only
    have cY:=fun i=>(Y.kpN hB.1).cell i;have cG:=fun i=>(G.kpN hB.1).cell i;clear hB hU;go_step;exact hK _ rfl
   ·
    refine opOk_v hA (fun _=>rfl) (fun _ _=>trivial) ?_ ?_
    ·
     intro n D γ w hn h;replace hn:n<15:=hn;try dsimp only at h
     exact h
    intro n D γ w hB hU K hK;try dsimp only at hB
    try dsimp only
    clear hB hU;go_step;exact hK _ rfl
   ·
    refine opOk_v hA (fun _=>rfl) (fun _ _=>trivial) ?_ ?_
    ·
     intro n D γ w hn h;replace hn:n<15:=hn;try dsimp only at h
     exact h
    intro n D γ w hB hU K hK;try dsimp only at hB
    try dsimp only
    clear hB hU;go_step;exact hK _ rfl
   ·
    refine opOk_v hA (fun _=>rfl) (fun _ _=>trivial) ?_ ?_
    ·
     intro n D γ w hn h;replace hn:n<15:=hn;try dsimp only at h
     exact h
    intro n D γ w hB hU K hK;try dsimp only at hB
    try dsimp only
    have cY:=fun i=>(Y.kpN hB.1).cell i;have cG:=fun i=>(G.kpN hB.1).cell i;clear hB hU;go_step;exact hK _ rfl
   ·
    refine opOk_l hA (fun _=>rfl) ?_;intro n D γ w hn hD hB hU K hK;try dsimp only at hB
    clear hU;replace hn:n<15:=hn;try dsimp only
    have K9:=hB.1;go_step;refine(c2 _).mono ?_;rintro e w5 ⟨rfl,k5⟩;refine hK _ _ γ rfl ⟨hB.1.thenN k5 (Nat.le_refl _),(hB.2).kpN k5⟩ trivial ?_;try dsimp only[allP,List.getD_cons_zero,List.getD_cons_succ]
    (repeat' apply And.intro)<;>first|exact rfl|exact trivial|exact id|assumption
   ·
    refine opOk_v hA (fun _=>rfl) (fun _ _=>trivial) ?_ ?_
    ·
     intro n D γ w hn h;replace hn:n<15:=hn;try dsimp only at h
     exact h
    intro n D γ w hB hU K hK;try dsimp only at hB
    try dsimp only
    clear hB hU;go_step;exact hK _ rfl
   ·
    refine opOk_l hA (fun _=>rfl) ?_;intro n D γ w hn hD hB hU K hK;try dsimp only at hB
    clear hU;replace hn:n<15:=hn;try dsimp only
    go_step;obtain⟨w5,hw5⟩:∃ w5,w5=w.alloc (.cells #[.int .i64 0,.int .i64 0] 73):=⟨_,rfl⟩;have k5:Kp w.heap.size none w w5:=hw5 ▸ Kp.new1 _ _;have hBn:Blk w5 w.heap.size 73 #[.int .i64 0,.int .i64 0]:=hw5 ▸ Blk.new _ _ _;rw[← hw5];refine hK _ _ { γ with n1:=w.heap.size,c1:=true,s1:=false } rfl ⟨hB.1.thenN k5 (Nat.le_refl _),fun _=>⟨hBn,hB.1.size⟩⟩ rfl ?_;try dsimp only[allP,List.getD_cons_zero,List.getD_cons_succ]
    (repeat' apply And.intro)<;>first|exact rfl|exact trivial|exact id|assumption
   ·
    refine opOk_l hA (fun _=>rfl) ?_;intro n D γ w hn hD hB hU K hK;try dsimp only at hB
    replace hU:(γ.c1=true):=hU.2.2.2.2.2.2.2.2.2.2.2.2.2.1;replace hn:n<15:=hn;try dsimp only
    obtain⟨O9,g9⟩:=hB.2 hU;have cO:=O9.cell;have fO:=O9.frozen;go_step;obtain⟨w5,hw5,R9,kst,hzst⟩:=O9.st2 (.int .i64 nx) (.int .i64 ny);rw[← hw5];simp only[sbt,sc0,scs] at R9;refine hK _ _ { γ with s1:=true } rfl ⟨hB.1.thenOwn kst (Nat.le_refl _) g9,fun _=>⟨R9,g9⟩⟩ rfl ?_;try dsimp only[allP,List.getD_cons_zero,List.getD_cons_succ]
    (repeat' apply And.intro)<;>first|exact rfl|exact trivial|exact id|assumption
  case hend14_1=>
   intro n D γ w hn hD hB hF;replace hF:=fun k (hk:k<15)=>hF k hk;replace hF:=(⟨hF 13 (by decide),hF 14 (by decide)⟩:_∧_);try dsimp only at hB
   try dsimp only at hF
   replace hn:n≤15:=hn;try dsimp only
   obtain⟨np,n2_9,c1_9,c2_9,s1_9,s2_9⟩:=γ;dsimp only at hB hF ⊢;obtain⟨rfl,rfl⟩:=hF;obtain⟨K9,f1_9⟩:=hB;obtain⟨P,gP⟩:=f1_9 rfl;rw[show (#[(if true=true then .int .i64 nx else .int .i64 0),(if true=true then .int .i64 ny else .int .i64 0)]:Array Value)=#[.int .i64 nx,.int .i64 ny] from rfl] at P;clear f1_9;clear hD hn;have gY:=Y.lt;have gG:=G.lt;replace Y:=Y.kpN K9;replace G:=G.kpN K9;replace K:=K.trans (K9.mono K.size);clear K9;rename World=>w6;go_wp2_with fail
   clear c1 c2;by_cases hd:hi * hi<d
   ·
    have h1:decide (hi * hi<d)=true:=decide_eq_true hd;clear hd;obtain⟨S,hS0,hS1⟩:=cls_of2 (P:=fun w'=>Blk w' _ _ _∧Blk w' _ _ _∧Blk w' _ _ _∧Kp _ _ _ w') w6 ⟨Y,G,P,K⟩;try dsimp only at hS0
    have cY:=fun (x:Ev (S 0)) i=>((hS0 _).1 x.h).1.cell i;have cG:=fun (x:Ev (S 0)) i=>((hS0 _).1 x.h).2.1.cell i;have cP:=fun (x:Ev (S 0)) i=>((hS0 _).1 x.h).2.2.1.cell i;replace Y:=Y.drew;replace G:=G.drew;replace P:=P.drew;replace K:=K.drew;have hevT:=ev_true;refine wp_region_ord S [(0,1),(1,0),(2,1),(4,0),(5,1),(6,0),(7,1),(8,0),(3,2),(9,0),(10,0),(11,1),(12,2),(13,2),(14,0),(15,0)] [] (by kernel_rfl) (by kernel_rfl) ((hS0 _).2 ⟨Y,G,P,K⟩) ?_;intro _hev;iterate 8 (first|((first|refine oV ?_|refine oQ ?_);intro K hK;go_big_quiet_op;go_big_quiet_on)|refine oS ?_)
    refine oL ?_;intro Kc hKc;generalize w6.drew=wd9 at *;go_step;refine(cd _).mono ?_;rintro e w7 ⟨rfl,k⟩;replace Y:=Y.kpN k;replace G:=G.kpN k;replace P:=P.kpN k;replace K:=K.tN k;clear k;refine hKc _ _ ((hS0 _).2 ⟨Y,G,P,K⟩) ?_;clear hKc Kc;(first|refine oV ?_|refine oQ ?_);intro K hK;go_big_quiet_op;go_big_quiet_on
    (first|refine oV ?_|refine oQ ?_);intro K hK;go_big_quiet_op;go_big_quiet_on
    refine wpOrd_s2 (by decide) rfl rfl rfl ?_;intro K hK;go_big_quiet_op;go_big_quiet_on;refine wpOrd_s2 (by decide) rfl rfl rfl ?_;intro Kc hKc;go_big_quiet_op
    go_big_quiet_on
    refine wpOrd_s2 (by decide) rfl rfl rfl ?_;intro Kc hKc;go_big_quiet_op
    go_big_quiet_on
    iterate 2 (first|((first|refine oV ?_|refine oQ ?_);intro K hK;go_big_quiet_op;go_big_quiet_on)|refine oS ?_)
    refine wpOrd_nil ?_;clear hevT _hev;clear cY cG cP hS0 hS1 S;go_wp2
    exact postM_ret (v:=.bool true) (by simp[results,Tryz.results90,go_sem]) rfl ⟨by rw[hr.out,h1];rfl,K⟩
   ·
    have h1:decide (hi * hi<d)=false:=decide_eq_false hd;clear hd;obtain⟨S,hS0,hS1⟩:=cls_of2 (P:=fun w'=>Blk w' _ _ _∧Blk w' _ _ _∧Blk w' _ _ _∧Kp _ _ _ w') w6 ⟨Y,G,P,K⟩;try dsimp only at hS0
    have cY:=fun (x:Ev (S 0)) i=>((hS0 _).1 x.h).1.cell i;have cG:=fun (x:Ev (S 0)) i=>((hS0 _).1 x.h).2.1.cell i;have cP:=fun (x:Ev (S 0)) i=>((hS0 _).1 x.h).2.2.1.cell i;replace Y:=Y.drew;replace G:=G.drew;replace P:=P.drew;replace K:=K.drew;have hevT:=ev_true;refine wp_region_ord S [(0,1),(1,0),(2,1),(4,0),(5,1),(6,0),(7,1),(8,0),(3,2),(9,0),(10,0),(11,1),(12,2),(13,2),(14,0),(15,0)] [] (by kernel_rfl) (by kernel_rfl) ((hS0 _).2 ⟨Y,G,P,K⟩) ?_;intro _hev;iterate 8 (first|((first|refine oV ?_|refine oQ ?_);intro K hK;go_big_quiet_op;go_big_quiet_on)|refine oS ?_)
    refine oL ?_;intro Kc hKc;generalize w6.drew=wd9 at *;go_step;refine(cd _).mono ?_;rintro e w7 ⟨rfl,k⟩;replace Y:=Y.kpN k;replace G:=G.kpN k;replace P:=P.kpN k;replace K:=K.tN k;clear k;refine hKc _ _ ((hS0 _).2 ⟨Y,G,P,K⟩) ?_;clear hKc Kc;iterate 3 (first|((first|refine oV ?_|refine oQ ?_);intro K hK;go_big_quiet_op;go_big_quiet_on)|refine oS ?_)
    refine oL ?_;intro Kc hKc;go_step;refine hKc _ _ ((hS0 _).2 ⟨Y,G,P,K⟩) ?_;clear hKc Kc;refine oL ?_;intro Kc hKc;go_step;refine(ca _ G).mono ?_;rintro e w8 ⟨rfl,k⟩;replace Y:=Y.kpN k;replace G:=G.kpN k;replace P:=P.kpN k;replace K:=K.tN k;clear k;refine hKc _ _ ((hS0 _).2 ⟨Y,G,P,K⟩) ?_;clear hKc Kc;iterate 2 (first|((first|refine oV ?_|refine oQ ?_);intro K hK;go_big_quiet_op;go_big_quiet_on)|refine oS ?_)
    refine wpOrd_nil ?_;clear hevT _hev;clear cY cG cP hS0 hS1 S;go_wp2
    exact postM_ret (v:=.bool r) (by simp[results,Tryz.results90,go_sem]) rfl ⟨by rw[hr.out,h1];rfl,K⟩
 | empty c hi=>
  obtain⟨rr,hrr⟩:∃ q9,Hid (q9=(Look.empty c hi).excl a):=⟨_,Lib.hid rfl⟩;rw[← hrr.out];refine calls_of_wp_m Tryz.func90 rfl ?_;simp only[Tryz.ntmps90,List.size_toArray,List.length_cons,List.length_nil,Nat.reduceAdd,Nat.reduceSub,Array.replicate_succ,Array.replicate_zero,List.push_toArray,List.append_toArray,List.nil_append,List.cons_append];go_wp2_with fail
  rw[← hw1];clear hw1;refine(ck _ (hA.kpN K)).mono ?_;rintro e w2 ⟨rfl,k⟩;replace D:=D.kpN k;replace X:=X.kpN k;replace Y:=Y.kpN k;replace K:=K.tN k;have hzk:=k.size;clear k;have cD:=D.cell;have fD:=D.frozen;have cX:=X.cell;have fX:=X.frozen;have cY:=Y.cell;have fY:=Y.frozen;go_wp2_with fail
  refine(cr _).mono ?_;rintro e w3 ⟨rfl,k⟩;clear cD fD cX fX cY fY;replace D:=D.kpN k;replace X:=X.kpN k;replace Y:=Y.kpN k;replace K:=K.tN k;have hzk:=k.size;clear k;have cD:=D.cell;have fD:=D.frozen;have cX:=X.cell;have fX:=X.frozen;have cY:=Y.cell;have fY:=Y.frozen;go_wp2_with fail
  refine(cl _ (hA.kpN K)).mono ?_;rintro e w4 ⟨rfl,k⟩;clear cD fD cX fX cY fY;replace D:=D.kpN k;replace X:=X.kpN k;replace Y:=Y.kpN k;replace K:=K.tN k;have hzk:=k.size;clear k;unfold lookV;have t1:=ta_ea;have t2:=ta_er;have t3:=ta_ee;clear ck cl cr hA;have pY:=Y.cell;obtain⟨w9_,rfl,G,k9_,hzn⟩:=box1 w4 221 #[.int .i64 c.fx,.int .i64 c.fy,.int .i64 c.dx,.int .i64 c.dy,.int .i64 c.low,.int .i64 c.high,.int .i64 hi];replace Y:=Y.kpN k9_;replace K:=K.thenN k9_ (by first|exact Nat.le_refl _|omega);clear k9_;have cY:=Y.cell;have fY:=Y.frozen;go_wp2_with fail
  clear cY fY pY;generalize (w4.alloc (.cells #[.int .i64 c.fx,.int .i64 c.fy,.int .i64 c.dx,.int .i64 c.dy,.int .i64 c.low,.int .i64 c.high,.int .i64 hi] 221))=w5 at *;obtain⟨z,hx⟩:∃ q9,q9=w4.heap.size:=⟨_,rfl⟩;rw[← hx] at G ⊢;replace hx:=Lib.hid hx;have hzw:w.heap.size+3≤z:=by have:=hx.out;omega
  clear hx hzn hzk hz t1 t2 t3;have ht:=exc2_test z c hi a w5 hsm.1 hsm.2 ha G;have ca:=sky_all_2 a z _ w5 ht;have hr:Hid (rr=a.crn.all (fun p=>c.hasP p&&decide (dist2 p c.fx c.fy≤hi * hi))):=Lib.hid (by rw[hrr.out];rfl);generalize a.crn.all (fun p=>c.hasP p&&decide (dist2 p c.fx c.fy≤hi * hi))=r at *;clear ht hrr;refine ca.mono ?_;rintro e w6 ⟨rfl,k⟩;go_wp2
  exact postM_ret (v:=.bool r) (by simp[results,Tryz.results90,go_sem]) rfl ⟨by rw[hr.out],K.tN k⟩
end Go.Proofs.YtdhiappifnflpaaGreat
