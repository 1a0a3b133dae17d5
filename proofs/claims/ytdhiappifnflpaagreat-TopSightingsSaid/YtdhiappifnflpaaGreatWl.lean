/- Skies in memory: the walks of sky, eighth part: Agrees. -/
import Derived.Test.YtdhiappifnflpaaGreatM29
import Derived.Test.YtdhiappifnflpaaGreatM30
set_option maxRecDepth 100000
set_option maxHeartbeats 4000000
namespace Go.Proofs.YtdhiappifnflpaaGreat
open Go.RowKit
theorem Sky.from_sm {S:Sky} (hS:S.ok) (x:Sg) (hx:S.okSg x):-5000≤(S.from x).x∧(S.from x).x≤5000∧-5000≤(S.from x).y∧(S.from x).y≤5000:=by
 obtain⟨y,hy⟩:=Option.isSome_iff_exists.1 hx.2.2.1;have h1:=hS.soff y (Sky.station_mem hy);have h2:=hS.W.hp x.tick;unfold Sky.from;rw[hy];simp only[Option.getD_some];omega
theorem Sky.cone_sm {S:Sky} (hS:S.ok) (x:Sg) (hx:S.okSg x) (hk:x.kind≠2):(S.cone x).sm:=by
 obtain⟨q1,q2,q3,q4⟩:=hx.2.2.2.1 hk;obtain⟨z,hz⟩:=Option.isSome_iff_exists.1 q1;have:=hS.cb z (Sky.catalog_mem hz);refine⟨S.from_sm hS x hx,q2,?_⟩;unfold Sky.cone;rw[hz];simp only[Option.getD_some];omega
def Look.sm:Look→Prop
 | .angle c=>c.sm
 | .reach fx fy lo hi=>(-5000≤fx∧fx≤5000∧-5000≤fy∧fy≤5000)∧0≤lo∧lo≤hi∧hi≤134217728
 | .empty c hi=>c.sm∧1≤hi∧hi≤134217728
theorem Sky.look_sm {S:Sky} (hS:S.ok) {x:Sg} (hx:S.okSg x):(S.look x).sm:=by
 unfold Sky.look;split
 ·
  rename_i k;exact⟨S.from_sm hS x hx,hx.2.2.2.2.1 k⟩
 ·
  rename_i k;split
  · exact S.cone_sm hS x hx k
  ·
   rename_i k2;exact⟨S.cone_sm hS x hx k,hx.2.2.2.2.2 (by have:=hx.1;omega)⟩
theorem sq_wrap {n:Int} (h:0≤n∧n≤134217728):wrap64 (n * n)=n * n:=by
 have:=mul_bd (a:=n) (b:=n) (A:=134217728) (B:=134217728) oM oM;simp only[Nat.reduceMul] at this;unfold wrap64;generalize n * n=m at *;omega
theorem angle_agrees_any (c:Cone) (p:Pt) (hc:c.sm) (hp:NearV p) (w:World) :
  Calls Tryz.prog 278 #[.agg #[c.fx,c.fy,c.dx,c.dy,c.low,c.high],.agg #[p.x,p.y]] w fun e w'=>e=.returned (.bool ((Look.angle c).agrees p))∧Kp w.heap.size none w w':=by
 have ch:=fun w=>cone_has_any c p hc hp w;have er:(Look.angle c).agrees p=c.hasP p:=rfl;rw[er];generalize c.hasP p=b at *;clear er hc hp;obtain⟨w1,hw1,C,P,K,hz⟩:=box2 w 219 #[c.fx,c.fy,c.dx,c.dy,c.low,c.high] 73 #[p.x,p.y];go_enter Tryz.func278,Tryz.ntmps278
 go_wp2_with fail
 rw[← hw1];clear hw1;refine mK (ch _) fun w2 k=>?_;replace C:=C.kpN k;replace P:=P.kpN k;replace K:=K.thenN k oM;have hzk:=k.size;clear k;go_wp2
 go_ret
 exact⟨rfl,K⟩
theorem reach_agrees_any (fx fy lo hi:Int) (p:Pt) (hf:-5000≤fx∧fx≤5000∧-5000≤fy∧fy≤5000) (hl:0≤lo∧lo≤hi∧hi≤134217728) (hp:NearV p) (w:World) :
  Calls Tryz.prog 277 #[.agg #[fx,fy,lo,hi],.agg #[p.x,p.y]] w fun e w'=>e=.returned (.bool ((Look.reach fx fy lo hi).agrees p))∧Kp w.heap.size none w w':=by
 have cd:=fun w=>sky_distance_any p fx fy hp hf w;have e1:wrap64 (lo * lo)=lo * lo:=sq_wrap ⟨by omega,by omega⟩;have e2:wrap64 (hi * hi)=hi * hi:=sq_wrap ⟨by omega,by omega⟩;have cw:=fun w=>sky_within_any (dist2 p fx fy) (lo * lo) (hi * hi) w;have er:(Look.reach fx fy lo hi).agrees p=btw (dist2 p fx fy) (lo * lo) (hi * hi):=rfl;rw[er];generalize dist2 p fx fy=d at *;generalize btw d (lo * lo) (hi * hi)=r at *;clear er hf hl hp;obtain⟨w1,hw1,C,P,K,hz⟩:=box2 w 215 #[fx,fy,lo,hi] 73 #[p.x,p.y];go_enter Tryz.func277,Tryz.ntmps277
 go_wp2_with fail
 rw[← hw1];clear hw1;refine mK (cd _) fun w2 k=>?_;replace C:=C.kpN k;replace P:=P.kpN k;replace K:=K.thenN k oM;have hzk:=k.size;clear k;have cC:=C.cell;have fC:=C.frozen;go_wp2_with fail
 refine mK (cw _) fun w3 k=>?_;clear cC fC;replace C:=C.kpN k;replace K:=K.thenN k oM;have hzk:=k.size;clear k;go_wp2
 go_ret
 exact⟨rfl,K⟩
theorem empty_agrees_any (c:Cone) (hi:Int) (p:Pt) (hc:c.sm) (hh:1≤hi∧hi≤134217728) (hp:NearV p) (w:World) :
  Calls Tryz.prog 279 #[.agg #[c.fx,c.fy,c.dx,c.dy,c.low,c.high,hi],.agg #[p.x,p.y]] w fun e w'=>e=.returned (.bool ((Look.empty c hi).agrees p))∧Kp w.heap.size none w w':=by
 have cd:=fun w=>sky_distance_any p c.fx c.fy hp hc.f w;have ch:=fun w=>cone_has_any c p hc hp w;have e2:wrap64 (hi * hi)=hi * hi:=sq_wrap ⟨by omega,by omega⟩;have er:(Look.empty c hi).agrees p=(!c.hasP p||decide (hi * hi<dist2 p c.fx c.fy)):=rfl;rw[er];generalize dist2 p c.fx c.fy=d at *;generalize c.hasP p=b at *;clear er hc hh hp;obtain⟨w1,hw1,C,P,K,hz⟩:=box2 w 221 #[c.fx,c.fy,c.dx,c.dy,c.low,c.high,hi] 73 #[p.x,p.y];go_enter Tryz.func279,Tryz.ntmps279
 go_wp2_with fail
 rw[← hw1];clear hw1;cases b
 ·
  obtain⟨S,hS0,hS1⟩:=cls_of2 (P:=fun w'=>Blk w' _ _ _∧Blk w' _ _ _∧Kp _ _ _ w') w1 ⟨C,P,K⟩;try dsimp only at hS0
  have cC:=fun (x:Ev (S 0)) i=>((hS0 _).1 x.h).1.cell i;have cP:=fun (x:Ev (S 0)) i=>((hS0 _).1 x.h).2.1.cell i;replace C:=C.drew;replace P:=P.drew;replace K:=K.drew;have hevT:=ev_true;refine wro S [(0,0),(1,1),(2,1),(3,2),(4,0),(5,0),(6,1),(7,0),(8,0),(9,1),(11,0),(12,1),(13,0),(14,1),(15,0),(10,2),(16,0),(17,0),(18,0)] [] ((hS0 _).2 ⟨C,P,K⟩) ?_;intro _hev;refine oX ?_;refine oL ?_;intro Kc hKc;generalize w1.drew=wd9 at *;go_step;refine mK (ch _) fun w2 k=>?_;replace C:=C.kpN k;replace P:=P.kpN k;replace K:=K.tN k;clear k;refine hKc _ _ ((hS0 _).2 ⟨C,P,K⟩) ?_;clear hKc Kc;refine oY ?_;iterate 9 (refine oZ ?_)
  refine wpOrd_s2 (by decide) rfl rfl rfl ?_;intro Kc hKc;go_big_quiet_op
  go_big_quiet_on
  refine oZ ?_;refine oY ?_;refine wpOrd_nil ?_;clear hevT _hev;clear cC cP hS0 hS1 S;go_wp2
  go_ret
  exact⟨rfl,K⟩
 ·
  obtain⟨S,hS0,hS1⟩:=cls_of2 (P:=fun w'=>Blk w' _ _ _∧Blk w' _ _ _∧Kp _ _ _ w') w1 ⟨C,P,K⟩;try dsimp only at hS0
  have cC:=fun (x:Ev (S 0)) i=>((hS0 _).1 x.h).1.cell i;have cP:=fun (x:Ev (S 0)) i=>((hS0 _).1 x.h).2.1.cell i;replace C:=C.drew;replace P:=P.drew;replace K:=K.drew;have hevT:=ev_true;refine wro S [(0,0),(1,1),(2,1),(3,2),(4,0),(5,0),(6,1),(7,0),(8,0),(9,1),(11,0),(12,1),(13,0),(14,1),(15,0),(10,2),(16,0),(17,0),(18,0)] [] ((hS0 _).2 ⟨C,P,K⟩) ?_;intro _hev;refine oX ?_;refine oL ?_;intro Kc hKc;generalize w1.drew=wd9 at *;go_step;refine mK (ch _) fun w2 k=>?_;replace C:=C.kpN k;replace P:=P.kpN k;replace K:=K.tN k;clear k;refine hKc _ _ ((hS0 _).2 ⟨C,P,K⟩) ?_;clear hKc Kc;refine oX ?_;refine oL ?_;intro Kc hKc;go_step;refine mK (cd _) fun w3 k=>?_;replace C:=C.kpN k;replace P:=P.kpN k;replace K:=K.tN k;clear k;refine hKc _ _ ((hS0 _).2 ⟨C,P,K⟩) ?_;clear hKc Kc;refine oX ?_;refine wpOrd_nil ?_;clear hevT _hev;clear cC cP hS0 hS1 S;go_wp2
  go_ret
  exact⟨rfl,K⟩
def AgrPost (S:Sky) (x:Sg) (p:Pt) (w:World) (e:Ending) (w':World):Prop:=(∃ r:Bool,e=.returned (.bool r)∧(r=true→S.okSg x∧(S.look x).agrees p=true))∧Kp w.heap.size none w w'
theorem sky_Agrees_any (A B C:Option Addr) (c e f:Nat) (S:Sky) (x:Sg) (p:Pt) (w:World) (hS:S.ok) (hA:SkyAt none w A B C S) :
  Calls Tryz.prog 33 #[.agg #[.slice A S.W.bs.length c,S.W.home,.slice B S.st.length e,.slice C S.ct.length f],x,.agg #[p.x,p.y]] w (AgrPost S x p w):=by
 have ck:=fun w h=>sky_CheckSight_any A B C c e f S x w hS h;have cn:=fun w=>sky_near_any p 33554432 oM w;unfold SgPost at ck;unfold AgrPost;by_cases hx:S.okSg x
 case neg=>
  have ck:∀ w,SkyAt none w A B C S→Calls Tryz.prog 78 #[.agg #[.slice A S.W.bs.length c,S.W.home,.slice B S.st.length e,.slice C S.ct.length f],x] w fun e9 w'=>(∃ v:Int,e9=.returned (.int .i64 v)∧(v==0)=false)∧Kp w.heap.size none w w':=fun w h=>(ck w h).mono fun e9 w' ⟨⟨v,h1,h2⟩,h3⟩=>⟨⟨v,h1,by
   cases q:v==0
   · rfl
   · exact absurd (h2.1 (by simpa using q)) hx⟩,h3⟩
  clear hx hS;obtain⟨w1,hw1,D,X,P,K,hz⟩:=box3 w 43 #[.slice A S.W.bs.length c,S.W.home,.slice B S.st.length e,.slice C S.ct.length f] 90 x 73 #[p.x,p.y];go_enter Tryz.func33,Tryz.ntmps33
  go_wp2_with fail
  rw[← hw1];clear hw1;obtain⟨S,hS0,hS1⟩:=cls_of2 (P:=fun w'=>Blk w' _ _ _∧Blk w' _ _ _∧Blk w' _ _ _∧Kp _ _ _ w') w1 ⟨D,X,P,K⟩;try dsimp only at hS0
  have cD:=fun (x:Ev (S 0)) i=>((hS0 _).1 x.h).1.cell i;have cX:=fun (x:Ev (S 0)) i=>((hS0 _).1 x.h).2.1.cell i;have cP:=fun (x:Ev (S 0)) i=>((hS0 _).1 x.h).2.2.1.cell i;replace D:=D.drew;replace X:=X.drew;replace P:=P.drew;replace K:=K.drew;have hevT:=ev_true;refine wro S [(0,1),(1,1),(2,2),(3,0),(4,0),(5,1),(6,2),(7,0),(8,0),(9,1),(10,1),(12,1),(11,2),(13,2),(14,0),(15,0)] [] ((hS0 _).2 ⟨D,X,P,K⟩) ?_;intro _hev;refine oX ?_;refine oL ?_;intro Kc hKc;generalize w1.drew=wd9 at *;go_step;refine(ck _ (hA.kpN K)).mono ?_;rintro e w2 ⟨⟨v,rfl,hv⟩,k⟩;replace D:=D.kpN k;replace X:=X.kpN k;replace P:=P.kpN k;replace K:=K.tN k;clear k;refine hKc _ _ ((hS0 _).2 ⟨D,X,P,K⟩) ?_;clear hKc Kc;refine oY ?_;refine oZ ?_;refine wpOrd_s2 (by decide) rfl rfl rfl ?_;intro Kc hKc;go_big_quiet_op
  go_big_quiet_on
  refine oY ?_;iterate 3 (refine oZ ?_)
  refine wpOrd_s2 (by decide) rfl rfl rfl ?_;intro Kc hKc;go_big_quiet_op
  go_big_quiet_on
  refine wpOrd_s2 (by decide) rfl rfl rfl ?_;intro Kc hKc;go_big_quiet_op
  go_big_quiet_on
  refine oX ?_;refine wpOrd_nil ?_;clear hevT _hev;clear cD cX cP hS0 hS1 S;go_wp2
  go_ret
  exact⟨⟨false,rfl,fun h=>by cases h⟩,K⟩
 have ck:∀ w,SkyAt none w A B C S→Calls Tryz.prog 78 #[.agg #[.slice A S.W.bs.length c,S.W.home,.slice B S.st.length e,.slice C S.ct.length f],x] w fun e9 w'=>e9=.returned (.int .i64 0)∧Kp w.heap.size none w w':=fun w h=>(ck w h).mono fun e9 w' ⟨⟨v,h1,h2⟩,h3⟩=>⟨by rw[h1,h2.2 hx],h3⟩;have cl:=fun w h=>sky_lookOf_any A B C c e f S x w hS h hx;have hsm:=S.look_sm hS hx;have hok:=Lib.hid hx
 have hnp:(btw p.x (-33554432) 33554432&&btw p.y (-33554432) 33554432)=true→NearV p:=fun h=>by
  simp only[btw,Bool.and_eq_true,decide_eq_true_eq] at h;exact⟨h.1.1,h.1.2,h.2.1,h.2.2⟩
 generalize (btw p.x (-33554432) 33554432&&btw p.y (-33554432) 33554432)=b at *;generalize S.look x=L at *;clear hx hS;obtain⟨w1,hw1,D,X,P,K,hz⟩:=box3 w 43 #[.slice A S.W.bs.length c,S.W.home,.slice B S.st.length e,.slice C S.ct.length f] 90 x 73 #[p.x,p.y];go_enter Tryz.func33,Tryz.ntmps33
 go_wp2_with fail
 rw[← hw1];clear hw1;cases b
 ·
  clear hnp hsm;obtain⟨S,hS0,hS1⟩:=cls_of2 (P:=fun w'=>Blk w' _ _ _∧Blk w' _ _ _∧Blk w' _ _ _∧Kp _ _ _ w') w1 ⟨D,X,P,K⟩;try dsimp only at hS0
  have cD:=fun (x:Ev (S 0)) i=>((hS0 _).1 x.h).1.cell i;have cX:=fun (x:Ev (S 0)) i=>((hS0 _).1 x.h).2.1.cell i;have cP:=fun (x:Ev (S 0)) i=>((hS0 _).1 x.h).2.2.1.cell i;replace D:=D.drew;replace X:=X.drew;replace P:=P.drew;replace K:=K.drew;have hevT:=ev_true;refine wro S [(0,1),(1,1),(2,2),(3,0),(4,0),(5,1),(6,2),(7,0),(8,0),(9,1),(10,1),(12,1),(11,2),(13,2),(14,0),(15,0)] [] ((hS0 _).2 ⟨D,X,P,K⟩) ?_;intro _hev;refine oX ?_;refine oL ?_;intro Kc hKc;generalize w1.drew=wd9 at *;go_step;refine mK (ck _ (hA.kpN K)) fun w2 k=>?_;replace D:=D.kpN k;replace X:=X.kpN k;replace P:=P.kpN k;replace K:=K.tN k;clear k;refine hKc _ _ ((hS0 _).2 ⟨D,X,P,K⟩) ?_;clear hKc Kc;refine oX ?_;refine oL ?_;intro Kc hKc;go_step;refine mK (cn _) fun w3 k=>?_;replace D:=D.kpN k;replace X:=X.kpN k;replace P:=P.kpN k;replace K:=K.tN k;clear k;refine hKc _ _ ((hS0 _).2 ⟨D,X,P,K⟩) ?_;clear hKc Kc;refine oY ?_;iterate 3 (refine oZ ?_)
  refine wpOrd_s2 (by decide) rfl rfl rfl ?_;intro Kc hKc;go_big_quiet_op
  go_big_quiet_on
  refine wpOrd_s2 (by decide) rfl rfl rfl ?_;intro Kc hKc;go_big_quiet_op
  go_big_quiet_on
  refine oX ?_;refine wpOrd_nil ?_;clear hevT _hev;clear cD cX cP hS0 hS1 S;go_wp2
  go_ret
  exact⟨⟨false,rfl,fun h=>by cases h⟩,K⟩
 have hp:=hnp rfl;clear hnp;cases L with
 | angle c=>
  have cg:=fun w=>angle_agrees_any c p hsm hp w;obtain⟨r,hr⟩:∃ q9,Hid (q9=(Look.angle c).agrees p):=⟨_,Lib.hid rfl⟩;rw[← hr.out] at cg;dsimp only[lookV] at cl;clear hp hsm;cases r
  ·
   obtain⟨S,hS0,hS1⟩:=cls_of2 (P:=fun w'=>Blk w' _ _ _∧Blk w' _ _ _∧Blk w' _ _ _∧Kp _ _ _ w') w1 ⟨D,X,P,K⟩;try dsimp only at hS0
   have cD:=fun (x:Ev (S 0)) i=>((hS0 _).1 x.h).1.cell i;have cX:=fun (x:Ev (S 0)) i=>((hS0 _).1 x.h).2.1.cell i;have cP:=fun (x:Ev (S 0)) i=>((hS0 _).1 x.h).2.2.1.cell i;replace D:=D.drew;replace X:=X.drew;replace P:=P.drew;replace K:=K.drew;have hevT:=ev_true;refine wro S [(0,1),(1,1),(2,2),(3,0),(4,0),(5,1),(6,2),(7,0),(8,0),(9,1),(10,1),(12,1),(11,2),(13,2),(14,0),(15,0)] [] ((hS0 _).2 ⟨D,X,P,K⟩) ?_;intro _hev;refine oX ?_;refine oL ?_;intro Kc hKc;generalize w1.drew=wd9 at *;go_step;refine mK (ck _ (hA.kpN K)) fun w2 k=>?_;replace D:=D.kpN k;replace X:=X.kpN k;replace P:=P.kpN k;replace K:=K.tN k;clear k;refine hKc _ _ ((hS0 _).2 ⟨D,X,P,K⟩) ?_;clear hKc Kc;refine oX ?_;refine oL ?_;intro Kc hKc;go_step;refine mK (cn _) fun w3 k=>?_;replace D:=D.kpN k;replace X:=X.kpN k;replace P:=P.kpN k;replace K:=K.tN k;clear k;refine hKc _ _ ((hS0 _).2 ⟨D,X,P,K⟩) ?_;clear hKc Kc;refine oX ?_;refine oL ?_;intro Kc hKc;go_step;refine mK (cl _ (hA.kpN K)) fun w4 k=>?_;replace D:=D.kpN k;replace X:=X.kpN k;replace P:=P.kpN k;replace K:=K.tN k;clear k;refine hKc _ _ ((hS0 _).2 ⟨D,X,P,K⟩) ?_;clear hKc Kc;refine oL ?_;intro Kc hKc;go_step;refine mK (cg _) fun w5 k=>?_;dsimp only[Act.put];simp only[sbt,sc0,scs];replace D:=D.kpN k;replace X:=X.kpN k;replace P:=P.kpN k;replace K:=K.tN k;clear k;refine hKc _ _ ((hS0 _).2 ⟨D,X,P,K⟩) ?_;clear hKc Kc;refine oX ?_;refine wpOrd_nil ?_;clear hevT _hev;clear cD cX cP hS0 hS1 S;go_wp2
   go_ret
   exact⟨⟨false,rfl,fun h=>by cases h⟩,K⟩
  ·
   obtain⟨S,hS0,hS1⟩:=cls_of2 (P:=fun w'=>Blk w' _ _ _∧Blk w' _ _ _∧Blk w' _ _ _∧Kp _ _ _ w') w1 ⟨D,X,P,K⟩;try dsimp only at hS0
   have cD:=fun (x:Ev (S 0)) i=>((hS0 _).1 x.h).1.cell i;have cX:=fun (x:Ev (S 0)) i=>((hS0 _).1 x.h).2.1.cell i;have cP:=fun (x:Ev (S 0)) i=>((hS0 _).1 x.h).2.2.1.cell i;replace D:=D.drew;replace X:=X.drew;replace P:=P.drew;replace K:=K.drew;have hevT:=ev_true;refine wro S [(0,1),(1,1),(2,2),(3,0),(4,0),(5,1),(6,2),(7,0),(8,0),(9,1),(10,1),(12,1),(11,2),(13,2),(14,0),(15,0)] [] ((hS0 _).2 ⟨D,X,P,K⟩) ?_;intro _hev;refine oX ?_;refine oL ?_;intro Kc hKc;generalize w1.drew=wd9 at *;go_step;refine mK (ck _ (hA.kpN K)) fun w2 k=>?_;replace D:=D.kpN k;replace X:=X.kpN k;replace P:=P.kpN k;replace K:=K.tN k;clear k;refine hKc _ _ ((hS0 _).2 ⟨D,X,P,K⟩) ?_;clear hKc Kc;refine oX ?_;refine oL ?_;intro Kc hKc;go_step;refine mK (cn _) fun w3 k=>?_;replace D:=D.kpN k;replace X:=X.kpN k;replace P:=P.kpN k;replace K:=K.tN k;clear k;refine hKc _ _ ((hS0 _).2 ⟨D,X,P,K⟩) ?_;clear hKc Kc;refine oX ?_;refine oL ?_;intro Kc hKc;go_step;refine mK (cl _ (hA.kpN K)) fun w4 k=>?_;replace D:=D.kpN k;replace X:=X.kpN k;replace P:=P.kpN k;replace K:=K.tN k;clear k;refine hKc _ _ ((hS0 _).2 ⟨D,X,P,K⟩) ?_;clear hKc Kc;refine oL ?_;intro Kc hKc;go_step;refine mK (cg _) fun w5 k=>?_;dsimp only[Act.put];simp only[sbt,sc0,scs];replace D:=D.kpN k;replace X:=X.kpN k;replace P:=P.kpN k;replace K:=K.tN k;clear k;refine hKc _ _ ((hS0 _).2 ⟨D,X,P,K⟩) ?_;clear hKc Kc;refine oX ?_;refine wpOrd_nil ?_;clear hevT _hev;clear cD cX cP hS0 hS1 S;go_wp2
   go_ret
   exact⟨⟨true,rfl,fun _=>⟨hok.out,hr.out.symm⟩⟩,K⟩
 | reach fx fy lo hi=>
  have cg:=fun w=>reach_agrees_any fx fy lo hi p hsm.1 hsm.2 hp w;obtain⟨r,hr⟩:∃ q9,Hid (q9=(Look.reach fx fy lo hi).agrees p):=⟨_,Lib.hid rfl⟩;rw[← hr.out] at cg;dsimp only[lookV] at cl;clear hp hsm;cases r
  ·
   obtain⟨S,hS0,hS1⟩:=cls_of2 (P:=fun w'=>Blk w' _ _ _∧Blk w' _ _ _∧Blk w' _ _ _∧Kp _ _ _ w') w1 ⟨D,X,P,K⟩;try dsimp only at hS0
   have cD:=fun (x:Ev (S 0)) i=>((hS0 _).1 x.h).1.cell i;have cX:=fun (x:Ev (S 0)) i=>((hS0 _).1 x.h).2.1.cell i;have cP:=fun (x:Ev (S 0)) i=>((hS0 _).1 x.h).2.2.1.cell i;replace D:=D.drew;replace X:=X.drew;replace P:=P.drew;replace K:=K.drew;have hevT:=ev_true;refine wro S [(0,1),(1,1),(2,2),(3,0),(4,0),(5,1),(6,2),(7,0),(8,0),(9,1),(10,1),(12,1),(11,2),(13,2),(14,0),(15,0)] [] ((hS0 _).2 ⟨D,X,P,K⟩) ?_;intro _hev;refine oX ?_;refine oL ?_;intro Kc hKc;generalize w1.drew=wd9 at *;go_step;refine mK (ck _ (hA.kpN K)) fun w2 k=>?_;replace D:=D.kpN k;replace X:=X.kpN k;replace P:=P.kpN k;replace K:=K.tN k;clear k;refine hKc _ _ ((hS0 _).2 ⟨D,X,P,K⟩) ?_;clear hKc Kc;refine oX ?_;refine oL ?_;intro Kc hKc;go_step;refine mK (cn _) fun w3 k=>?_;replace D:=D.kpN k;replace X:=X.kpN k;replace P:=P.kpN k;replace K:=K.tN k;clear k;refine hKc _ _ ((hS0 _).2 ⟨D,X,P,K⟩) ?_;clear hKc Kc;refine oX ?_;refine oL ?_;intro Kc hKc;go_step;refine mK (cl _ (hA.kpN K)) fun w4 k=>?_;replace D:=D.kpN k;replace X:=X.kpN k;replace P:=P.kpN k;replace K:=K.tN k;clear k;refine hKc _ _ ((hS0 _).2 ⟨D,X,P,K⟩) ?_;clear hKc Kc;refine oL ?_;intro Kc hKc;go_step;refine mK (cg _) fun w5 k=>?_;dsimp only[Act.put];simp only[sbt,sc0,scs];replace D:=D.kpN k;replace X:=X.kpN k;replace P:=P.kpN k;replace K:=K.tN k;clear k;refine hKc _ _ ((hS0 _).2 ⟨D,X,P,K⟩) ?_;clear hKc Kc;refine oX ?_;refine wpOrd_nil ?_;clear hevT _hev;clear cD cX cP hS0 hS1 S;go_wp2
   go_ret
   exact⟨⟨false,rfl,fun h=>by cases h⟩,K⟩
  ·
   obtain⟨S,hS0,hS1⟩:=cls_of2 (P:=fun w'=>Blk w' _ _ _∧Blk w' _ _ _∧Blk w' _ _ _∧Kp _ _ _ w') w1 ⟨D,X,P,K⟩;try dsimp only at hS0
   have cD:=fun (x:Ev (S 0)) i=>((hS0 _).1 x.h).1.cell i;have cX:=fun (x:Ev (S 0)) i=>((hS0 _).1 x.h).2.1.cell i;have cP:=fun (x:Ev (S 0)) i=>((hS0 _).1 x.h).2.2.1.cell i;replace D:=D.drew;replace X:=X.drew;replace P:=P.drew;replace K:=K.drew;have hevT:=ev_true;refine wro S [(0,1),(1,1),(2,2),(3,0),(4,0),(5,1),(6,2),(7,0),(8,0),(9,1),(10,1),(12,1),(11,2),(13,2),(14,0),(15,0)] [] ((hS0 _).2 ⟨D,X,P,K⟩) ?_;intro _hev;refine oX ?_;refine oL ?_;intro Kc hKc;generalize w1.drew=wd9 at *;go_step;refine mK (ck _ (hA.kpN K)) fun w2 k=>?_;replace D:=D.kpN k;replace X:=X.kpN k;replace P:=P.kpN k;replace K:=K.tN k;clear k;refine hKc _ _ ((hS0 _).2 ⟨D,X,P,K⟩) ?_;clear hKc Kc;refine oX ?_;refine oL ?_;intro Kc hKc;go_step;refine mK (cn _) fun w3 k=>?_;replace D:=D.kpN k;replace X:=X.kpN k;replace P:=P.kpN k;replace K:=K.tN k;clear k;refine hKc _ _ ((hS0 _).2 ⟨D,X,P,K⟩) ?_;clear hKc Kc;refine oX ?_;refine oL ?_;intro Kc hKc;go_step;refine mK (cl _ (hA.kpN K)) fun w4 k=>?_;replace D:=D.kpN k;replace X:=X.kpN k;replace P:=P.kpN k;replace K:=K.tN k;clear k;refine hKc _ _ ((hS0 _).2 ⟨D,X,P,K⟩) ?_;clear hKc Kc;refine oL ?_;intro Kc hKc;go_step;refine mK (cg _) fun w5 k=>?_;dsimp only[Act.put];simp only[sbt,sc0,scs];replace D:=D.kpN k;replace X:=X.kpN k;replace P:=P.kpN k;replace K:=K.tN k;clear k;refine hKc _ _ ((hS0 _).2 ⟨D,X,P,K⟩) ?_;clear hKc Kc;refine oX ?_;refine wpOrd_nil ?_;clear hevT _hev;clear cD cX cP hS0 hS1 S;go_wp2
   go_ret
   exact⟨⟨true,rfl,fun _=>⟨hok.out,hr.out.symm⟩⟩,K⟩
 | empty c hi=>
  have cg:=fun w=>empty_agrees_any c hi p hsm.1 hsm.2 hp w;obtain⟨r,hr⟩:∃ q9,Hid (q9=(Look.empty c hi).agrees p):=⟨_,Lib.hid rfl⟩;rw[← hr.out] at cg;dsimp only[lookV] at cl;clear hp hsm;cases r
  ·
   obtain⟨S,hS0,hS1⟩:=cls_of2 (P:=fun w'=>Blk w' _ _ _∧Blk w' _ _ _∧Blk w' _ _ _∧Kp _ _ _ w') w1 ⟨D,X,P,K⟩;try dsimp only at hS0
   have cD:=fun (x:Ev (S 0)) i=>((hS0 _).1 x.h).1.cell i;have cX:=fun (x:Ev (S 0)) i=>((hS0 _).1 x.h).2.1.cell i;have cP:=fun (x:Ev (S 0)) i=>((hS0 _).1 x.h).2.2.1.cell i;replace D:=D.drew;replace X:=X.drew;replace P:=P.drew;replace K:=K.drew;have hevT:=ev_true;refine wro S [(0,1),(1,1),(2,2),(3,0),(4,0),(5,1),(6,2),(7,0),(8,0),(9,1),(10,1),(12,1),(11,2),(13,2),(14,0),(15,0)] [] ((hS0 _).2 ⟨D,X,P,K⟩) ?_;intro _hev;refine oX ?_;refine oL ?_;intro Kc hKc;generalize w1.drew=wd9 at *;go_step;refine mK (ck _ (hA.kpN K)) fun w2 k=>?_;replace D:=D.kpN k;replace X:=X.kpN k;replace P:=P.kpN k;replace K:=K.tN k;clear k;refine hKc _ _ ((hS0 _).2 ⟨D,X,P,K⟩) ?_;clear hKc Kc;refine oX ?_;refine oL ?_;intro Kc hKc;go_step;refine mK (cn _) fun w3 k=>?_;replace D:=D.kpN k;replace X:=X.kpN k;replace P:=P.kpN k;replace K:=K.tN k;clear k;refine hKc _ _ ((hS0 _).2 ⟨D,X,P,K⟩) ?_;clear hKc Kc;refine oX ?_;refine oL ?_;intro Kc hKc;go_step;refine mK (cl _ (hA.kpN K)) fun w4 k=>?_;replace D:=D.kpN k;replace X:=X.kpN k;replace P:=P.kpN k;replace K:=K.tN k;clear k;refine hKc _ _ ((hS0 _).2 ⟨D,X,P,K⟩) ?_;clear hKc Kc;refine oL ?_;intro Kc hKc;go_step;refine mK (cg _) fun w5 k=>?_;dsimp only[Act.put];simp only[sbt,sc0,scs];replace D:=D.kpN k;replace X:=X.kpN k;replace P:=P.kpN k;replace K:=K.tN k;clear k;refine hKc _ _ ((hS0 _).2 ⟨D,X,P,K⟩) ?_;clear hKc Kc;refine oX ?_;refine wpOrd_nil ?_;clear hevT _hev;clear cD cX cP hS0 hS1 S;go_wp2
   go_ret
   exact⟨⟨false,rfl,fun h=>by cases h⟩,K⟩
  ·
   obtain⟨S,hS0,hS1⟩:=cls_of2 (P:=fun w'=>Blk w' _ _ _∧Blk w' _ _ _∧Blk w' _ _ _∧Kp _ _ _ w') w1 ⟨D,X,P,K⟩;try dsimp only at hS0
   have cD:=fun (x:Ev (S 0)) i=>((hS0 _).1 x.h).1.cell i;have cX:=fun (x:Ev (S 0)) i=>((hS0 _).1 x.h).2.1.cell i;have cP:=fun (x:Ev (S 0)) i=>((hS0 _).1 x.h).2.2.1.cell i;replace D:=D.drew;replace X:=X.drew;replace P:=P.drew;replace K:=K.drew;have hevT:=ev_true;refine wro S [(0,1),(1,1),(2,2),(3,0),(4,0),(5,1),(6,2),(7,0),(8,0),(9,1),(10,1),(12,1),(11,2),(13,2),(14,0),(15,0)] [] ((hS0 _).2 ⟨D,X,P,K⟩) ?_;intro _hev;refine oX ?_;refine oL ?_;intro Kc hKc;generalize w1.drew=wd9 at *;go_step;refine mK (ck _ (hA.kpN K)) fun w2 k=>?_;replace D:=D.kpN k;replace X:=X.kpN k;replace P:=P.kpN k;replace K:=K.tN k;clear k;refine hKc _ _ ((hS0 _).2 ⟨D,X,P,K⟩) ?_;clear hKc Kc;refine oX ?_;refine oL ?_;intro Kc hKc;go_step;refine mK (cn _) fun w3 k=>?_;replace D:=D.kpN k;replace X:=X.kpN k;replace P:=P.kpN k;replace K:=K.tN k;clear k;refine hKc _ _ ((hS0 _).2 ⟨D,X,P,K⟩) ?_;clear hKc Kc;refine oX ?_;refine oL ?_;intro Kc hKc;go_step;refine mK (cl _ (hA.kpN K)) fun w4 k=>?_;replace D:=D.kpN k;replace X:=X.kpN k;replace P:=P.kpN k;replace K:=K.tN k;clear k;refine hKc _ _ ((hS0 _).2 ⟨D,X,P,K⟩) ?_;clear hKc Kc;refine oL ?_;intro Kc hKc;go_step;refine mK (cg _) fun w5 k=>?_;dsimp only[Act.put];simp only[sbt,sc0,scs];replace D:=D.kpN k;replace X:=X.kpN k;replace P:=P.kpN k;replace K:=K.tN k;clear k;refine hKc _ _ ((hS0 _).2 ⟨D,X,P,K⟩) ?_;clear hKc Kc;refine oX ?_;refine wpOrd_nil ?_;clear hevT _hev;clear cD cX cP hS0 hS1 S;go_wp2
   go_ret
   exact⟨⟨true,rfl,fun _=>⟨hok.out,hr.out.symm⟩⟩,K⟩
end Go.Proofs.YtdhiappifnflpaaGreat
