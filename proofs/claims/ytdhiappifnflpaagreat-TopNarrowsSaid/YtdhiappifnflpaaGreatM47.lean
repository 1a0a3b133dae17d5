/- The statements' common start: truth. The statements' common start: watched. Equal boxes; small words for the statements' walks. -/
import Derived.Test.YtdhiappifnflpaaGreatM46
import Derived.Test.YtdhiappifnflpaaGreatZm
import Derived.Test.YtdhiappifnflpaaGreatWl
import Derived.Laws.StructEq
namespace Go.Proofs.YtdhiappifnflpaaGreat
open Go.RowKit
def TrP (W:Wd) (d:Dr) (t:Int) (b:Bx) (n N:Nat) (v:Value) (w':World):Prop:=
 ∃ (A:Option Addr) (cap:Nat) (l:List St) (z:St) (ok:Bool),v=.tuple #[.slice A l.length cap,.bool ok]∧l.length=n+1∧l.head?=some z∧b.has z∧Rd none w' 4 encSt A l.length l∧(ok=true→TruthW W d t l)∧∀ ad,A=some ad→N≤ad.block
set_option maxRecDepth 100000 in
set_option maxHeartbeats 4000000 in
theorem truth_any (g:Nat) (nums:List Int) (k:Nat) (A:Option Addr) (c:Nat) (W:Wd) (d:Dr) (t:Int) (b:Bx) (n:Nat) (w:World) (HR:RingAt w g nums k) (hk:k≤700000) (hn:n≤900) (hW:W.ok) (hA:WdAt (some g) w A W) (hd:d.ok) (ht:0≤t∧t≤1000) (hb:okBx b=true) :
  Calls Tryz.prog 7 #[.pointer (some ⟨g,0,none⟩),.agg #[.slice A W.bs.length c,.int .i64 W.home],.agg #[.int .i64 d.light.lo,.int .i64 d.light.hi,.int .i64 d.heat.lo,.int .i64 d.heat.hi,.int .i64 d.gas],.int .i64 t,.agg #[.int .i64 b.x.lo,.int .i64 b.x.hi,.int .i64 b.y.lo,.int .i64 b.y.hi,.int .i64 b.u.lo,.int .i64 b.u.hi,.int .i64 b.v.lo,.int .i64 b.v.hi],.int .i64 n] w (RPostB g nums (k+8+8 * n) w (TrP W d t b n w.heap.size)):=by
 have hg:=HR.lt;have cs:=fun k w HR hk=>stateIn_any g nums k b w HR hk hb;have ct:=fun k z w HR hk h=>truthOf_any g nums k A c W d t z n w HR hk (by omega) hW h hd ht;have co:=fun B m l w h hr hl=>orbit_Truth_any A c W d t B m l w hW h hd (by omega) hr hl;clear hW hd ht hb;obtain⟨w1,hw1,M,G,X,K,hz⟩:=box3 w 27 #[.slice A W.bs.length c,.int .i64 W.home] 31 #[.int .i64 d.light.lo,.int .i64 d.light.hi,.int .i64 d.heat.lo,.int .i64 d.heat.hi,.int .i64 d.gas] 33 #[.int .i64 b.x.lo,.int .i64 b.x.hi,.int .i64 b.y.lo,.int .i64 b.y.hi,.int .i64 b.u.lo,.int .i64 b.u.hi,.int .i64 b.v.lo,.int .i64 b.v.hi];replace HR:=HR.kpN K;replace K:=K.wide (some g);go_enter Tryz.func7,Tryz.ntmps7
 go_wp2_with fail
 rw[← hw1];clear hw1;obtain⟨S,hS0,hS1⟩:=cls_of2 (P:=fun w'=>Blk w' _ _ _∧Blk w' _ _ _∧Blk w' _ _ _∧Kp _ _ _ w') w1 ⟨M,G,X,K⟩;try dsimp only at hS0
 have cM:=fun (x:Ev (S 0)) i=>((hS0 _).1 x.h).1.cell i;have cG:=fun (x:Ev (S 0)) i=>((hS0 _).1 x.h).2.1.cell i;have cX:=fun (x:Ev (S 0)) i=>((hS0 _).1 x.h).2.2.1.cell i;replace M:=M.drew;replace G:=G.drew;replace X:=X.drew;replace K:=K.drew;replace HR:=HR.drew;have hevT:=ev_true;refine wp_region_ord S [(0,0),(1,1),(2,1),(3,0),(4,0),(5,1),(7,0),(6,2),(8,2),(9,0)] [] (by kernel_rfl) (by kernel_rfl) ((hS0 _).2 ⟨M,G,X,K⟩) ?_;intro _hev;iterate 7 (first|((first|refine oV ?_|refine oQ ?_);intro K hK;go_big_quiet_op;go_big_quiet_on)|refine oS ?_)
 refine oL ?_;intro Kc hKc;generalize w1.drew=wd9 at *;go_step;refine(cs k _ HR (by omega)).mono ?_;rintro e w2 ⟨v9,k1,rfl,⟨z,rfl,hzb⟩,hk1,HR9,k⟩;replace M:=M.kq k (by omega);replace G:=G.kq k (by omega);replace X:=X.kq k (by omega);replace K:=K.then_ k (Nat.le_refl _);replace HR:=HR9;clear k HR9;have hzr_w2:=K.size;refine hKc _ _ ((hS0 _).2 ⟨M,G,X,K⟩) ?_;clear hKc Kc;refine oL ?_;intro Kc hKc;go_step;refine(ct k1 z _ HR (by omega) (hA.kp K)).mono ?_;rintro e w3 ⟨v9,k2,rfl,⟨A2,cap2,l,rfl,hll,hlh,rd,hfr⟩,hk2,HR9,k⟩;replace M:=M.kq k (by omega);replace G:=G.kq k (by omega);replace X:=X.kq k (by omega);replace K:=K.then_ k (Nat.le_refl _);replace HR:=HR9;clear k HR9;have hzr_w3:=K.size;refine hKc _ _ ((hS0 _).2 ⟨M,G,X,K⟩) ?_;clear hKc Kc;iterate 1 (first|((first|refine oV ?_|refine oQ ?_);intro K hK;go_big_quiet_op;go_big_quiet_on)|refine oS ?_)
 refine wpOrd_nil ?_;clear hevT _hev;clear cM cG cX hS0 hS1 S;have hfr2:∀ ad,A2=some ad→w.heap.size≤ad.block:=fun ad h=>by have:=hfr ad h;omega
 replace hfr2:=Lib.hid hfr2;clear hfr;have cM:=M.cell;have cG:=G.cell;replace hll:=Lib.hid hll;go_wp2_with fail
 refine(co A2 cap2 l _ (hA.kp K).free rd (by have:=hll.out;omega)).mono ?_;rintro e w4 ⟨⟨v,rfl,hv⟩,q⟩;clear cM cG;replace rd:=rd.kpN q;replace HR:=HR.kpN q;replace K:=K.tN q;clear q co cs ct M G X hz;by_cases h:v=-1
 ·
  replace hv:=Lib.hid (hv h);subst h;go_wp2_with fail
  exact bodyPost_ret (v:=.tuple #[.slice A2 l.length cap2,.bool true]) (by simp[results,Tryz.results7,go_sem]) rfl ⟨_,k2,rfl,⟨A2,cap2,l,z,true,rfl,hll.out,hlh,hzb,rd,fun _=>hv.out,hfr2.out⟩,by omega,HR,K⟩
 ·
  go_wp2_with fail
  exact bodyPost_ret (v:=.tuple #[.slice A2 l.length cap2,.bool false]) (by simp[results,Tryz.results7,go_sem,h]) rfl ⟨_,k2,rfl,⟨A2,cap2,l,z,false,rfl,hll.out,hlh,hzb,rd,fun h=>(by cases h),hfr2.out⟩,by omega,HR,K⟩
theorem Rd.kpNe {α:Type} {row:Option Nat} {w w':World} {sz n r:Nat} {enc:α→List Value} {A:Option Addr} {xs:List α} (h:Rd row w sz enc A n xs) (k:Kp w.heap.size (some r) w w') (hne:∀ ad,A=some ad→ad.block≠r):Rd row w' sz enc A n xs:=by
 refine⟨h.1,fun hn=>?_⟩;obtain⟨b,o,rfl,hb,hr,hc⟩:=h.2 hn;exact⟨b,o,rfl,Nat.lt_of_lt_of_le hb k.size,hr,fun i hi j v hv=>(k.cell b _ hb (sne (hne _ rfl))).trans (hc i hi j v hv)⟩
def SgtOk (S:Sky) (t:Int) (l:List St) (n:Nat) (x:Sg):Prop:=S.okSg x∧∃ i:Nat,i≤n∧x.tick=t+i∧(S.look x).agrees ⟨(nth l i).x,(nth l i).y⟩=true
def WatP (g:Nat) (A:Option Addr) (c:Nat) (W:Wd) (t:Int) (l:List St) (n:Nat) (v:Value) (w':World):Prop:=
 ∃ (S:Sky) (B:Option Addr) (e:Nat) (C:Option Addr) (f:Nat) (G:Option Addr) (m:Nat) (gs:List Sg),v=.tuple #[.agg #[.slice A S.W.bs.length c,.int .i64 S.W.home,.slice B S.st.length e,.slice C S.ct.length f],.slice G gs.length m]∧S.W=W∧S.ok∧SkyAt (some g) w' A B C S∧Rd (some g) w' 9 encSg G gs.length gs∧gs.length≤n+1∧∀ x∈gs,SgtOk S t l n x
def WaAt (g:Nat) (nums:List Int) (k:Nat) (A:Option Addr) (c:Nat) (B:Option Addr) (e:Nat) (C:Option Addr) (f:Nat) (S:Sky) (t:Int) (l:List St) (n rb sb:Nat) (w2:World) (v13 v14:Value) (wr:World):Prop:=
 ∃ (i:Nat) (gs:List Sg) (k':Nat),v14=.int .i64 i∧i≤n+1∧i≤l.length∧gs.length≤i∧(∀ x∈gs,SgtOk S t l n x)∧Own wr (sb+1) 90 9 encSg v13 gs∧Blk wr sb 43 #[.slice A S.W.bs.length c,.int .i64 S.W.home,.slice B S.st.length e,.slice C S.ct.length f] ∧
  Blk wr rb 43 #[.slice none 0 0,.int .i64 0,.slice none 0 0,.slice none 0 0]∧RingAt wr g nums k'∧k'≤k+10 * i∧Kp w2.heap.size (some g) w2 wr
set_option maxRecDepth 100000 in
set_option maxHeartbeats 8000000 in
theorem watched_any (g:Nat) (nums:List Int) (k:Nat) (A:Option Addr) (c:Nat) (W:Wd) (t:Int) (L:Option Addr) (m:Nat) (l:List St) (n:Nat) (w:World) (HR:RingAt w g nums k) (hk:k≤700000) (hW:W.ok) (hA:WdAt (some g) w A W)
  (ht:0≤t∧t≤1000) (hl:Rd (some g) w 4 encSt L l.length l) (hll:l.length≤1000) (hok:∀ s∈l,okSt s=true) (hn:n≤50) :
  Calls Tryz.prog 9 #[.pointer (some ⟨g,0,none⟩),.agg #[.slice A W.bs.length c,.int .i64 W.home],.int .i64 t,.slice L l.length m,.int .i64 n] w (RPostB g nums (k+100+10 * (n+1)) w (WatP g A c W t l n)):=by
 have hg:=HR.lt;obtain⟨w1,hw1,M,R,K,hz⟩:=box2 w 27 #[.slice A W.bs.length c,.int .i64 W.home] 43 #[.slice none 0 0,.int .i64 0,.slice none 0 0,.slice none 0 0];replace HR:=HR.kpN K;replace K:=K.wide (some g);go_enter Tryz.func9,Tryz.ntmps9
 go_wp2_with fail
 rw[← hw1];clear hw1;refine(skyOf_any g nums k _ HR (by omega)).mono ?_;rintro e w2 ⟨v9,k',rfl,⟨A1,n1,c1,h1,B,e1,st,i1,D,f1,ct,j1,rfl,rds,rdc,hst,hct,hs1,⟨hs2,hs3⟩,fs,fc⟩,hk',HR2,k2⟩;replace M:=M.kq k2 (by omega);replace R:=R.kq k2 (by omega);replace K:=K.then_ k2 (Nat.le_refl _);clear HR k2;have HR:=HR2;clear HR2;obtain⟨S,hSW,hSs,hSc⟩:∃ S:Sky,S.W=W∧S.st=st∧S.ct=ct:=⟨⟨W,st,ct⟩,rfl,rfl,rfl⟩;have hS:S.ok:=⟨by rw[hSW];exact hW,by rw[hSs];omega,by rw[hSs];omega,by rw[hSs];exact hst.asc,by rw[hSs];exact hst.off,by rw[hSc];omega,by rw[hSc];omega,by rw[hSc];exact hct.asc,by rw[hSc];exact hct.b⟩;subst hSW hSs hSc;have hz2:=hz;have hSA:SkyAt (some g) w2 A B D S:=⟨hA.kp K,rds,rdc⟩;have hl2:=hl.kp K;have hA0:=Lib.hid hA;clear rds rdc hst hct hs1 hs2 hs3 hA hl hW;have hRz:=R.lt;have SB0:=Blk.new w2 43 #[.slice A1 n1 c1,.int .i64 h1,.slice B S.st.length e1,.slice D S.ct.length f1];have KO:=K;clear K;have K:=(Kp.refl w2.heap.size (some g) w2).alloc (Nat.le_refl _) (.cells #[.slice A1 n1 c1,.int .i64 h1,.slice B S.st.length e1,.slice D S.ct.length f1] 43);replace M:=M.alloc (.cells #[.slice A1 n1 c1,.int .i64 h1,.slice B S.st.length e1,.slice D S.ct.length f1] 43);replace R:=R.alloc (.cells #[.slice A1 n1 c1,.int .i64 h1,.slice B S.st.length e1,.slice D S.ct.length f1] 43);replace HR:=HR.alloc (.cells #[.slice A1 n1 c1,.int .i64 h1,.slice B S.st.length e1,.slice D S.ct.length f1] 43);go_upto_region 2 with(fail)
 generalize w2.alloc (.cells #[.slice A1 n1 c1,.int .i64 h1,.slice B S.st.length e1,.slice D S.ct.length f1] 43)=w3 at *;obtain⟨sb,hsb⟩:∃ sb,sb=w2.heap.size:=⟨_,rfl⟩;rw[← hsb] at SB0 ⊢;have hsb2:w.heap.size+2≤sb:=by omega
 have hsb3:w2.heap.size≤sb:=by omega
 have hsb4:sb≤w2.heap.size:=by omega
 have hg2:g<w2.heap.size:=by omega
 clear hsb;obtain⟨w4,hw4,SB,kst,hzst⟩:=SB0.st2 (.slice A S.W.bs.length c) (.int .i64 S.W.home);simp only[sbt,sc0,scs] at SB;have cM:=M.cell;have cS:=SB0.cell;have fS:=SB0.frozen;go_wp2_with fail
 rw[← hw4];replace R:=R.kq kst (by omega);replace HR:=HR.kpRow kst (by omega);replace K:=K.thenOwn kst (Nat.le_refl _) (by omega);clear cM cS fS hw4 kst hzst SB0 M;go_loopw [13,14] (fun v13 v14 wr=>WaAt g nums k' A c B e1 D f1 S t l n (w.heap.size+1) sb w2 v13 v14 wr) (fun _ v14 _=>n+1-(intOf v14).toNat)
 case atStart=>exact⟨0,[],k',rfl,by omega,by omega,by simp,by simp,Own.nil _ _ _ _ _,SB,R,HR,by omega,K⟩
 case round=>
  clear SB R HR K;obtain⟨i,gs,k3,rfl,hi1,hi2,hgl,hgs,ow,SB,R,HR,hk3,K⟩:=hrel;by_cases h:i≤n∧i<l.length
  ·
   obtain⟨h1i,h2i⟩:=h;have hii:(i:Int)≤(n:Int):=by omega
   have hij:(i:Int)<(l.length:Int):=by omega
   obtain⟨bb,o,hLe,hlt,hbg,hcc⟩:=hl2.at_ (by omega);have d0:=hcc i h2i 0 _ rfl;have d1:=hcc i h2i 1 _ rfl;rw[Nat.add_zero] at d0;rw[← Nat.add_assoc] at d1;have hst:=hok _ (List.getElem_mem h2i);have hnth:=Lib.hid (nth_eq h2i);unfold okSt at hst;simp only[decide_eq_true_eq] at hst;generalize l[i]=z at *;have hbg2:bb≠g:=fun e=>hbg (by rw[e]);have hi0:¬ (i:Int)<0:=by omega
   have hbd:(i:Int)≤1000:=by omega
   have hm:n+1-(i+1)<n+1-i:=by omega
   have hk7:k3≤790000:=by omega
   replace hm:=Lib.hid hm;replace hgs:=Lib.hid hgs;replace hk3:=Lib.hid hk3;subst hLe;clear hcc hbg;have hsl:=SB.lt;go_upto_region 7 with(fail)
   replace d0:=(K.cell _ _ hlt (sne hbg2)).trans d0;replace d1:=(K.cell _ _ hlt (sne hbg2)).trans d1;have hlt2:bb<wr.heap.size:=Nat.lt_of_lt_of_le hlt K.size;have hg3:=HR.lt;have K2:=K;clear K;have K:=Kp.refl wr.heap.size none wr;obtain⟨S,hS0,hS1⟩:=cls_of2 (P:=fun w'=>Kp _ _ _ w') wr K;try dsimp only at hS0
   have q0:=fun (x:Ev (S 0))=>((((hS0 _).1 x.h)).cell _ _ hlt2 (by first|(simp;done)|exact sne (by omega))).trans d0;have q1:=fun (x:Ev (S 0))=>((((hS0 _).1 x.h)).cell _ _ hlt2 (by first|(simp;done)|exact sne (by omega))).trans d1;replace K:=K.drew;have hevT:=ev_true;refine wp_region_ord S [(0,0),(1,0),(2,0),(3,0),(4,1),(5,0),(6,0),(7,0),(8,0),(9,1),(10,0),(11,2),(12,3)] [12] (by kernel_rfl) (by kernel_rfl) ((hS0 _).2 K) ?_;intro _hev;iterate 11 (first|((first|refine oV ?_|refine oQ ?_);intro K hK;go_big_quiet_op;go_big_quiet_on)|refine oS ?_)
   refine oL ?_;intro Kc hKc;generalize wr.drew=wd9 at *;go_step;have PB:=Blk.new wd9 73 #[.int .i64 0,.int .i64 0];have gpbK:=K.size;replace K:=K.alloc (by have:=K.size;omega) (.cells #[.int .i64 0,.int .i64 0] 73);refine hKc _ _ ((hS0 _).2 K) ?_;clear hKc Kc;obtain⟨pb,hpb⟩:∃ q9,q9=wd9.heap.size:=⟨_,rfl⟩;generalize wd9.alloc (.cells #[.int .i64 0,.int .i64 0] 73)=w5 at *;rw[← hpb] at PB gpbK ⊢;replace hpb:=Lib.hid hpb;refine oA ?_;intro Kc hKc;have cR:=PB.cell;have fR:=PB.frozen;go_step;obtain⟨w6,hwn,RB9,kst,hzst⟩:=PB.st2 (.int .i64 z.x) (.int .i64 z.y);rw[← hwn];clear hwn cR fR;refine hKc _ _ ((hS1 _).2 trivial) ?_;clear hKc Kc;first|replace K:=K.thenOwn kst (Nat.le_refl _) (by omega)|replace K:=K.then_ kst (Nat.le_refl _)
   replace PB:=RB9;clear RB9 kst;simp only[sbt,sc0,scs] at PB;change wpOrd _ _ _ _ _ 1 _ _;refine wpOrd_nil ?_;clear hevT _hev;clear q0 q1;clear hS0 hS1 S;replace SB:=SB.kpN K;replace R:=R.kpN K;replace HR:=HR.kpN K;replace ow:=ow.kpN K;replace K:=K2.tN K;have hgr:=hg3;clear K2 d0 d1 hlt2;have hRl:=R.lt;have cS:=SB.cell;have cP:=PB.cell;have ew:wrap64 (t+(i:Int))=t+(i:Int):=by unfold wrap64;omega
   go_wp2_with fail
   clear cS cP;refine(sightOf_any g nums k3 A B D c e1 f1 S (t+(i:Int)) ⟨z.x,z.y⟩ _ HR (by omega) hS ((hSA.1).kp K) (hSA.2.1.kp K) (hSA.2.2.kp K) (by omega) ⟨hst.1,hst.2.1,hst.2.2.1,hst.2.2.2.1⟩).mono ?_;rintro e w7 ⟨v9,k4,rfl,⟨x,rfl,hxt⟩,hk4,HR2,k2⟩;replace hxt:=Lib.hid hxt;have hpbl:=PB.lt;have hzk:=K.size;replace SB:=SB.kq k2 (by omega);replace R:=R.kq k2 (by omega);replace PB:=PB.kq k2 (by omega);replace ow:=ow.kp k2 (fun b9 hb9=>sne (by omega));replace K:=K.then_ k2 (Nat.le_refl _);clear HR k2 ew;have HR:=HR2;clear HR2;have hzk:=K.size;replace HR:=HR.alloc (.cells #[.int .i64 x.kind,.int .i64 x.stn,.int .i64 x.cat,.int .i64 x.tick,.int .i64 x.dx,.int .i64 x.dy,.int .i64 x.err,.int .i64 x.lo,.int .i64 x.hi] 90);replace ow:=ow.alloc (.cells #[.int .i64 x.kind,.int .i64 x.stn,.int .i64 x.cat,.int .i64 x.tick,.int .i64 x.dx,.int .i64 x.dy,.int .i64 x.err,.int .i64 x.lo,.int .i64 x.hi] 90);have pSB:=SB.cell;have pR:=R.cell;have pPB:=PB.cell;obtain⟨w9_,rfl,XB,k9_,hzn⟩:=box1 w7 90 #[.int .i64 x.kind,.int .i64 x.stn,.int .i64 x.cat,.int .i64 x.tick,.int .i64 x.dx,.int .i64 x.dy,.int .i64 x.err,.int .i64 x.lo,.int .i64 x.hi];replace SB:=SB.kpN k9_;replace R:=R.kpN k9_;replace PB:=PB.kpN k9_;replace K:=K.thenN k9_ (by first|exact Nat.le_refl _|omega);clear k9_;have cSB:=SB.cell;have fSB:=SB.frozen;have cR:=R.cell;have fR:=R.frozen;have cPB:=PB.cell;have fPB:=PB.frozen;go_wp2_with fail
   clear cSB fSB pSB cR fR pR cPB fPB pPB;generalize (w7.alloc (.cells #[.int .i64 x.kind,.int .i64 x.stn,.int .i64 x.cat,.int .i64 x.tick,.int .i64 x.dx,.int .i64 x.dy,.int .i64 x.err,.int .i64 x.lo,.int .i64 x.hi] 90))=w8 at *;obtain⟨xb,hx⟩:∃ q9,q9=w7.heap.size:=⟨_,rfl⟩;rw[← hx] at XB ⊢;replace hx:=Lib.hid hx;clear hx hzn hzk;refine(sky_Agrees_any A B D c e1 f1 S x ⟨z.x,z.y⟩ _ hS ((hSA.kp K).free)).mono ?_;rintro e w9 ⟨⟨r,rfl,hr⟩,k9⟩;replace SB:=SB.kpN k9;replace R:=R.kpN k9;replace PB:=PB.kpN k9;replace XB:=XB.kpN k9;replace HR:=HR.kpN k9;replace ow:=ow.kpN k9;replace K:=K.tN k9;clear k9;have hkk:k4≤k'+10 * (i+1):=by have:=hk3.out;omega
   cases r
   ·
    replace hkk:=Lib.hid hkk;go_wp2
    go_roundw
    case rel=>exact⟨i+1,gs,k4,by congr 1,by omega,by omega,by omega,hgs.out,ow,SB,R,HR,hkk.out,K⟩
    case measure=>exact hm.out
   ·
    obtain⟨hr1,hr2⟩:=hr rfl;have hxs:SgtOk S t l n x:=⟨hr1,i,h1i,hxt.out,by rw[hnth.out];exact hr2⟩;replace hxs:=Lib.hid hxs;replace hr:=0;clear hr hr1 hr2;have cX:=XB.cell;have Q:=Blk.new w9 90 #[.int .i64 x.kind,.int .i64 x.stn,.int .i64 x.cat,.int .i64 x.tick,.int .i64 x.dx,.int .i64 x.dy,.int .i64 x.err,.int .i64 x.lo,.int .i64 x.hi];have hRl:=SB.lt;have hzw:=alloc_ge (show sb+1≤w9.heap.size from SB.lt) (.cells #[.int .i64 x.kind,.int .i64 x.stn,.int .i64 x.cat,.int .i64 x.tick,.int .i64 x.dx,.int .i64 x.dy,.int .i64 x.err,.int .i64 x.lo,.int .i64 x.hi] 90);replace SB:=SB.alloc (.cells #[.int .i64 x.kind,.int .i64 x.stn,.int .i64 x.cat,.int .i64 x.tick,.int .i64 x.dx,.int .i64 x.dy,.int .i64 x.err,.int .i64 x.lo,.int .i64 x.hi] 90);replace R:=R.alloc (.cells #[.int .i64 x.kind,.int .i64 x.stn,.int .i64 x.cat,.int .i64 x.tick,.int .i64 x.dx,.int .i64 x.dy,.int .i64 x.err,.int .i64 x.lo,.int .i64 x.hi] 90);replace HR:=HR.alloc (.cells #[.int .i64 x.kind,.int .i64 x.stn,.int .i64 x.cat,.int .i64 x.tick,.int .i64 x.dx,.int .i64 x.dy,.int .i64 x.err,.int .i64 x.lo,.int .i64 x.hi] 90);replace ow:=ow.alloc (.cells #[.int .i64 x.kind,.int .i64 x.stn,.int .i64 x.cat,.int .i64 x.tick,.int .i64 x.dx,.int .i64 x.dy,.int .i64 x.err,.int .i64 x.lo,.int .i64 x.hi] 90);replace K:=K.alloc K.size (.cells #[.int .i64 x.kind,.int .i64 x.stn,.int .i64 x.cat,.int .i64 x.tick,.int .i64 x.dx,.int .i64 x.dy,.int .i64 x.err,.int .i64 x.lo,.int .i64 x.hi] 90);have hgl9:gs.length≤100:=by omega
    replace hkk:=Lib.hid hkk;go_wp2_with (at_builtin;go_loud (refine wpList_app1_Sight (by rfl) (.tmp 54) (.tmp 56) (by rfl) (sb+1) u13 gs _ 1 x (by rfl) (by rfl) ow Q (by rfl) (by omega) hzw ?_);intro v' wf ow' hg' hat)
    have hge:=fun b e=>(ow.ge b e).1;replace SB:=SB.grownX hg' (fun b e=>by have:=hge b e;omega);replace R:=R.grownX hg' (fun b e=>by have:=hge b e;omega);replace HR:=HR.grown hg' (fun b e=>by have:=hge b e;omega);replace K:=K.grown hg' K.size (fun b e=>by have:=hge b e;omega);clear ow Q hat hg' cX;go_roundw
    case rel=>exact⟨i+1,gs++[x],k4,by congr 1,by omega,by omega,by simp only[List.length_append,List.length_cons,List.length_nil];omega,fun y hy=>by
     rcases List.mem_append.1 hy with hy|hy
     · exact hgs.out y hy
     · rw[List.mem_singleton] at hy;subst hy;exact hxs.out,ow',SB,R,HR,hkk.out,K⟩
    case measure=>exact hm.out
  ·
   by_cases q1:i≤n
   ·
    have q2:¬ (i:Int)<(l.length:Int):=by omega
    have q3:(i:Int)≤(n:Int):=by omega
    obtain⟨G,m9,rfl,-,-⟩:=ow.rd (row:=some g) (fun _=>rfl) (fun b hb=>sne (by omega));have hgl9:gs.length≤n+1:=by omega
    have hk9:k3≤k+100+10 * (n+1):=by omega
    have cS:=SB.cell;have cR:=R.cell;have fR:=R.frozen;obtain⟨wz,hwz,R9,kst,hzst⟩:=R.st4 (.slice A S.W.bs.length c) (.int .i64 S.W.home) (.slice B S.st.length e1) (.slice D S.ct.length f1);simp only[sbt,sc0,scs] at R9;have cR9:=R9.cell;have ow':=ow.kp kst (fun b9 hb9=>sne (by omega));have K9:=(KO.then_ K (Nat.le_refl _)).thenOwn kst (Nat.le_refl _) (by omega);have rs9:=(hSA.2.1.kp K).kpNe kst (fun ad h=>by have:=fs ad h;omega);have rc9:=(hSA.2.2.kp K).kpNe kst (fun ad h=>by have:=fc ad h;omega);have hk9':=Lib.hid hk9;clear hk9 hk3 h hi1 hi2;skip
    go_wp2_with fail
    rw[← hwz];obtain⟨G2,m2,e2,rdg,-⟩:=ow'.rd (row:=some g) (fun _=>rfl) (fun b hb=>sne (by omega));simp only[Value.slice.injEq] at e2;obtain⟨rfl,-,rfl⟩:=e2;exact bodyPost_ret (v:=.tuple #[.agg #[.slice A S.W.bs.length c,.int .i64 S.W.home,.slice B S.st.length e1,.slice D S.ct.length f1],.slice G gs.length m9]) (by simp[results,Tryz.results9,go_sem,cR9]) rfl ⟨_,k3,rfl,⟨S,B,e1,D,f1,G,m9,gs,rfl,rfl,hS,⟨hA0.out.kp K9,rs9,rc9⟩,rdg,hgl9,hgs⟩,hk9'.out,HR.kpRow kst (by omega),K9⟩
   ·
    have q3:¬ (i:Int)≤(n:Int):=by omega
    obtain⟨G,m9,rfl,-,-⟩:=ow.rd (row:=some g) (fun _=>rfl) (fun b hb=>sne (by omega));have hgl9:gs.length≤n+1:=by omega
    have hk9:k3≤k+100+10 * (n+1):=by omega
    have cS:=SB.cell;have cR:=R.cell;have fR:=R.frozen;obtain⟨wz,hwz,R9,kst,hzst⟩:=R.st4 (.slice A S.W.bs.length c) (.int .i64 S.W.home) (.slice B S.st.length e1) (.slice D S.ct.length f1);simp only[sbt,sc0,scs] at R9;have cR9:=R9.cell;have ow':=ow.kp kst (fun b9 hb9=>sne (by omega));have K9:=(KO.then_ K (Nat.le_refl _)).thenOwn kst (Nat.le_refl _) (by omega);have rs9:=(hSA.2.1.kp K).kpNe kst (fun ad h=>by have:=fs ad h;omega);have rc9:=(hSA.2.2.kp K).kpNe kst (fun ad h=>by have:=fc ad h;omega);have hk9':=Lib.hid hk9;clear hk9 hk3 h hi1 hi2;skip
    go_wp2_with fail
    rw[← hwz];obtain⟨G2,m2,e2,rdg,-⟩:=ow'.rd (row:=some g) (fun _=>rfl) (fun b hb=>sne (by omega));simp only[Value.slice.injEq] at e2;obtain⟨rfl,-,rfl⟩:=e2;exact bodyPost_ret (v:=.tuple #[.agg #[.slice A S.W.bs.length c,.int .i64 S.W.home,.slice B S.st.length e1,.slice D S.ct.length f1],.slice G gs.length m9]) (by simp[results,Tryz.results9,go_sem,cR9]) rfl ⟨_,k3,rfl,⟨S,B,e1,D,f1,G,m9,gs,rfl,rfl,hS,⟨hA0.out.kp K9,rs9,rc9⟩,rdg,hgl9,hgs⟩,hk9'.out,HR.kpRow kst (by omega),K9⟩
theorem span_eqIn (d:Nat) (a b c e:Int) (w:World):(Op.equalIn (d+1+1) 29 (.agg #[.int .i64 a,.int .i64 b]) (.agg #[.int .i64 c,.int .i64 e])).run Tryz.prog w=.ok (a==c&&b==e) w:=by
 have hS:Tryz.prog.underlying 29=some (.struct (Tryz.prog.fieldsOf 29)):=by kernel_rfl
 have u3:=Tryz.underlying2;rw[run_equalIn_agg w (d+1) 29 _ _ hS (by kernel_rfl)];simp only[Program.fieldsOf,Tryz.underlying29];go_simp
 by_cases h1:a=c<;>by_cases h2:b=e<;>simp[h1,h2]
theorem box_eqIn (a b:Bx) (w:World):(Op.equalIn 10000 33 (.agg #[.int .i64 a.x.lo,.int .i64 a.x.hi,.int .i64 a.y.lo,.int .i64 a.y.hi,.int .i64 a.u.lo,.int .i64 a.u.hi,.int .i64 a.v.lo,.int .i64 a.v.hi]) (.agg #[.int .i64 b.x.lo,.int .i64 b.x.hi,.int .i64 b.y.lo,.int .i64 b.y.hi,.int .i64 b.u.lo,.int .i64 b.u.hi,.int .i64 b.v.lo,.int .i64 b.v.hi])).run Tryz.prog w=.ok (decide (a=b)) w:=by
 have hS:Tryz.prog.underlying 33=some (.struct (Tryz.prog.fieldsOf 33)):=by kernel_rfl
 have q:=fun a b c e w=>span_eqIn 9997 a b c e w;rw[show (10000:Nat)=9999+1 from rfl,run_equalIn_agg w 9999 33 _ _ hS (by kernel_rfl)];simp only[Program.fieldsOf,Tryz.underlying33];obtain⟨⟨a0,a1⟩,⟨a2,a3⟩,⟨a4,a5⟩,⟨a6,a7⟩⟩:=a;obtain⟨⟨b0,b1⟩,⟨b2,b3⟩,⟨b4,b5⟩,⟨b6,b7⟩⟩:=b;go_simp
 clear q hS;(repeat' split)<;>simp_all
theorem box_eql (a b:Bx) (w:World):(binOp .eql 33 (.agg #[.int .i64 a.x.lo,.int .i64 a.x.hi,.int .i64 a.y.lo,.int .i64 a.y.hi,.int .i64 a.u.lo,.int .i64 a.u.hi,.int .i64 a.v.lo,.int .i64 a.v.hi]) (.agg #[.int .i64 b.x.lo,.int .i64 b.x.hi,.int .i64 b.y.lo,.int .i64 b.y.hi,.int .i64 b.u.lo,.int .i64 b.u.hi,.int .i64 b.v.lo,.int .i64 b.v.hi])).run Tryz.prog w=.ok (.bool (decide (a=b))) w:=by
 rw[run_eql_struct w,box_eqIn];rfl
theorem Rd.rowOf {α:Type} {w:World} {sz n N g:Nat} {enc:α→List Value} {A:Option Addr} {xs:List α} (h:Rd none w sz enc A n xs) (hf:∀ ad,A=some ad→N≤ad.block) (hg:g<N):Rd (some g) w sz enc A n xs:=by
 refine⟨h.1,fun hn=>?_⟩;obtain⟨b,o,rfl,hb,-,hc⟩:=h.2 hn;exact⟨b,o,rfl,hb,sne (by have:=hf _ rfl;simp only at this;omega),hc⟩
theorem Kp.narrow {B g:Nat} {w w':World} (h:Kp B (some g) w w') (hg:B≤g):Kp B none w w':=⟨h.os,h.tape,h.output,h.size,fun k hk _=>h.block k hk (sne (by omega))⟩
theorem zip_of_map {α β:Type}:∀ (qs:List (α × β)),(qs.map (·.1)).zip (qs.map (·.2))=qs
 | []=>rfl
 | (a,b)::r=>by simp only[List.map_cons,List.zip_cons_cons,zip_of_map r]
theorem afterL_snoc (left:List Bx) (l:List (Bx × Int)) (p:Bx × Int):afterL left (l++[p])=afterL left l++(left.filter fun c=>decide (c=p.1)).map fun _=>p.2:=by
 unfold afterL;rw[List.flatMap_append];simp
theorem zip_take_succ {α β:Type} {a:List α} {b:List β} {y:β} {i:Nat} (hi:i<a.length) (hb:b.length=i):(a.take (i+1)).zip (b++[y])=(a.take i).zip b++[(a[i],y)]:=by
 rw[List.take_succ_eq_append_getElem hi,List.zip_append (by rw[List.length_take];omega)];rfl
end Go.Proofs.YtdhiappifnflpaaGreat
