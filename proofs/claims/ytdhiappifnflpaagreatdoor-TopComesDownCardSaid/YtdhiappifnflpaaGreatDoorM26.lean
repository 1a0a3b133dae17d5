/- The reference's pulls, weakly: the pull of one body. The reference's pulls, weakly: light and heat. Skies and sights in plain Lean: what the program checks of them, and what a sight says. No program here. -/
import Derived.Test.YtdhiappifnflpaaGreatDoorM20
import Derived.Test.YtdhiappifnflpaaGreatDoorM25
set_option maxRecDepth 100000
set_option maxHeartbeats 4000000
namespace Go.Proofs.YtdhiappifnflpaaGreatDoor
open Go.RowKit
def ArP (w:World) (e:Ending) (w':World):Prop:=(∃ a b:Sp,e=.returned (.agg #[a.lo,a.hi,b.lo,b.hi])∧a.fit∧b.fit)∧Kp w.heap.size none w w'
theorem r3_one (A:Option Addr) (c:Nat) (W:Wd) (i:Nat) (t:Int) (a b:Sp) (w:World) (hW:W.ok) (hA:WdAt none w A W) (hi:i<W.bs.length) (ht:0≤t∧t≤1073741824) (ha:a.fit) (hb:b.fit) :
  Calls Tryz.prog 167 #[.agg #[.slice A W.bs.length c,W.home],i,t,.agg #[a.lo,a.hi,b.lo,b.hi]] w (ArP w):=by
 have ca:=fun w h=>r2_At_any A c W i t w hW h hi ht;have hx:=hW.body _ (List.getElem_mem hi);have hp:=hx.pl _ (Bd.at_mem hx.tr0 t);have h0:(0:Int)≤(i:Int):=by omega
 have h1:(i:Int)<(W.bs.length:Int):=by omega
 have hrad:0≤W.bs[i].rad∧W.bs[i].rad≤1000:=⟨hx.rad0,by have:=hx.rad1;omega⟩;clear hW hx;obtain⟨w1,hw1,Dw,E,R,K,hz⟩:=box3 w 27 #[.slice A W.bs.length c,W.home] 53 #[a.lo,a.hi,b.lo,b.hi] 53 #[(0:Int),(0:Int),(0:Int),(0:Int)];obtain⟨bb,o,B,cc,rfl,hlt,e0,e1,e2,hr⟩:=(hA.kpN K).body i hi;generalize W.bs[i].at t=p at *;generalize W.bs[i]=x at *;have ct:=fun w=>r3_to_x p.x p.y a b (by unfold Fix;omega) (by unfold Fix;omega) ha hb w;have fs:=lessS_fit (fit_pt (n:=p.x) (by unfold Fix;omega)) ha;have fu:=lessS_fit (fit_pt (n:=p.y) (by unfold Fix;omega)) hb;clear hp hr;generalize lessS ⟨p.x,p.x⟩ a=s at *;generalize lessS ⟨p.y,p.y⟩ b=u at *;clear ha hb;go_enter Tryz.func167,Tryz.ntmps167
 go_upto_region 1 with(fail)
 rw[← hw1];clear hw1;have cDw:=Dw.cell;go_upto_region 2 with(fail)
 clear cDw e0 e1 e2;have X:=Blk.new w1 43 #[x.mu,x.rad,.slice B x.tr.length cc];have pE:=E.lt;replace Dw:=Dw.alloc (.cells #[x.mu,x.rad,.slice B x.tr.length cc] 43);replace E:=E.alloc (.cells #[x.mu,x.rad,.slice B x.tr.length cc] 43);replace R:=R.alloc (.cells #[x.mu,x.rad,.slice B x.tr.length cc] 43);replace K:=K.alloc oM (.cells #[x.mu,x.rad,.slice B x.tr.length cc] 43);have hz2:(w1.alloc (.cells #[x.mu,x.rad,.slice B x.tr.length cc] 43)).heap.size=w.heap.size+4:=by simp[hz]
 rw[hz] at X;generalize w1.alloc (.cells #[x.mu,x.rad,.slice B x.tr.length cc] 43)=w2 at *;clear hz pE;have hA2:=hA.kpN K;clear hA;refine wp_region_inv (Γ:=GF) [none,none,none,none,none,none,none,none,none,none,some 9,some 10,none,none,none,none,none,none,none,some 6,some 0,some 1,some 2,some 3,some 4,some 5,some 7,some 8] [[],[],[],[0,1,2],[],[0,1,2,3,4],[0,1,2,3,4,5],[0,1,2,3,4,5,6],[0,1,2,3,4,5,6],[],[],[0,1,2,3,4,5,6,7,9,10],[0,1,2,3,4,5,6,7,8,9,10,11]] [[1,2,4,9,10],[0,2,4,9,10],[0,1,4,9,10],[0,1,2,4,9,10],[0,1,2,3,9,10],[0,1,2,3,4,9,10],[0,1,2,3,4,5,9,10],[0,1,2,3,4,5,6,8,9,10],[0,1,2,3,4,5,6,7,9,10,11],[0,1,2,3,4,5,6,7,8,10],[0,1,2,3,4,5,6,7,8,9],[0,1,2,3,4,5,6,7,8,9,10],[0,1,2,3,4,5,6,7,8,9,10,11]] (fun γ=>[.agg #[.slice (some ⟨bb,o,none⟩) W.bs.length c,W.home],.int .i64 i,.int .i64 t,.agg #[p.x,p.y],.agg #[a.lo,a.hi,b.lo,b.hi],.tuple #[.agg #[s.lo,s.hi],.agg #[u.lo,u.hi]],.tuple #[.agg #[s.lo,s.hi],.agg #[u.lo,u.hi]],.agg #[s.lo,s.hi],.agg #[u.lo,u.hi],.pointer (some ⟨γ.n1,0,none⟩),.pointer (some ⟨γ.n2,0,none⟩),undef,undef]) (fun γ=>[none,none,none,none,none,none,none,none,none,none,some (.pointer (some ⟨γ.n1,0,none⟩)),some (.pointer (some ⟨γ.n2,0,none⟩)),none,none,none,none,none,none,none,some (.tuple #[.agg #[s.lo,s.hi],.agg #[u.lo,u.hi]]),some (.agg #[.slice (some ⟨bb,o,none⟩) W.bs.length c,W.home]),some (.int .i64 i),some (.int .i64 t),some (.agg #[p.x,p.y]),some (.agg #[a.lo,a.hi,b.lo,b.hi]),some (.tuple #[.agg #[s.lo,s.hi],.agg #[u.lo,u.hi]]),some (.agg #[s.lo,s.hi]),some (.agg #[u.lo,u.hi])]) ?A2_1 (fun n D γ w=>Kp w2.heap.size none w2 w∧FreeB 29 γ.n1 γ.c1 w2.heap.size (#[(if γ.s1=true then .int .i64 s.lo else .int .i64 0),(if γ.s1=true then .int .i64 s.hi else .int .i64 0)]) w∧FreeB 29 γ.n2 γ.c2 w2.heap.size (#[(if γ.s2=true then .int .i64 u.lo else .int .i64 0),(if γ.s2=true then .int .i64 u.hi else .int .i64 0)]) w∧(γ.c1=true→γ.c2=true→γ.n1≠γ.n2)) (fun k γ w=>match k with|9=>γ.c1=true|10=>γ.c2=true|11=>γ.s1=true|12=>γ.s2=true|_=>True) ⟨0,0,false,false,false,false⟩ (by kernel_rfl) (fun _=>rfl) ?hA2_1 (by kernel_rfl) ?hB02_1 ?hop2_1 ?hend2_1
 case hA2_1=>intro γ;dsimp only[fullV];rfl
 case hB02_1=>
  exact⟨(Kp.refl _ none _).drew,fun e=>(by cases e),fun e=>(by cases e),fun e _=>(by cases e)⟩
 case hop2_1=>
  intro hA;refine⟨?_,oKv hA,oKv hA,?_,?_,?_,oKv hA,oKv hA,oKv hA,?_,?_,?_,?_,trivial⟩
  ·
   refine oKv hA (h:=?_);intro n D γ w hB hU K hK;try dsimp only at hB
   try dsimp only
   have cDw:=fun i=>(Dw.kpN hB.1).cell i;have cE:=fun i=>(E.kpN hB.1).cell i;have cR:=fun i=>(R.kpN hB.1).cell i;have cX:=fun i=>(X.kpN hB.1).cell i;clear hB hU;go_step;exact hK _ rfl
  ·
   refine opOk_l hA (fun _=>rfl) ?_;intro n D γ w hn hD hB hU K hK;try dsimp only at hB
   clear hU;replace hn:n<13:=hn;try dsimp only
   have K9:=hB.1;go_step;refine mK (ca _ (hA2.kpN K9)) fun w5 k5=>?_;refine hK _ _ γ rfl ⟨hB.1.thenN k5 (Nat.le_refl _),(hB.2.1).kpN k5,(hB.2.2.1).kpN k5,hB.2.2.2⟩ trivial ?_;exact dA
  ·
   refine oKv hA (h:=?_);intro n D γ w hB hU K hK;try dsimp only at hB
   try dsimp only
   have cDw:=fun i=>(Dw.kpN hB.1).cell i;have cE:=fun i=>(E.kpN hB.1).cell i;have cR:=fun i=>(R.kpN hB.1).cell i;have cX:=fun i=>(X.kpN hB.1).cell i;clear hB hU;go_step;exact hK _ rfl
  ·
   refine opOk_l hA (fun _=>rfl) ?_;intro n D γ w hn hD hB hU K hK;try dsimp only at hB
   clear hU;replace hn:n<13:=hn;try dsimp only
   have K9:=hB.1;go_step;refine mK (ct _) fun w5 k5=>?_;refine hK _ _ γ rfl ⟨hB.1.thenN k5 (Nat.le_refl _),(hB.2.1).kpN k5,(hB.2.2.1).kpN k5,hB.2.2.2⟩ trivial ?_;exact dA
  ·
   refine opOk_l hA (fun _=>rfl) ?_;intro n D γ w hn hD hB hU K hK;try dsimp only at hB
   clear hU;replace hn:n<13:=hn;try dsimp only
   go_step;obtain⟨w5,hw5⟩:∃ w5,w5=w.alloc (.cells #[(0:Int),(0:Int)] 29):=⟨_,rfl⟩;have k5:Kp w.heap.size none w w5:=hw5 ▸ Kp.new1 _ _;have hBn:Blk w5 w.heap.size 29 #[(0:Int),(0:Int)]:=hw5 ▸ Blk.new _ _ _;rw[← hw5];refine hK _ _ { γ with n1:=w.heap.size,c1:=true,s1:=false } rfl ⟨hB.1.thenN k5 (Nat.le_refl _),fun _=>⟨hBn,hB.1.size⟩,(hB.2.2.1).kpN k5,fun _ hc9=>(by have:=(hB.2.2.1 hc9).1.lt;show w.heap.size≠γ.n2;omega)⟩ rfl ?_;exact dA
  ·
   refine opOk_l hA (fun _=>rfl) ?_;intro n D γ w hn hD hB hU K hK;try dsimp only at hB
   clear hU;replace hn:n<13:=hn;try dsimp only
   go_step;obtain⟨w5,hw5⟩:∃ w5,w5=w.alloc (.cells #[(0:Int),(0:Int)] 29):=⟨_,rfl⟩;have k5:Kp w.heap.size none w w5:=hw5 ▸ Kp.new1 _ _;have hBn:Blk w5 w.heap.size 29 #[(0:Int),(0:Int)]:=hw5 ▸ Blk.new _ _ _;rw[← hw5];refine hK _ _ { γ with n2:=w.heap.size,c2:=true,s2:=false } rfl ⟨hB.1.thenN k5 (Nat.le_refl _),(hB.2.1).kpN k5,fun _=>⟨hBn,hB.1.size⟩,fun hc9 _=>(by have:=(hB.2.1 hc9).1.lt;show γ.n1≠w.heap.size;omega)⟩ rfl ?_;exact dA
  ·
   refine opOk_l hA (fun _=>rfl) ?_;intro n D γ w hn hD hB hU K hK;try dsimp only at hB
   replace hU:(γ.c1=true)∧(γ.c2=true):=⟨hU.2.2.2.2.2.2.2.2.1,hU.2.2.2.2.2.2.2.2.2.1⟩;replace hn:n<13:=hn;try dsimp only
   obtain⟨O9,g9⟩:=hB.2.1 hU.1;have cO:=O9.cell;have fO:=O9.frozen;go_step;obtain⟨w5,hw5,R9,kst,hzst⟩:=O9.st2 (.int .i64 s.lo) (.int .i64 s.hi);rw[← hw5];simp only[sbt,sc0,scs] at R9;refine hK _ _ { γ with s1:=true } rfl ⟨hB.1.thenOwn kst (Nat.le_refl _) g9,fun _=>⟨R9,g9⟩,(fun hc9=>⟨((hB.2.2.1 hc9).1).kp kst ((hB.2.2.1 hc9).1).lt (sne ((hB.2.2.2 hU.1 hc9).symm)),(hB.2.2.1 hc9).2⟩),hB.2.2.2⟩ rfl ?_;exact dA
  ·
   refine opOk_l hA (fun _=>rfl) ?_;intro n D γ w hn hD hB hU K hK;try dsimp only at hB
   replace hU:(γ.c1=true)∧(γ.c2=true)∧(γ.s1=true):=⟨hU.2.2.2.2.2.2.2.2.2.1,hU.2.2.2.2.2.2.2.2.2.2.1,hU.2.2.2.2.2.2.2.2.2.2.2.1⟩;replace hn:n<13:=hn;try dsimp only
   obtain⟨O9,g9⟩:=hB.2.2.1 hU.2.1;have cO:=O9.cell;have fO:=O9.frozen;go_step;obtain⟨w5,hw5,R9,kst,hzst⟩:=O9.st2 (.int .i64 u.lo) (.int .i64 u.hi);rw[← hw5];simp only[sbt,sc0,scs] at R9;refine hK _ _ { γ with s2:=true } rfl ⟨hB.1.thenOwn kst (Nat.le_refl _) g9,(fun hc9=>⟨((hB.2.1 hc9).1).kp kst ((hB.2.1 hc9).1).lt (sne (hB.2.2.2 hc9 hU.2.1)),(hB.2.1 hc9).2⟩),fun _=>⟨R9,g9⟩,hB.2.2.2⟩ rfl ?_;exact dA
 case hend2_1=>
  intro n D γ w hn hD hB hF;replace hF:=fun k (hk:k<13)=>hF k hk;replace hF:=(⟨hF 9 (by decide),hF 10 (by decide),hF 11 (by decide),hF 12 (by decide)⟩:_∧_∧_∧_);try dsimp only at hB
  try dsimp only at hF
  replace hn:n≤13:=hn;try dsimp only
  obtain⟨np,nq,c1_9,c2_9,s1_9,s2_9⟩:=γ;dsimp only at hB hF ⊢;obtain⟨rfl,rfl,rfl,rfl⟩:=hF;obtain⟨K9,f1_9,f2_9,ne9⟩:=hB;obtain⟨P,gP⟩:=f1_9 rfl;simp only[reduceIte] at P;obtain⟨Q,gQ⟩:=f2_9 rfl;simp only[reduceIte] at Q;have ne:=ne9 rfl rfl;clear ne9;clear f1_9 f2_9;clear hD hn;have gDw:=Dw.lt;have gE:=E.lt;have gR:=R.lt;have gX:=X.lt;replace Dw:=Dw.kpN K9;replace E:=E.kpN K9;replace R:=R.kpN K9;replace X:=X.kpN K9;replace K:=K.trans (K9.mono K.size);skip
  clear K9;rename World=>w3;have hzk:=K.size;have q1:w.heap.size+4≤np:=by omega
  have q2:w.heap.size+4≤nq:=by omega
  have z3:w.heap.size+4≤w3.heap.size:=by have:=X.lt;omega
  have cX:=X.cell;have cP:=P.cell;have cQ:=Q.cell;go_wp2_with fail
  refine(r3_distances x.mu x.rad (.slice B x.tr.length cc) s u hrad fs fu _).mono ?_;rintro e w4 ⟨⟨d1,d2,rfl,f1,f2⟩,k⟩;clear cX cP cQ ca ct hA2 Dw E;replace X:=X.kpN k;replace P:=P.kpN k;replace Q:=Q.kpN k;replace R:=R.kpN k;replace K:=K.tN k;have z4:=k.size;clear k;have pR:=R.cell;have pX:=X.cell;have pP:=P.cell;have pQ:=Q.cell;obtain⟨w9_,rfl,M,N,k9_,hzn⟩:=box2 w4 29 #[d1.lo,d1.hi] 29 #[d2.lo,d2.hi];replace R:=R.kpN k9_;replace X:=X.kpN k9_;replace P:=P.kpN k9_;replace Q:=Q.kpN k9_;replace K:=K.thenN k9_ oU;clear k9_;have cR:=R.cell;have fR:=R.frozen;have cX:=X.cell;have fX:=X.frozen;have cP:=P.cell;have fP:=P.frozen;have cQ:=Q.cell;have fQ:=Q.frozen;go_wp2_with fail
  clear cR fR pR cX fX pX cP fP pP cQ fQ pQ;generalize ((w4.alloc (.cells #[d1.lo,d1.hi] 29)).alloc (.cells #[d2.lo,d2.hi] 29))=w5 at *;obtain⟨y,hx⟩:∃ q9,q9=w4.heap.size:=⟨_,rfl⟩;rw[← hx] at M N ⊢;replace hx:=Lib.hid hx;have hyw:w.heap.size+4≤y:=by have:=hx.out;omega
  clear hx hzn z3 z4 hzk gX gP gQ gE gDw gR;obtain⟨S,hS0,hS1⟩:=cls_of2 (P:=fun w'=>Blk w' _ _ _∧Blk w' _ _ _∧Blk w' _ _ _∧Blk w' _ _ _∧Blk w' _ _ _∧Kp _ _ _ w') w5 ⟨X,P,Q,M,N,K⟩;try dsimp only at hS0
  have cX:=fun (x:Ev (S 0)) i=>((hS0 _).1 x.h).1.cell i;have cP:=fun (x:Ev (S 0)) i=>((hS0 _).1 x.h).2.1.cell i;have cQ:=fun (x:Ev (S 0)) i=>((hS0 _).1 x.h).2.2.1.cell i;have cM:=fun (x:Ev (S 0)) i=>((hS0 _).1 x.h).2.2.2.1.cell i;have cN:=fun (x:Ev (S 0)) i=>((hS0 _).1 x.h).2.2.2.2.1.cell i;replace X:=X.drew;replace P:=P.drew;replace Q:=Q.drew;replace M:=M.drew;replace N:=N.drew;replace K:=K.drew;replace R:=R.drew;have hevT:=ev_true;refine wro S [(0,0),(1,1),(2,1),(3,1),(5,1),(8,0),(9,1),(10,1),(11,1),(13,1),(4,2),(6,2),(7,2),(12,2),(14,2),(15,2),(16,0),(17,3)] [17] ((hS0 _).2 ⟨X,P,Q,M,N,K⟩) ?_;intro _hev;refine oX ?_;refine oL ?_;intro Kc hKc;generalize w5.drew=wd9 at *;go_step;refine(r3_scaled x.mu s d1 _).mono ?_;rintro e w6 ⟨⟨g1,rfl,hg1⟩,k⟩;replace X:=X.kpN k;replace P:=P.kpN k;replace Q:=Q.kpN k;replace M:=M.kpN k;replace N:=N.kpN k;replace R:=R.kpN k;replace K:=K.tN k;clear k;refine hKc _ _ ((hS0 _).2 ⟨X,P,Q,M,N,K⟩) ?_;clear hKc Kc;refine oL ?_;intro Kc hKc;go_step;refine(r3_quotient g1 d2 hg1 f2 _).mono ?_;rintro e w7 ⟨⟨g2,rfl,hg2⟩,k⟩;replace X:=X.kpN k;replace P:=P.kpN k;replace Q:=Q.kpN k;replace M:=M.kpN k;replace N:=N.kpN k;replace R:=R.kpN k;replace K:=K.tN k;clear k;refine hKc _ _ ((hS0 _).2 ⟨X,P,Q,M,N,K⟩) ?_;clear hKc Kc;refine oL ?_;intro Kc hKc;go_step;refine(r3_bounded g2 hg2 _).mono ?_;rintro e w8 ⟨⟨g3,rfl,hg3⟩,k⟩;replace X:=X.kpN k;replace P:=P.kpN k;replace Q:=Q.kpN k;replace M:=M.kpN k;replace N:=N.kpN k;replace R:=R.kpN k;replace K:=K.tN k;clear k;refine hKc _ _ ((hS0 _).2 ⟨X,P,Q,M,N,K⟩) ?_;clear hKc Kc;refine oL ?_;intro Kc hKc;go_step;refine(r3_scaled x.mu u d1 _).mono ?_;rintro e w9 ⟨⟨k1,rfl,hk1⟩,k⟩;replace X:=X.kpN k;replace P:=P.kpN k;replace Q:=Q.kpN k;replace M:=M.kpN k;replace N:=N.kpN k;replace R:=R.kpN k;replace K:=K.tN k;clear k;refine hKc _ _ ((hS0 _).2 ⟨X,P,Q,M,N,K⟩) ?_;clear hKc Kc;refine oL ?_;intro Kc hKc;go_step;refine(r3_quotient k1 d2 hk1 f2 _).mono ?_;rintro e w10 ⟨⟨k2,rfl,hk2⟩,k⟩;replace X:=X.kpN k;replace P:=P.kpN k;replace Q:=Q.kpN k;replace M:=M.kpN k;replace N:=N.kpN k;replace R:=R.kpN k;replace K:=K.tN k;clear k;refine hKc _ _ ((hS0 _).2 ⟨X,P,Q,M,N,K⟩) ?_;clear hKc Kc;refine oL ?_;intro Kc hKc;go_step;refine(r3_bounded k2 hk2 _).mono ?_;rintro e w11 ⟨⟨k3,rfl,hk3⟩,k⟩;replace X:=X.kpN k;replace P:=P.kpN k;replace Q:=Q.kpN k;replace M:=M.kpN k;replace N:=N.kpN k;replace R:=R.kpN k;replace K:=K.tN k;clear k;refine hKc _ _ ((hS0 _).2 ⟨X,P,Q,M,N,K⟩) ?_;clear hKc Kc;refine oX ?_;refine oA ?_;intro Kc hKc;have cR:=R.cell;have fR:=R.frozen;go_step;obtain⟨w12,hwn,RB9,kst,hzst⟩:=R.st4 (.int .i64 g3.lo) (.int .i64 g3.hi) (.int .i64 k3.lo) (.int .i64 k3.hi);rw[← hwn];clear hwn cR fR;refine hKc _ _ ((hS1 _).2 trivial) ?_;clear hKc Kc;replace X:=X.kq kst;replace P:=P.kq kst;replace Q:=Q.kq kst;replace M:=M.kq kst;replace N:=N.kq kst;first|replace K:=K.thenOwn kst (Nat.le_refl _) oM|replace K:=K.then_ kst (Nat.le_refl _)
  replace R:=RB9;clear RB9 kst;simp only[sbt,sc0,scs] at R;change wpOrd _ _ _ _ _ 1 _ _;refine wpOrd_nil ?_;clear hevT _hev;clear cX cP cQ cM cN hS0 hS1 S;go_wp2_with fail
  have cR:=R.cell;exact bodyPost_ret (v:=.agg #[g3.lo,g3.hi,k3.lo,k3.hi]) (by simp[results,Tryz.results167,go_sem,cR]) rfl ⟨⟨g3,k3,rfl,hg3,hk3⟩,K⟩
def ArE (w:World) (e:Ending) (w':World):Prop:=(∃ (a b:Sp) (v:Int),e=.returned (.tuple #[.agg #[a.lo,a.hi,b.lo,b.hi],v])∧a.fit∧b.fit)∧Kp w.heap.size none w w'
theorem Dr.ok.lf {d:Dr} (h:d.ok):d.light.fit:=⟨by have:=h.l0;omega,h.l1,by have:=h.l2;omega⟩
theorem Dr.ok.hf {d:Dr} (h:d.ok):d.heat.fit:=⟨by have:=h.h0;omega,h.h1,by have:=h.h2;omega⟩
theorem r3_Light (A:Option Addr) (c:Nat) (W:Wd) (d:Dr) (t:Int) (a b:Sp) (w:World) (hW:W.ok) (hA:WdAt none w A W) (hd:d.light.fit) (ht:0≤t∧t≤1073741824) (ha:a.fit) (hb:b.fit) :
  Calls Tryz.prog 165 #[.agg #[.slice A W.bs.length c,W.home],d,t,.agg #[a.lo,a.hi,b.lo,b.hi]] w (ArE w):=by
 have ca:=fun w h=>r3_asked A c W d t a b w hW h;have co:=fun w h=>r3_one A c W 0 t a b w hW h hW.n0 ht ha hb;clear hW ha hb ht;obtain⟨w1,hw1,M,G,E,R,K,hz⟩:=box4 w 27 #[.slice A W.bs.length c,W.home] 31 d 53 #[a.lo,a.hi,b.lo,b.hi] 53 #[(0:Int),(0:Int),(0:Int),(0:Int)];go_enter Tryz.func165,Tryz.ntmps165
 go_wp2_with fail
 rw[← hw1];clear hw1;refine(ca _ (hA.kpN K)).mono ?_;rintro e w2 ⟨⟨v,rfl⟩,k⟩;replace M:=M.kpN k;replace G:=G.kpN k;replace E:=E.kpN k;replace R:=R.kpN k;replace K:=K.thenN k oM;have hzk:=k.size;clear k;by_cases h:v=0
 ·
  subst h;have cM:=M.cell;have fM:=M.frozen;have cG:=G.cell;have fG:=G.frozen;have cE:=E.cell;have fE:=E.frozen;have cR:=R.cell;have fR:=R.frozen;go_wp2_with fail
  refine(co _ (hA.kpN K)).mono ?_;rintro e w3 ⟨⟨m,n,rfl,n1,n2⟩,k⟩;clear cM fM cG fG cE fE cR fR;replace M:=M.kpN k;replace G:=G.kpN k;replace E:=E.kpN k;replace R:=R.kpN k;replace K:=K.thenN k oM;have hzk:=k.size;clear k;clear ca co hA M E;have pG:=G.cell;have pR:=R.cell;obtain⟨w9_,rfl,O,k9_,hzn⟩:=box1 w3 53 #[m.lo,m.hi,n.lo,n.hi];replace G:=G.kpN k9_;replace R:=R.kpN k9_;replace K:=K.thenN k9_ oU;clear k9_;have cG:=G.cell;have fG:=G.frozen;have cR:=R.cell;have fR:=R.frozen;go_wp2_with fail
  clear cG fG pG cR fR pR;generalize (w3.alloc (.cells #[m.lo,m.hi,n.lo,n.hi] 53))=w4 at *;obtain⟨y,hx⟩:∃ q9,q9=w3.heap.size:=⟨_,rfl⟩;rw[← hx] at O ⊢;replace hx:=Lib.hid hx;have hyw:w.heap.size+4≤y:=by have:=hx.out;have:=R.lt;omega
  clear hx hzn hzk hz;obtain⟨S,hS0,hS1⟩:=cls_of2 (P:=fun w'=>Blk w' _ _ _∧Blk w' _ _ _∧Kp _ _ _ w') w4 ⟨G,O,K⟩;try dsimp only at hS0
  have cG:=fun (x:Ev (S 0)) i=>((hS0 _).1 x.h).1.cell i;have cO:=fun (x:Ev (S 0)) i=>((hS0 _).1 x.h).2.1.cell i;replace G:=G.drew;replace O:=O.drew;replace K:=K.drew;replace R:=R.drew;have hevT:=ev_true;refine wro S [(0,0),(1,1),(2,0),(3,1),(6,0),(7,1),(8,0),(9,1),(4,2),(5,2),(10,2),(11,2),(12,0),(13,2),(14,0)] [] ((hS0 _).2 ⟨G,O,K⟩) ?_;intro _hev;refine oX ?_;refine oL ?_;intro Kc hKc;generalize w4.drew=wd9 at *;go_step;refine(r3_thousandth d.light m hd n1 _).mono ?_;rintro e w5 ⟨⟨g1,rfl,hg1⟩,k⟩;replace G:=G.kpN k;replace O:=O.kpN k;replace R:=R.kpN k;replace K:=K.tN k;clear k;refine hKc _ _ ((hS0 _).2 ⟨G,O,K⟩) ?_;clear hKc Kc;refine oL ?_;intro Kc hKc;go_step;refine(r3_minus g1 hg1 _).mono ?_;rintro e w6 ⟨⟨g2,rfl,hg2⟩,k⟩;replace G:=G.kpN k;replace O:=O.kpN k;replace R:=R.kpN k;replace K:=K.tN k;clear k;refine hKc _ _ ((hS0 _).2 ⟨G,O,K⟩) ?_;clear hKc Kc;refine oL ?_;intro Kc hKc;go_step;refine(r3_thousandth d.light n hd n2 _).mono ?_;rintro e w7 ⟨⟨k1,rfl,hk1⟩,k⟩;replace G:=G.kpN k;replace O:=O.kpN k;replace R:=R.kpN k;replace K:=K.tN k;clear k;refine hKc _ _ ((hS0 _).2 ⟨G,O,K⟩) ?_;clear hKc Kc;refine oL ?_;intro Kc hKc;go_step;refine(r3_minus k1 hk1 _).mono ?_;rintro e w8 ⟨⟨k2,rfl,hk2⟩,k⟩;replace G:=G.kpN k;replace O:=O.kpN k;replace R:=R.kpN k;replace K:=K.tN k;clear k;refine hKc _ _ ((hS0 _).2 ⟨G,O,K⟩) ?_;clear hKc Kc;refine oX ?_;refine oL ?_;intro Kc hKc;have cR:=R.cell;have fR:=R.frozen;go_step;obtain⟨w9,hwn,RB9,kst,hzst⟩:=R.st4 (.int .i64 g2.lo) (.int .i64 g2.hi) (.int .i64 k2.lo) (.int .i64 k2.hi);rw[← hwn];clear hwn cR fR;replace G:=G.kq kst;replace O:=O.kq kst;first|replace K:=K.thenOwn kst (Nat.le_refl _) oM|replace K:=K.then_ kst (Nat.le_refl _)
  replace R:=RB9;clear RB9 kst;simp only[sbt,sc0,scs] at R;refine hKc _ _ ((hS0 _).2 ⟨G,O,K⟩) ?_;clear hKc Kc;refine oX ?_;refine wpOrd_nil ?_;clear hevT _hev;clear cG cO hS0 hS1 S;go_wp2_with fail
  have cR:=R.cell;exact bodyPost_ret (v:=.tuple #[.agg #[g2.lo,g2.hi,k2.lo,k2.hi],(0:Int)]) (by simp[results,Tryz.results165,go_sem,cR]) rfl ⟨⟨g2,k2,_,rfl,hg2,hk2⟩,K⟩
 ·
  have cR:=R.cell;have fR:=R.frozen;go_wp2_with fail
  clear cR fR;have BR:=(((R.set_ 0 (.int .i64 0)).set_ 1 (.int .i64 0)).set_ 2 (.int .i64 0)).set_ 3 (.int .i64 0);have cR:=BR.cell;exact bodyPost_ret (v:=.tuple #[.agg #[(0:Int),(0:Int),(0:Int),(0:Int)],v]) (by simp[results,Tryz.results165,go_sem,cR]) rfl ⟨⟨⟨0,0⟩,⟨0,0⟩,_,rfl,fit0,fit0⟩,(((K.setNew (by simp<;>omega) _).setNew (by simp<;>omega) _).setNew (by simp<;>omega) _).setNew (by simp<;>omega) _⟩
theorem r3_Heat (A:Option Addr) (c:Nat) (W:Wd) (d:Dr) (t:Int) (a b:Sp) (w:World) (hW:W.ok) (hA:WdAt none w A W) (hd:d.heat.fit) (ht:0≤t∧t≤1073741824) (ha:a.fit) (hb:b.fit) :
  Calls Tryz.prog 166 #[.agg #[.slice A W.bs.length c,W.home],d,t,.agg #[a.lo,a.hi,b.lo,b.hi]] w (ArE w):=by
 have ca:=fun w h=>r3_asked A c W d t a b w hW h;have co:=fun w h=>r3_one A c W 0 t a b w hW h hW.n0 ht ha hb;clear hW ha hb ht;obtain⟨w1,hw1,M,G,E,R,K,hz⟩:=box4 w 27 #[.slice A W.bs.length c,W.home] 31 d 53 #[a.lo,a.hi,b.lo,b.hi] 53 #[(0:Int),(0:Int),(0:Int),(0:Int)];go_enter Tryz.func166,Tryz.ntmps166
 go_wp2_with fail
 rw[← hw1];clear hw1;refine(ca _ (hA.kpN K)).mono ?_;rintro e w2 ⟨⟨v,rfl⟩,k⟩;replace M:=M.kpN k;replace G:=G.kpN k;replace E:=E.kpN k;replace R:=R.kpN k;replace K:=K.thenN k oM;have hzk:=k.size;clear k;by_cases h:v=0
 ·
  subst h;have cM:=M.cell;have fM:=M.frozen;have cG:=G.cell;have fG:=G.frozen;have cE:=E.cell;have fE:=E.frozen;have cR:=R.cell;have fR:=R.frozen;go_wp2_with fail
  refine(co _ (hA.kpN K)).mono ?_;rintro e w3 ⟨⟨m,n,rfl,n1,n2⟩,k⟩;clear cM fM cG fG cE fE cR fR;replace M:=M.kpN k;replace G:=G.kpN k;replace E:=E.kpN k;replace R:=R.kpN k;replace K:=K.thenN k oM;have hzk:=k.size;clear k;clear ca co hA M E;have pG:=G.cell;have pR:=R.cell;obtain⟨w9_,rfl,O,k9_,hzn⟩:=box1 w3 53 #[m.lo,m.hi,n.lo,n.hi];replace G:=G.kpN k9_;replace R:=R.kpN k9_;replace K:=K.thenN k9_ oU;clear k9_;have cG:=G.cell;have fG:=G.frozen;have cR:=R.cell;have fR:=R.frozen;go_wp2_with fail
  clear cG fG pG cR fR pR;generalize (w3.alloc (.cells #[m.lo,m.hi,n.lo,n.hi] 53))=w4 at *;obtain⟨y,hx⟩:∃ q9,q9=w3.heap.size:=⟨_,rfl⟩;rw[← hx] at O ⊢;replace hx:=Lib.hid hx;have hyw:w.heap.size+4≤y:=by have:=hx.out;have:=R.lt;omega
  clear hx hzn hzk hz;obtain⟨S,hS0,hS1⟩:=cls_of2 (P:=fun w'=>Blk w' _ _ _∧Blk w' _ _ _∧Kp _ _ _ w') w4 ⟨G,O,K⟩;try dsimp only at hS0
  have cG:=fun (x:Ev (S 0)) i=>((hS0 _).1 x.h).1.cell i;have cO:=fun (x:Ev (S 0)) i=>((hS0 _).1 x.h).2.1.cell i;replace G:=G.drew;replace O:=O.drew;replace K:=K.drew;replace R:=R.drew;have hevT:=ev_true;refine wro S [(0,0),(1,1),(2,0),(3,1),(6,0),(7,1),(8,0),(9,1),(4,2),(5,2),(10,2),(11,0),(12,2),(13,0)] [] ((hS0 _).2 ⟨G,O,K⟩) ?_;intro _hev;refine oX ?_;refine oL ?_;intro Kc hKc;generalize w4.drew=wd9 at *;go_step;refine(r3_thousandth d.heat n hd n2 _).mono ?_;rintro e w5 ⟨⟨g1,rfl,hg1⟩,k⟩;replace G:=G.kpN k;replace O:=O.kpN k;replace R:=R.kpN k;replace K:=K.tN k;clear k;refine hKc _ _ ((hS0 _).2 ⟨G,O,K⟩) ?_;clear hKc Kc;refine oL ?_;intro Kc hKc;go_step;refine(r3_minus g1 hg1 _).mono ?_;rintro e w6 ⟨⟨g2,rfl,hg2⟩,k⟩;replace G:=G.kpN k;replace O:=O.kpN k;replace R:=R.kpN k;replace K:=K.tN k;clear k;refine hKc _ _ ((hS0 _).2 ⟨G,O,K⟩) ?_;clear hKc Kc;refine oL ?_;intro Kc hKc;go_step;refine(r3_thousandth d.heat m hd n1 _).mono ?_;rintro e w7 ⟨⟨k2,rfl,hk2⟩,k⟩;replace G:=G.kpN k;replace O:=O.kpN k;replace R:=R.kpN k;replace K:=K.tN k;clear k;refine hKc _ _ ((hS0 _).2 ⟨G,O,K⟩) ?_;clear hKc Kc;refine oX ?_;refine oL ?_;intro Kc hKc;have cR:=R.cell;have fR:=R.frozen;go_step;obtain⟨w9,hwn,RB9,kst,hzst⟩:=R.st4 (.int .i64 g2.lo) (.int .i64 g2.hi) (.int .i64 k2.lo) (.int .i64 k2.hi);rw[← hwn];clear hwn cR fR;replace G:=G.kq kst;replace O:=O.kq kst;first|replace K:=K.thenOwn kst (Nat.le_refl _) oM|replace K:=K.then_ kst (Nat.le_refl _)
  replace R:=RB9;clear RB9 kst;simp only[sbt,sc0,scs] at R;refine hKc _ _ ((hS0 _).2 ⟨G,O,K⟩) ?_;clear hKc Kc;refine oX ?_;refine wpOrd_nil ?_;clear hevT _hev;clear cG cO hS0 hS1 S;go_wp2_with fail
  have cR:=R.cell;exact bodyPost_ret (v:=.tuple #[.agg #[g2.lo,g2.hi,k2.lo,k2.hi],(0:Int)]) (by simp[results,Tryz.results166,go_sem,cR]) rfl ⟨⟨g2,k2,_,rfl,hg2,hk2⟩,K⟩
 ·
  have cR:=R.cell;have fR:=R.frozen;go_wp2_with fail
  clear cR fR;have BR:=(((R.set_ 0 (.int .i64 0)).set_ 1 (.int .i64 0)).set_ 2 (.int .i64 0)).set_ 3 (.int .i64 0);have cR:=BR.cell;exact bodyPost_ret (v:=.tuple #[.agg #[(0:Int),(0:Int),(0:Int),(0:Int)],v]) (by simp[results,Tryz.results166,go_sem,cR]) rfl ⟨⟨⟨0,0⟩,⟨0,0⟩,_,rfl,fit0,fit0⟩,(((K.setNew (by simp<;>omega) _).setNew (by simp<;>omega) _).setNew (by simp<;>omega) _).setNew (by simp<;>omega) _⟩
theorem r3_At (p:Pt) (w:World):Calls Tryz.prog 146 #[.agg #[p.x,p.y]] w fun e w'=>e=.returned (.agg #[p.x,p.x,p.y,p.y])∧Kp w.heap.size none w w':=by
 obtain⟨w1,hw1,P,R,K,hz⟩:=box2 w 45 #[p.x,p.y] 53 #[(0:Int),(0:Int),(0:Int),(0:Int)];go_enter Tryz.func146,Tryz.ntmps146
 go_upto_region 1 with(fail)
 rw[← hw1];clear hw1;have cP:=P.cell;have fP:=P.frozen;have cR:=R.cell;have fR:=R.frozen;go_wp2_with fail
 clear cP fP cR fR;have BR:=((((R.set_ 0 (.int .i64 p.x)).set_ 1 (.int .i64 p.x)).set_ 2 (.int .i64 p.y)).set_ 3 (.int .i64 p.y));have cR:=BR.cell;exact bodyPost_ret (by simp[results,Tryz.results146,go_sem,cR]) rfl ⟨rfl,((((K.setNew (by simp<;>omega) _).setNew (by simp<;>omega) _).setNew (by simp<;>omega) _).setNew (by simp<;>omega) _)⟩
end Go.Proofs.YtdhiappifnflpaaGreatDoor
namespace Go.Proofs.YtdhiappifnflpaaGreatDoor
structure Stn where
 id:Int
 ox:Int
 oy:Int
deriving Inhabited
structure Cat where
 ver:Int
 lo:Int
 hi:Int
deriving Inhabited
structure Sky where
 W:Wd
 st:List Stn
 ct:List Cat
structure Sg where
 kind:Int
 stn:Int
 cat:Int
 tick:Int
 dx:Int
 dy:Int
 err:Int
 lo:Int
 hi:Int
def Asc:Int→List Int→Prop
 | _,[]=>True
 | k,n::r=>k<n∧Asc n r
structure Sky.ok (S:Sky):Prop where
 W:S.W.ok
 s0:0<S.st.length
 s1:S.st.length≤3
 sid:Asc 0 (S.st.map (·.id))
 soff:∀ x∈S.st,-40≤x.ox∧x.ox≤40∧-40≤x.oy∧x.oy≤40
 c0:0<S.ct.length
 c1:S.ct.length≤3
 cid:Asc 0 (S.ct.map (·.ver))
 cb:∀ x∈S.ct,-20000≤x.lo∧x.lo≤x.hi∧x.hi≤20000
def Sky.station (S:Sky) (id:Int):Option Stn:=S.st.find? fun x=>decide (x.id=id)
def Sky.catalog (S:Sky) (v:Int):Option Cat:=S.ct.find? fun x=>decide (x.ver=v)
def Sky.okSg (S:Sky) (x:Sg):Prop:=
 (1≤x.kind∧x.kind≤3)∧(0≤x.tick∧x.tick≤1073741824)∧(S.station x.stn).isSome=true ∧
 (x.kind≠2→(S.catalog x.cat).isSome=true∧(-4096≤x.dx∧x.dx≤4096∧-4096≤x.dy∧x.dy≤4096)∧¬ (x.dx=0∧x.dy=0)∧0≤x.err∧x.err≤500000) ∧
 (x.kind=2→0≤x.lo∧x.lo≤x.hi∧x.hi≤134217728)∧(x.kind=3→1≤x.hi∧x.hi≤134217728)
def Sky.from(S:Sky) (x:Sg):Pt:=⟨(S.W.hp x.tick).x+((S.station x.stn).getD default).ox,(S.W.hp x.tick).y+((S.station x.stn).getD default).oy⟩
def Sky.cone (S:Sky) (x:Sg):Cone:=⟨(S.from x).x,(S.from x).y,x.dx,x.dy,((S.catalog x.cat).getD default).lo-x.err,((S.catalog x.cat).getD default).hi+x.err⟩
def Sky.look (S:Sky) (x:Sg):Look:=
 if x.kind=2 then .reach (S.from x).x (S.from x).y x.lo x.hi else if x.kind=1 then .angle (S.cone x) else .empty (S.cone x) x.hi
def nearPl (p:Pt):Bool:=decide (-33554432≤p.x∧p.x≤33554432∧-33554432≤p.y∧p.y≤33554432)
def Sky.exB (S:Sky) (l:List Sg) (t:Int) (b:Bx):Bool:=l.any fun x=>decide (x.tick=t)&&(S.look x).excl b.place
theorem Asc.gt {k:Int}:∀ {l:List Int},Asc k l→∀ n∈l,k<n
 | [],_,n,h=>by simp at h
 | m::r,h,n,hn=>by
  simp only[List.mem_cons] at hn;rcases hn with rfl|hn
  · exact h.1
  ·
   have:=Asc.gt h.2 n hn;have:=h.1;omega
instance:Coe Sg (Array Value):=⟨fun a=>#[.int .i64 a.kind,.int .i64 a.stn,.int .i64 a.cat,.int .i64 a.tick,.int .i64 a.dx,.int .i64 a.dy,.int .i64 a.err,.int .i64 a.lo,.int .i64 a.hi]⟩
instance:Coe Sg Value:=⟨fun a=>.agg #[.int .i64 a.kind,.int .i64 a.stn,.int .i64 a.cat,.int .i64 a.tick,.int .i64 a.dx,.int .i64 a.dy,.int .i64 a.err,.int .i64 a.lo,.int .i64 a.hi]⟩
end Go.Proofs.YtdhiappifnflpaaGreatDoor
