/- The reference's pulls, weakly: what is not asked rightly; Pull. Makers of the kit: SuccessorOf. Makers of the kit: TruthOf. The statements' common start: truth. -/
import Derived.Test.YtdhiappifnflpaaGreatM46
import Derived.Test.YtdhiappifnflpaaGreatM37
set_option maxRecDepth 100000
set_option maxHeartbeats 4000000
namespace Go.Proofs.YtdhiappifnflpaaGreat
open Go.RowKit
def ErrN (w:World) (e:Ending) (w':World):Prop:=(∃ v:Int,e=.returned (.int .i64 v)∧v≠0)∧Kp w.heap.size none w w'
theorem not_fit {s:Sp} (h:¬ s.fit) (h1:btw s.lo (-1152921504606846976) 1152921504606846976=true) (h2:btw s.hi (-1152921504606846976) 1152921504606846976=true):s.hi<s.lo:=by
 have a:=btw_of h1;have b:=btw_of h2;unfold Sp.fit at h;omega
theorem r1_Check_bad (s:Sp) (h:¬ s.fit) (w:World):Calls Tryz.prog 237 #[s] w (ErrN w):=by
 have c1:=fun w=>bolideref01_fits_any s.lo w;have c2:=fun w=>bolideref01_fits_any s.hi w;have hn:=not_fit h;clear h;generalize btw s.lo _ _=x at *;generalize btw s.hi _ _=y at *;replace hn:=Lib.hid hn;obtain⟨w1,hw1,B,K,hz⟩:=box1 w 29 s;cases x
 ·
  clear c2 hn;go_enter Tryz.func237,Tryz.ntmps237
  go_wp2_with fail
  rw[← hw1];clear hw1;refine mK (c1 _) fun w2 k=>?_;replace B:=B.kpN k;replace K:=K.thenN k oM;have hzk:=k.size;clear k;have cB:=B.cell;have fB:=B.frozen;go_wp2_with fail
  clear cB fB;go_ret
  exact⟨⟨_,rfl,by omega⟩,K⟩
 ·
  cases y
  ·
   clear hn;go_enter Tryz.func237,Tryz.ntmps237
   go_wp2_with fail
   rw[← hw1];clear hw1;refine mK (c1 _) fun w2 k=>?_;replace B:=B.kpN k;replace K:=K.thenN k oM;have hzk:=k.size;clear k;have cB:=B.cell;have fB:=B.frozen;go_wp2_with fail
   refine mK (c2 _) fun w3 k=>?_;clear cB fB;replace B:=B.kpN k;replace K:=K.thenN k oM;have hzk:=k.size;clear k;have cB:=B.cell;have fB:=B.frozen;go_wp2_with fail
   clear cB fB;go_ret
   exact⟨⟨_,rfl,by omega⟩,K⟩
  ·
   have hl:=hn.out rfl rfl;clear hn;go_enter Tryz.func237,Tryz.ntmps237
   go_wp2_with fail
   rw[← hw1];clear hw1;refine mK (c1 _) fun w2 k=>?_;replace B:=B.kpN k;replace K:=K.thenN k oM;have hzk:=k.size;clear k;have cB:=B.cell;have fB:=B.frozen;go_wp2_with fail
   refine mK (c2 _) fun w3 k=>?_;clear cB fB;replace B:=B.kpN k;replace K:=K.thenN k oM;have hzk:=k.size;clear k;have cB:=B.cell;have fB:=B.frozen;go_wp2_with fail
   clear cB fB;go_ret
   exact⟨⟨_,rfl,by omega⟩,K⟩
theorem r1_both_bad (a b:Sp) (h:¬ (a.fit∧b.fit)) (w:World):Calls Tryz.prog 221 #[a,b] w (ErrN w):=by
 obtain⟨w1,hw1,A,B,K,hz⟩:=box2 w 29 a 29 b;by_cases ha:a.fit
 ·
  have hb:¬ b.fit:=fun k=>h ⟨ha,k⟩;have c1:=fun w=>r1_Check_t a ha w;have c2:=fun w=>r1_Check_bad b hb w;clear h ha hb;go_enter Tryz.func221,Tryz.ntmps221
  go_wp2_with fail
  rw[← hw1];clear hw1;refine mK (c1 _) fun w2 k=>?_;replace A:=A.kpN k;replace B:=B.kpN k;replace K:=K.thenN k oM;have hzk:=k.size;clear k;have cA:=A.cell;have fA:=A.frozen;have cB:=B.cell;have fB:=B.frozen;go_wp2_with fail
  refine(c2 _).mono ?_;rintro e w3 ⟨⟨v,rfl,hv⟩,k⟩;clear cA fA cB fB;replace A:=A.kpN k;replace B:=B.kpN k;replace K:=K.thenN k oM;have hzk:=k.size;clear k;go_wp2
  go_ret
  exact⟨⟨_,rfl,hv⟩,K⟩
 ·
  have c1:=fun w=>r1_Check_bad a ha w;clear h ha;go_enter Tryz.func221,Tryz.ntmps221
  go_wp2_with fail
  rw[← hw1];clear hw1;refine(c1 _).mono ?_;rintro e w2 ⟨⟨v,rfl,hv⟩,k⟩;replace A:=A.kpN k;replace B:=B.kpN k;replace K:=K.thenN k oM;have hzk:=k.size;clear k;have cB:=B.cell;have fB:=B.frozen;go_wp2_with fail
  clear cB fB;go_ret
  exact⟨⟨_,rfl,hv⟩,K⟩
theorem r1_CheckArea_bad (a b:Sp) (h:¬ (a.fit∧b.fit)) (w:World):Calls Tryz.prog 198 #[.agg #[a.lo,a.hi,b.lo,b.hi]] w (ErrN w):=by
 have c1:=fun w=>r1_both_bad a b h w;clear h;obtain⟨w1,hw1,A,K,hz⟩:=box1 w 167 #[a.lo,a.hi,b.lo,b.hi];go_enter Tryz.func198,Tryz.ntmps198
 go_wp2_with fail
 rw[← hw1];clear hw1;refine(c1 _).mono ?_;rintro e w2 ⟨⟨v,rfl,hv⟩,k⟩;replace A:=A.kpN k;replace K:=K.thenN k oM;have hzk:=k.size;clear k;have cA:=A.cell;have fA:=A.frozen;go_wp2_with fail
 clear cA fA;go_ret
 exact⟨⟨_,rfl,hv⟩,K⟩
theorem r3_asked_bad (A:Option Addr) (c:Nat) (W:Wd) (d:Dr) (t:Int) (a b:Sp) (w:World) (hW:W.ok) (hA:WdAt none w A W) (h:¬ (a.fit∧b.fit)) :
  Calls Tryz.prog 179 #[.agg #[.slice A W.bs.length c,W.home],d,t,.agg #[a.lo,a.hi,b.lo,b.hi]] w (ErrN w):=by
 have cw:=fun w h=>r2_CheckWorld_any A c W w hW h;have cb:=fun w=>r1_CheckArea_bad a b h w;clear hW h;obtain⟨w1,hw1,M,G,E,K,hz⟩:=box3 w 27 #[.slice A W.bs.length c,W.home] 31 d 167 #[a.lo,a.hi,b.lo,b.hi];go_enter Tryz.func179,Tryz.ntmps179
 go_wp2_with fail
 rw[← hw1];clear hw1;refine mK (cw _ (hA.kpN K)) fun w2 k=>?_;replace M:=M.kpN k;replace G:=G.kpN k;replace E:=E.kpN k;replace K:=K.thenN k oM;have hzk:=k.size;clear k;clear hA cw;have cG:=G.cell;have fG:=G.frozen;have cE:=E.cell;have fE:=E.frozen;go_wp2_with fail
 refine(r3_CheckDrift d _).mono ?_;rintro e w2 ⟨⟨v,rfl⟩,k⟩;clear cG fG cE fE;replace G:=G.kpN k;replace E:=E.kpN k;replace K:=K.thenN k oM;have hzk:=k.size;clear k;by_cases h:v=0
 ·
  subst h;have cE:=E.cell;have fE:=E.frozen;go_wp2_with fail
  refine mK (bolideref03_between_any t _ _ _) fun w2 k=>?_;clear cE fE;replace E:=E.kpN k;replace K:=K.thenN k oM;have hzk:=k.size;clear k;generalize btw t _ _=b1;cases b1
  ·
   go_wp2_with fail
   go_ret
   exact⟨⟨_,rfl,by omega⟩,K⟩
  ·
   have cE:=E.cell;have fE:=E.frozen;go_wp2_with fail
   refine(cb _).mono ?_;rintro e w2 ⟨⟨v,rfl,hv⟩,k⟩;clear cE fE;replace E:=E.kpN k;replace K:=K.thenN k oM;have hzk:=k.size;clear k;go_wp2_with fail
   go_ret
   exact⟨⟨_,rfl,hv⟩,K⟩
 ·
  go_wp2_with fail
  go_ret
  exact⟨⟨_,rfl,h⟩,K⟩
theorem r3_Over_bad (A:Option Addr) (c:Nat) (W:Wd) (d:Dr) (t:Int) (a b:Sp) (w:World) (hW:W.ok) (hA:WdAt none w A W) (h:¬ (a.fit∧b.fit)) :
  Calls Tryz.prog 155 #[.agg #[.slice A W.bs.length c,W.home],d,t,.agg #[a.lo,a.hi,b.lo,b.hi]] w (ArE w):=by
 have ca:=fun w h'=>r3_asked_bad A c W d t a b w hW h' h;clear hW h;obtain⟨w1,hw1,M,G,E,R,K,hz⟩:=box4 w 27 #[.slice A W.bs.length c,W.home] 31 d 167 #[a.lo,a.hi,b.lo,b.hi] 167 #[(0:Int),(0:Int),(0:Int),(0:Int)];go_enter Tryz.func155,Tryz.ntmps155
 go_wp2_with fail
 rw[← hw1];clear hw1;refine(ca _ (hA.kpN K)).mono ?_;rintro e w2 ⟨⟨v,rfl,hv⟩,k⟩;replace M:=M.kpN k;replace G:=G.kpN k;replace E:=E.kpN k;replace R:=R.kpN k;replace K:=K.thenN k oM;have hzk:=k.size;clear k;clear ca;have cR:=R.cell;have fR:=R.frozen;go_wp2_with fail
 clear cR fR;have BR:=(((R.set_ 0 (.int .i64 0)).set_ 1 (.int .i64 0)).set_ 2 (.int .i64 0)).set_ 3 (.int .i64 0);have cR:=BR.cell;exact bodyPost_ret (v:=.tuple #[.agg #[(0:Int),(0:Int),(0:Int),(0:Int)],v]) (by simp[results,Tryz.results155,go_sem,cR]) rfl ⟨⟨⟨0,0⟩,⟨0,0⟩,_,rfl,fit0,fit0⟩,(((K.setNew (by simp<;>omega) _).setNew (by simp<;>omega) _).setNew (by simp<;>omega) _).setNew (by simp<;>omega) _⟩
theorem r3_Over_all (A:Option Addr) (c:Nat) (W:Wd) (d:Dr) (t:Int) (a b:Sp) (w:World) (hW:W.ok) (hA:WdAt none w A W) (hd:d.ok) (ht:0≤t∧t≤1073741824) :
  Calls Tryz.prog 155 #[.agg #[.slice A W.bs.length c,W.home],d,t,.agg #[a.lo,a.hi,b.lo,b.hi]] w (ArE w):=by
 by_cases h:a.fit∧b.fit
 · exact r3_Over A c W d t a b w hW hA hd ht h.1 h.2
 · exact r3_Over_bad A c W d t a b w hW hA h
theorem r3_Pull (A:Option Addr) (c:Nat) (W:Wd) (d:Dr) (t:Int) (p:Pt) (w:World) (hW:W.ok) (hA:WdAt none w A W) (hd:d.ok) (ht:0≤t∧t≤1073741824) :
  Calls Tryz.prog 109 #[.agg #[.slice A W.bs.length c,W.home],d,t,.agg #[p.x,p.y]] w (ArE w):=by
 have cl:=fun w h=>r3_Over_all A c W d t ⟨p.x,p.x⟩ ⟨p.y,p.y⟩ w hW h hd ht;dsimp only at cl;clear hW hd ht;obtain⟨w1,hw1,M,G,V,R,K,hz⟩:=box4 w 27 #[.slice A W.bs.length c,W.home] 31 d 73 #[p.x,p.y] 167 #[(0:Int),(0:Int),(0:Int),(0:Int)];go_enter Tryz.func109,Tryz.ntmps109
 go_wp2_with fail
 rw[← hw1];clear hw1;obtain⟨S,hS0,hS1⟩:=cls_of2 (P:=fun w'=>Blk w' _ _ _∧Blk w' _ _ _∧Blk w' _ _ _∧Kp _ _ _ w') w1 ⟨M,G,V,K⟩;try dsimp only at hS0
 have cM:=fun (x:Ev (S 0)) i=>((hS0 _).1 x.h).1.cell i;have cG:=fun (x:Ev (S 0)) i=>((hS0 _).1 x.h).2.1.cell i;have cV:=fun (x:Ev (S 0)) i=>((hS0 _).1 x.h).2.2.1.cell i;replace M:=M.drew;replace G:=G.drew;replace V:=V.drew;replace K:=K.drew;replace R:=R.drew;have hevT:=ev_true;refine wro S [(0,1),(1,1),(2,0),(3,1),(4,2),(5,2),(6,0),(7,0),(8,2),(9,0)] [] ((hS0 _).2 ⟨M,G,V,K⟩) ?_;intro _hev;refine oX ?_;refine oL ?_;intro Kc hKc;generalize w1.drew=wd9 at *;go_step;refine mK (r3_At p _) fun w2 k=>?_;replace M:=M.kpN k;replace G:=G.kpN k;replace V:=V.kpN k;replace R:=R.kpN k;replace K:=K.tN k;clear k;refine hKc _ _ ((hS0 _).2 ⟨M,G,V,K⟩) ?_;clear hKc Kc;refine oL ?_;intro Kc hKc;go_step;refine(cl _ (hA.kpN K)).mono ?_;rintro e w3 ⟨⟨a,b,v,rfl,f1,f2⟩,k⟩;replace M:=M.kpN k;replace G:=G.kpN k;replace V:=V.kpN k;replace R:=R.kpN k;replace K:=K.tN k;clear k;refine hKc _ _ ((hS0 _).2 ⟨M,G,V,K⟩) ?_;clear hKc Kc;refine oX ?_;refine oL ?_;intro Kc hKc;have cR:=R.cell;have fR:=R.frozen;go_step;obtain⟨w9,hwn,RB9,kst,hzst⟩:=R.st4 (.int .i64 a.lo) (.int .i64 a.hi) (.int .i64 b.lo) (.int .i64 b.hi);rw[← hwn];clear hwn cR fR;replace M:=M.kq kst;replace G:=G.kq kst;replace V:=V.kq kst;first|replace K:=K.thenOwn kst (Nat.le_refl _) oM|replace K:=K.then_ kst (Nat.le_refl _)
 replace R:=RB9;clear RB9 kst;simp only[sbt,sc0,scs] at R;refine hKc _ _ ((hS0 _).2 ⟨M,G,V,K⟩) ?_;clear hKc Kc;refine oX ?_;refine wpOrd_nil ?_;clear hevT _hev;clear cM cG cV hS0 hS1 S;go_wp2_with fail
 have cR:=R.cell;exact bodyPost_ret (v:=.tuple #[.agg #[a.lo,a.hi,b.lo,b.hi],v]) (by simp[results,Tryz.results109,go_sem,cR]) rfl ⟨⟨a,b,v,rfl,f1,f2⟩,K⟩
theorem mod64_wide (n m:Int) (w:World) (hm:0<m) (hm2:m≤4611686018427387904) :
  Calls Tryz.prog 110 #[n,m] w fun e w'=>e=.returned (.int .i64 (n % m))∧Kp w.heap.size none w w':=by
 have hb:=tmod_bd n m hm;have HE:=Lib.hid (tmod_emod n m hm);go_enter Tryz.func110,Tryz.ntmps110
 go_wp2
 ·
  have ht:n.tmod m<0:=by assumption
  go_ret
  exact⟨by rw[HE.out,if_pos ht];rfl,Kp.refl _ _ _⟩
 ·
  have ht:0≤n.tmod m:=by assumption
  go_ret
  exact⟨by rw[HE.out,if_neg oM];rfl,Kp.refl _ _ _⟩
theorem inSpan_w (s:Sp) (v:Int) (w:World) (h:s.fit) :
  Calls Tryz.prog 64 #[s,v] w fun e w'=>∃ x:Int,e=.returned (.int .i64 x)∧Kp w.heap.size none w w':=by
 have h2:=h.2.1;have h1:=h.1;have h3:=h.2.2;clear h;have hm:=mod_bounds v (s.hi-s.lo+1) oM;have cc:=fun w=>mod64_wide v (s.hi-s.lo+1) w oM oM;have e1:s.lo+v % (s.hi-s.lo+1)≤s.hi:=by omega
 have e2:s.lo≤s.lo+v % (s.hi-s.lo+1):=by omega
 generalize v % (s.hi-s.lo+1)=x at *;clear hm;obtain⟨w1,hw1,P,K,hz⟩:=box1 w 29 s;go_enter Tryz.func64,Tryz.ntmps64
 go_wp2_with fail
 rw[← hw1];clear hw1;obtain⟨S,hS0⟩:=cls_of (P:=fun w'=>Blk w' _ _ _∧Kp _ none _ w') w1 ⟨P,K⟩;try dsimp only at hS0
 have cP:=fun (x:Ev (S 0)) i=>((hS0 _).1 x.h).1.cell i;replace P:=P.drew;replace K:=K.drew;have hevT:=ev_true;refine wro S [(0,0),(1,1),(2,0),(3,0),(4,1),(5,0),(6,1),(7,0),(8,0),(9,2),(10,0),(11,0)] [] ((hS0 _).2 ⟨P,K⟩) ?_;intro _hev;refine oX ?_;refine oL ?_;intro Kc hKc;go_step;refine mK (cc _) fun w2 k=>?_;replace P:=P.kpN k;replace K:=K.tN k;clear k;refine hKc _ _ ((hS0 _).2 ⟨P,K⟩) ?_;clear hKc Kc;refine oX ?_;refine wpOrd_nil ?_;clear hevT _hev;clear cP hS0 S;go_wp2
 go_ret
 exact⟨_,rfl,K⟩
theorem st4_fin {Q:World→Prop} {w w4:World} {r:Nat} {T:TypeId} {cs:Array Value} {n:Nat} {row:Option Nat} {x0 x1 x2 x3:Int} (R:Blk w4 r T cs) (K:Kp n row w w4) (hr:n≤r)
  (h:∀ (s:St) w5,Blk w5 r T ((((cs.setIfInBounds 0 (.int .i64 s.x)).setIfInBounds 1 (.int .i64 s.y)).setIfInBounds 2 (.int .i64 s.u)).setIfInBounds 3 (.int .i64 s.v))→Kp w4.heap.size (some r) w4 w5→Kp n row w w5→Q w5) :
  Q ((((w4.setCell ⟨r,0,none⟩ (.int .i64 x0)).setCell ⟨r,1,none⟩ (.int .i64 x1)).setCell ⟨r,2,none⟩ (.int .i64 x2)).setCell ⟨r,3,none⟩ (.int .i64 x3)):=
 h ⟨x0,x1,x2,x3⟩ _ ((((R.set_ 0 _).set_ 1 _).set_ 2 _).set_ 3 _) (((((Kp.refl _ (some r) w4).setRow (p:=⟨r,_,none⟩) rfl _).setRow (p:=⟨r,_,none⟩) rfl _).setRow (p:=⟨r,_,none⟩) rfl _).setRow (p:=⟨r,_,none⟩) rfl _) ((((K.setNew hr _).setNew hr _).setNew hr _).setNew hr _)
theorem successorOf_any (g:Nat) (nums:List Int) (k:Nat) (A:Option Addr) (c:Nat) (W:Wd) (d:Dr) (t:Int) (s:St) (w:World) (HR:RingAt w g nums k) (hk:k≤900000) (hW:W.ok) (hA:WdAt (some g) w A W) (hd:d.ok) (ht:0≤t∧t≤1073741824) :
  Calls Tryz.prog 62 #[.pointer (some ⟨g,0,none⟩),.agg #[.slice A W.bs.length c,W.home],d,t,s] w (RPostB g nums (k+8) w fun v _=>∃ s':St,v=.agg s'):=by
 have hg:=HR.lt;have cp:=fun w h=>r3_Pull A c W d t ⟨s.x,s.y⟩ w hW h hd ht;dsimp only at cp;clear hW hd ht;obtain⟨w1,hw1,M,G,Z,R,K,hz⟩:=box4 w 27 #[.slice A W.bs.length c,W.home] 31 d 55 s 55 #[(0:Int),(0:Int),(0:Int),(0:Int)];replace HR:=HR.kpN K;replace K:=K.wide (some g);go_enter Tryz.func62,Tryz.ntmps62
 go_wp2_with fail
 rw[← hw1];clear hw1;have cM:=M.cell;have cG:=G.cell;have cZ:=Z.cell;go_wp2_with fail
 refine(cp _ (hA.kp K).free).mono ?_;rintro e w2 ⟨⟨a,b,v,rfl,f1,f2⟩,q⟩;clear cM cG cZ M G cp hA;replace Z:=Z.kpN q;replace R:=R.kpN q;replace HR:=HR.kpN q;replace K:=K.tN q;have lR:=R.lt;clear q;replace HR:=HR.alloc (.cells #[a.lo,a.hi,b.lo,b.hi] 167);have pZ:=Z.cell;have pR:=R.cell;obtain⟨w9_,rfl,L,k9_,hzn⟩:=box1 w2 167 #[a.lo,a.hi,b.lo,b.hi];replace Z:=Z.kpN k9_;replace R:=R.kpN k9_;replace K:=K.thenN k9_ oU;clear k9_;have cZ:=Z.cell;have fZ:=Z.frozen;have cR:=R.cell;have fR:=R.frozen;go_wp2_with fail
 clear cZ fZ pZ cR fR pR;generalize (w2.alloc (.cells #[a.lo,a.hi,b.lo,b.hi] 167))=w3 at *;obtain⟨y,hx⟩:∃ q9,q9=w2.heap.size:=⟨_,rfl⟩;rw[← hx] at L ⊢;replace hx:=Lib.hid hx;have y1:w.heap.size+4≤y:=by have:=hx.out;omega
 clear hx hzn hz lR;refine(func4_any g nums k _ HR oM).mono ?_;rintro e w4 ⟨v2,k2,rfl,⟨x0,x1,x2,x3,rfl⟩,hk2,HR2,kk⟩;replace Z:=Z.kq kk;replace R:=R.kq kk;replace L:=L.kq kk;replace K:=K.then_ kk (Nat.le_refl _);clear HR kk;have HR:=HR2;clear HR2;have lL:=L.lt;replace HR:=HR.alloc (.cells #[x0,x1,x2,x3] 125);have hzK:=K.size;have pZ:=Z.cell;have pR:=R.cell;have pL:=L.cell;obtain⟨w9_,rfl,F,k9_,hzn⟩:=box1 w4 125 #[x0,x1,x2,x3];replace Z:=Z.kpN k9_;replace R:=R.kpN k9_;replace L:=L.kpN k9_;replace K:=K.thenN k9_ oU;clear k9_;have cZ:=Z.cell;have fZ:=Z.frozen;have cR:=R.cell;have fR:=R.frozen;have cL:=L.cell;have fL:=L.frozen;go_wp2_with fail
 clear cZ fZ pZ cR fR pR cL fL pL;generalize (w4.alloc (.cells #[x0,x1,x2,x3] 125))=w5 at *;obtain⟨y2,hx⟩:∃ q9,q9=w4.heap.size:=⟨_,rfl⟩;rw[← hx] at F ⊢;replace hx:=Lib.hid hx;have y3:y<y2:=by have:=hx.out;omega
 clear hx hzn lL hzK;obtain⟨S,hS0,hS1⟩:=cls_of2 (P:=fun w'=>Blk w' _ _ _∧Blk w' _ _ _∧Blk w' _ _ _∧Kp _ _ _ w') w5 ⟨Z,L,F,K⟩;try dsimp only at hS0
 have cZ:=fun (x:Ev (S 0)) i=>((hS0 _).1 x.h).1.cell i;have cL:=fun (x:Ev (S 0)) i=>((hS0 _).1 x.h).2.1.cell i;have cF:=fun (x:Ev (S 0)) i=>((hS0 _).1 x.h).2.2.1.cell i;replace Z:=Z.drew;replace L:=L.drew;replace F:=F.drew;replace K:=K.drew;replace R:=R.drew;replace HR:=HR.drew;have hevT:=ev_true;refine wro S [(0,0),(1,1),(2,0),(3,1),(4,0),(5,1),(8,0),(9,1),(10,0),(11,1),(12,0),(13,1),(6,2),(7,0),(14,2),(15,0),(16,0),(17,0)] [] ((hS0 _).2 ⟨Z,L,F,K⟩) ?_;intro _hev;refine oX ?_;refine oL ?_;intro Kc hKc;generalize w5.drew=wd9 at *;go_step;refine(inSpan_w a _ _ f1).mono ?_;rintro e w6 ⟨u1,rfl,k⟩;replace Z:=Z.kpN k;replace L:=L.kpN k;replace F:=F.kpN k;replace R:=R.kpN k;replace HR:=HR.kpN k;replace K:=K.tN k;clear k;refine hKc _ _ ((hS0 _).2 ⟨Z,L,F,K⟩) ?_;clear hKc Kc;refine oX ?_;refine oL ?_;intro Kc hKc;go_step;refine(inSpan_w b _ _ f2).mono ?_;rintro e w7 ⟨u2,rfl,k⟩;replace Z:=Z.kpN k;replace L:=L.kpN k;replace F:=F.kpN k;replace R:=R.kpN k;replace HR:=HR.kpN k;replace K:=K.tN k;clear k;refine hKc _ _ ((hS0 _).2 ⟨Z,L,F,K⟩) ?_;clear hKc Kc;refine oX ?_;refine wpOrd_nil ?_;clear hevT _hev;clear cZ cL cF hS0 hS1 S;have cZ:=Z.cell;have cR:=R.cell;have fR:=R.frozen;go_wp2_with fail
 clear cR fR cZ;refine st4_fin (Q:=fun W=>bodyPost _ _ _ _ _ W) R K oM fun s' w9 B5 kst K5=>?_;have cR:=B5.cell;refine bodyPost_ret (v:=.agg s') ?_ rfl ⟨_,k2,rfl,⟨s',rfl⟩,hk2,HR.kpRow kst oM,K5⟩;simp[results,Tryz.results62,go_sem,cR]
theorem state_info:(Tryz.prog.info? 55).map (fun i=>(i.zero,i.size,i.bytes))=some (some (.agg #[(0:Int),(0:Int),(0:Int),(0:Int)]),4,32):=by kernel_rfl
theorem st_newAt (w:World) (T:TypeId) (x:St) {N:Nat} (hN:N=w.heap.size):∀ j u,(encSt x)[j]?=some u→(w.alloc (.cells x T)).cell? ((⟨N,0,none⟩:Addr).add j)=some u:=by
 subst hN;intro j u hj;rw[Addr.add_lit,Nat.zero_add,(Blk.new w T x).cell];exact(show (encSt x).toArray[j]?=some u by simpa using hj)
theorem st_one (x:St):∀ u∈encSt x,u.oneCell'=true:=by
 intro u hu;simp only[encSt,List.mem_cons,List.not_mem_nil,or_false] at hu;rcases hu with rfl|rfl|rfl|rfl<;>rfl
theorem own_st1 (w:World) (B:Nat) (s:St) (hB:B≤w.heap.size):Own (w.alloc (.cells s 55)) B 55 4 encSt (.slice (some ⟨w.heap.size,0,none⟩) 1 1) [s]:=
 World.ownsRow_lit w _ 1 hB (maxLen_of oM) rfl
def ToAt (g:Nat) (nums:List Int) (k:Nat) (A:Option Addr) (c:Nat) (W:Wd) (d:Dr) (s:St) (n:Nat) (w:World) (v j:Value) (wr:World):Prop:=
 ∃ (i:Nat) (m:List St) (z:St) (k':Nat),j=.int .i64 i∧i≤n∧m.length=i+1∧m.head?=some s∧Own wr (w.heap.size+3) 55 4 encSt v m∧Blk wr w.heap.size 27 #[.slice A W.bs.length c,W.home] ∧
  Blk wr (w.heap.size+1) 31 d∧Blk wr (w.heap.size+2) 55 z∧RingAt wr g nums k'∧k'≤k+8 * i∧w.heap.size+3≤wr.heap.size∧Kp w.heap.size (some g) w wr
theorem Own.capLe {α:Type} {w:World} {B e sz n cap:Nat} {A:Option Addr} {enc:α→List Value} {xs:List α} (h:Own w B e sz enc (.slice A n cap) xs):xs.length≤cap:=by
 rcases h.2 with⟨_,h0⟩|⟨g,cap',cur,e,_,_,hle,_⟩
 · omega
 ·
  simp only[Value.slice.injEq] at e;omega
def ToP (s:St) (n N:Nat) (v:Value) (w':World):Prop:=∃ (A:Option Addr) (cap:Nat) (l:List St),v=.slice A l.length cap∧l.length=n+1∧l.head?=some s∧Rd none w' 4 encSt A l.length l∧(∀ ad,A=some ad→N≤ad.block)∧l.length≤cap
theorem truthOf_any (g:Nat) (nums:List Int) (k:Nat) (A:Option Addr) (c:Nat) (W:Wd) (d:Dr) (t:Int) (s:St) (n:Nat) (w:World) (HR:RingAt w g nums k) (hk:k≤800000) (hn:n≤1000) (hW:W.ok) (hA:WdAt (some g) w A W) (hd:d.ok) (ht:0≤t∧t≤1000) :
  Calls Tryz.prog 25 #[.pointer (some ⟨g,0,none⟩),.agg #[.slice A W.bs.length c,W.home],d,t,s,n] w (RPostB g nums (k+8 * n) w (ToP s n w.heap.size)):=by
 obtain⟨i0,hi,hz0,hz1,hz2⟩:=info_parts state_info;have hg:=HR.lt;have cs:=fun k i z w HR hk h hi=>successorOf_any g nums k A c W d (t+(i:Nat)) z w HR hk hW h hd hi;clear hW hd;obtain⟨w1,hw1,M,G,Z,K,hz⟩:=box3 w 27 #[.slice A W.bs.length c,W.home] 31 d 55 s;replace HR:=HR.kpN K;replace K:=K.wide (some g);have ow:=own_st1 w1 (w.heap.size+3) s oM;rw[show (Value.slice (some ⟨w1.heap.size,0,none⟩) 1 1)=.slice (some ⟨w.heap.size+3,0,none⟩) 1 1 by rw[hz]] at ow;go_enter Tryz.func25,Tryz.ntmps25
 go_upto_region 1 with(fail)
 rw[← hw1];clear hw1;have cZ:=Z.cell;go_wp2_with fail
 clear cZ;replace M:=M.alloc (.cells s 55);replace G:=G.alloc (.cells s 55);replace Z:=Z.alloc (.cells s 55);replace HR:=HR.alloc (.cells s 55);replace K:=K.alloc oM (.cells s 55);have hz2':w.heap.size+3≤(w1.alloc (.cells s 55)).heap.size:=by simp;omega
 generalize w1.alloc (.cells s 55)=w2 at *;go_loopw [13,14] (fun v j wr=>ToAt g nums k A c W d s n w v j wr) (fun _ j _=>(n:Int).toNat-(intOf j).toNat)
 case atStart=>exact⟨0,[s],s,k,rfl,Nat.zero_le _,rfl,rfl,ow,M,G,Z,HR,by omega,hz2',K⟩
 case round=>
  clear ow M G Z HR K hz2' hz;obtain⟨i,m,z,k',rfl,hi9,hml,hh,ow,M,G,Z,HR,hk',hB,K⟩:=hrel;by_cases h:i<n
  ·
   have hii:(i:Int)<(n:Int):=by omega
   have ew:wrap64 (t+(i:Int))=t+(i:Int):=by unfold wrap64;omega
   have hm:(n:Int).toNat-((i+1:Nat):Int).toNat<(n:Int).toNat-(i:Int).toNat:=by omega
   have hm5:m.length≤2000:=by omega
   have hti:0≤t+(i:Int)∧t+(i:Int)≤1073741824:=by omega
   have hk5:k'≤900000:=by omega
   replace hm:=Lib.hid hm;replace hml:=Lib.hid hml;replace hh:=Lib.hid hh;have cM:=M.cell;have cG:=G.cell;have cZ:=Z.cell;go_wp2_with fail
   clear cM cG cZ;refine(cs k' i z _ HR hk5 (hA.kp K) hti).mono ?_;rintro e w4 ⟨v2,k2,rfl,⟨z',rfl⟩,hk2,HR2,kk⟩;replace ow:=ow.kp kk (fun b hb=>oN);replace M:=M.kq kk;replace G:=G.kq kk;replace Z:=Z.kq kk;replace K:=K.then_ kk (Nat.le_refl _);replace hB:=Nat.le_trans hB kk.size;clear HR kk;have HR:=HR2;clear HR2;have cZ:=Z.cell;have fZ:=Z.frozen;obtain⟨w5,hw5,Z5,kst,hz5⟩:=Z.st4 (.int .i64 z'.x) (.int .i64 z'.y) (.int .i64 z'.u) (.int .i64 z'.v);simp only[sbt,sc0,scs] at Z5;go_upto_region 6 with(fail)
   rw[← hw5];clear hw5 cZ fZ Z ew;replace ow:=ow.kp kst (fun b hb=>oN);replace M:=M.kq kst;replace G:=G.kq kst;replace K:=K.thenOwn kst (Nat.le_refl _) oM;replace HR:=HR.kpRow kst oM;replace hB:w.heap.size+3≤w5.heap.size:=by omega
   clear kst hz5;have cZ:=Z5.cell;replace M:=Lib.hid M;replace G:=Lib.hid G;replace HR:=Lib.hid HR;replace K:=Lib.hid K;replace hk2:=Lib.hid hk2;replace hk':=Lib.hid hk';go_wp2_with (at_builtin;go_loud (refine wpList_append_own_at _ (by rfl) (.tmp 30) (.tmp 32) 36 (by rfl) (w.heap.size+3) 55 i0 _ 4 32 Tryz.underlying36 hi hz0 hz1 hz2 (by rfl) oM u13 m.length (m.flatMap encSt) (by rfl) (ow.alloc _) ⟨w5.heap.size,0,none⟩ 1 1 (encSt z') (by rfl) (by rfl) (st_newAt _ _ z' rfl) (st_one _) (maxLen_of oM) oM (alloc_ge hB _) ?_);intro v4 w10 hown4 hgrow _ hat)
   have hge:∀ b,u13.ownBlock=some b→w.heap.size+3≤b:=fun b hb=>(ow.ge b hb).1;have ow4:Own w10 (w.heap.size+3) 55 4 encSt v4 (m++[z']):=by unfold Own;simpa using hown4
   have M4:=(M.out.alloc _).grownO hgrow (fun b hb=>by have:=hge b hb;omega);have G4:=(G.out.alloc _).grownO hgrow (fun b hb=>by have:=hge b hb;omega);have Z4:=(Z5.alloc _).grownO hgrow (fun b hb=>by have:=hge b hb;omega);have HR4:=(HR.out.alloc _).grown hgrow (fun b hb=>by have:=hge b hb;omega);have K4:=(K.out.thenN (Kp.new1 _ _) (Nat.le_refl _)).grown hgrow (by have:=K.out.size;simp;omega) (fun b hb=>by have:=hge b hb;omega)
   exact⟨⟨i+1,m++[z'],z',k2,by congr 1,h,by rw[List.length_append,hml.out];rfl,by
    have:=hh.out;cases m with
    | nil=>cases this
    | cons a r=>simpa using this,ow4,M4,G4,Z4,HR4,by have:=hk2.out;have:=hk'.out;omega,by have:=hgrow.size;simp at this;omega,K4⟩,hm.out⟩
  ·
   obtain rfl:i=n:=by omega
   clear cs hA;obtain⟨A2,cap2,rfl,rd2,hf2⟩:=ow.rd (row:=none) (fun _=>rfl) (fun b hb e=>by cases e);have hcl:=Lib.hid ow.capLe;clear ow M G Z;replace hml:=Lib.hid hml;go_wp2
   exact bodyPost_ret (v:=.slice A2 m.length cap2) (by simp[results,Tryz.results25,go_sem]) rfl ⟨_,k',rfl,⟨A2,cap2,m,rfl,hml.out,hh,rd2,fun ad h=>by have:=(hf2 ad h).1;omega,hcl.out⟩,hk',HR,K⟩
def TrP (W:Wd) (d:Dr) (t:Int) (b:Bx) (n N:Nat) (v:Value) (w':World):Prop:=
 ∃ (A:Option Addr) (cap:Nat) (l:List St) (z:St) (ok:Bool),v=.tuple #[.slice A l.length cap,.bool ok]∧l.length=n+1∧l.head?=some z∧b.has z∧Rd none w' 4 encSt A l.length l∧(ok=true→TruthW W d t l)∧(∀ ad,A=some ad→N≤ad.block)∧l.length≤cap
theorem truth_any (g:Nat) (nums:List Int) (k:Nat) (A:Option Addr) (c:Nat) (W:Wd) (d:Dr) (t:Int) (b:Bx) (n:Nat) (w:World) (HR:RingAt w g nums k) (hk:k≤700000) (hn:n≤900) (hW:W.ok) (hA:WdAt (some g) w A W) (hd:d.ok) (ht:0≤t∧t≤1000) (hb:okBx b=true) :
  Calls Tryz.prog 7 #[.pointer (some ⟨g,0,none⟩),.agg #[.slice A W.bs.length c,W.home],d,t,b,n] w (RPostB g nums (k+8+8 * n) w (TrP W d t b n w.heap.size)):=by
 have hg:=HR.lt;have cs:=fun k w HR hk=>stateIn_any g nums k b w HR hk hb;have ct:=fun k z w HR hk h=>truthOf_any g nums k A c W d t z n w HR hk oM hW h hd ht;have co:=fun B m l w h hr hl=>orbit_Truth_any A c W d t B m l w hW h hd oM hr hl;clear hW hd ht hb;obtain⟨w1,hw1,M,G,X,K,hz⟩:=box3 w 27 #[.slice A W.bs.length c,W.home] 31 d 33 b;replace HR:=HR.kpN K;replace K:=K.wide (some g);go_enter Tryz.func7,Tryz.ntmps7
 go_wp2_with fail
 rw[← hw1];clear hw1;obtain⟨S,hS0,hS1⟩:=cls_of2 (P:=fun w'=>Blk w' _ _ _∧Blk w' _ _ _∧Blk w' _ _ _∧Kp _ _ _ w') w1 ⟨M,G,X,K⟩;try dsimp only at hS0
 have cM:=fun (x:Ev (S 0)) i=>((hS0 _).1 x.h).1.cell i;have cG:=fun (x:Ev (S 0)) i=>((hS0 _).1 x.h).2.1.cell i;have cX:=fun (x:Ev (S 0)) i=>((hS0 _).1 x.h).2.2.1.cell i;replace M:=M.drew;replace G:=G.drew;replace X:=X.drew;replace K:=K.drew;replace HR:=HR.drew;have hevT:=ev_true;refine wro S [(0,0),(1,1),(2,1),(3,0),(4,0),(5,1),(7,0),(6,2),(8,2),(9,0)] [] ((hS0 _).2 ⟨M,G,X,K⟩) ?_;intro _hev;refine oX ?_;refine oL ?_;intro Kc hKc;generalize w1.drew=wd9 at *;go_step;refine(cs k _ HR oM).mono ?_;rintro e w2 ⟨v9,k1,rfl,⟨z,rfl,hzb⟩,hk1,HR9,k⟩;replace M:=M.kq k;replace G:=G.kq k;replace X:=X.kq k;replace K:=K.then_ k (Nat.le_refl _);replace HR:=HR9;clear k HR9;have hzr_w2:=K.size;refine hKc _ _ ((hS0 _).2 ⟨M,G,X,K⟩) ?_;clear hKc Kc;refine oL ?_;intro Kc hKc;go_step;refine(ct k1 z _ HR oM (hA.kp K)).mono ?_;rintro e w3 ⟨v9,k2,rfl,⟨A2,cap2,l,rfl,hll,hlh,rd,hfr,hcl⟩,hk2,HR9,k⟩;replace M:=M.kq k;replace G:=G.kq k;replace X:=X.kq k;replace K:=K.then_ k (Nat.le_refl _);replace HR:=HR9;clear k HR9;have hzr_w3:=K.size;refine hKc _ _ ((hS0 _).2 ⟨M,G,X,K⟩) ?_;clear hKc Kc;refine oX ?_;refine wpOrd_nil ?_;clear hevT _hev;clear cM cG cX hS0 hS1 S;have hfr2:∀ ad,A2=some ad→w.heap.size≤ad.block:=fun ad h=>by have:=hfr ad h;omega
 replace hfr2:=Lib.hid hfr2;replace hcl:=Lib.hid hcl;clear hfr;have cM:=M.cell;have cG:=G.cell;replace hll:=Lib.hid hll;go_wp2_with fail
 refine(co A2 cap2 l _ (hA.kp K).free rd (by have:=hll.out;omega)).mono ?_;rintro e w4 ⟨⟨v,rfl,hv⟩,q⟩;clear cM cG;replace rd:=rd.kpN q;replace HR:=HR.kpN q;replace K:=K.tN q;clear q co cs ct M G X hz;by_cases h:v=-1
 ·
  replace hv:=Lib.hid (hv h);subst h;go_wp2_with fail
  exact bodyPost_ret (v:=.tuple #[.slice A2 l.length cap2,.bool true]) (by simp[results,Tryz.results7,go_sem]) rfl ⟨_,k2,rfl,⟨A2,cap2,l,z,true,rfl,hll.out,hlh,hzb,rd,fun _=>hv.out,hfr2.out,hcl.out⟩,by omega,HR,K⟩
 ·
  go_wp2_with fail
  exact bodyPost_ret (v:=.tuple #[.slice A2 l.length cap2,.bool false]) (by simp[results,Tryz.results7,go_sem,h]) rfl ⟨_,k2,rfl,⟨A2,cap2,l,z,false,rfl,hll.out,hlh,hzb,rd,fun h=>(by cases h),hfr2.out,hcl.out⟩,by omega,HR,K⟩
end Go.Proofs.YtdhiappifnflpaaGreat
