/- The reference's pulls, weakly: what is not asked rightly; Pull. The ring of numbers and its small makers: NewRing, Pick, PointOf, InSpan. Skies in memory: the walks of sky, second part: Check, station, catalog. Skies in memory: the walks of sky, third part: station, catalog, Where. Skies in memory: the walks of sky, fourth part: Where, lookOf. Passages: the walks of span and meet, first part. -/
import Derived.Test.YtdhiappifnflpaaGreatDoorM27
import Derived.Test.YtdhiappifnflpaaGreatDoorM03
import Derived.Test.YtdhiappifnflpaaGreatDoorM14
import Derived.Test.YtdhiappifnflpaaGreatDoorM19
import Derived.Test.YtdhiappifnflpaaGreatDoorM17
import Derived.Test.YtdhiappifnflpaaGreatDoorM23
set_option maxRecDepth 100000
set_option maxHeartbeats 1000000
namespace Go.Proofs.YtdhiappifnflpaaGreatDoor
open Go.RowKit
def ErrN (w:World) (e:Ending) (w':World):Prop:=(∃ v:Int,e=.returned (.int .i64 v)∧v≠0)∧Kp w.heap.size none w w'
theorem not_fit {s:Sp} (h:¬ s.fit) (h1:btw s.lo (-1152921504606846976) 1152921504606846976=true) (h2:btw s.hi (-1152921504606846976) 1152921504606846976=true):s.hi<s.lo:=by
 have a:=btw_of h1;have b:=btw_of h2;unfold Sp.fit at h;omega
theorem r1_Check_bad (s:Sp) (h:¬ s.fit) (w:World):Calls Tryz.prog 209 #[s] w (ErrN w):=by
 have c1:=fun w=>bolideref01_fits_any s.lo w;have c2:=fun w=>bolideref01_fits_any s.hi w;have hn:=not_fit h;clear h;generalize btw s.lo _ _=x at *;generalize btw s.hi _ _=y at *;replace hn:=Lib.hid hn;obtain⟨w1,hw1,B,K,hz⟩:=box1 w 29 s;cases x
 ·
  clear c2 hn;go_enter Tryz.func209,Tryz.ntmps209
  go_wp2_with fail
  rw[← hw1];clear hw1;refine mK (c1 _) fun w2 k=>?_;replace B:=B.kpN k;replace K:=K.thenN k oM;have hzk:=k.size;clear k;have cB:=B.cell;have fB:=B.frozen;go_wp2_with fail
  clear cB fB;go_ret
  exact⟨⟨_,rfl,by omega⟩,K⟩
 ·
  cases y
  ·
   clear hn;go_enter Tryz.func209,Tryz.ntmps209
   go_wp2_with fail
   rw[← hw1];clear hw1;refine mK (c1 _) fun w2 k=>?_;replace B:=B.kpN k;replace K:=K.thenN k oM;have hzk:=k.size;clear k;have cB:=B.cell;have fB:=B.frozen;go_wp2_with fail
   refine mK (c2 _) fun w3 k=>?_;clear cB fB;replace B:=B.kpN k;replace K:=K.thenN k oM;have hzk:=k.size;clear k;have cB:=B.cell;have fB:=B.frozen;go_wp2_with fail
   clear cB fB;go_ret
   exact⟨⟨_,rfl,by omega⟩,K⟩
  ·
   have hl:=hn.out rfl rfl;clear hn;go_enter Tryz.func209,Tryz.ntmps209
   go_wp2_with fail
   rw[← hw1];clear hw1;refine mK (c1 _) fun w2 k=>?_;replace B:=B.kpN k;replace K:=K.thenN k oM;have hzk:=k.size;clear k;have cB:=B.cell;have fB:=B.frozen;go_wp2_with fail
   refine mK (c2 _) fun w3 k=>?_;clear cB fB;replace B:=B.kpN k;replace K:=K.thenN k oM;have hzk:=k.size;clear k;have cB:=B.cell;have fB:=B.frozen;go_wp2_with fail
   clear cB fB;go_ret
   exact⟨⟨_,rfl,by omega⟩,K⟩
theorem r1_both_bad (a b:Sp) (h:¬ (a.fit∧b.fit)) (w:World):Calls Tryz.prog 196 #[a,b] w (ErrN w):=by
 obtain⟨w1,hw1,A,B,K,hz⟩:=box2 w 29 a 29 b;by_cases ha:a.fit
 ·
  have hb:¬ b.fit:=fun k=>h ⟨ha,k⟩;have c1:=fun w=>r1_Check_t a ha w;have c2:=fun w=>r1_Check_bad b hb w;clear h ha hb;go_enter Tryz.func196,Tryz.ntmps196
  go_wp2_with fail
  rw[← hw1];clear hw1;refine mK (c1 _) fun w2 k=>?_;replace A:=A.kpN k;replace B:=B.kpN k;replace K:=K.thenN k oM;have hzk:=k.size;clear k;have cA:=A.cell;have fA:=A.frozen;have cB:=B.cell;have fB:=B.frozen;go_wp2_with fail
  refine(c2 _).mono ?_;rintro e w3 ⟨⟨v,rfl,hv⟩,k⟩;clear cA fA cB fB;replace A:=A.kpN k;replace B:=B.kpN k;replace K:=K.thenN k oM;have hzk:=k.size;clear k;go_wp2
  go_ret
  exact⟨⟨_,rfl,hv⟩,K⟩
 ·
  have c1:=fun w=>r1_Check_bad a ha w;clear h ha;go_enter Tryz.func196,Tryz.ntmps196
  go_wp2_with fail
  rw[← hw1];clear hw1;refine(c1 _).mono ?_;rintro e w2 ⟨⟨v,rfl,hv⟩,k⟩;replace A:=A.kpN k;replace B:=B.kpN k;replace K:=K.thenN k oM;have hzk:=k.size;clear k;have cB:=B.cell;have fB:=B.frozen;go_wp2_with fail
  clear cB fB;go_ret
  exact⟨⟨_,rfl,hv⟩,K⟩
theorem r1_CheckArea_bad (a b:Sp) (h:¬ (a.fit∧b.fit)) (w:World):Calls Tryz.prog 180 #[.agg #[a.lo,a.hi,b.lo,b.hi]] w (ErrN w):=by
 have c1:=fun w=>r1_both_bad a b h w;clear h;obtain⟨w1,hw1,A,K,hz⟩:=box1 w 53 #[a.lo,a.hi,b.lo,b.hi];go_enter Tryz.func180,Tryz.ntmps180
 go_wp2_with fail
 rw[← hw1];clear hw1;refine(c1 _).mono ?_;rintro e w2 ⟨⟨v,rfl,hv⟩,k⟩;replace A:=A.kpN k;replace K:=K.thenN k oM;have hzk:=k.size;clear k;have cA:=A.cell;have fA:=A.frozen;go_wp2_with fail
 clear cA fA;go_ret
 exact⟨⟨_,rfl,hv⟩,K⟩
theorem r3_asked_bad (A:Option Addr) (c:Nat) (W:Wd) (d:Dr) (t:Int) (a b:Sp) (w:World) (hW:W.ok) (hA:WdAt none w A W) (h:¬ (a.fit∧b.fit)) :
  Calls Tryz.prog 164 #[.agg #[.slice A W.bs.length c,W.home],d,t,.agg #[a.lo,a.hi,b.lo,b.hi]] w (ErrN w):=by
 have cw:=fun w h=>r2_CheckWorld_any A c W w hW h;have cb:=fun w=>r1_CheckArea_bad a b h w;clear hW h;obtain⟨w1,hw1,M,G,E,K,hz⟩:=box3 w 27 #[.slice A W.bs.length c,W.home] 31 d 53 #[a.lo,a.hi,b.lo,b.hi];go_enter Tryz.func164,Tryz.ntmps164
 go_wp2_with fail
 rw[← hw1];clear hw1;refine mK (cw _ (hA.kpN K)) fun w2 k=>?_;replace M:=M.kpN k;replace G:=G.kpN k;replace E:=E.kpN k;replace K:=K.thenN k oM;have hzk:=k.size;clear k;clear hA cw;have cG:=G.cell;have fG:=G.frozen;have cE:=E.cell;have fE:=E.frozen;go_wp2_with fail
 refine(r3_CheckDrift d _).mono ?_;rintro e w2 ⟨⟨v,rfl⟩,k⟩;clear cG fG cE fE;replace G:=G.kpN k;replace E:=E.kpN k;replace K:=K.thenN k oM;have hzk:=k.size;clear k;by_cases h:v=0
 ·
  subst h;have cE:=E.cell;have fE:=E.frozen;go_wp2_with fail
  refine mK (bolideref03_between_any t _ _ _) fun w2 k=>?_;clear cE fE;replace E:=E.kpN k;replace K:=K.thenN k oM;have hzk:=k.size;clear k;generalize btw t _ _=b1;cases b1
  ·
   go_wp2_with fail
   go_ret
   exact⟨⟨_,rfl,by omega⟩,K⟩
  ·
   have cE:=E.cell;have fE:=E.frozen;go_wp2_with fail
   refine(cb _).mono ?_;rintro e w2 ⟨⟨v,rfl,hv⟩,k⟩;clear cE fE;replace E:=E.kpN k;replace K:=K.thenN k oM;have hzk:=k.size;clear k;go_wp2_with fail
   go_ret
   exact⟨⟨_,rfl,hv⟩,K⟩
 ·
  go_wp2_with fail
  go_ret
  exact⟨⟨_,rfl,h⟩,K⟩
theorem r3_Over_bad (A:Option Addr) (c:Nat) (W:Wd) (d:Dr) (t:Int) (a b:Sp) (w:World) (hW:W.ok) (hA:WdAt none w A W) (h:¬ (a.fit∧b.fit)) :
  Calls Tryz.prog 145 #[.agg #[.slice A W.bs.length c,W.home],d,t,.agg #[a.lo,a.hi,b.lo,b.hi]] w (ArE w):=by
 have ca:=fun w h'=>r3_asked_bad A c W d t a b w hW h' h;clear hW h;obtain⟨w1,hw1,M,G,E,R,K,hz⟩:=box4 w 27 #[.slice A W.bs.length c,W.home] 31 d 53 #[a.lo,a.hi,b.lo,b.hi] 53 #[(0:Int),(0:Int),(0:Int),(0:Int)];go_enter Tryz.func145,Tryz.ntmps145
 go_wp2_with fail
 rw[← hw1];clear hw1;refine(ca _ (hA.kpN K)).mono ?_;rintro e w2 ⟨⟨v,rfl,hv⟩,k⟩;replace M:=M.kpN k;replace G:=G.kpN k;replace E:=E.kpN k;replace R:=R.kpN k;replace K:=K.thenN k oM;have hzk:=k.size;clear k;clear ca;have cR:=R.cell;have fR:=R.frozen;go_wp2_with fail
 clear cR fR;have BR:=(((R.set_ 0 (.int .i64 0)).set_ 1 (.int .i64 0)).set_ 2 (.int .i64 0)).set_ 3 (.int .i64 0);have cR:=BR.cell;exact bodyPost_ret (v:=.tuple #[.agg #[(0:Int),(0:Int),(0:Int),(0:Int)],v]) (by simp[results,Tryz.results145,go_sem,cR]) rfl ⟨⟨⟨0,0⟩,⟨0,0⟩,_,rfl,fit0,fit0⟩,(((K.setNew (by simp<;>omega) _).setNew (by simp<;>omega) _).setNew (by simp<;>omega) _).setNew (by simp<;>omega) _⟩
theorem r3_Over_all (A:Option Addr) (c:Nat) (W:Wd) (d:Dr) (t:Int) (a b:Sp) (w:World) (hW:W.ok) (hA:WdAt none w A W) (hd:d.ok) (ht:0≤t∧t≤1073741824) :
  Calls Tryz.prog 145 #[.agg #[.slice A W.bs.length c,W.home],d,t,.agg #[a.lo,a.hi,b.lo,b.hi]] w (ArE w):=by
 by_cases h:a.fit∧b.fit
 · exact r3_Over A c W d t a b w hW hA hd ht h.1 h.2
 · exact r3_Over_bad A c W d t a b w hW hA h
theorem r3_Pull (A:Option Addr) (c:Nat) (W:Wd) (d:Dr) (t:Int) (p:Pt) (w:World) (hW:W.ok) (hA:WdAt none w A W) (hd:d.ok) (ht:0≤t∧t≤1073741824) :
  Calls Tryz.prog 117 #[.agg #[.slice A W.bs.length c,W.home],d,t,.agg #[p.x,p.y]] w (ArE w):=by
 have cl:=fun w h=>r3_Over_all A c W d t ⟨p.x,p.x⟩ ⟨p.y,p.y⟩ w hW h hd ht;dsimp only at cl;clear hW hd ht;obtain⟨w1,hw1,M,G,V,R,K,hz⟩:=box4 w 27 #[.slice A W.bs.length c,W.home] 31 d 45 #[p.x,p.y] 53 #[(0:Int),(0:Int),(0:Int),(0:Int)];go_enter Tryz.func117,Tryz.ntmps117
 go_wp2_with fail
 rw[← hw1];clear hw1;obtain⟨S,hS0,hS1⟩:=cls_of2 (P:=fun w'=>Blk w' _ _ _∧Blk w' _ _ _∧Blk w' _ _ _∧Kp _ _ _ w') w1 ⟨M,G,V,K⟩;try dsimp only at hS0
 have cM:=fun (x:Ev (S 0)) i=>((hS0 _).1 x.h).1.cell i;have cG:=fun (x:Ev (S 0)) i=>((hS0 _).1 x.h).2.1.cell i;have cV:=fun (x:Ev (S 0)) i=>((hS0 _).1 x.h).2.2.1.cell i;replace M:=M.drew;replace G:=G.drew;replace V:=V.drew;replace K:=K.drew;replace R:=R.drew;have hevT:=ev_true;refine wro S [(0,1),(1,1),(2,0),(3,1),(4,2),(5,2),(6,0),(7,0),(8,2),(9,0)] [] ((hS0 _).2 ⟨M,G,V,K⟩) ?_;intro _hev;refine oX ?_;refine oL ?_;intro Kc hKc;generalize w1.drew=wd9 at *;go_step;refine mK (r3_At p _) fun w2 k=>?_;replace M:=M.kpN k;replace G:=G.kpN k;replace V:=V.kpN k;replace R:=R.kpN k;replace K:=K.tN k;clear k;refine hKc _ _ ((hS0 _).2 ⟨M,G,V,K⟩) ?_;clear hKc Kc;refine oL ?_;intro Kc hKc;go_step;refine(cl _ (hA.kpN K)).mono ?_;rintro e w3 ⟨⟨a,b,v,rfl,f1,f2⟩,k⟩;replace M:=M.kpN k;replace G:=G.kpN k;replace V:=V.kpN k;replace R:=R.kpN k;replace K:=K.tN k;clear k;refine hKc _ _ ((hS0 _).2 ⟨M,G,V,K⟩) ?_;clear hKc Kc;refine oX ?_;refine oL ?_;intro Kc hKc;have cR:=R.cell;have fR:=R.frozen;go_step;obtain⟨w9,hwn,RB9,kst,hzst⟩:=R.st4 (.int .i64 a.lo) (.int .i64 a.hi) (.int .i64 b.lo) (.int .i64 b.hi);rw[← hwn];clear hwn cR fR;replace M:=M.kq kst;replace G:=G.kq kst;replace V:=V.kq kst;first|replace K:=K.thenOwn kst (Nat.le_refl _) oM|replace K:=K.then_ kst (Nat.le_refl _)
 replace R:=RB9;clear RB9 kst;simp only[sbt,sc0,scs] at R;refine hKc _ _ ((hS0 _).2 ⟨M,G,V,K⟩) ?_;clear hKc Kc;refine oX ?_;refine wpOrd_nil ?_;clear hevT _hev;clear cM cG cV hS0 hS1 S;go_wp2_with fail
 have cR:=R.cell;exact bodyPost_ret (v:=.tuple #[.agg #[a.lo,a.hi,b.lo,b.hi],v]) (by simp[results,Tryz.results117,go_sem,cR]) rfl ⟨⟨a,b,v,rfl,f1,f2⟩,K⟩
theorem newRing_any (A:Option Addr) (cap:Nat) (nums:List Int) (w:World) (h:Rd none w 1 (fun x=>[Value.int .i64 x]) A nums.length nums) (hs:nums.length≤17592186044416) :
  Calls Tryz.prog 4 #[.slice A nums.length cap] w fun e w'=>∃ g,e=.returned (.pointer (some ⟨g,0,none⟩))∧w.heap.size≤g∧RingAt w' g nums 0∧Kp w.heap.size none w w':=by
 go_enter Tryz.func4,Tryz.ntmps4
 go_wp2
 go_ret
 refine⟨w.heap.size,rfl,Nat.le_refl _,⟨⟨A,cap,Blk.new w _ _,?_,?_⟩,hs⟩,(Kp.refl _ _ w).alloc (Nat.le_refl _) _⟩
 ·
  refine⟨rfl,fun hn=>?_⟩;obtain⟨b,o,e,hb,_,hc⟩:=h.2 hn;exact⟨b,o,e,by simp;omega,oN,fun i hi j v hv=>(World.cell?_alloc_lt w _ _ hb).trans (hc i hi j v hv)⟩
 ·
  intro hn ad e;obtain⟨b,o,e',hb,_,_⟩:=h.2 hn;rw[e] at e';injection e' with e'
  rw[e'];exact hb
theorem pick_any (g:Nat) (nums:List Int) (k:Nat) (a b:Int) (w:World) (h:RingAt w g nums k) (hk:k≤1000000) :
  Calls Tryz.prog 30 #[.pointer (some ⟨g,0,none⟩),a,b] w (RPost g nums (k+1) w fun v=>∃ x,v=.int .i64 x∧(x=a∨x=b)):=by
 go_enter Tryz.func30,Tryz.ntmps30
 go_wp2_with fail
 refine(next_any g nums k _ _ h hk oM oM).mono ?_;rintro e w1 ⟨v,rfl,⟨x,rfl,hx1,hx2⟩,hr1,hk1⟩;rcases (show x=0∨x=1 by omega) with rfl|rfl
 all_goals
  go_wp2
  go_ret
  first
   | exact⟨_,rfl,⟨_,rfl,.inl rfl⟩,hr1,hk1⟩
   | exact⟨_,rfl,⟨_,rfl,.inr rfl⟩,hr1,hk1⟩
theorem pointOf_any (g:Nat) (nums:List Int) (k:Nat) (n:Int) (w:World) (h:RingAt w g nums k) (hk:k≤900000) (h0:0≤n) (h1:n≤100000) :
  Calls Tryz.prog 26 #[.pointer (some ⟨g,0,none⟩),n] w (RPost g nums (k+2) w fun v=>∃ x y:Int,v=.agg #[x,y]∧(-n≤x∧x≤n)∧-n≤y∧y≤n):=by
 have hb0:=Blk.new w 45 #[(0:Int),(0:Int)];have hne:=h.ne (Nat.le_refl _);go_enter Tryz.func26,Tryz.ntmps26
 go_wp2_with fail
 refine(next_any g nums k _ _ (h.alloc _) oM oM oM).mono ?_;rintro e w1 ⟨v,rfl,⟨a,rfl,ha1,ha2⟩,hr1,hk1⟩;have hb1:=hb0.kp hk1 hb0.lt hne;go_wp2_with fail
 refine(next_any g nums (k+1) _ _ hr1 oM oM oM).mono ?_;rintro e w2 ⟨v,rfl,⟨b,rfl,hb1',hb2'⟩,hr2,hk2⟩;have hb2:=hb1.kp hk2 hb1.lt hne;have c2:=hb2.cell;have f2:=hb2.frozen;have hg:g<w.heap.size:=h.lt;have K:=((((Kp.refl w.heap.size (some g) w).alloc (Nat.le_refl _) _).then_ hk1 (by simp)).then_ hk2 (by simp));go_wp2
 exact bodyPost_ret (v:=.agg #[.int .i64 (a-n),.int .i64 (b-n)]) (by simp[results,Tryz.results26,go_sem,c2]) rfl ⟨_,rfl,⟨_,_,rfl,by omega,by omega⟩,(hr2.big hg _).big hg _,(K.setNew (Nat.le_refl _) _).setNew (Nat.le_refl _) _⟩
theorem mod_bounds (n m:Int) (hm:0<m):0≤n % m∧n % m<m:=⟨Int.emod_nonneg _ oM,Int.emod_lt_of_pos _ hm⟩
theorem inSpan_any (lo hi v:Int) (w:World) (h1:-1152921504606846976≤lo) (h2:lo≤hi) (h3:hi≤1152921504606846976) (h4:hi-lo<1000000000000000000) :
  Calls Tryz.prog 75 #[.agg #[lo,hi],v] w fun e w'=>∃ x:Int,e=.returned (.int .i64 x)∧(lo≤x∧x≤hi)∧Kp w.heap.size none w w':=by
 have hm:=mod_bounds v (hi-lo+1) oM;have cc:=fun w=>(mod64_any v (hi-lo+1) w oM oM).mono (R':=fun e w'=>e=.returned (.int .i64 (v % (hi-lo+1)))∧Kp w.heap.size none w w') fun e w' ⟨a,b⟩=>⟨a,b ▸ Kp.refl _ _ _⟩;have e1:lo+v % (hi-lo+1)≤hi:=by omega
 have e2:lo≤lo+v % (hi-lo+1):=by omega
 generalize v % (hi-lo+1)=x at *;clear hm;obtain⟨w1,hw1,P,K,hz⟩:=box1 w 29 #[lo,hi];go_enter Tryz.func75,Tryz.ntmps75
 go_wp2_with fail
 rw[← hw1];clear hw1;obtain⟨S,hS0⟩:=cls_of (P:=fun w'=>Blk w' _ _ _∧Kp _ none _ w') w1 ⟨P,K⟩;try dsimp only at hS0
 have cP:=fun (x:Ev (S 0)) i=>((hS0 _).1 x.h).1.cell i;replace P:=P.drew;replace K:=K.drew;have hevT:=ev_true;refine wro S [(0,0),(1,1),(2,0),(3,0),(4,1),(5,0),(6,1),(7,0),(8,0),(9,2),(10,0),(11,0)] [] ((hS0 _).2 ⟨P,K⟩) ?_;intro _hev;refine oX ?_;refine oL ?_;intro Kc hKc;go_step;refine mK (cc _) fun w2 k=>?_;replace P:=P.kpN k;replace K:=K.tN k;clear k;refine hKc _ _ ((hS0 _).2 ⟨P,K⟩) ?_;clear hKc Kc;refine oX ?_;refine wpOrd_nil ?_;clear hevT _hev;clear cP hS0 S;go_wp2
 go_ret
 exact⟨_,rfl,⟨e2,e1⟩,K⟩
def SkyAt (row:Option Nat) (w:World) (A B C:Option Addr) (S:Sky):Prop:=WdAt row w A S.W∧Rd row w 3 encStn B S.st.length S.st∧Rd row w 3 encCat C S.ct.length S.ct
section
variable {row:Option Nat} {w w':World} {A B C:Option Addr} {S:Sky}
theorem SkyAt.kp (h:SkyAt row w A B C S) (k:Kp w.heap.size row w w'):SkyAt row w' A B C S:=⟨h.1.kp k,h.2.1.kp k,h.2.2.kp k⟩
theorem SkyAt.kpN (h:SkyAt row w A B C S) (k:Kp w.heap.size none w w'):SkyAt row w' A B C S:=⟨h.1.kpN k,h.2.1.kpN k,h.2.2.kpN k⟩
theorem SkyAt.free (h:SkyAt row w A B C S):SkyAt none w A B C S:=⟨h.1.free,h.2.1.free,h.2.2.free⟩
theorem SkyAt.drew (h:SkyAt row w A B C S):SkyAt row w.drew A B C S:=h
end
theorem Asc.at_:∀ {k:Int} {l:List Int},Asc k l→∀ i (h:i<l.length),(k::l)[i]'(by simp;omega)<l[i]
 | k,m::r,h,0,_=>h.1
 | k,m::r,h,i+1,hi=>by simpa using Asc.at_ h.2 i (by simpa using hi)
def lastI (l:List Int) (i:Nat):Int:=(0::l).getD i 0
theorem Rd.s3 {α:Type} {w:World} {enc:α→List Value} {A:Option Addr} {l:List α} {f g h:α→Int} (he:∀ x,enc x=[.int .i64 (f x),.int .i64 (g x),.int .i64 (h x)]) (r:Rd none w 3 enc A l.length l) {i:Nat} (hi:i<l.length):∃ b o,A=some ⟨b,o,none⟩∧b<w.heap.size ∧
  w.cell? ⟨b,o+i * 3,none⟩=some (.int .i64 (f l[i]))∧w.cell? ⟨b,o+i * 3+1,none⟩=some (.int .i64 (g l[i]))∧w.cell? ⟨b,o+i * 3+2,none⟩=some (.int .i64 (h l[i])):=by
 obtain⟨b,o,rfl,hb,-,hc⟩:=r.at_ oM;refine⟨b,o,rfl,hb,?_,?_,?_⟩
 · have:=hc i hi 0 _ (by rw[he];rfl);rwa [Nat.add_zero] at this
 · have:=hc i hi 1 _ (by rw[he];rfl);rwa [← Nat.add_assoc] at this
 · have:=hc i hi 2 _ (by rw[he];rfl);rwa [← Nat.add_assoc] at this
theorem Rd.stn {w:World} {A:Option Addr} {l:List Stn} (r:Rd none w 3 encStn A l.length l) {i:Nat} (hi:i<l.length):∃ b o,A=some ⟨b,o,none⟩∧b<w.heap.size ∧
 w.cell? ⟨b,o+i * 3,none⟩=some (.int .i64 l[i].id)∧w.cell? ⟨b,o+i * 3+1,none⟩=some (.int .i64 l[i].ox)∧w.cell? ⟨b,o+i * 3+2,none⟩=some (.int .i64 l[i].oy):=r.s3 (fun _=>rfl) hi
theorem Rd.cat {w:World} {A:Option Addr} {l:List Cat} (r:Rd none w 3 encCat A l.length l) {i:Nat} (hi:i<l.length):∃ b o,A=some ⟨b,o,none⟩∧b<w.heap.size ∧
 w.cell? ⟨b,o+i * 3,none⟩=some (.int .i64 l[i].ver)∧w.cell? ⟨b,o+i * 3+1,none⟩=some (.int .i64 l[i].lo)∧w.cell? ⟨b,o+i * 3+2,none⟩=some (.int .i64 l[i].hi):=r.s3 (fun _=>rfl) hi
def ChkAt (ids:List Int) (w:World) (T:TypeId) (cs:Array Value) (a b:Value) (wr:World):Prop:=∃ i:Nat,b=.int .i64 i∧i≤ids.length∧a=.int .i64 (lastI ids i)∧Blk wr w.heap.size T cs∧Kp w.heap.size none w wr
theorem Wd.hb_eq {W:Wd} (h:W.home<W.bs.length):W.hb=W.bs[W.home]:=by
 unfold Wd.hb;rw[List.getD_eq_getElem?_getD,List.getElem?_eq_getElem h,Option.getD_some]
theorem span_right_any (a b:Ar) (r:Int) (ha:a.bd 268435456) (hb:b.bd 268435456) (h0:0≤r) (h1:r≤268435456) (w:World) :
  Calls Tryz.prog 102 #[a,b,r] w fun e w'=>e=.returned (.bool true)∧Kp w.heap.size none w w':=by
 obtain⟨w1,hw1,A,B,K,hz⟩:=box2 w 53 a 53 b;go_enter Tryz.func102,Tryz.ntmps102
 go_wp2_with fail
 rw[← hw1];clear hw1;refine mK (span_CheckArea_any a ha _) fun w2 k=>?_;replace A:=A.kpN k;replace B:=B.kpN k;replace K:=K.thenN k oM;have hzk:=k.size;clear k;have cA:=A.cell;have fA:=A.frozen;have cB:=B.cell;have fB:=B.frozen;go_wp2_with fail
 refine mK (span_CheckArea_any b hb _) fun w3 k=>?_;clear cA fA cB fB;replace A:=A.kpN k;replace B:=B.kpN k;replace K:=K.thenN k oM;have hzk:=k.size;clear k;have cA:=A.cell;have fA:=A.frozen;have cB:=B.cell;have fB:=B.frozen;go_wp2_with fail
 refine mK (within_t h0 h1 _) fun w4 k=>?_;clear cA fA cB fB;replace A:=A.kpN k;replace B:=B.kpN k;replace K:=K.thenN k oM;have hzk:=k.size;clear k;go_wp2
 go_ret
 exact⟨rfl,K⟩
theorem span_Within_any (p q:Pt) (r:Int) (hp:Fr p) (hq:Fr q) (h0:0≤r) (h1:r≤268435456) (w:World) :
  Calls Tryz.prog 79 #[.agg #[p.x,p.y],.agg #[q.x,q.y],r] w fun e w'=>e=.returned (.bool (decide (comesP p q r)))∧Kp w.heap.size none w w':=by
 have cc:=fun w=>span_comes_any p q r hp hq h0 h1 w;have ca:∀ b T w,Blk w b T #[p.x,p.y,q.x,q.y]→Calls Tryz.prog 86 #[r,.slice (some ⟨b,0,none⟩) 2 2] w fun e w'=>e=.returned (.bool true)∧Kp w.heap.size none w w':=fun b T w h=>span_asks_any (some ⟨b,0,none⟩) 2 r [p,q] w (rd_pt2 h) (by simp) (by simp[hp,hq]) h0 h1;generalize decide (comesP p q r)=x at *;clear hp hq h0 h1;obtain⟨w1,hw1,P,Q,K,hz⟩:=box2 w 45 #[p.x,p.y] 45 #[q.x,q.y];go_enter Tryz.func79,Tryz.ntmps79
 go_wp2_with fail
 rw[← hw1];clear hw1;have k1:=Kp.new1 w1 (.cells (#[.int .i64 p.x,.int .i64 p.y]++#[.int .i64 q.x,.int .i64 q.y]) 45);refine mK (ca _ 45 _ (Blk.newAt w1 _ _ oM)) fun w2 k=>?_;replace P:=(P.kpN k1).kpN k;replace Q:=(Q.kpN k1).kpN k;replace K:=(K.thenN k1 oM).thenN k (by simp);clear k k1;have cP:=P.cell;have fP:=P.frozen;have cQ:=Q.cell;have fQ:=Q.frozen;go_wp2_with fail
 refine mK (cc _) fun w4 k=>?_;clear cP fP cQ fQ;replace P:=P.kpN k;replace Q:=Q.kpN k;replace K:=K.thenN k oM;have hzk:=k.size;clear k;go_wp2
 go_ret
 exact⟨rfl,K⟩
theorem meet_valid_any (A:Option Addr) (c:Nat) (W:Wd) (t:Int) (w:World) (hW:W.ok) (hA:WdAt none w A W) (ht:0≤t∧t≤1073741823) :
  Calls Tryz.prog 54 #[.agg #[.slice A W.bs.length c,W.home],t] w fun e w'=>e=.returned (.bool true)∧Kp w.heap.size none w w':=by
 have cw:=fun w h=>sky_CheckWorld_any A c W w hW h;have ct:=fun w=>meet_within_any t 0 1073741823 w;rw[btw_t ht.1 ht.2] at ct;obtain⟨w1,hw1,D,K,hz⟩:=box1 w 27 #[.slice A W.bs.length c,W.home];go_enter Tryz.func54,Tryz.ntmps54
 go_wp2_with fail
 rw[← hw1];clear hw1;refine mK (cw _ (hA.kpN K)) fun w2 k=>?_;replace D:=D.kpN k;replace K:=K.thenN k oM;have hzk:=k.size;clear k;have cD:=D.cell;have fD:=D.frozen;go_wp2_with fail
 refine mK (ct _) fun w3 k=>?_;clear cD fD;replace D:=D.kpN k;replace K:=K.thenN k oM;have hzk:=k.size;clear k;go_wp2
 go_ret
 exact⟨rfl,K⟩
theorem meet_place_any (s:St) (w:World) :
  Calls Tryz.prog 80 #[s] w fun e w'=>e=.returned (.agg #[s.x,s.y])∧Kp w.heap.size none w w':=by
 go_enter Tryz.func80,Tryz.ntmps80
 go_wp2_with fail
 exact bodyPost_ret (by simp[results,Tryz.results80,go_sem]) rfl ⟨rfl,Kp.new2 _ _ _⟩
theorem meet_less_any (s:Sp) (n:Int) (e1:wrap64 (s.lo-n)=s.lo-n) (e2:wrap64 (s.hi-n)=s.hi-n) (w:World) :
  Calls Tryz.prog 101 #[s,n] w fun e w'=>e=.returned (.agg #[.int .i64 (s.lo-n),.int .i64 (s.hi-n)])∧Kp w.heap.size none w w':=by
 go_enter Tryz.func101,Tryz.ntmps101
 go_wp2_with fail
 exact bodyPost_ret (by simp[results,Tryz.results101,go_sem,e1,e2]) rfl ⟨rfl,Kp.new2 _ _ _⟩
theorem Wd.hp_eq {W:Wd} (h:W.home<W.bs.length) (t:Int):W.bs[W.home].at t=W.hp t:=by unfold Wd.hp;rw[Wd.hb_eq h]
theorem meet_from_any (A:Option Addr) (c:Nat) (W:Wd) (t:Int) (x y:Int) (w:World) (hW:W.ok) (hA:WdAt none w A W) (ht:0≤t∧t≤1073741824) (hx:-33554432≤x∧x≤33554432) (hy:-33554432≤y∧y≤33554432) :
  Calls Tryz.prog 42 #[.agg #[.slice A W.bs.length c,W.home],t,.agg #[x,y]] w fun e w'=>e=.returned (.agg #[.int .i64 (x-(W.hp t).x),.int .i64 (y-(W.hp t).y)])∧Kp w.heap.size none w w':=by
 have ca:=fun w h=>sky_At_any A c W W.home t w hW h hW.home ht;rw[Wd.hp_eq hW.home] at ca;have hb:=hW.hp t;generalize W.hp t=h at *;have e1:wrap64 (x-h.x)=x-h.x:=by unfold wrap64;omega
 have e2:wrap64 (y-h.y)=y-h.y:=by unfold wrap64;omega
 clear hW ht hb hx hy;obtain⟨w1,hw1,D,P,R,K,hz⟩:=box3 w 27 #[.slice A W.bs.length c,W.home] 45 #[x,y] 45 #[(0:Int),(0:Int)];go_enter Tryz.func42,Tryz.ntmps42
 go_wp2_with fail
 rw[← hw1];clear hw1;refine mK (ca _ (hA.kpN K)) fun w2 k=>?_;replace D:=D.kpN k;replace P:=P.kpN k;replace R:=R.kpN k;replace K:=K.thenN k oM;have hzk:=k.size;clear k;have pP:=P.cell;have pR:=R.cell;obtain⟨w9_,rfl,H,k9_,hzn⟩:=box1 w2 45 #[h.x,h.y];replace P:=P.kpN k9_;replace R:=R.kpN k9_;replace K:=K.thenN k9_ oU;clear k9_;have cP:=P.cell;have fP:=P.frozen;have cR:=R.cell;have fR:=R.frozen;go_wp2_with fail
 clear cP fP pP cR fR pR;generalize (w2.alloc (.cells #[h.x,h.y] 45))=w3 at *;obtain⟨q,hx⟩:∃ q9,q9=w2.heap.size:=⟨_,rfl⟩;rw[← hx] at H ⊢;replace hx:=Lib.hid hx;have BR:=((R.set_ 0 (.int .i64 (x-h.x))).set_ 1 (.int .i64 (y-h.y)));have cR:=BR.cell;exact bodyPost_ret (by simp[results,Tryz.results42,go_sem,cR]) rfl ⟨rfl,((K.setNew (by simp<;>omega) _).setNew (by simp<;>omega) _)⟩
theorem meet_radius_any (A:Option Addr) (c:Nat) (W:Wd) (w:World) (hW:W.ok) (hA:WdAt none w A W) :
  Calls Tryz.prog 36 #[.agg #[.slice A W.bs.length c,W.home]] w fun e w'=>e=.returned (.int .i64 W.rad)∧Kp w.heap.size none w w':=by
 have hh:=hW.home;have er:W.rad=W.bs[W.home].rad:=by unfold Wd.rad;rw[Wd.hb_eq hh]
 rw[er];have h0:(0:Int)≤(W.home:Int):=by omega
 have h1:(W.home:Int)<(W.bs.length:Int):=by omega
 obtain⟨w1,hw1,D,K,hz⟩:=box1 w 27 #[.slice A W.bs.length c,W.home];obtain⟨b,o,B,cc,rfl,hlt,e0,e1,e2,hr⟩:=hA.body W.home hh;generalize W.bs[W.home]=x at *;clear hr e0 e2 hh hA hW hw1 D K;have e3:=(Kp.new1 w (.cells #[.slice (some ⟨b,o,none⟩) W.bs.length c,W.home] 27)).cell b (o+W.home * 3+1) hlt (by simp);have e3:=e3.trans e1;go_enter Tryz.func36,Tryz.ntmps36
 go_wp2
 go_ret
 exact⟨rfl,Kp.new1 _ _⟩
theorem meet_area_any (A:Option Addr) (c:Nat) (W:Wd) (t:Int) (b:Bx) (w:World) (hW:W.ok) (hA:WdAt none w A W) (ht:0≤t∧t≤1073741824) (hb:okBx b=true) :
  Calls Tryz.prog 56 #[.agg #[.slice A W.bs.length c,W.home],t,b] w fun e w'=>e=.returned (.agg #[(relA W t b).x.lo,(relA W t b).x.hi,(relA W t b).y.lo,(relA W t b).y.hi])∧Kp w.heap.size none w w':=by
 have ca:=fun w h=>sky_At_any A c W W.home t w hW h hW.home ht;rw[Wd.hp_eq hW.home] at ca;have hbd:=hW.hp t;obtain⟨⟨o1,o2,o3,o4⟩,b1,b2,b3,b4,b5,b6,b7,b8⟩:=(okBx_iff b).1 hb;have er:relA W t b=⟨⟨b.x.lo-(W.hp t).x,b.x.hi-(W.hp t).x⟩,⟨b.y.lo-(W.hp t).y,b.y.hi-(W.hp t).y⟩⟩:=rfl;rw[er];clear er;generalize W.hp t=h at *;have c1:=fun w=>meet_less_any b.x h.x (by unfold wrap64;omega) (by unfold wrap64;omega) w;have c2:=fun w=>meet_less_any b.y h.y (by unfold wrap64;omega) (by unfold wrap64;omega) w;clear hW ht hb hbd o1 o2 o3 o4 b1 b2 b3 b4 b5 b6 b7 b8;obtain⟨w1,hw1,D,B,R,K,hz⟩:=box3 w 27 #[.slice A W.bs.length c,W.home] 33 b 53 #[(0:Int),(0:Int),(0:Int),(0:Int)];go_enter Tryz.func56,Tryz.ntmps56
 go_wp2_with fail
 rw[← hw1];clear hw1;refine mK (ca _ (hA.kpN K)) fun w2 k=>?_;replace D:=D.kpN k;replace B:=B.kpN k;replace R:=R.kpN k;replace K:=K.thenN k oM;have hzk:=k.size;clear k;have pB:=B.cell;have pR:=R.cell;obtain⟨w9_,rfl,H,k9_,hzn⟩:=box1 w2 45 #[h.x,h.y];replace B:=B.kpN k9_;replace R:=R.kpN k9_;replace K:=K.thenN k9_ oU;clear k9_;have cB:=B.cell;have fB:=B.frozen;have cR:=R.cell;have fR:=R.frozen;go_wp2_with fail
 clear cB fB pB cR fR pR;generalize (w2.alloc (.cells #[h.x,h.y] 45))=w3 at *;obtain⟨q,hx⟩:∃ q9,q9=w2.heap.size:=⟨_,rfl⟩;rw[← hx] at H ⊢;replace hx:=Lib.hid hx;have hxw:w.heap.size+3≤q:=by have:=hx.out;omega
 clear hx hzn hzk hz;obtain⟨S,hS0,hS1⟩:=cls_of2 (P:=fun w'=>Blk w' _ _ _∧Blk w' _ _ _∧Kp _ _ _ w') w3 ⟨B,H,K⟩;try dsimp only at hS0
 have cB:=fun (x:Ev (S 0)) i=>((hS0 _).1 x.h).1.cell i;have cH:=fun (x:Ev (S 0)) i=>((hS0 _).1 x.h).2.1.cell i;replace B:=B.drew;replace H:=H.drew;replace K:=K.drew;replace R:=R.drew;have hevT:=ev_true;refine wro S [(0,0),(1,1),(2,0),(3,1),(5,0),(6,1),(7,0),(8,1),(4,2),(9,2),(10,0),(11,3)] [11] ((hS0 _).2 ⟨B,H,K⟩) ?_;intro _hev;refine oX ?_;refine oL ?_;intro Kc hKc;generalize w3.drew=wd9 at *;go_step;refine mK (c1 _) fun w4 k=>?_;replace B:=B.kpN k;replace H:=H.kpN k;replace R:=R.kpN k;replace K:=K.tN k;clear k;refine hKc _ _ ((hS0 _).2 ⟨B,H,K⟩) ?_;clear hKc Kc;refine oL ?_;intro Kc hKc;go_step;refine mK (c2 _) fun w5 k=>?_;replace B:=B.kpN k;replace H:=H.kpN k;replace R:=R.kpN k;replace K:=K.tN k;clear k;refine hKc _ _ ((hS0 _).2 ⟨B,H,K⟩) ?_;clear hKc Kc;refine oX ?_;refine oA ?_;intro Kc hKc;have cR:=R.cell;have fR:=R.frozen;go_step;obtain⟨w9,hwn,RB9,kst,hzst⟩:=R.st4 (.int .i64 (b.x.lo-h.x)) (.int .i64 (b.x.hi-h.x)) (.int .i64 (b.y.lo-h.y)) (.int .i64 (b.y.hi-h.y));rw[← hwn];clear hwn cR fR;refine hKc _ _ ((hS1 _).2 trivial) ?_;clear hKc Kc;replace B:=B.kq kst;replace H:=H.kq kst;first|replace K:=K.thenOwn kst (Nat.le_refl _) oM|replace K:=K.then_ kst (Nat.le_refl _)
 replace R:=RB9;clear RB9 kst;simp only[sbt,sc0,scs] at R;change wpOrd _ _ _ _ _ 1 _ _;refine wpOrd_nil ?_;clear hevT _hev;clear cB cH hS0 hS1 S;have cR:=R.cell;go_wp2_with fail
 exact bodyPost_ret (by simp[results,Tryz.results56,go_sem,cR]) rfl ⟨rfl,K⟩
theorem relA_bd {W:Wd} {t:Int} {b:Bx} (hW:W.ok) (hb:okBx b=true):(relA W t b).bd 33558432:=by
 have hbd:=hW.hp t;obtain⟨⟨o1,o2,o3,o4⟩,b1,b2,b3,b4,b5,b6,b7,b8⟩:=(okBx_iff b).1 hb;unfold relA Ar.bd Sp.bd;simp only;omega
theorem relP_fr {W:Wd} {t:Int} {s:St} (hW:W.ok) (hs:okSt s=true):Fr (relP W t s):=by
 have hbd:=hW.hp t;have:=okSt_near hs;unfold NearS at this;unfold Fr Fr1 relP;simp only;omega
theorem Wd.ok.rad_bd {W:Wd} (h:W.ok):0≤W.rad∧W.rad≤60:=⟨(h.body _ h.hb).rad0,(h.body _ h.hb).rad1⟩
theorem meet_Within_any (A:Option Addr) (c:Nat) (W:Wd) (t:Int) (s m:St) (r:Int) (w:World) (hW:W.ok) (hA:WdAt none w A W) (ht:0≤t∧t≤1073741823) (hs:okSt s=true) (hm:okSt m=true) (h0:0≤r) (h1:r≤268435456) :
  Calls Tryz.prog 35 #[.agg #[.slice A W.bs.length c,W.home],t,s,m,r] w fun e w'=>e=.returned (.bool (decide (comesP (relP W t s) (relP W (t+1) m) r)))∧Kp w.heap.size none w w':=by
 have n1:=okSt_near hs;have n2:=okSt_near hm;have f1:=relP_fr (t:=t) hW hs;have f2:=relP_fr (t:=t+1) hW hm;have cv:=fun w h=>meet_valid_any A c W t w hW h ht;have cs:=fun w=>orbit_CheckState_any s w;have cm:=fun w=>orbit_CheckState_any m w;rw[errSt_eq hs] at cs;rw[errSt_eq hm] at cm;have p1:=fun w=>meet_place_any s w;have p2:=fun w=>meet_place_any m w;unfold NearS at n1 n2;have q1:=fun w h=>meet_from_any A c W t s.x s.y w hW h ⟨ht.1,by omega⟩ oM oM;have q2:=fun w h=>meet_from_any A c W (t+1) m.x m.y w hW h ⟨by omega,by omega⟩ oM oM;have cW:=fun w=>span_Within_any (relP W t s) (relP W (t+1) m) r f1 f2 h0 h1 w;have et:wrap64 (t+1)=t+1:=by unfold wrap64;omega
 generalize decide (comesP (relP W t s) (relP W (t+1) m) r)=x at *;simp only[relP] at cW;clear hW ht hs hm h0 h1 n1 n2 f1 f2;generalize W.hp t=g1 at *;generalize W.hp (t+1)=g2 at *;obtain⟨w1,hw1,D,Y,Z,K,hz⟩:=box3 w 27 #[.slice A W.bs.length c,W.home] 49 s 49 m;go_enter Tryz.func35,Tryz.ntmps35
 go_wp2_with fail
 rw[← hw1];clear hw1;refine mK (cv _ (hA.kpN K)) fun w2 k=>?_;replace D:=D.kpN k;replace Y:=Y.kpN k;replace Z:=Z.kpN k;replace K:=K.thenN k oM;have hzk:=k.size;clear k;have cD:=D.cell;have fD:=D.frozen;have cY:=Y.cell;have fY:=Y.frozen;have cZ:=Z.cell;have fZ:=Z.frozen;go_wp2_with fail
 refine mK (cs _) fun w3 k=>?_;clear cD fD cY fY cZ fZ;replace D:=D.kpN k;replace Y:=Y.kpN k;replace Z:=Z.kpN k;replace K:=K.thenN k oM;have hzk:=k.size;clear k;have cD:=D.cell;have fD:=D.frozen;have cY:=Y.cell;have fY:=Y.frozen;have cZ:=Z.cell;have fZ:=Z.frozen;go_wp2_with fail
 refine mK (cm _) fun w4 k=>?_;clear cD fD cY fY cZ fZ;replace D:=D.kpN k;replace Y:=Y.kpN k;replace Z:=Z.kpN k;replace K:=K.thenN k oM;have hzk:=k.size;clear k;have cD:=D.cell;have fD:=D.frozen;have cY:=Y.cell;have fY:=Y.frozen;have cZ:=Z.cell;have fZ:=Z.frozen;go_wp2_with fail
 clear cD fD cY fY cZ fZ;obtain⟨S,hS0,hS1⟩:=cls_of2 (P:=fun w'=>Blk w' _ _ _∧Blk w' _ _ _∧Blk w' _ _ _∧Kp _ _ _ w') w4 ⟨D,Y,Z,K⟩;try dsimp only at hS0
 have cD:=fun (x:Ev (S 0)) i=>((hS0 _).1 x.h).1.cell i;have cY:=fun (x:Ev (S 0)) i=>((hS0 _).1 x.h).2.1.cell i;have cZ:=fun (x:Ev (S 0)) i=>((hS0 _).1 x.h).2.2.1.cell i;replace D:=D.drew;replace Y:=Y.drew;replace Z:=Z.drew;replace K:=K.drew;have hevT:=ev_true;refine wro S [(0,1),(1,0),(2,1),(5,1),(6,0),(7,0),(8,1),(11,0),(3,2),(4,2),(9,2),(10,2),(12,2),(13,0)] [] ((hS0 _).2 ⟨D,Y,Z,K⟩) ?_;intro _hev;refine oX ?_;refine oL ?_;intro Kc hKc;generalize w4.drew=wd9 at *;go_step;refine mK (p1 _) fun w5 k=>?_;replace D:=D.kpN k;replace Y:=Y.kpN k;replace Z:=Z.kpN k;replace K:=K.tN k;clear k;refine hKc _ _ ((hS0 _).2 ⟨D,Y,Z,K⟩) ?_;clear hKc Kc;refine oL ?_;intro Kc hKc;go_step;refine mK (q1 _ (hA.kpN K)) fun w6 k=>?_;replace D:=D.kpN k;replace Y:=Y.kpN k;replace Z:=Z.kpN k;replace K:=K.tN k;clear k;refine hKc _ _ ((hS0 _).2 ⟨D,Y,Z,K⟩) ?_;clear hKc Kc;refine oL ?_;intro Kc hKc;go_step;refine mK (p2 _) fun w7 k=>?_;replace D:=D.kpN k;replace Y:=Y.kpN k;replace Z:=Z.kpN k;replace K:=K.tN k;clear k;refine hKc _ _ ((hS0 _).2 ⟨D,Y,Z,K⟩) ?_;clear hKc Kc;refine oL ?_;intro Kc hKc;go_step;refine mK (q2 _ (hA.kpN K)) fun w8 k=>?_;replace D:=D.kpN k;replace Y:=Y.kpN k;replace Z:=Z.kpN k;replace K:=K.tN k;clear k;refine hKc _ _ ((hS0 _).2 ⟨D,Y,Z,K⟩) ?_;clear hKc Kc;refine oL ?_;intro Kc hKc;go_step;refine mK (cW _) fun w10 k=>?_;replace D:=D.kpN k;replace Y:=Y.kpN k;replace Z:=Z.kpN k;replace K:=K.tN k;clear k;refine hKc _ _ ((hS0 _).2 ⟨D,Y,Z,K⟩) ?_;clear hKc Kc;refine oX ?_;refine wpOrd_nil ?_;clear hevT _hev;clear cD cY cZ hS0 hS1 S;go_wp2
 go_ret
 exact⟨rfl,K⟩
end Go.Proofs.YtdhiappifnflpaaGreatDoor
