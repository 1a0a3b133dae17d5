/- The reference's pulls, weakly: light and heat. The reference's pulls, weakly: Over, first part (the list of pulls). -/
import Derived.Test.YtdhiappifnflpaaGreatM45
import Derived.Test.YtdhiappifnflpaaGreatM22
set_option maxRecDepth 100000
set_option maxHeartbeats 4000000
namespace Go.Proofs.YtdhiappifnflpaaGreat
open Go.RowKit
def ArE (w:World) (e:Ending) (w':World):Prop:=(∃ (a b:Sp) (v:Int),e=.returned (.tuple #[.agg #[a.lo,a.hi,b.lo,b.hi],v])∧a.fit∧b.fit)∧Kp w.heap.size none w w'
theorem Dr.ok.lf {d:Dr} (h:d.ok):d.light.fit:=⟨by have:=h.l0;omega,h.l1,by have:=h.l2;omega⟩
theorem Dr.ok.hf {d:Dr} (h:d.ok):d.heat.fit:=⟨by have:=h.h0;omega,h.h1,by have:=h.h2;omega⟩
theorem r3_Light (A:Option Addr) (c:Nat) (W:Wd) (d:Dr) (t:Int) (a b:Sp) (w:World) (hW:W.ok) (hA:WdAt none w A W) (hd:d.light.fit) (ht:0≤t∧t≤1073741824) (ha:a.fit) (hb:b.fit) :
  Calls Tryz.prog 180 #[.agg #[.slice A W.bs.length c,W.home],d,t,.agg #[a.lo,a.hi,b.lo,b.hi]] w (ArE w):=by
 have ca:=fun w h=>r3_asked A c W d t a b w hW h;have co:=fun w h=>r3_one A c W 0 t a b w hW h hW.n0 ht ha hb;clear hW ha hb ht;obtain⟨w1,hw1,M,G,E,R,K,hz⟩:=box4 w 27 #[.slice A W.bs.length c,W.home] 31 d 167 #[a.lo,a.hi,b.lo,b.hi] 167 #[(0:Int),(0:Int),(0:Int),(0:Int)];go_enter Tryz.func180,Tryz.ntmps180
 go_wp2_with fail
 rw[← hw1];clear hw1;refine(ca _ (hA.kpN K)).mono ?_;rintro e w2 ⟨⟨v,rfl⟩,k⟩;replace M:=M.kpN k;replace G:=G.kpN k;replace E:=E.kpN k;replace R:=R.kpN k;replace K:=K.thenN k oM;have hzk:=k.size;clear k;by_cases h:v=0
 ·
  subst h;have cM:=M.cell;have fM:=M.frozen;have cG:=G.cell;have fG:=G.frozen;have cE:=E.cell;have fE:=E.frozen;have cR:=R.cell;have fR:=R.frozen;go_wp2_with fail
  refine(co _ (hA.kpN K)).mono ?_;rintro e w3 ⟨⟨m,n,rfl,n1,n2⟩,k⟩;clear cM fM cG fG cE fE cR fR;replace M:=M.kpN k;replace G:=G.kpN k;replace E:=E.kpN k;replace R:=R.kpN k;replace K:=K.thenN k oM;have hzk:=k.size;clear k;clear ca co hA M E;have pG:=G.cell;have pR:=R.cell;obtain⟨w9_,rfl,O,k9_,hzn⟩:=box1 w3 167 #[m.lo,m.hi,n.lo,n.hi];replace G:=G.kpN k9_;replace R:=R.kpN k9_;replace K:=K.thenN k9_ oU;clear k9_;have cG:=G.cell;have fG:=G.frozen;have cR:=R.cell;have fR:=R.frozen;go_wp2_with fail
  clear cG fG pG cR fR pR;generalize (w3.alloc (.cells #[m.lo,m.hi,n.lo,n.hi] 167))=w4 at *;obtain⟨y,hx⟩:∃ q9,q9=w3.heap.size:=⟨_,rfl⟩;rw[← hx] at O ⊢;replace hx:=Lib.hid hx;have hyw:w.heap.size+4≤y:=by have:=hx.out;have:=R.lt;omega
  clear hx hzn hzk hz;obtain⟨S,hS0,hS1⟩:=cls_of2 (P:=fun w'=>Blk w' _ _ _∧Blk w' _ _ _∧Kp _ _ _ w') w4 ⟨G,O,K⟩;try dsimp only at hS0
  have cG:=fun (x:Ev (S 0)) i=>((hS0 _).1 x.h).1.cell i;have cO:=fun (x:Ev (S 0)) i=>((hS0 _).1 x.h).2.1.cell i;replace G:=G.drew;replace O:=O.drew;replace K:=K.drew;replace R:=R.drew;have hevT:=ev_true;refine wro S [(0,0),(1,1),(2,0),(3,1),(6,0),(7,1),(8,0),(9,1),(4,2),(5,2),(10,2),(11,2),(12,0),(13,2),(14,0)] [] ((hS0 _).2 ⟨G,O,K⟩) ?_;intro _hev;refine oX ?_;refine oL ?_;intro Kc hKc;generalize w4.drew=wd9 at *;go_step;refine(r3_thousandth d.light m hd n1 _).mono ?_;rintro e w5 ⟨⟨g1,rfl,hg1⟩,k⟩;replace G:=G.kpN k;replace O:=O.kpN k;replace R:=R.kpN k;replace K:=K.tN k;clear k;refine hKc _ _ ((hS0 _).2 ⟨G,O,K⟩) ?_;clear hKc Kc;refine oL ?_;intro Kc hKc;go_step;refine(r3_minus g1 hg1 _).mono ?_;rintro e w6 ⟨⟨g2,rfl,hg2⟩,k⟩;replace G:=G.kpN k;replace O:=O.kpN k;replace R:=R.kpN k;replace K:=K.tN k;clear k;refine hKc _ _ ((hS0 _).2 ⟨G,O,K⟩) ?_;clear hKc Kc;refine oL ?_;intro Kc hKc;go_step;refine(r3_thousandth d.light n hd n2 _).mono ?_;rintro e w7 ⟨⟨k1,rfl,hk1⟩,k⟩;replace G:=G.kpN k;replace O:=O.kpN k;replace R:=R.kpN k;replace K:=K.tN k;clear k;refine hKc _ _ ((hS0 _).2 ⟨G,O,K⟩) ?_;clear hKc Kc;refine oL ?_;intro Kc hKc;go_step;refine(r3_minus k1 hk1 _).mono ?_;rintro e w8 ⟨⟨k2,rfl,hk2⟩,k⟩;replace G:=G.kpN k;replace O:=O.kpN k;replace R:=R.kpN k;replace K:=K.tN k;clear k;refine hKc _ _ ((hS0 _).2 ⟨G,O,K⟩) ?_;clear hKc Kc;refine oX ?_;refine oL ?_;intro Kc hKc;have cR:=R.cell;have fR:=R.frozen;go_step;obtain⟨w9,hwn,RB9,kst,hzst⟩:=R.st4 (.int .i64 g2.lo) (.int .i64 g2.hi) (.int .i64 k2.lo) (.int .i64 k2.hi);rw[← hwn];clear hwn cR fR;replace G:=G.kq kst;replace O:=O.kq kst;first|replace K:=K.thenOwn kst (Nat.le_refl _) oM|replace K:=K.then_ kst (Nat.le_refl _)
  replace R:=RB9;clear RB9 kst;simp only[sbt,sc0,scs] at R;refine hKc _ _ ((hS0 _).2 ⟨G,O,K⟩) ?_;clear hKc Kc;refine oX ?_;refine wpOrd_nil ?_;clear hevT _hev;clear cG cO hS0 hS1 S;go_wp2_with fail
  have cR:=R.cell;exact bodyPost_ret (v:=.tuple #[.agg #[g2.lo,g2.hi,k2.lo,k2.hi],(0:Int)]) (by simp[results,Tryz.results180,go_sem,cR]) rfl ⟨⟨g2,k2,_,rfl,hg2,hk2⟩,K⟩
 ·
  have cR:=R.cell;have fR:=R.frozen;go_wp2_with fail
  clear cR fR;have BR:=(((R.set_ 0 (.int .i64 0)).set_ 1 (.int .i64 0)).set_ 2 (.int .i64 0)).set_ 3 (.int .i64 0);have cR:=BR.cell;exact bodyPost_ret (v:=.tuple #[.agg #[(0:Int),(0:Int),(0:Int),(0:Int)],v]) (by simp[results,Tryz.results180,go_sem,cR]) rfl ⟨⟨⟨0,0⟩,⟨0,0⟩,_,rfl,fit0,fit0⟩,(((K.setNew (by simp<;>omega) _).setNew (by simp<;>omega) _).setNew (by simp<;>omega) _).setNew (by simp<;>omega) _⟩
theorem r3_Heat (A:Option Addr) (c:Nat) (W:Wd) (d:Dr) (t:Int) (a b:Sp) (w:World) (hW:W.ok) (hA:WdAt none w A W) (hd:d.heat.fit) (ht:0≤t∧t≤1073741824) (ha:a.fit) (hb:b.fit) :
  Calls Tryz.prog 181 #[.agg #[.slice A W.bs.length c,W.home],d,t,.agg #[a.lo,a.hi,b.lo,b.hi]] w (ArE w):=by
 have ca:=fun w h=>r3_asked A c W d t a b w hW h;have co:=fun w h=>r3_one A c W 0 t a b w hW h hW.n0 ht ha hb;clear hW ha hb ht;obtain⟨w1,hw1,M,G,E,R,K,hz⟩:=box4 w 27 #[.slice A W.bs.length c,W.home] 31 d 167 #[a.lo,a.hi,b.lo,b.hi] 167 #[(0:Int),(0:Int),(0:Int),(0:Int)];go_enter Tryz.func181,Tryz.ntmps181
 go_wp2_with fail
 rw[← hw1];clear hw1;refine(ca _ (hA.kpN K)).mono ?_;rintro e w2 ⟨⟨v,rfl⟩,k⟩;replace M:=M.kpN k;replace G:=G.kpN k;replace E:=E.kpN k;replace R:=R.kpN k;replace K:=K.thenN k oM;have hzk:=k.size;clear k;by_cases h:v=0
 ·
  subst h;have cM:=M.cell;have fM:=M.frozen;have cG:=G.cell;have fG:=G.frozen;have cE:=E.cell;have fE:=E.frozen;have cR:=R.cell;have fR:=R.frozen;go_wp2_with fail
  refine(co _ (hA.kpN K)).mono ?_;rintro e w3 ⟨⟨m,n,rfl,n1,n2⟩,k⟩;clear cM fM cG fG cE fE cR fR;replace M:=M.kpN k;replace G:=G.kpN k;replace E:=E.kpN k;replace R:=R.kpN k;replace K:=K.thenN k oM;have hzk:=k.size;clear k;clear ca co hA M E;have pG:=G.cell;have pR:=R.cell;obtain⟨w9_,rfl,O,k9_,hzn⟩:=box1 w3 167 #[m.lo,m.hi,n.lo,n.hi];replace G:=G.kpN k9_;replace R:=R.kpN k9_;replace K:=K.thenN k9_ oU;clear k9_;have cG:=G.cell;have fG:=G.frozen;have cR:=R.cell;have fR:=R.frozen;go_wp2_with fail
  clear cG fG pG cR fR pR;generalize (w3.alloc (.cells #[m.lo,m.hi,n.lo,n.hi] 167))=w4 at *;obtain⟨y,hx⟩:∃ q9,q9=w3.heap.size:=⟨_,rfl⟩;rw[← hx] at O ⊢;replace hx:=Lib.hid hx;have hyw:w.heap.size+4≤y:=by have:=hx.out;have:=R.lt;omega
  clear hx hzn hzk hz;obtain⟨S,hS0,hS1⟩:=cls_of2 (P:=fun w'=>Blk w' _ _ _∧Blk w' _ _ _∧Kp _ _ _ w') w4 ⟨G,O,K⟩;try dsimp only at hS0
  have cG:=fun (x:Ev (S 0)) i=>((hS0 _).1 x.h).1.cell i;have cO:=fun (x:Ev (S 0)) i=>((hS0 _).1 x.h).2.1.cell i;replace G:=G.drew;replace O:=O.drew;replace K:=K.drew;replace R:=R.drew;have hevT:=ev_true;refine wro S [(0,0),(1,1),(2,0),(3,1),(6,0),(7,1),(8,0),(9,1),(4,2),(5,2),(10,2),(11,0),(12,2),(13,0)] [] ((hS0 _).2 ⟨G,O,K⟩) ?_;intro _hev;refine oX ?_;refine oL ?_;intro Kc hKc;generalize w4.drew=wd9 at *;go_step;refine(r3_thousandth d.heat n hd n2 _).mono ?_;rintro e w5 ⟨⟨g1,rfl,hg1⟩,k⟩;replace G:=G.kpN k;replace O:=O.kpN k;replace R:=R.kpN k;replace K:=K.tN k;clear k;refine hKc _ _ ((hS0 _).2 ⟨G,O,K⟩) ?_;clear hKc Kc;refine oL ?_;intro Kc hKc;go_step;refine(r3_minus g1 hg1 _).mono ?_;rintro e w6 ⟨⟨g2,rfl,hg2⟩,k⟩;replace G:=G.kpN k;replace O:=O.kpN k;replace R:=R.kpN k;replace K:=K.tN k;clear k;refine hKc _ _ ((hS0 _).2 ⟨G,O,K⟩) ?_;clear hKc Kc;refine oL ?_;intro Kc hKc;go_step;refine(r3_thousandth d.heat m hd n1 _).mono ?_;rintro e w7 ⟨⟨k2,rfl,hk2⟩,k⟩;replace G:=G.kpN k;replace O:=O.kpN k;replace R:=R.kpN k;replace K:=K.tN k;clear k;refine hKc _ _ ((hS0 _).2 ⟨G,O,K⟩) ?_;clear hKc Kc;refine oX ?_;refine oL ?_;intro Kc hKc;have cR:=R.cell;have fR:=R.frozen;go_step;obtain⟨w9,hwn,RB9,kst,hzst⟩:=R.st4 (.int .i64 g2.lo) (.int .i64 g2.hi) (.int .i64 k2.lo) (.int .i64 k2.hi);rw[← hwn];clear hwn cR fR;replace G:=G.kq kst;replace O:=O.kq kst;first|replace K:=K.thenOwn kst (Nat.le_refl _) oM|replace K:=K.then_ kst (Nat.le_refl _)
  replace R:=RB9;clear RB9 kst;simp only[sbt,sc0,scs] at R;refine hKc _ _ ((hS0 _).2 ⟨G,O,K⟩) ?_;clear hKc Kc;refine oX ?_;refine wpOrd_nil ?_;clear hevT _hev;clear cG cO hS0 hS1 S;go_wp2_with fail
  have cR:=R.cell;exact bodyPost_ret (v:=.tuple #[.agg #[g2.lo,g2.hi,k2.lo,k2.hi],(0:Int)]) (by simp[results,Tryz.results181,go_sem,cR]) rfl ⟨⟨g2,k2,_,rfl,hg2,hk2⟩,K⟩
 ·
  have cR:=R.cell;have fR:=R.frozen;go_wp2_with fail
  clear cR fR;have BR:=(((R.set_ 0 (.int .i64 0)).set_ 1 (.int .i64 0)).set_ 2 (.int .i64 0)).set_ 3 (.int .i64 0);have cR:=BR.cell;exact bodyPost_ret (v:=.tuple #[.agg #[(0:Int),(0:Int),(0:Int),(0:Int)],v]) (by simp[results,Tryz.results181,go_sem,cR]) rfl ⟨⟨⟨0,0⟩,⟨0,0⟩,_,rfl,fit0,fit0⟩,(((K.setNew (by simp<;>omega) _).setNew (by simp<;>omega) _).setNew (by simp<;>omega) _).setNew (by simp<;>omega) _⟩
theorem r3_At (p:Pt) (w:World):Calls Tryz.prog 156 #[.agg #[p.x,p.y]] w fun e w'=>e=.returned (.agg #[p.x,p.x,p.y,p.y])∧Kp w.heap.size none w w':=by
 obtain⟨w1,hw1,P,R,K,hz⟩:=box2 w 73 #[p.x,p.y] 167 #[(0:Int),(0:Int),(0:Int),(0:Int)];go_enter Tryz.func156,Tryz.ntmps156
 go_upto_region 1 with(fail)
 rw[← hw1];clear hw1;have cP:=P.cell;have fP:=P.frozen;have cR:=R.cell;have fR:=R.frozen;go_wp2_with fail
 clear cP fP cR fR;have BR:=((((R.set_ 0 (.int .i64 p.x)).set_ 1 (.int .i64 p.x)).set_ 2 (.int .i64 p.y)).set_ 3 (.int .i64 p.y));have cR:=BR.cell;exact bodyPost_ret (by simp[results,Tryz.results156,go_sem,cR]) rfl ⟨rfl,((((K.setNew (by simp<;>omega) _).setNew (by simp<;>omega) _).setNew (by simp<;>omega) _).setNew (by simp<;>omega) _)⟩
def ArF (x:Ar):Prop:=x.x.fit∧x.y.fit
theorem area_info:(Tryz.prog.info? 167).map (fun i=>(i.zero,i.size,i.bytes))=some (some (.agg #[(0:Int),(0:Int),(0:Int),(0:Int)]),4,32):=by kernel_rfl
theorem ar_newAt (w:World) (T:TypeId) (x:Ar) {N:Nat} (hN:N=w.heap.size):∀ j u,(encAr x)[j]?=some u→(w.alloc (.cells x T)).cell? ((⟨N,0,none⟩:Addr).add j)=some u:=by
 subst hN;intro j u hj;rw[Addr.add_lit,Nat.zero_add,(Blk.new w T x).cell];exact(show (encAr x).toArray[j]?=some u by simpa using hj)
theorem ar_one (x:Ar):∀ u∈encAr x,u.oneCell'=true:=by
 intro u hu;simp only[encAr,List.mem_cons,List.not_mem_nil,or_false] at hu;rcases hu with rfl|rfl|rfl|rfl<;>rfl
theorem own_two (w:World) (B:Nat) (x y:Ar) (hB:B≤w.heap.size):Own (w.alloc (.cells #[x.x.lo,x.x.hi,x.y.lo,x.y.hi,y.x.lo,y.x.hi,y.y.lo,y.y.hi] 167)) B 167 4 encAr (.slice (some ⟨w.heap.size,0,none⟩) 2 2) [x,y]:=
 World.ownsRow_lit w _ 2 hB (maxLen_of oM) rfl
def OvAt (W:Wd) (a b:Sp) (A:Option Addr) (c:Nat) (B ob:Nat) (x0 x1:Int) (w:World) (v k:Value) (wr:World):Prop:=
 ∃ (i:Nat) (m:List Ar),k=.int .i64 i∧i≤W.bs.length∧m.length=i+2∧(∀ x∈m,ArF x)∧Own wr B 167 4 encAr v m∧Blk wr w.heap.size 27 #[.slice A W.bs.length c,W.home] ∧
  Blk wr (w.heap.size+2) 167 #[a.lo,a.hi,b.lo,b.hi]∧Blk wr (w.heap.size+3) 167 #[(0:Int),(0:Int),(0:Int),(0:Int)] ∧
  Blk wr ob 167 #[x0,x1,x0,x1]∧B≤wr.heap.size∧Kp w.heap.size none w wr
def SmAt (m:List Ar) (ob:Nat) (w:World) (k:Value) (wr:World):Prop:=
 ∃ (i:Nat) (x y:Sp),k=.int .i64 i∧i≤m.length∧x.fit∧y.fit∧Blk wr ob 167 #[x.lo,x.hi,y.lo,y.hi]∧Kp w.heap.size (some ob) w wr
theorem r3_Over (A:Option Addr) (c:Nat) (W:Wd) (d:Dr) (t:Int) (a b:Sp) (w:World) (hW:W.ok) (hA:WdAt none w A W) (hd:d.ok) (ht:0≤t∧t≤1073741824) (ha:a.fit) (hb:b.fit) :
  Calls Tryz.prog 155 #[.agg #[.slice A W.bs.length c,W.home],d,t,.agg #[a.lo,a.hi,b.lo,b.hi]] w (ArE w):=by
 obtain⟨i0,hi,hz0,hz1,hz2⟩:=info_parts area_info;have ca:=fun w h=>r3_asked A c W d t a b w hW h;have cl:=fun w h=>r3_Light A c W d t a b w hW h hd.lf ht ha hb;have ch:=fun w h=>r3_Heat A c W d t a b w hW h hd.hf ht ha hb;have co:=fun i w h hi=>r3_one A c W i t a b w hW h hi ht ha hb;have hn8:=hW.n1;have e1:wrap64 (-d.gas)=-d.gas:=by have:=hd.g0;have:=hd.g1;unfold wrap64;omega
 have fg:(⟨-d.gas,d.gas⟩:Sp).fit:=by have:=hd.g0;have:=hd.g1;unfold Sp.fit;dsimp only;omega
 clear hW ha hb ht hd;obtain⟨w1,hw1,M,G,E,R,K,hz⟩:=box4 w 27 #[.slice A W.bs.length c,W.home] 31 d 167 #[a.lo,a.hi,b.lo,b.hi] 167 #[(0:Int),(0:Int),(0:Int),(0:Int)];go_enter Tryz.func155,Tryz.ntmps155
 go_wp2_with fail
 rw[← hw1];clear hw1;refine(ca _ (hA.kpN K)).mono ?_;rintro e w2 ⟨⟨v,rfl⟩,k⟩;replace M:=M.kpN k;replace G:=G.kpN k;replace E:=E.kpN k;replace R:=R.kpN k;replace K:=K.thenN k oM;have hzk:=k.size;clear k;by_cases h:v=0
 ·
  subst h;clear ca;have lR:=R.lt;have pM:=M.cell;have pG:=G.cell;have pE:=E.cell;have pR:=R.cell;obtain⟨w9_,rfl,S,O,k9_,hzn⟩:=box2 w2 29 #[.int .i64 (-d.gas),d.gas] 167 #[.int .i64 (-d.gas),d.gas,.int .i64 (-d.gas),d.gas];replace M:=M.kpN k9_;replace G:=G.kpN k9_;replace E:=E.kpN k9_;replace R:=R.kpN k9_;replace K:=K.thenN k9_ oU;clear k9_;have cM:=M.cell;have fM:=M.frozen;have cG:=G.cell;have fG:=G.frozen;have cE:=E.cell;have fE:=E.frozen;have cR:=R.cell;have fR:=R.frozen;go_wp2_with fail
  clear cM fM pM cG fG pG cE fE pE cR fR pR;generalize ((w2.alloc (.cells #[.int .i64 (-d.gas),d.gas] 29)).alloc (.cells #[.int .i64 (-d.gas),d.gas,.int .i64 (-d.gas),d.gas] 167))=w3 at *;obtain⟨y,hx⟩:∃ q9,q9=w2.heap.size:=⟨_,rfl⟩;rw[← hx] at S O ⊢;replace hx:=Lib.hid hx;have y1:w.heap.size+4≤y:=by have:=hx.out;omega
  clear hx hzn hzk S;refine(cl _ (hA.kpN K)).mono ?_;rintro e w4 ⟨⟨m1,n1,v1,rfl,f1,g1⟩,k⟩;replace M:=M.kpN k;replace G:=G.kpN k;replace E:=E.kpN k;replace R:=R.kpN k;replace O:=O.kpN k;replace K:=K.tN k;have lO:=O.lt;clear k cl;have pM:=M.cell;have pG:=G.cell;have pE:=E.cell;have pR:=R.cell;have pO:=O.cell;obtain⟨w9_,rfl,L,k9_,hzn⟩:=box1 w4 167 #[m1.lo,m1.hi,n1.lo,n1.hi];replace M:=M.kpN k9_;replace G:=G.kpN k9_;replace E:=E.kpN k9_;replace R:=R.kpN k9_;replace O:=O.kpN k9_;replace K:=K.thenN k9_ oU;clear k9_;have cM:=M.cell;have fM:=M.frozen;have cG:=G.cell;have fG:=G.frozen;have cE:=E.cell;have fE:=E.frozen;have cR:=R.cell;have fR:=R.frozen;have cO:=O.cell;have fO:=O.frozen;go_wp2_with fail
  clear cM fM pM cG fG pG cE fE pE cR fR pR cO fO pO;generalize (w4.alloc (.cells #[m1.lo,m1.hi,n1.lo,n1.hi] 167))=w5 at *;obtain⟨y2,hx⟩:∃ q9,q9=w4.heap.size:=⟨_,rfl⟩;rw[← hx] at L ⊢;replace hx:=Lib.hid hx;have y3:y+1<y2:=by have:=hx.out;omega
  clear hx hzn;refine(ch _ (hA.kpN K)).mono ?_;rintro e w6 ⟨⟨m2,n2,v2,rfl,f2,g2⟩,k⟩;replace M:=M.kpN k;replace E:=E.kpN k;replace R:=R.kpN k;replace O:=O.kpN k;replace L:=L.kpN k;replace K:=K.tN k;have lL:=L.lt;clear k ch G;have ow:=own_two (w6.alloc (.cells #[m2.lo,m2.hi,n2.lo,n2.hi] 167)) w6.heap.size ⟨m1,n1⟩ ⟨m2,n2⟩ (by simp);dsimp only at ow;rw[show (w6.alloc (.cells #[m2.lo,m2.hi,n2.lo,n2.hi] 167)).heap.size=w6.heap.size+1 by simp] at ow;have pM:=M.cell;have pE:=E.cell;have pR:=R.cell;have pO:=O.cell;have pL:=L.cell;obtain⟨w9_,rfl,H,X,k9_,hzn⟩:=box2 w6 167 #[m2.lo,m2.hi,n2.lo,n2.hi] 167 #[m1.lo,m1.hi,n1.lo,n1.hi,m2.lo,m2.hi,n2.lo,n2.hi];replace M:=M.kpN k9_;replace E:=E.kpN k9_;replace R:=R.kpN k9_;replace O:=O.kpN k9_;replace L:=L.kpN k9_;replace K:=K.thenN k9_ oU;clear k9_;have cM:=M.cell;have fM:=M.frozen;have cE:=E.cell;have fE:=E.frozen;have cR:=R.cell;have fR:=R.frozen;have cO:=O.cell;have fO:=O.frozen;have cL:=L.cell;have fL:=L.frozen;go_wp2_with fail
  clear cM fM pM cE fE pE cR fR pR cO fO pO cL fL pL;generalize ((w6.alloc (.cells #[m2.lo,m2.hi,n2.lo,n2.hi] 167)).alloc (.cells #[m1.lo,m1.hi,n1.lo,n1.hi,m2.lo,m2.hi,n2.lo,n2.hi] 167))=w7 at *;obtain⟨y4,hx⟩:∃ q9,q9=w6.heap.size:=⟨_,rfl⟩;rw[← hx] at H X ⊢;replace hx:=Lib.hid hx;rw[← hx.out] at ow;have y5:y2<y4:=by have:=hx.out;omega
  have hB7:y4≤w7.heap.size:=by have:=hx.out;omega
  clear hx hzn H X L lL lO lR hz;go_loopw [17,18] (fun v k wr=>OvAt W a b A c y4 (y+1) (-d.gas) d.gas w v k wr) (fun _ k _=>(W.bs.length:Int).toNat-(intOf k).toNat)
  case atStart=>exact⟨0,[⟨m1,n1⟩,⟨m2,n2⟩],rfl,Nat.zero_le _,rfl,by
   intro x hx;simp only[List.mem_cons,List.not_mem_nil,or_false] at hx;rcases hx with rfl|rfl
   · exact⟨f1,g1⟩
   · exact⟨f2,g2⟩,ow,M,E,R,O,hB7,K⟩
  case round=>
   clear ow M E R O hB7 K f1 g1 f2 g2;obtain⟨i,m,rfl,hi9,hml,hf,ow,M,E,R,O,hB,K⟩:=hrel;by_cases h:i<W.bs.length
   ·
    have hii:(i:Int)<(W.bs.length:Int):=by omega
    have hi0:¬ (i:Int)<0:=by omega
    have hm:(W.bs.length:Int).toNat-((i+1:Nat):Int).toNat<(W.bs.length:Int).toNat-(i:Int).toNat:=by omega
    have hm5:m.length≤512:=by omega
    replace hm:=Lib.hid hm;replace hml:=Lib.hid hml;replace hf:=Lib.hid hf;replace fg:=Lib.hid fg;have cM:=M.cell;have cE:=E.cell;go_wp2_with fail
    clear cM cE;refine(co i _ (hA.kpN K) h).mono ?_;rintro e w8 ⟨⟨p,q,rfl,f3,g3⟩,k⟩;replace ow:=ow.kpN k;replace M:=M.kpN k;replace E:=E.kpN k;replace R:=R.kpN k;replace O:=O.kpN k;replace K:=K.tN k;replace hB:=Nat.le_trans hB k.size;clear k;replace M:=Lib.hid M;replace E:=Lib.hid E;replace R:=Lib.hid R;replace O:=Lib.hid O;go_wp2_with (at_builtin;go_loud (refine wpList_append_own_at _ (by rfl) (.tmp 64) (.tmp 70) 268 (by rfl) y4 167 i0 _ 4 32 Tryz.underlying268 hi hz0 hz1 hz2 (by rfl) oM u17 m.length (m.flatMap encAr) (by rfl) (ow.alloc _) ⟨w8.heap.size,0,none⟩ 1 1 (encAr ⟨p,q⟩) (by rfl) (by rfl) (ar_newAt _ _ ⟨p,q⟩ rfl) (ar_one _) (maxLen_of oM) oM (alloc_ge hB _) ?_);intro v4 w10 hown4 hgrow _ hat)
    have hge:∀ b,u17.ownBlock=some b→y4≤b:=fun b hb=>(ow.ge b hb).1;have ow4:Own w10 y4 167 4 encAr v4 (m++[⟨p,q⟩]):=by unfold Own;simpa using hown4
    have M4:=(M.out.alloc _).grownO hgrow (fun b hb=>by have:=hge b hb;omega);have E4:=(E.out.alloc _).grownO hgrow (fun b hb=>by have:=hge b hb;omega);have R4:=(R.out.alloc _).grownO hgrow (fun b hb=>by have:=hge b hb;omega);have O4:=(O.out.alloc _).grownO hgrow (fun b hb=>by have:=hge b hb;omega);have K4:=(K.thenN (Kp.new1 _ _) (Nat.le_refl _)).grown hgrow (by have:=K.size;simp;omega) (fun b hb=>by have:=hge b hb;omega)
    exact⟨⟨i+1,m++[⟨p,q⟩],by congr 1,h,by rw[List.length_append,hml.out];simp only[List.length_cons,List.length_nil];try omega,by
     intro x hx;rcases List.mem_append.1 hx with hx|hx
     · exact hf.out x hx
     ·
      simp only[List.mem_cons,List.not_mem_nil,or_false] at hx;rw[hx];exact⟨f3,g3⟩,ow4,M4,E4,R4,O4,by have:=hgrow.size;simp at this;omega,K4⟩,hm.out⟩
   ·
    obtain rfl:i=W.bs.length:=by omega
    have hml8:m.length≤10:=by omega
    clear co hml hA;obtain⟨A2,cap2,rfl,rd2,-⟩:=ow.rd (row:=some (y+1)) (fun _=>rfl) (fun b hb=>oN);have cM:=M.cell;go_wp2_with fail
    clear cM ow M E;rename World=>w9;have KO:=K;clear K;go_loopw [19] (fun k wr=>SmAt m (y+1) w9 k wr) (fun k _=>(m.length:Int).toNat-(intOf k).toNat)
    case atStart=>exact⟨0,⟨-d.gas,d.gas⟩,⟨-d.gas,d.gas⟩,rfl,Nat.zero_le _,fg,fg,O,Kp.refl _ _ _⟩
    case round=>
     clear O fg;obtain⟨j,x,z,rfl,hj,hx,hz',O,K2⟩:=hrel;by_cases h:j<m.length
     ·
      obtain⟨bb,o,rfl,hlt,hne,hc⟩:=(rd2.kp K2).at_ oM;have c0:=hc j h 0 _ rfl;have c1:=hc j h 1 _ rfl;have c2:=hc j h 2 _ rfl;have c3:=hc j h 3 _ rfl;rw[Nat.add_zero] at c0;rw[← Nat.add_assoc] at c1 c2 c3;have hnb:bb≠y+1:=fun e=>hne (by rw[e]);have hxi:=hf _ (List.getElem_mem h);generalize m[j]=u at *;have hii:(j:Int)<(m.length:Int):=by omega
      have hi0:¬ (j:Int)<0:=by omega
      have hm:(m.length:Int).toNat-((j+1:Nat):Int).toNat<(m.length:Int).toNat-(j:Int).toNat:=by omega
      replace hm:=Lib.hid hm;clear hc hf rd2 hne;go_wp2_with fail
      have lO:=O.lt;have K:=Kp.refl wr.heap.size (some (y+1)) wr;obtain⟨S,hS0,hS1⟩:=cls_of2 (P:=fun w'=>Blk w' _ _ _∧Kp _ _ _ w') wr ⟨O,K⟩;try dsimp only at hS0
      have cO:=fun (x:Ev (S 0)) i=>((hS0 _).1 x.h).1.cell i;have d0:=fun (x:Ev (S 0))=>((((hS0 _).1 x.h).2).cell _ _ hlt oW).trans c0;have d1:=fun (x:Ev (S 0))=>((((hS0 _).1 x.h).2).cell _ _ hlt oW).trans c1;have d2:=fun (x:Ev (S 0))=>((((hS0 _).1 x.h).2).cell _ _ hlt oW).trans c2;have d3:=fun (x:Ev (S 0))=>((((hS0 _).1 x.h).2).cell _ _ hlt oW).trans c3;replace O:=O.drew;replace K:=K.drew;have hevT:=ev_true;refine wro S [(0,0),(1,1),(2,0),(3,0),(4,0),(5,0),(6,1),(8,0),(9,1),(10,0),(11,0),(12,0),(13,0),(14,1),(7,2),(15,2),(16,0),(17,3)] [17] ((hS0 _).2 ⟨O,K⟩) ?_;intro _hev;refine oX ?_;refine oL ?_;intro Kc hKc;generalize wr.drew=wd9 at *;go_step;refine(r3_sum x u.x hx hxi.1 _).mono ?_;rintro e w11 ⟨⟨s,rfl,hs⟩,k⟩;replace O:=O.kpN k;replace K:=K.tN k;clear k;refine hKc _ _ ((hS0 _).2 ⟨O,K⟩) ?_;clear hKc Kc;refine oL ?_;intro Kc hKc;go_step;refine(r3_sum z u.y hz' hxi.2 _).mono ?_;rintro e w12 ⟨⟨s2,rfl,hs2⟩,k⟩;replace O:=O.kpN k;replace K:=K.tN k;clear k;refine hKc _ _ ((hS0 _).2 ⟨O,K⟩) ?_;clear hKc Kc;refine oX ?_;refine oA ?_;intro Kc hKc;have cR:=O.cell;have fR:=O.frozen;go_step;obtain⟨w20,hwn,RB9,kst,hzst⟩:=O.st4 (.int .i64 s.lo) (.int .i64 s.hi) (.int .i64 s2.lo) (.int .i64 s2.hi);rw[← hwn];clear hwn cR fR;refine hKc _ _ ((hS1 _).2 trivial) ?_;clear hKc Kc;first|replace K:=K.thenOwn kst (Nat.le_refl _) oM|replace K:=K.then_ kst (Nat.le_refl _)
      replace O:=RB9;clear RB9 kst;simp only[sbt,sc0,scs] at O;change wpOrd _ _ _ _ _ 1 _ _;refine wpOrd_nil ?_;clear hevT _hev;clear d0 d1 d2 d3;clear cO hS0 hS1 S;go_wp2_with fail
      go_roundw
      case rel=>exact⟨j+1,s,s2,by congr 1,h,hs,hs2,O,K2.then_ K (Nat.le_refl _)⟩
      case measure=>exact hm.out
     ·
      obtain rfl:j=m.length:=by omega
      clear hf rd2;have lR:=R.lt;replace R:=R.kp K2 lR oN;have cR:=R.cell;have fR:=R.frozen;have cO:=O.cell;go_wp2_with fail
      clear cR fR cO;have BR:=(((R.set_ 0 (.int .i64 x.lo)).set_ 1 (.int .i64 x.hi)).set_ 2 (.int .i64 z.lo)).set_ 3 (.int .i64 z.hi);have cR:=BR.cell;have K:=KO.thenOwn K2 (Nat.le_refl _) oM;exact bodyPost_ret (v:=.tuple #[.agg #[x.lo,x.hi,z.lo,z.hi],(0:Int)]) (by simp[results,Tryz.results155,go_sem,cR]) rfl ⟨⟨x,z,_,rfl,hx,hz'⟩,(((K.setNew (by simp<;>omega) _).setNew (by simp<;>omega) _).setNew (by simp<;>omega) _).setNew (by simp<;>omega) _⟩
 ·
  clear ca cl ch co;have cR:=R.cell;have fR:=R.frozen;go_wp2_with fail
  clear cR fR;have BR:=(((R.set_ 0 (.int .i64 0)).set_ 1 (.int .i64 0)).set_ 2 (.int .i64 0)).set_ 3 (.int .i64 0);have cR:=BR.cell;exact bodyPost_ret (v:=.tuple #[.agg #[(0:Int),(0:Int),(0:Int),(0:Int)],v]) (by simp[results,Tryz.results155,go_sem,cR]) rfl ⟨⟨⟨0,0⟩,⟨0,0⟩,_,rfl,fit0,fit0⟩,(((K.setNew (by simp<;>omega) _).setNew (by simp<;>omega) _).setNew (by simp<;>omega) _).setNew (by simp<;>omega) _⟩
end Go.Proofs.YtdhiappifnflpaaGreat
