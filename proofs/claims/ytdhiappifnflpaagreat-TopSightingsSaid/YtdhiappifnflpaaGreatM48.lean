/- The statements' common start: watched. Equal boxes; small words for the statements' walks. The reference's cells of a box: Cells, the walk; CellsOf. -/
import Derived.Test.YtdhiappifnflpaaGreatZm
import Derived.Test.YtdhiappifnflpaaGreatWl
import Derived.Test.YtdhiappifnflpaaGreatM47
import Derived.Laws.StructEq
import Derived.Test.YtdhiappifnflpaaGreatM26
import Derived.Test.YtdhiappifnflpaaGreatM07
set_option maxRecDepth 100000
set_option maxHeartbeats 8000000
namespace Go.Proofs.YtdhiappifnflpaaGreat
open Go.RowKit
theorem Rd.kpNe {α:Type} {row:Option Nat} {w w':World} {sz n r:Nat} {enc:α→List Value} {A:Option Addr} {xs:List α} (h:Rd row w sz enc A n xs) (k:Kp w.heap.size (some r) w w') (hne:∀ ad,A=some ad→ad.block≠r):Rd row w' sz enc A n xs:=by
 refine⟨h.1,fun hn=>?_⟩;obtain⟨b,o,rfl,hb,hr,hc⟩:=h.2 hn;exact⟨b,o,rfl,Nat.lt_of_lt_of_le hb k.size,hr,fun i hi j v hv=>(k.cell b _ hb (sne (hne _ rfl))).trans (hc i hi j v hv)⟩
def SgtOk (S:Sky) (t:Int) (l:List St) (n:Nat) (x:Sg):Prop:=S.okSg x∧∃ i:Nat,i≤n∧x.tick=t+i∧(S.look x).agrees ⟨(nth l i).x,(nth l i).y⟩=true
def WatP (g:Nat) (A:Option Addr) (c:Nat) (W:Wd) (t:Int) (l:List St) (n:Nat) (v:Value) (w':World):Prop:=
 ∃ (S:Sky) (B:Option Addr) (e:Nat) (C:Option Addr) (f:Nat) (G:Option Addr) (m:Nat) (gs:List Sg),v=.tuple #[.agg #[.slice A S.W.bs.length c,S.W.home,.slice B S.st.length e,.slice C S.ct.length f],.slice G gs.length m]∧S.W=W∧S.ok∧SkyAt (some g) w' A B C S∧Rd (some g) w' 9 encSg G gs.length gs∧gs.length≤n+1∧∀ x∈gs,SgtOk S t l n x
def WaAt (g:Nat) (nums:List Int) (k:Nat) (A:Option Addr) (c:Nat) (B:Option Addr) (e:Nat) (C:Option Addr) (f:Nat) (S:Sky) (t:Int) (l:List St) (n rb sb:Nat) (w2:World) (v13 v14:Value) (wr:World):Prop:=
 ∃ (i:Nat) (gs:List Sg) (k':Nat),v14=.int .i64 i∧i≤n+1∧i≤l.length∧gs.length≤i∧(∀ x∈gs,SgtOk S t l n x)∧Own wr (sb+1) 90 9 encSg v13 gs∧Blk wr sb 43 #[.slice A S.W.bs.length c,S.W.home,.slice B S.st.length e,.slice C S.ct.length f] ∧
  Blk wr rb 43 #[.slice none 0 0,(0:Int),.slice none 0 0,.slice none 0 0]∧RingAt wr g nums k'∧k'≤k+10 * i∧Kp w2.heap.size (some g) w2 wr
theorem watched_any (g:Nat) (nums:List Int) (k:Nat) (A:Option Addr) (c:Nat) (W:Wd) (t:Int) (L:Option Addr) (m:Nat) (l:List St) (n:Nat) (w:World) (HR:RingAt w g nums k) (hk:k≤700000) (hW:W.ok) (hA:WdAt (some g) w A W)
  (ht:0≤t∧t≤1000) (hl:Rd (some g) w 4 encSt L l.length l) (hll:l.length≤1000) (hok:∀ s∈l,okSt s=true) (hn:n≤50) :
  Calls Tryz.prog 9 #[.pointer (some ⟨g,0,none⟩),.agg #[.slice A W.bs.length c,W.home],t,.slice L l.length m,n] w (RPostB g nums (k+100+10 * (n+1)) w (WatP g A c W t l n)):=by
 have hg:=HR.lt;obtain⟨w1,hw1,M,R,K,hz⟩:=box2 w 27 #[.slice A W.bs.length c,W.home] 43 #[.slice none 0 0,(0:Int),.slice none 0 0,.slice none 0 0];replace HR:=HR.kpN K;replace K:=K.wide (some g);go_enter Tryz.func9,Tryz.ntmps9
 go_wp2_with fail
 rw[← hw1];clear hw1;refine(skyOf_any g nums k _ HR oM).mono ?_;rintro e w2 ⟨v9,k',rfl,⟨A1,n1,c1,h1,B,e1,st,i1,D,f1,ct,j1,rfl,rds,rdc,hst,hct,hs1,⟨hs2,hs3⟩,fs,fc⟩,hk',HR2,k2⟩;replace M:=M.kq k2;replace R:=R.kq k2;replace K:=K.then_ k2 (Nat.le_refl _);clear HR k2;have HR:=HR2;clear HR2;obtain⟨S,hSW,hSs,hSc⟩:∃ S:Sky,S.W=W∧S.st=st∧S.ct=ct:=⟨⟨W,st,ct⟩,rfl,rfl,rfl⟩;have hS:S.ok:=⟨by rw[hSW];exact hW,by rw[hSs];omega,by rw[hSs];omega,by rw[hSs];exact hst.asc,by rw[hSs];exact hst.off,by rw[hSc];omega,by rw[hSc];omega,by rw[hSc];exact hct.asc,by rw[hSc];exact hct.b⟩;subst hSW hSs hSc;have hz2:=hz;have hSA:SkyAt (some g) w2 A B D S:=⟨hA.kp K,rds,rdc⟩;have hl2:=hl.kp K;have hA0:=Lib.hid hA;clear rds rdc hst hct hs1 hs2 hs3 hA hl hW;have hRz:=R.lt;have SB0:=Blk.new w2 43 #[.slice A1 n1 c1,h1,.slice B S.st.length e1,.slice D S.ct.length f1];have KO:=K;clear K;have K:=(Kp.refl w2.heap.size (some g) w2).alloc (Nat.le_refl _) (.cells #[.slice A1 n1 c1,h1,.slice B S.st.length e1,.slice D S.ct.length f1] 43);replace M:=M.alloc (.cells #[.slice A1 n1 c1,h1,.slice B S.st.length e1,.slice D S.ct.length f1] 43);replace R:=R.alloc (.cells #[.slice A1 n1 c1,h1,.slice B S.st.length e1,.slice D S.ct.length f1] 43);replace HR:=HR.alloc (.cells #[.slice A1 n1 c1,h1,.slice B S.st.length e1,.slice D S.ct.length f1] 43);go_upto_region 2 with(fail)
 generalize w2.alloc (.cells #[.slice A1 n1 c1,h1,.slice B S.st.length e1,.slice D S.ct.length f1] 43)=w3 at *;obtain⟨sb,hsb⟩:∃ sb,sb=w2.heap.size:=⟨_,rfl⟩;rw[← hsb] at SB0 ⊢;have hsb2:w.heap.size+2≤sb:=by omega
 have hsb3:w2.heap.size≤sb:=by omega
 have hsb4:sb≤w2.heap.size:=by omega
 have hg2:g<w2.heap.size:=by omega
 clear hsb;obtain⟨w4,hw4,SB,kst,hzst⟩:=SB0.st2 (.slice A S.W.bs.length c) (.int .i64 S.W.home);simp only[sbt,sc0,scs] at SB;have cM:=M.cell;have cS:=SB0.cell;have fS:=SB0.frozen;go_wp2_with fail
 rw[← hw4];replace R:=R.kq kst;replace HR:=HR.kpRow kst oM;replace K:=K.thenOwn kst (Nat.le_refl _) oM;clear cM cS fS hw4 kst hzst SB0 M;go_loopw [13,14] (fun v13 v14 wr=>WaAt g nums k' A c B e1 D f1 S t l n (w.heap.size+1) sb w2 v13 v14 wr) (fun _ v14 _=>n+1-(intOf v14).toNat)
 case atStart=>exact⟨0,[],k',rfl,by omega,by omega,by simp,by simp,Own.nil _ _ _ _ _,SB,R,HR,by omega,K⟩
 case round=>
  clear SB R HR K;obtain⟨i,gs,k3,rfl,hi1,hi2,hgl,hgs,ow,SB,R,HR,hk3,K⟩:=hrel;by_cases h:i≤n∧i<l.length
  ·
   obtain⟨h1i,h2i⟩:=h;have hii:(i:Int)≤(n:Int):=by omega
   have hij:(i:Int)<(l.length:Int):=by omega
   obtain⟨bb,o,hLe,hlt,hbg,hcc⟩:=hl2.at_ oM;have d0:=hcc i h2i 0 _ rfl;have d1:=hcc i h2i 1 _ rfl;rw[Nat.add_zero] at d0;rw[← Nat.add_assoc] at d1;have hst:=hok _ (List.getElem_mem h2i);have hnth:=Lib.hid (nth_eq h2i);unfold okSt at hst;simp only[decide_eq_true_eq] at hst;generalize l[i]=z at *;have hbg2:bb≠g:=fun e=>hbg (by rw[e]);have hi0:¬ (i:Int)<0:=by omega
   have hbd:(i:Int)≤1000:=by omega
   have hm:n+1-(i+1)<n+1-i:=by omega
   have hk7:k3≤790000:=by omega
   replace hm:=Lib.hid hm;replace hgs:=Lib.hid hgs;replace hk3:=Lib.hid hk3;subst hLe;clear hcc hbg;have hsl:=SB.lt;go_upto_region 7 with(fail)
   replace d0:=(K.cell _ _ hlt (sne hbg2)).trans d0;replace d1:=(K.cell _ _ hlt (sne hbg2)).trans d1;have hlt2:bb<wr.heap.size:=Nat.lt_of_lt_of_le hlt K.size;have hg3:=HR.lt;have K2:=K;clear K;have K:=Kp.refl wr.heap.size none wr;obtain⟨S,hS0,hS1⟩:=cls_of2 (P:=fun w'=>Kp _ _ _ w') wr K;try dsimp only at hS0
   have q0:=fun (x:Ev (S 0))=>((((hS0 _).1 x.h)).cell _ _ hlt2 oW).trans d0;have q1:=fun (x:Ev (S 0))=>((((hS0 _).1 x.h)).cell _ _ hlt2 oW).trans d1;replace K:=K.drew;have hevT:=ev_true;refine wro S [(0,0),(1,0),(2,0),(3,0),(4,1),(5,0),(6,0),(7,0),(8,0),(9,1),(10,0),(11,2),(12,3)] [12] ((hS0 _).2 K) ?_;intro _hev;refine oX ?_;refine oL ?_;intro Kc hKc;generalize wr.drew=wd9 at *;go_step;have PB:=Blk.new wd9 73 #[(0:Int),(0:Int)];have gpbK:=K.size;replace K:=K.alloc (by have:=K.size;omega) (.cells #[(0:Int),(0:Int)] 73);refine hKc _ _ ((hS0 _).2 K) ?_;clear hKc Kc;obtain⟨pb,hpb⟩:∃ q9,q9=wd9.heap.size:=⟨_,rfl⟩;generalize wd9.alloc (.cells #[(0:Int),(0:Int)] 73)=w5 at *;rw[← hpb] at PB gpbK ⊢;replace hpb:=Lib.hid hpb;refine oA ?_;intro Kc hKc;have cR:=PB.cell;have fR:=PB.frozen;go_step;obtain⟨w6,hwn,RB9,kst,hzst⟩:=PB.st2 (.int .i64 z.x) (.int .i64 z.y);rw[← hwn];clear hwn cR fR;refine hKc _ _ ((hS1 _).2 trivial) ?_;clear hKc Kc;first|replace K:=K.thenOwn kst (Nat.le_refl _) oM|replace K:=K.then_ kst (Nat.le_refl _)
   replace PB:=RB9;clear RB9 kst;simp only[sbt,sc0,scs] at PB;change wpOrd _ _ _ _ _ 1 _ _;refine wpOrd_nil ?_;clear hevT _hev;clear q0 q1;clear hS0 hS1 S;replace SB:=SB.kpN K;replace R:=R.kpN K;replace HR:=HR.kpN K;replace ow:=ow.kpN K;replace K:=K2.tN K;have hgr:=hg3;clear K2 d0 d1 hlt2;have hRl:=R.lt;have cS:=SB.cell;have cP:=PB.cell;have ew:wrap64 (t+(i:Int))=t+(i:Int):=by unfold wrap64;omega
   go_wp2_with fail
   clear cS cP;refine(sightOf_any g nums k3 A B D c e1 f1 S (t+(i:Int)) ⟨z.x,z.y⟩ _ HR oM hS ((hSA.1).kp K) (hSA.2.1.kp K) (hSA.2.2.kp K) oM ⟨hst.1,hst.2.1,hst.2.2.1,hst.2.2.2.1⟩).mono ?_;rintro e w7 ⟨v9,k4,rfl,⟨x,rfl,hxt⟩,hk4,HR2,k2⟩;replace hxt:=Lib.hid hxt;have hpbl:=PB.lt;have hzk:=K.size;replace SB:=SB.kq k2;replace R:=R.kq k2;replace PB:=PB.kq k2;replace ow:=ow.kp k2 (fun b9 hb9=>oN);replace K:=K.then_ k2 (Nat.le_refl _);clear HR k2 ew;have HR:=HR2;clear HR2;have hzk:=K.size;replace HR:=HR.alloc (.cells x 90);replace ow:=ow.alloc (.cells x 90);have pSB:=SB.cell;have pR:=R.cell;have pPB:=PB.cell;obtain⟨w9_,rfl,XB,k9_,hzn⟩:=box1 w7 90 x;replace SB:=SB.kpN k9_;replace R:=R.kpN k9_;replace PB:=PB.kpN k9_;replace K:=K.thenN k9_ oU;clear k9_;have cSB:=SB.cell;have fSB:=SB.frozen;have cR:=R.cell;have fR:=R.frozen;have cPB:=PB.cell;have fPB:=PB.frozen;go_wp2_with fail
   clear cSB fSB pSB cR fR pR cPB fPB pPB;generalize (w7.alloc (.cells x 90))=w8 at *;obtain⟨xb,hx⟩:∃ q9,q9=w7.heap.size:=⟨_,rfl⟩;rw[← hx] at XB ⊢;replace hx:=Lib.hid hx;clear hx hzn hzk;refine(sky_Agrees_any A B D c e1 f1 S x ⟨z.x,z.y⟩ _ hS ((hSA.kp K).free)).mono ?_;rintro e w9 ⟨⟨r,rfl,hr⟩,k9⟩;replace SB:=SB.kpN k9;replace R:=R.kpN k9;replace PB:=PB.kpN k9;replace XB:=XB.kpN k9;replace HR:=HR.kpN k9;replace ow:=ow.kpN k9;replace K:=K.tN k9;clear k9;have hkk:k4≤k'+10 * (i+1):=by have:=hk3.out;omega
   cases r
   ·
    replace hkk:=Lib.hid hkk;go_wp2
    go_roundw
    case rel=>exact⟨i+1,gs,k4,by congr 1,by omega,by omega,by omega,hgs.out,ow,SB,R,HR,hkk.out,K⟩
    case measure=>exact hm.out
   ·
    obtain⟨hr1,hr2⟩:=hr rfl;have hxs:SgtOk S t l n x:=⟨hr1,i,h1i,hxt.out,by rw[hnth.out];exact hr2⟩;replace hxs:=Lib.hid hxs;replace hr:=0;clear hr hr1 hr2;have cX:=XB.cell;have Q:=Blk.new w9 90 x;have hRl:=SB.lt;have hzw:=alloc_ge (show sb+1≤w9.heap.size from SB.lt) (.cells x 90);replace SB:=SB.alloc (.cells x 90);replace R:=R.alloc (.cells x 90);replace HR:=HR.alloc (.cells x 90);replace ow:=ow.alloc (.cells x 90);replace K:=K.alloc K.size (.cells x 90);have hgl9:gs.length≤100:=by omega
    replace hkk:=Lib.hid hkk;go_wp2_with (at_builtin;go_loud (refine wpList_app1_Sight (by rfl) (.tmp 54) (.tmp 56) (by rfl) (sb+1) u13 gs _ 1 x (by rfl) (by rfl) ow Q (by rfl) oM hzw ?_);intro v' wf ow' hg' hat)
    have hge:=fun b e=>(ow.ge b e).1;replace SB:=SB.grownX hg' (fun b e=>by have:=hge b e;omega);replace R:=R.grownX hg' (fun b e=>by have:=hge b e;omega);replace HR:=HR.grown hg' (fun b e=>by have:=hge b e;omega);replace K:=K.grown hg' K.size (fun b e=>by have:=hge b e;omega);clear ow Q hat hg' cX;go_roundw
    case rel=>exact⟨i+1,gs++[x],k4,by congr 1,by omega,by omega,by simp only[List.length_append,List.length_cons,List.length_nil];omega,fun y hy=>by
     rcases List.mem_append.1 hy with hy|hy
     · exact hgs.out y hy
     · rw[List.mem_singleton] at hy;subst hy;exact hxs.out,ow',SB,R,HR,hkk.out,K⟩
    case measure=>exact hm.out
  ·
   by_cases q1:i≤n
   ·
    have q2:¬ (i:Int)<(l.length:Int):=by omega
    have q3:(i:Int)≤(n:Int):=by omega
    obtain⟨G,m9,rfl,-,-⟩:=ow.rd (row:=some g) (fun _=>rfl) (fun b hb=>oN);have hgl9:gs.length≤n+1:=by omega
    have hk9:k3≤k+100+10 * (n+1):=by omega
    have cS:=SB.cell;have cR:=R.cell;have fR:=R.frozen;obtain⟨wz,hwz,R9,kst,hzst⟩:=R.st4 (.slice A S.W.bs.length c) (.int .i64 S.W.home) (.slice B S.st.length e1) (.slice D S.ct.length f1);simp only[sbt,sc0,scs] at R9;have cR9:=R9.cell;have ow':=ow.kp kst (fun b9 hb9=>oN);have K9:=(KO.then_ K (Nat.le_refl _)).thenOwn kst (Nat.le_refl _) oM;have rs9:=(hSA.2.1.kp K).kpNe kst (fun ad h=>by have:=fs ad h;omega);have rc9:=(hSA.2.2.kp K).kpNe kst (fun ad h=>by have:=fc ad h;omega);have hk9':=Lib.hid hk9;clear hk9 hk3 h hi1 hi2;skip
    go_wp2_with fail
    rw[← hwz];obtain⟨G2,m2,e2,rdg,-⟩:=ow'.rd (row:=some g) (fun _=>rfl) (fun b hb=>oN);simp only[Value.slice.injEq] at e2;obtain⟨rfl,-,rfl⟩:=e2;exact bodyPost_ret (v:=.tuple #[.agg #[.slice A S.W.bs.length c,S.W.home,.slice B S.st.length e1,.slice D S.ct.length f1],.slice G gs.length m9]) (by simp[results,Tryz.results9,go_sem,cR9]) rfl ⟨_,k3,rfl,⟨S,B,e1,D,f1,G,m9,gs,rfl,rfl,hS,⟨hA0.out.kp K9,rs9,rc9⟩,rdg,hgl9,hgs⟩,hk9'.out,HR.kpRow kst oM,K9⟩
   ·
    have q3:¬ (i:Int)≤(n:Int):=by omega
    obtain⟨G,m9,rfl,-,-⟩:=ow.rd (row:=some g) (fun _=>rfl) (fun b hb=>oN);have hgl9:gs.length≤n+1:=by omega
    have hk9:k3≤k+100+10 * (n+1):=by omega
    have cS:=SB.cell;have cR:=R.cell;have fR:=R.frozen;obtain⟨wz,hwz,R9,kst,hzst⟩:=R.st4 (.slice A S.W.bs.length c) (.int .i64 S.W.home) (.slice B S.st.length e1) (.slice D S.ct.length f1);simp only[sbt,sc0,scs] at R9;have cR9:=R9.cell;have ow':=ow.kp kst (fun b9 hb9=>oN);have K9:=(KO.then_ K (Nat.le_refl _)).thenOwn kst (Nat.le_refl _) oM;have rs9:=(hSA.2.1.kp K).kpNe kst (fun ad h=>by have:=fs ad h;omega);have rc9:=(hSA.2.2.kp K).kpNe kst (fun ad h=>by have:=fc ad h;omega);have hk9':=Lib.hid hk9;clear hk9 hk3 h hi1 hi2;skip
    go_wp2_with fail
    rw[← hwz];obtain⟨G2,m2,e2,rdg,-⟩:=ow'.rd (row:=some g) (fun _=>rfl) (fun b hb=>oN);simp only[Value.slice.injEq] at e2;obtain⟨rfl,-,rfl⟩:=e2;exact bodyPost_ret (v:=.tuple #[.agg #[.slice A S.W.bs.length c,S.W.home,.slice B S.st.length e1,.slice D S.ct.length f1],.slice G gs.length m9]) (by simp[results,Tryz.results9,go_sem,cR9]) rfl ⟨_,k3,rfl,⟨S,B,e1,D,f1,G,m9,gs,rfl,rfl,hS,⟨hA0.out.kp K9,rs9,rc9⟩,rdg,hgl9,hgs⟩,hk9'.out,HR.kpRow kst oM,K9⟩
theorem Rd.rowOf {α:Type} {w:World} {sz n N g:Nat} {enc:α→List Value} {A:Option Addr} {xs:List α} (h:Rd none w sz enc A n xs) (hf:∀ ad,A=some ad→N≤ad.block) (hg:g<N):Rd (some g) w sz enc A n xs:=by
 refine⟨h.1,fun hn=>?_⟩;obtain⟨b,o,rfl,hb,-,hc⟩:=h.2 hn;exact⟨b,o,rfl,hb,sne (by have:=hf _ rfl;simp only at this;omega),hc⟩
theorem Kp.narrow {B g:Nat} {w w':World} (h:Kp B (some g) w w') (hg:B≤g):Kp B none w w':=⟨h.os,h.tape,h.output,h.size,fun k hk _=>h.block k hk oN⟩
def lenV:Value→Nat
 | .slice _ n _=>n
 | _=>0
theorem own_bx1 (w:World) (B:Nat) (b:Bx) (hB:B≤w.heap.size):Own (w.alloc (.cells b 33)) B 33 8 encBx (.slice (some ⟨w.heap.size,0,none⟩) 1 1) [b]:=
 World.ownsRow_lit w _ 1 hB (maxLen_of oM) rfl
def CeAt (b:Bx) (n:Nat) (w:World) (v:Value) (wr:World):Prop:=∃ l,Own wr w.heap.size 33 8 encBx v l∧Part b l∧l.length≤n∧Kp w.heap.size none w wr
def CellP (b:Bx) (n:Nat) (w:World) (v:Value) (w':World):Prop:=∃ A c l,v=.slice A l.length c∧Rd none w' 8 encBx A l.length l∧Part b l∧l.length≤n∧(∀ ad,A=some ad→w.heap.size≤ad.block)∧Kp w.heap.size none w w'
theorem rd_tail {w:World} {g cap j:Nat} {l:List Bx} (rd:Rd none w 8 encBx (some ⟨g,0,none⟩) l.length l) (hj:j<l.length) (hle:l.length≤cap) :
  ∃ ad,(if cap=j+1 then some ({ block:=g,off:=0 }:Addr) else some { block:=g,off:=(j+1) * 8 })=some ad∧Rd none w 8 encBx (some ad) (l.length-(j+1)) (l.drop (j+1)):=by
 by_cases h:cap=j+1
 ·
  rw[if_pos h];refine⟨_,rfl,by rw[List.length_drop],fun hn=>?_⟩;omega
 ·
  rw[if_neg h];refine⟨_,rfl,by rw[List.length_drop],fun hn=>?_⟩;obtain⟨b,o,e,hb,h4,hc⟩:=rd.2 oM;simp only[Option.some.injEq,Addr.mk.injEq] at e;obtain⟨rfl,rfl,-⟩:=e;refine⟨g,(j+1) * 8,rfl,hb,h4,fun i hi k v hv=>?_⟩;rw[List.length_drop] at hi;rw[List.getElem_drop] at hv;have:=hc (j+1+i) oM k v hv;rw[Nat.zero_add] at this;rw[← Nat.add_assoc,← Nat.add_mul];exact this
theorem Own.less {α:Type} {w:World} {B B' e sz:Nat} {enc:α→List Value} {v:Value} {xs:List α} (h:Own w B e sz enc v xs) (hB:B'≤B):Own w B' e sz enc v xs:=
 ⟨h.1,h.2.imp id (fun ⟨g,cap,cur,e,hg,r⟩=>⟨g,cap,cur,e,Nat.le_trans hB hg,r⟩)⟩
theorem rd_head {w:World} {A:Option Addr} {j:Nat} {l:List Bx} (rd:Rd none w 8 encBx A l.length l) (hj:j≤l.length):Rd none w 8 encBx A (l.take j).length (l.take j):=by
 refine⟨rfl,fun hn=>?_⟩;have hl:(l.take j).length≤l.length:=by rw[List.length_take];omega
 obtain⟨b,o,e,hb,h4,hc⟩:=rd.2 oM;refine⟨b,o,e,hb,h4,fun i hi k v hv=>?_⟩;rw[List.getElem_take] at hv;exact hc i oM k v hv
theorem r4_Cells_any (b:Bx) (n:Nat) (w:World) (hb:okBx b=true) (hn:1≤n∧n≤512) :
  Calls Tryz.prog 34 #[b,n] w fun e w'=>∃ v,e=.returned (.tuple #[v,(0:Int)])∧CellP b n w v w':=by
 have ck:=fun w=>r4_Check_t b hb w;have n1:¬ (n:Int)<1:=by omega
 have n2:¬ (512:Int)<(n:Int):=by omega
 obtain⟨w1,hw1,X,K,hz⟩:=box1 w 33 b;go_enter Tryz.func34,Tryz.ntmps34
 go_wp2_with fail
 rw[← hw1];clear hw1;refine mK (ck _) fun w2 k=>?_;replace X:=X.kpN k;replace K:=K.thenN k oM;have hzk:=k.size;clear k;clear ck;have cX:=X.cell;have ow:=own_bx1 w2 w.heap.size b oM;have K2:=K.alloc oM (.cells b 33);go_wp2_with fail
 clear cX X K;generalize w2.alloc (.cells b 33)=w3 at *;generalize w2.heap.size=g0 at *;clear hz hzk;go_loopw [7] (fun v wr=>CeAt b n w v wr) (fun v _=>n-lenV v)
 case atStart=>exact⟨[b],ow,.one,by simpa using hn.1,K2⟩
 case round=>
  clear ow K2;obtain⟨l,ow,hP,hln,K⟩:=hrel;have hpos:=part_pos hP;rcases ow.2 with⟨e,h0⟩|⟨g,cap,cur,e,hg,hcells,hle,-⟩
  · omega
  subst e
  have rd:Rd none wr 8 encBx (some ⟨g,0,none⟩) l.length l:=by
   obtain⟨A,cap',e,rd,-⟩:=ow.rd (row:=none) (fun _=>rfl) (fun b hb e=>by cases e);simp only[Value.slice.injEq] at e;obtain⟨rfl,-,-⟩:=e;exact rd
  have hok:=hP.ok hb;clear hcells;by_cases h:l.length<n
  ·
   have h':(l.length:Int)<(n:Int):=by omega
   replace ow:=Lib.hid ow;go_wp2_with fail
   go_loopw [8,9,10] (fun v8 v9 v10 wx=>∃ i j:Nat,v10=.int .i64 i∧i≤l.length∧v8=.int .i64 j∧j<l.length∧(∃ m:Int,v9=.int .i64 m)∧Kp wr.heap.size none wr wx) (fun _ _ v10 _=>l.length-(intOf v10).toNat)
   case atStart=>exact⟨0,0,rfl,Nat.zero_le _,rfl,hpos,⟨0,rfl⟩,Kp.refl _ _ _⟩
   case round=>
    obtain⟨i,j,rfl,hi,rfl,hj,⟨m,rfl⟩,kx⟩:=hrel;have hown:=ow.out.kpN kx;by_cases hil:i<l.length
    ·
     have hc:=hown.itemAt i hil;have hxo:=hok _ (List.getElem_mem hil);have c0:=hc 0 _ rfl;have c1:=hc 1 _ rfl;have c2:=hc 2 _ rfl;have c3:=hc 3 _ rfl;have c4:=hc 4 _ rfl;have c5:=hc 5 _ rfl;have c6:=hc 6 _ rfl;have c7:=hc 7 _ rfl;rw[Nat.add_zero] at c0;generalize l[i]=x at *;have hii:(i:Int)<(l.length:Int):=by omega
     have hi0:¬ (i:Int)<0:=by omega
     have hm:l.length-(i+1)<l.length-i:=by omega
     have hbd:(i:Int)≤512:=by omega
     replace hm:=Lib.hid hm;clear hc hown rd;replace hok:=Lib.hid hok;replace hP:=Lib.hid hP;go_wp2_with fail
     refine mK (r4_widest_any x hxo _) fun w5 k5=>?_;replace kx:=kx.thenN k5 (Nat.le_refl _);clear c0 c1 c2 c3 c4 c5 c6 c7 k5 hxo;generalize (widN x 4).1=a1;generalize (widN x 4).2=a2;replace hil:=Lib.hid hil;replace hj:=Lib.hid hj;by_cases hq:m<a2
     ·
      go_wp2
      go_roundw
      case rel=>exact⟨i+1,i,by congr 1,hil.out,rfl,hil.out,⟨_,rfl⟩,kx⟩
      case measure=>exact hm.out
     ·
      go_wp2
      go_roundw
      case rel=>exact⟨i+1,j,by congr 1,hil.out,rfl,hj.out,⟨_,rfl⟩,kx⟩
      case measure=>exact hm.out
    ·
     obtain rfl:i=l.length:=by omega
     have hc:=hown.itemAt j hj;have hxo:=hok _ (List.getElem_mem hj);have hsp:=fun (x y:Bx)=>split_len x y hj;have hps:=fun (x y:Bx) (e:splitB l[j]=some (x,y))=>part_split (x:=x) (y:=y) hP hj rfl (splitB_halves hxo e);have cs:=fun w=>r4_Split_any l[j] hxo w;have c0:=hc 0 _ rfl;have c1:=hc 1 _ rfl;have c2:=hc 2 _ rfl;have c3:=hc 3 _ rfl;have c4:=hc 4 _ rfl;have c5:=hc 5 _ rfl;have c6:=hc 6 _ rfl;have c7:=hc 7 _ rfl;rw[Nat.add_zero] at c0;generalize l[j]=x at *;have hii:(j:Int)<(l.length:Int):=by omega
     have hi0:¬ (j:Int)<0:=by omega
     have hbd:(j:Int)≤512:=by omega
     have K:=K.tN kx;clear hc hxo;replace hok:=Lib.hid hok;replace hP:=Lib.hid hP;replace hj:=Lib.hid hj;replace hps:=Lib.hid hps;replace hsp:=Lib.hid hsp;rename World=>wx;cases hs:splitB x with
     | none=>
      rw[hs] at cs;clear hps hsp;go_wp2_with fail
      refine mK (cs _) fun w5 k5=>?_;replace rd:=(rd.kpN kx).kpN k5;replace K:=K.tN k5;clear c0 c1 c2 c3 c4 c5 c6 c7 k5 cs hown kx;replace rd:=rd.kpN (Kp.new2 w5 (.cells #[(0:Int),(0:Int),(0:Int),(0:Int),(0:Int),(0:Int),(0:Int),(0:Int)] 33) (.cells #[(0:Int),(0:Int),(0:Int),(0:Int),(0:Int),(0:Int),(0:Int),(0:Int)] 33));replace K:=K.thenN (Kp.new2 w5 (.cells #[(0:Int),(0:Int),(0:Int),(0:Int),(0:Int),(0:Int),(0:Int),(0:Int)] 33) (.cells #[(0:Int),(0:Int),(0:Int),(0:Int),(0:Int),(0:Int),(0:Int),(0:Int)] 33)) (Nat.le_refl _);unfold splitV;go_wp2
      exact bodyPost_ret (v:=.tuple #[.slice (some ⟨g,0,none⟩) l.length cap,(0:Int)]) (by simp[results,Tryz.results34,go_sem]) rfl ⟨_,rfl,_,_,_,rfl,rd,hP.out,hln,(fun ad h=>by cases h;exact hg),K⟩
     | some p=>
      obtain⟨x1,y1⟩:=p;rw[hs] at cs;replace hps:=Lib.hid (hps.out x1 y1 hs);replace hsp:=Lib.hid (hsp.out x1 y1);clear hs;go_wp2_with fail
      refine mK (cs _) fun w5 k5=>?_;replace rd:=(rd.kpN kx).kpN k5;replace K:=K.tN k5;clear c0 c1 c2 c3 c4 c5 c6 c7 k5 cs hown kx;unfold splitV;dsimp only;have X6:=(Blk.new w5 33 x1).alloc (.cells y1 33);have Y6:=Blk.newAt (w5.alloc (.cells x1 33)) 33 y1 (n:=w5.heap.size+1) (by simp);have k6:=Kp.new2 w5 (.cells x1 33) (.cells y1 33);go_upto_region 17 with(fail)
      generalize (w5.alloc (.cells x1 33)).alloc (.cells y1 33)=w6 at *;replace rd:=rd.kpN k6;replace K:=K.tN k6;generalize w5.heap.size=xb at *;clear k6;obtain⟨ad,had,rt⟩:=rd_tail rd hj.out hle;have rt1:=rt.alloc (.cells #[] 33);have hdl:(l.drop (j+1)).length=l.length-(j+1):=List.length_drop;have hl512:l.length≤512:=by omega
      replace hps:=Lib.hid hps;obtain⟨i0,hi0,hz0,hz1,hz2⟩:=info_parts box_info;obtain⟨r,hr⟩:∃ r,r=l.drop (j+1):=⟨_,rfl⟩;rw[← hr] at rt rt1 hdl;have hflat:(r.flatMap encBx).length=(l.length-(j+1)) * 8:=by rw[flat_len (enc:=encBx) (sz:=8) (fun _=>rfl),hdl]
      rw[← hdl] at rt1;have hcl:=rt1.flat (fun _=>rfl);replace hr:=Lib.hid hr;go_wp2_with (at_builtin;refine wpList_append_own_at _ (by rfl) (.tmp 64) (.tmp 68) 47 (by rfl) w6.heap.size 33 i0 _ 8 64 Tryz.underlying47 hi0 hz0 hz1 hz2 (by rfl) oM (.slice (some ⟨w6.heap.size,0,none⟩) 0 0) 0 [] (by rfl) (emptyBoxes w6 w6.heap.size (Nat.le_refl _)) ad (l.length-(j+1)) (cap-(j+1)) (r.flatMap encBx) (by rfl) hflat hcl (one_boxes r) (maxLen_of oM) oM (alloc_ge (Nat.le_refl _) _) ?_;intro u4 w9 hown gu _ au;clear au)
      have K9:=(Kp.new1 w6 (.cells #[] 33)).grown gu (alloc_ge (Nat.le_refl _) _) (fun b e=>by have e2:w6.heap.size=b:=(by simpa [Value.ownBlock] using e);omega);have own9:Own w9 w6.heap.size 33 8 encBx u4 r:=by unfold Own;rw[hdl];simpa using hown
      obtain⟨A2,c2,rfl,rd2,-⟩:=own9.rd (row:=none) (fun _=>rfl) (fun b hb e=>by cases e);have X9:=X6.kpN K9;have Y9:=Y6.kpN K9;replace K:=K.tN K9;have hd:=rd_head (rd.kpN K9) (Nat.le_of_lt hj.out);have hdt:(l.take j).length=j:=by rw[List.length_take];have:=hj.out;omega
      have hj2:j<l.length:=hj.out;have hjc:j≤cap:=by omega
      clear rd rt rt1 hcl hflat own9 hown gu X6 Y6 K9 had;obtain⟨hdl2,hr512⟩:r.length=l.length-(j+1)∧r.length≤512:=⟨hdl,by omega⟩;replace ow:=Lib.hid ow;obtain⟨pq,hpq⟩:∃ q9,Hid (q9=l.take j):=⟨_,Lib.hid rfl⟩;rw[← hpq.out] at hd hdt;replace hdl:=Lib.hid hdl;replace hdl2:=Lib.hid hdl2;go_upto_region 18 with(fail)
      obtain⟨S0,hS⟩:∃ S0:World→Prop,S0=fun w'=>Blk w' xb 33 x1∧Blk w' (xb+1) 33 y1:=⟨_,rfl⟩;have hS0:∀ w',S0 w'↔(Blk w' xb 33 x1∧Blk w' (xb+1) 33 y1):=fun w'=>by rw[hS]
      clear hS;have cx:=fun (q:Ev S0) i=>((hS0 _).1 q.h).1.cell i;have cy:=fun (q:Ev S0) i=>((hS0 _).1 q.h).2.cell i;have KF:=K;clear K;have hB:=CB.start (x:=x1) (y:=y1) (p:=pq) (r:=r) (Kp.refl w9.heap.size none w9).drew;have hevT:=ev_true;refine wp_region_tr S0 (.st 1 0 (.st 2 0 (.st 3 0 (.st 5 1 (.st 6 1 (.st 9 0 (.b2 0 (.b2 4 (.st 7 2 (.st 8 2 (.st 10 2 (.st 11 0 .nil)))) 7 (.st 4 2 (.st 8 2 (.st 10 2 (.st 11 0 .nil))))) 7 (.st 0 2 (.st 4 2 (.st 8 2 (.st 10 2 (.st 11 0 .nil)))))))))))) (by kernel_rfl) (by kernel_rfl) ((hS0 _).2 ⟨X9.drew,Y9.drew⟩) ?_;intro _hev;refine tX ?_;refine wpTr_b2 ?_ ?_
      ·
       refine wpOne_l rfl rfl ?_;intro K hK;generalize w9.drew=wq0 at *;go_step;refine nameW (fun wy0 hwy0=>?_);replace hB:=hB.op0 rfl hwy0;clear hwy0;refine hK _ _ ((hS0 _).2 ⟨X9.kpN hB.kp,Y9.kpN hB.kp⟩) ?_;clear hK K;refine wpTr_b2 ?_ ?_
       ·
        refine wpOne_l rfl rfl ?_;intro K hK;refine wp_append_boxesM (.tmp 70) (.tmp 73) (by rfl) w9.heap.size _ [] (some ⟨g,0,none⟩) j cap pq (by rfl) (by rfl) hdt (hB.r0 rfl) (hd.kpN hB.kp) (by simp;omega) hB.kp.size ?_;intro v4 w4 own hg hat;dsimp only[Act.put];simp only[sbt,sc0,scs];rw[List.nil_append] at own;replace hB:=hB.op4 rfl (Nat.le_refl 1) own hg hat;refine hK _ _ ((hS0 _).2 ⟨X9.kpN hB.kp,Y9.kpN hB.kp⟩) ?_;clear hK K own hg hat;refine wpTr_l rfl rfl ?_;intro K hK;generalize w9.drew=wq7 at *;go_step;refine nameW (fun wy7 hwy7=>?_);replace hB:=hB.op7 rfl hwy7;clear hwy7;refine hK _ _ ((hS0 _).2 ⟨X9.kpN hB.kp,Y9.kpN hB.kp⟩) ?_;clear hK K;refine wpTr_l rfl rfl ?_;intro K hK;refine wp_append_boxesM (.tmp 74) (.tmp 77) (by rfl) w9.heap.size _ pq _ 2 2 [x1,y1] (by rfl) (by rfl) rfl (hB.r4 rfl) (Rd.blkL (enc:=encBx) (sz:=8) [x1,y1] (fun _=>rfl) rfl (hB.rp rfl (Nat.le_refl 2)).1 none (by simp)) (by simp;omega) hB.kp.size ?_;intro v8 w8 own hg hat;dsimp only[Act.put];simp only[sbt,sc0,scs];replace hB:=hB.op8 rfl (Nat.le_refl 2) own hg;refine hK _ _ ((hS0 _).2 ⟨X9.kpN hB.kp,Y9.kpN hB.kp⟩) ?_;clear hK K own hg hat;refine wpTr_l rfl rfl ?_;intro K hK;refine wp_append_boxesM (.tmp 78) (.tmp 79) (by rfl) w9.heap.size _ (pq++[x1,y1]) A2 r.length c2 r (by rfl) (by rfl) rfl (hB.r8 rfl) (rd2.kpN hB.kp) (by simp;omega) hB.kp.size ?_;intro v10 w10 own hg hat;dsimp only[Act.put];simp only[sbt,sc0,scs];replace hB:=hB.op10 rfl (Nat.le_refl 3) own hg;obtain⟨A11,c11,rfl,-,-⟩:=own.rd (row:=none) (fun _=>rfl) (fun b hb e=>by cases e);refine hK _ _ ((hS0 _).2 ⟨X9.kpN hB.kp,Y9.kpN hB.kp⟩) ?_;have K2:=KF.thenN hB.kp (Nat.le_refl _);have o2:=Own.less own (show w.heap.size≤w9.heap.size from KF.size);clear hK K own hg hat hB;refine tX ?_;refine wpTr_nil ?_;clear hevT _hev;clear cx cy hS0 S0 X9 Y9 rd2 hd KF;have e2:pq++[x1,y1]++r=l.take j++x1::y1::l.drop (j+1):=by rw[hpq.out,hr.out];simp
        have e3:(pq++[x1,y1]++r).length=l.length+1:=by rw[e2];exact hsp.out
        have hme:n-(pq++[x1,y1]++r).length<n-l.length:=by omega
        replace o2:∃ m,Own w10 w.heap.size 33 8 encBx (.slice A11 (pq++[x1,y1]++r).length c11) m∧Part b m∧m.length≤n:=⟨pq++[x1,y1]++r,o2,by rw[e2];exact hps.out.out,by omega⟩;generalize (pq++[x1,y1]++r).length=q9 at *;replace hme:=Lib.hid hme;replace o2:=Lib.hid o2;clear e2 e3;go_wp2
        go_roundw
        case rel=>
         obtain⟨m,h1,h2,h3⟩:=o2.out;exact⟨m,h1,h2,h3,K2⟩
        case measure=>exact hme.out
       ·
        refine wpOne_l rfl rfl ?_;intro K hK;generalize w9.drew=wq7 at *;go_step;refine nameW (fun wy7 hwy7=>?_);replace hB:=hB.op7 rfl hwy7;clear hwy7;refine hK _ _ ((hS0 _).2 ⟨X9.kpN hB.kp,Y9.kpN hB.kp⟩) ?_;clear hK K;refine wpTr_l rfl rfl ?_;intro K hK;refine wp_append_boxesM (.tmp 70) (.tmp 73) (by rfl) w9.heap.size _ [] (some ⟨g,0,none⟩) j cap pq (by rfl) (by rfl) hdt (hB.r0 rfl) (hd.kpN hB.kp) (by simp;omega) hB.kp.size ?_;intro v4 w4 own hg hat;dsimp only[Act.put];simp only[sbt,sc0,scs];rw[List.nil_append] at own;replace hB:=hB.op4 rfl (Nat.le_refl 1) own hg hat;refine hK _ _ ((hS0 _).2 ⟨X9.kpN hB.kp,Y9.kpN hB.kp⟩) ?_;clear hK K own hg hat;refine wpTr_l rfl rfl ?_;intro K hK;refine wp_append_boxesM (.tmp 74) (.tmp 77) (by rfl) w9.heap.size _ pq _ 2 2 [x1,y1] (by rfl) (by rfl) rfl (hB.r4 rfl) (Rd.blkL (enc:=encBx) (sz:=8) [x1,y1] (fun _=>rfl) rfl (hB.rp rfl (Nat.le_refl 2)).1 none (by simp)) (by simp;omega) hB.kp.size ?_;intro v8 w8 own hg hat;dsimp only[Act.put];simp only[sbt,sc0,scs];replace hB:=hB.op8 rfl (Nat.le_refl 2) own hg;refine hK _ _ ((hS0 _).2 ⟨X9.kpN hB.kp,Y9.kpN hB.kp⟩) ?_;clear hK K own hg hat;refine wpTr_l rfl rfl ?_;intro K hK;refine wp_append_boxesM (.tmp 78) (.tmp 79) (by rfl) w9.heap.size _ (pq++[x1,y1]) A2 r.length c2 r (by rfl) (by rfl) rfl (hB.r8 rfl) (rd2.kpN hB.kp) (by simp;omega) hB.kp.size ?_;intro v10 w10 own hg hat;dsimp only[Act.put];simp only[sbt,sc0,scs];replace hB:=hB.op10 rfl (Nat.le_refl 3) own hg;obtain⟨A11,c11,rfl,-,-⟩:=own.rd (row:=none) (fun _=>rfl) (fun b hb e=>by cases e);refine hK _ _ ((hS0 _).2 ⟨X9.kpN hB.kp,Y9.kpN hB.kp⟩) ?_;have K2:=KF.thenN hB.kp (Nat.le_refl _);have o2:=Own.less own (show w.heap.size≤w9.heap.size from KF.size);clear hK K own hg hat hB;refine tX ?_;refine wpTr_nil ?_;clear hevT _hev;clear cx cy hS0 S0 X9 Y9 rd2 hd KF;have e2:pq++[x1,y1]++r=l.take j++x1::y1::l.drop (j+1):=by rw[hpq.out,hr.out];simp
        have e3:(pq++[x1,y1]++r).length=l.length+1:=by rw[e2];exact hsp.out
        have hme:n-(pq++[x1,y1]++r).length<n-l.length:=by omega
        replace o2:∃ m,Own w10 w.heap.size 33 8 encBx (.slice A11 (pq++[x1,y1]++r).length c11) m∧Part b m∧m.length≤n:=⟨pq++[x1,y1]++r,o2,by rw[e2];exact hps.out.out,by omega⟩;generalize (pq++[x1,y1]++r).length=q9 at *;replace hme:=Lib.hid hme;replace o2:=Lib.hid o2;clear e2 e3;go_wp2
        go_roundw
        case rel=>
         obtain⟨m,h1,h2,h3⟩:=o2.out;exact⟨m,h1,h2,h3,K2⟩
        case measure=>exact hme.out
      ·
       refine wpOne_l rfl rfl ?_;intro K hK;generalize w9.drew=wq7 at *;go_step;refine nameW (fun wy7 hwy7=>?_);replace hB:=hB.op7 rfl hwy7;clear hwy7;refine hK _ _ ((hS0 _).2 ⟨X9.kpN hB.kp,Y9.kpN hB.kp⟩) ?_;clear hK K;refine wpTr_l rfl rfl ?_;intro K hK;generalize w9.drew=wq0 at *;go_step;refine nameW (fun wy0 hwy0=>?_);replace hB:=hB.op0 rfl hwy0;clear hwy0;refine hK _ _ ((hS0 _).2 ⟨X9.kpN hB.kp,Y9.kpN hB.kp⟩) ?_;clear hK K;refine wpTr_l rfl rfl ?_;intro K hK;refine wp_append_boxesM (.tmp 70) (.tmp 73) (by rfl) w9.heap.size _ [] (some ⟨g,0,none⟩) j cap pq (by rfl) (by rfl) hdt (hB.r0 rfl) (hd.kpN hB.kp) (by simp;omega) hB.kp.size ?_;intro v4 w4 own hg hat;dsimp only[Act.put];simp only[sbt,sc0,scs];rw[List.nil_append] at own;replace hB:=hB.op4 rfl (Nat.le_refl 1) own hg hat;refine hK _ _ ((hS0 _).2 ⟨X9.kpN hB.kp,Y9.kpN hB.kp⟩) ?_;clear hK K own hg hat;refine wpTr_l rfl rfl ?_;intro K hK;refine wp_append_boxesM (.tmp 74) (.tmp 77) (by rfl) w9.heap.size _ pq _ 2 2 [x1,y1] (by rfl) (by rfl) rfl (hB.r4 rfl) (Rd.blkL (enc:=encBx) (sz:=8) [x1,y1] (fun _=>rfl) rfl (hB.rp rfl (Nat.le_refl 2)).1 none (by simp)) (by simp;omega) hB.kp.size ?_;intro v8 w8 own hg hat;dsimp only[Act.put];simp only[sbt,sc0,scs];replace hB:=hB.op8 rfl (Nat.le_refl 2) own hg;refine hK _ _ ((hS0 _).2 ⟨X9.kpN hB.kp,Y9.kpN hB.kp⟩) ?_;clear hK K own hg hat;refine wpTr_l rfl rfl ?_;intro K hK;refine wp_append_boxesM (.tmp 78) (.tmp 79) (by rfl) w9.heap.size _ (pq++[x1,y1]) A2 r.length c2 r (by rfl) (by rfl) rfl (hB.r8 rfl) (rd2.kpN hB.kp) (by simp;omega) hB.kp.size ?_;intro v10 w10 own hg hat;dsimp only[Act.put];simp only[sbt,sc0,scs];replace hB:=hB.op10 rfl (Nat.le_refl 3) own hg;obtain⟨A11,c11,rfl,-,-⟩:=own.rd (row:=none) (fun _=>rfl) (fun b hb e=>by cases e);refine hK _ _ ((hS0 _).2 ⟨X9.kpN hB.kp,Y9.kpN hB.kp⟩) ?_;have K2:=KF.thenN hB.kp (Nat.le_refl _);have o2:=Own.less own (show w.heap.size≤w9.heap.size from KF.size);clear hK K own hg hat hB;refine tX ?_;refine wpTr_nil ?_;clear hevT _hev;clear cx cy hS0 S0 X9 Y9 rd2 hd KF;have e2:pq++[x1,y1]++r=l.take j++x1::y1::l.drop (j+1):=by rw[hpq.out,hr.out];simp
       have e3:(pq++[x1,y1]++r).length=l.length+1:=by rw[e2];exact hsp.out
       have hme:n-(pq++[x1,y1]++r).length<n-l.length:=by omega
       replace o2:∃ m,Own w10 w.heap.size 33 8 encBx (.slice A11 (pq++[x1,y1]++r).length c11) m∧Part b m∧m.length≤n:=⟨pq++[x1,y1]++r,o2,by rw[e2];exact hps.out.out,by omega⟩;generalize (pq++[x1,y1]++r).length=q9 at *;replace hme:=Lib.hid hme;replace o2:=Lib.hid o2;clear e2 e3;go_wp2
       go_roundw
       case rel=>
        obtain⟨m,h1,h2,h3⟩:=o2.out;exact⟨m,h1,h2,h3,K2⟩
       case measure=>exact hme.out
  ·
   obtain h2:l.length=n:=by omega
   subst h2;have h':¬ (l.length:Int)<(l.length:Int):=by omega
   clear ow;go_wp2
   exact bodyPost_ret (v:=.tuple #[.slice (some ⟨g,0,none⟩) l.length cap,(0:Int)]) (by simp[results,Tryz.results34,go_sem]) rfl ⟨_,rfl,_,_,_,rfl,rd,hP,hln,(fun ad h=>by cases h;exact hg),K⟩
theorem cellsOf_any (b:Bx) (n:Nat) (w:World) (hb:okBx b=true) (hn:1≤n∧n≤512) :
  Calls Tryz.prog 10 #[b,n] w fun e w'=>∃ v,e=.returned v∧CellP b n w v w':=by
 have cc:=fun w=>r4_Cells_any b n w hb hn;clear hb hn;obtain⟨w1,hw1,X,K,hz⟩:=box1 w 33 b;go_enter Tryz.func10,Tryz.ntmps10
 go_wp2_with fail
 rw[← hw1];clear hw1;have cX:=X.cell;go_wp2_with fail
 refine(cc _).mono ?_;rintro e w2 ⟨v,rfl,A,c,l,rfl,h1,h2,h3,h4,k⟩;clear cX X cc;go_wp2
 go_ret
 exact⟨_,rfl,A,c,l,rfl,h1,h2,h3,fun ad h=>by have:=h4 ad h;omega,K.tN k⟩
end Go.Proofs.YtdhiappifnflpaaGreat
