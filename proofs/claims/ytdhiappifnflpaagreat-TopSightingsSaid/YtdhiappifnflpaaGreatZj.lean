/- Makers of the kit: SkyOf. -/
import Derived.Test.YtdhiappifnflpaaGreatZi
set_option maxRecDepth 100000
set_option maxHeartbeats 8000000
namespace Go.Proofs.YtdhiappifnflpaaGreat
open Go.RowKit
theorem Blk.sto1s_0 {w:World} {r:Nat} {T:TypeId} {cs:Array Value} (h:Blk w r T cs) (x0:Value):∃ w',w'=(w.setCell ⟨r,0,none⟩ x0)∧Blk w' r T (cs.setIfInBounds 0 x0)∧Kp w.heap.size (some r) w w'∧w'.heap.size=w.heap.size:=
 ⟨_,rfl,h.set_ _ x0,(Kp.refl _ (some r) w).setRow (p:=⟨r,_,none⟩) rfl _,by simp[World.setCell]⟩
theorem Blk.sto1s_1 {w:World} {r:Nat} {T:TypeId} {cs:Array Value} (h:Blk w r T cs) (x0:Value):∃ w',w'=(w.setCell ⟨r,1,none⟩ x0)∧Blk w' r T (cs.setIfInBounds 1 x0)∧Kp w.heap.size (some r) w w'∧w'.heap.size=w.heap.size:=
 ⟨_,rfl,h.set_ _ x0,(Kp.refl _ (some r) w).setRow (p:=⟨r,_,none⟩) rfl _,by simp[World.setCell]⟩
theorem Blk.sto1s_2 {w:World} {r:Nat} {T:TypeId} {cs:Array Value} (h:Blk w r T cs) (x0:Value):∃ w',w'=(w.setCell ⟨r,2,none⟩ x0)∧Blk w' r T (cs.setIfInBounds 2 x0)∧Kp w.heap.size (some r) w w'∧w'.heap.size=w.heap.size:=
 ⟨_,rfl,h.set_ _ x0,(Kp.refl _ (some r) w).setRow (p:=⟨r,_,none⟩) rfl _,by simp[World.setCell]⟩
theorem Blk.sto1s_3 {w:World} {r:Nat} {T:TypeId} {cs:Array Value} (h:Blk w r T cs) (x0:Value):∃ w',w'=(w.setCell ⟨r,3,none⟩ x0)∧Blk w' r T (cs.setIfInBounds 3 x0)∧Kp w.heap.size (some r) w w'∧w'.heap.size=w.heap.size:=
 ⟨_,rfl,h.set_ _ x0,(Kp.refl _ (some r) w).setRow (p:=⟨r,_,none⟩) rfl _,by simp[World.setCell]⟩
theorem Asc.snoc {k m:Int}:∀ {l:List Int},Asc k l→(∀ n∈l,n<m)→k<m→Asc k (l++[m])
 | [],_,_,h=>⟨h,trivial⟩
 | n::r,h,hl,_=>⟨h.1,Asc.snoc h.2 (fun x hx=>hl x (by simp[hx])) (hl n (by simp))⟩
structure StP (id:Int) (l:List Stn):Prop where
 asc:Asc 0 (l.map (·.id))
 le:∀ x∈l,x.id≤id
 off:∀ x∈l,-40≤x.ox∧x.ox≤40∧-40≤x.oy∧x.oy≤40
 id0:0≤id
theorem StP.nil:StP 0 []:=⟨trivial,by simp,by simp,by omega⟩
theorem StP.snoc {id j x y:Int} {l:List Stn} (h:StP id l) (hj:id<j) (hx:-40≤x∧x≤40) (hy:-40≤y∧y≤40):StP j (l++[⟨j,x,y⟩]):=by
 refine⟨?_,fun z hz=>?_,fun z hz=>?_,by have:=h.id0;omega⟩
 ·
  rw[List.map_append];simp only[List.map_cons,List.map_nil];exact h.asc.snoc (fun n hn=>by obtain⟨z,hz,rfl⟩:=List.mem_map.1 hn;have:=h.le z hz;omega) (by have:=h.id0;omega)
 ·
  rcases List.mem_append.1 hz with k|k
  · have:=h.le z k;omega
  · rw[List.mem_singleton] at k;subst k;exact Int.le_refl _
 ·
  rcases List.mem_append.1 hz with k|k
  · exact h.off z k
  · rw[List.mem_singleton] at k;subst k;exact⟨hx.1,hx.2,hy.1,hy.2⟩
structure CtP (id:Int) (l:List Cat):Prop where
 asc:Asc 0 (l.map (·.ver))
 le:∀ x∈l,x.ver≤id
 b:∀ x∈l,-20000≤x.lo∧x.lo≤x.hi∧x.hi≤20000
 id0:0≤id
theorem CtP.nil:CtP 0 []:=⟨trivial,by simp,by simp,by omega⟩
theorem CtP.snoc {id j x y:Int} {l:List Cat} (h:CtP id l) (hj:id<j) (hx:-20000≤x∧x≤y∧y≤20000):CtP j (l++[⟨j,x,y⟩]):=by
 refine⟨?_,fun z hz=>?_,fun z hz=>?_,by have:=h.id0;omega⟩
 ·
  rw[List.map_append];simp only[List.map_cons,List.map_nil];exact h.asc.snoc (fun n hn=>by obtain⟨z,hz,rfl⟩:=List.mem_map.1 hn;have:=h.le z hz;omega) (by have:=h.id0;omega)
 ·
  rcases List.mem_append.1 hz with k|k
  · have:=h.le z k;omega
  · rw[List.mem_singleton] at k;subst k;exact Int.le_refl _
 ·
  rcases List.mem_append.1 hz with k|k
  · exact h.b z k
  · rw[List.mem_singleton] at k;subst k;exact hx
def BdAt (g:Nat) (nums:List Int) (k n:Nat) (w:World) (v4:Value) (wr:World):Prop:=
 ∃ (i:Nat) (bl:List (Bd × Option Addr × Nat)) (v:Value) (k':Nat),v4=.int .i64 i∧i+bl.length=n∧Blk wr w.heap.size 43 #[.slice none 0 0,(0:Int),.slice none 0 0,.slice none 0 0] ∧
  Blk wr (w.heap.size+1) 43 #[v,(0:Int),.slice none 0 0,.slice none 0 0]∧Own wr (w.heap.size+2) 77 3 encBd v bl∧RingAt wr g nums k'∧k'≤k+1+11 * bl.length∧Kp w.heap.size (some g) w wr
theorem mul_small2 {a b:Int} (ha:0≤a∧a<3) (hb:0≤b∧b<5000):0≤a * b∧a * b≤9998:=by
 rcases (show a=0∨a=1∨a=2 by omega) with rfl|rfl|rfl<;>omega
def SnAt (g:Nat) (nums:List Int) (k n:Nat) (A:Option Addr) (nb c:Nat) (hm:Int) (w:World) (v7 v8:Value) (wr:World):Prop:=
 ∃ (i:Nat) (st:List Stn) (v:Value) (k':Nat) (id:Int),v7=.int .i64 id∧v8=.int .i64 i∧i+st.length=n∧StP id st∧id≤3 * (st.length:Int)∧Blk wr w.heap.size 43 #[.slice none 0 0,(0:Int),.slice none 0 0,.slice none 0 0] ∧
  Blk wr (w.heap.size+1) 43 #[.slice A nb c,hm,v,.slice none 0 0]∧Own wr (w.heap.size+2) 146 3 encStn v st∧RingAt wr g nums k'∧k'≤k+3 * st.length∧Kp w.heap.size (some g) w wr
def CnAt (g:Nat) (nums:List Int) (k n:Nat) (A:Option Addr) (nb c:Nat) (hm:Int) (vs:Value) (st:List Stn) (cb:Nat) (w:World) (v9 v10:Value) (wr:World):Prop:=
 ∃ (i:Nat) (ct:List Cat) (v:Value) (k':Nat) (id:Int),v9=.int .i64 id∧v10=.int .i64 i∧i+ct.length=n∧CtP id ct∧id≤3 * (ct.length:Int)∧Blk wr w.heap.size 43 #[.slice none 0 0,(0:Int),.slice none 0 0,.slice none 0 0] ∧
  Blk wr (w.heap.size+1) 43 #[.slice A nb c,hm,vs,v]∧Own wr (w.heap.size+2) 146 3 encStn vs st∧Own wr cb 148 3 encCat v ct∧cb≤wr.heap.size∧RingAt wr g nums k'∧k'≤k+4 * ct.length∧Kp w.heap.size (some g) w wr
def TkAt (g:Nat) (nums:List Int) (k n bb:Nat) (mu rad:Int) (w5:World) (v6:Value) (wr:World):Prop:=
 ∃ (i:Nat) (tr:List Pt) (v:Value) (k':Nat),v6=.int .i64 i∧i+tr.length=n∧Blk wr bb 77 #[mu,rad,v]∧Own wr (bb+1) 73 2 encPt v tr∧RingAt wr g nums k'∧k'≤k+2 * tr.length∧Kp w5.heap.size (some g) w5 wr
def SkyP (g N:Nat) (v:Value) (w':World):Prop:=∃ (A:Option Addr) (n c:Nat) (h:Int) (B:Option Addr) (e:Nat) (st:List Stn) (i:Int) (D:Option Addr) (f:Nat) (ct:List Cat) (j:Int),
 v=.agg #[.slice A n c,h,.slice B st.length e,.slice D ct.length f]∧Rd (some g) w' 3 encStn B st.length st∧Rd (some g) w' 3 encCat D ct.length ct∧StP i st∧CtP j ct∧(1≤st.length∧st.length≤3)∧(1≤ct.length∧ct.length≤3)∧(∀ ad,B=some ad→N≤ad.block)∧∀ ad,D=some ad→N≤ad.block
theorem skyOf_any (g:Nat) (nums:List Int) (k:Nat) (w:World) (HR:RingAt w g nums k) (hk:k≤800000) :
  Calls Tryz.prog 31 #[.pointer (some ⟨g,0,none⟩)] w (RPostB g nums (k+100) w (SkyP g w.heap.size)):=by
 have hg:=HR.lt;obtain⟨w1,hw1,R,S9,K,hz⟩:=box2 w 43 #[.slice none 0 0,(0:Int),.slice none 0 0,.slice none 0 0] 43 #[.slice none 0 0,(0:Int),.slice none 0 0,.slice none 0 0];replace HR:=HR.kpN K;replace K:=K.wide (some g);go_enter Tryz.func31,Tryz.ntmps31
 go_wp2_with fail
 rw[← hw1];clear hw1;refine(next_any g nums k 3 _ HR oM oM oM).mono ?_;rintro e w2 ⟨v9,rfl,⟨n0,rfl,hn0,hn1⟩,HR2,k2⟩;replace R:=R.kq k2;replace S9:=S9.kq k2;replace K:=K.then_ k2 (Nat.le_refl _);have hzk:=K.size;replace HR:=HR2;try replace hcz:=Nat.le_trans hcz k2.size
 clear HR2 k2;obtain⟨n,hn⟩:∃ n:Nat,(n:Int)=1+n0:=⟨(1+n0).toNat,by omega⟩;have hn2:1≤n∧n≤3:=by omega
 replace hn:=Lib.hid hn;go_wp2_with fail
 go_loopw [4] (fun v4 wr=>BdAt g nums k n w v4 wr) (fun v4 _=>(intOf v4).toNat)
 case atStart=>exact⟨n,[],.slice none 0 0,_,by rw[hn.out],rfl,R,S9,Own.nil _ _ _ _ _,HR,by simp,K⟩
 case round=>
  clear R S9 HR K hz hn hn0 hn1 hzk;obtain⟨i,bl,v,k',rfl,hin,R,S9,ow,HR,hk',K⟩:=hrel;have hzk:=K.size;by_cases h:0<i
  ·
   have hii:(0:Int)<(i:Int):=by omega
   obtain⟨j,rfl⟩:∃ j,i=j+1:=⟨i-1,by omega⟩;have hj3:(j:Int)≤3:=by omega
   have hbl:bl.length≤3:=by omega
   have hk5:k'≤k+40:=by omega
   replace hin:=Lib.hid hin;replace hk':=Lib.hid hk';go_wp2_with fail
   refine(next_any g nums k' 1048576 _ HR oM oM oM).mono ?_;rintro e w3 ⟨v9,rfl,⟨mu,rfl,hmu⟩,HR2,k2⟩;replace R:=R.kq k2;replace S9:=S9.kq k2;replace ow:=ow.kp k2 (fun b9 hb9=>oN);replace K:=K.then_ k2 (Nat.le_refl _);have hzk:=K.size;replace HR:=HR2;try replace hcz:=Nat.le_trans hcz k2.size
   clear HR2 k2;go_wp2_with fail
   refine(next_any g nums (k'+1) 50 _ HR oM oM oM).mono ?_;rintro e w4 ⟨v9,rfl,⟨rad,rfl,hrad⟩,HR2,k2⟩;replace R:=R.kq k2;replace S9:=S9.kq k2;replace ow:=ow.kp k2 (fun b9 hb9=>oN);replace K:=K.then_ k2 (Nat.le_refl _);have hzk:=K.size;replace HR:=HR2;try replace hcz:=Nat.le_trans hcz k2.size
   clear HR2 k2;have hS4:=S9.lt;replace HR:=HR.alloc (.cells #[mu,rad,.slice none 0 0] 77);have K5:=(Kp.refl w4.heap.size (some g) w4).alloc (Nat.le_refl _) (.cells #[mu,rad,.slice none 0 0] 77);have KO:=K;obtain⟨w9_,rfl,Bb,k9_,hzn⟩:=box1 w4 77 #[mu,rad,.slice none 0 0];replace K:=K.thenN k9_ oU;clear k9_;go_wp2_with fail
   generalize (w4.alloc (.cells #[mu,rad,.slice none 0 0] 77))=w5 at *;obtain⟨bb,hx⟩:∃ q9,q9=w4.heap.size:=⟨_,rfl⟩;rw[← hx] at Bb ⊢;replace hx:=Lib.hid hx;have hbb:w.heap.size+2≤bb:=by have:=hx.out;omega
   clear K;have K:=K5;clear K5;have hg4:g<w4.heap.size:=by omega
   have hbe:w4.heap.size=bb:=hx.out.symm;have hRz4:=R.lt;clear hx hzn hzk hS4;refine(next_any g nums (k'+1+1) 4 _ HR oM oM oM).mono ?_;rintro e w6 ⟨v9,rfl,⟨q0,rfl,hq0,hq1⟩,HR2,k2⟩;replace Bb:=Bb.kq k2;replace K:=K.then_ k2 (Nat.le_refl _);have hzk:=K.size;replace HR:=HR2;try replace hcz:=Nat.le_trans hcz k2.size
   clear HR2 k2;obtain⟨q,hq⟩:∃ q:Nat,(q:Int)=1+q0:=⟨(1+q0).toNat,by omega⟩;have hq2:1≤q∧q≤4:=by omega
   replace hq:=Lib.hid hq;go_wp2_with fail
   go_loopw [6] (fun v6 wx=>TkAt g nums (k'+3) q bb mu rad w4 v6 wx) (fun v6 _=>(intOf v6).toNat)
   case atStart=>exact⟨q,[],.slice none 0 0,_,by rw[hq.out],rfl,Bb,Own.nil _ _ _ _ _,HR,by simp,K⟩
   case round=>
    clear Bb HR K hq hq0 hq1 hzk;obtain⟨i,tr,v6,k6,rfl,hin6,Bb,tw,HR,hk6,K⟩:=hrel;by_cases h6:0<i
    ·
     have hii6:(0:Int)<(i:Int):=by omega
     obtain⟨j6,rfl⟩:∃ j,i=j+1:=⟨i-1,by omega⟩;have hj6:(j6:Int)≤4:=by omega
     have htl:tr.length≤4:=by omega
     have hk7:k6≤900000:=by omega
     replace hin6:=Lib.hid hin6;replace hk6:=Lib.hid hk6;go_upto_region 9 with(fail)
     obtain⟨S,hS0,hS1⟩:=cls_of2 (P:=fun w'=>Blk w' _ _ _) wr Bb;try dsimp only at hS0
     have cBb:=fun (x:Ev (S 0)) i=>((hS0 _).1 x.h).cell i;replace Bb:=Bb.drew;replace HR:=HR.drew;replace tw:=tw.drew;replace K:=K.drew;have hevT:=ev_true;refine wro S [(0,0),(1,1),(2,0),(3,2),(4,2),(5,2),(6,0),(7,3)] [7] ((hS0 _).2 Bb) ?_;intro _hev;refine oX ?_;refine oL ?_;intro Kc hKc;go_step;refine(pointOf_any g nums k6 2000 _ HR oM oM oM).mono ?_;rintro e wa ⟨v9,rfl,⟨px,py,rfl,hpx,hpy⟩,HR9,k9⟩;replace Bb:=Bb.kq k9;replace tw:=tw.kp k9 (fun b9 hb9=>oN);replace K:=K.then_ k9 (Nat.le_refl _);replace HR:=HR9;try replace hcz:=Nat.le_trans hcz k9.size
     clear k9 HR9;refine hKc _ _ ((hS0 _).2 Bb) ?_;clear hKc Kc;refine oL ?_;intro Kc hKc;go_step;have Q:=Blk.new wa 73 #[px,py];replace Bb:=Bb.alloc (.cells #[px,py] 73);replace HR:=HR.alloc (.cells #[px,py] 73);replace tw:=tw.alloc (.cells #[px,py] 73);replace K:=K.alloc (by have:=K.size;omega) (.cells #[px,py] 73);refine hKc _ _ ((hS0 _).2 Bb) ?_;clear hKc Kc;obtain⟨qb,hqb⟩:∃ q9,q9=wa.heap.size:=⟨_,rfl⟩;try replace hcz:=alloc_ge hcz (.cells #[px,py] 73)
     generalize wa.alloc (.cells #[px,py] 73)=we at *;rw[← hqb] at Q ⊢;replace hqb:=Lib.hid hqb;have hRz:=Bb.lt;refine oL ?_;intro Kc hKc;refine wp_app1_Vec (.tmp 32) (.tmp 35) (by rfl) (bb+1) v6 tr qb 1 (⟨px,py⟩:Pt) (by rfl) (by rfl) tw Q (by rfl) oM (by have:=K.size;omega) ?_;intro v' wf ow' hg hat;obtain⟨A',c',ev,-,-⟩:=ow'.rd (row:=none) (fun _=>rfl) (fun b hb e=>by cases e);generalize (tr++[(⟨px,py⟩:Pt)]).length=ln at ev;subst ev;dsimp only[Act.put];simp only[sbt,sc0,scs];have hge:=fun b e=>(tw.ge b e).1;replace Bb:=Bb.grownX hg (fun b e=>by have:=hge b e;omega);replace HR:=HR.grown hg (fun b e=>by have:=hge b e;omega);try replace hcz:=Nat.le_trans hcz hg.size
     replace K:=K.grown hg (by have:=K.size;omega) (fun b e=>by have:=hge b e;omega);refine hKc _ _ ((hS0 _).2 Bb) ?_;clear hKc Kc hge tw Q hat hg hRz;refine oX ?_;refine oA ?_;intro Kc hKc;have cR:=Bb.cell;have fR:=Bb.frozen;obtain⟨wg,hwn,R9,kst,hzst⟩:=Bb.sto1s_2 (.slice A' ln c');simp only[sbt,sc0,scs] at R9;go_step;rw[← hwn];refine hKc _ _ ((hS1 _).2 trivial) ?_;clear hwn cR fR hKc Kc;replace HR:=HR.kpRow kst oM;have tw:=ow'.kpRow kst oM;replace K:=K.thenOwn kst (Nat.le_refl _) oM;replace Bb:=R9;change wpOrd _ _ _ _ _ 1 _ _;refine wpOrd_nil ?_;clear hevT _hev;clear cBb hS0 hS1 S;go_wp2_with fail
     go_roundw
     case rel=>exact⟨j6,tr++[⟨px,py⟩],_,k6+2,by congr 1,by have:=hin6.out;simp only[List.length_append,List.length_cons,List.length_nil];omega,Bb,tw,HR,by have:=hk6.out;simp only[List.length_append,List.length_cons,List.length_nil];omega,K⟩
     case measure=>simp[intOf]<;>omega
    ·
     obtain rfl:i=0:=by omega
     obtain⟨A6,c6,rfl,-,-⟩:=tw.rd (row:=none) (fun _=>rfl) (fun b hb e=>by cases e);replace R:=R.kq K;replace S9:=S9.kq K;replace ow:=ow.kp K (fun b9 hb9=>oN);replace KO:=KO.then_ K (Nat.le_refl _);have hk8:k6≤k'+11:=by omega
     clear K tw hin6 hk6;have K:=KO;clear KO;have Q:=Blk.new wr 77 #[mu,rad,.slice A6 tr.length c6];have hRz:=S9.lt;have cB:=Bb.cell;have cS0:=S9.cell;replace R:=R.alloc (.cells #[mu,rad,.slice A6 tr.length c6] 77);replace S9:=S9.alloc (.cells #[mu,rad,.slice A6 tr.length c6] 77);replace HR:=HR.alloc (.cells #[mu,rad,.slice A6 tr.length c6] 77);replace ow:=ow.alloc (.cells #[mu,rad,.slice A6 tr.length c6] 77);replace K:=K.alloc K.size (.cells #[mu,rad,.slice A6 tr.length c6] 77);have hzw:w.heap.size+2≤(wr.alloc (.cells #[mu,rad,.slice A6 tr.length c6] 77)).heap.size:=by have:=S9.lt;simp at this ⊢;omega
     have hin7:=Lib.hid hin.out;clear hin;go_wp2_with (at_builtin;go_loud (refine wpList_app1_Body (by rfl) (.tmp 40) (.tmp 42) (by rfl) (w.heap.size+2) v bl _ 1 ((⟨mu,rad,tr⟩,A6,c6):Bd × Option Addr × Nat) (by rfl) (by rfl) ow Q (by rfl) oM hzw ?_);intro v' wf ow' hg hat;obtain⟨A',c',ev,-,-⟩:=ow'.rd (row:=none) (fun _=>rfl) (fun b hb e=>by cases e);generalize (bl++[((⟨mu,rad,tr⟩,A6,c6):Bd × Option Addr × Nat)]).length=ln at ev;subst ev;replace S9:=S9.grownX hg (fun b e=>by have:=(ow.ge b e).1;omega);have cS:=fun i=>S9.cell i;have fS:=fun i=>S9.frozen i)
     obtain⟨wg,hwn,S8,kst,hzst⟩:=S9.sto1s_0 (.slice A' ln c');simp only[sbt,sc0,scs] at S8;rw[← hwn];have hge:=fun b e=>(ow.ge b e).1;replace R:=(R.grownX hg (fun b e=>by have:=hge b e;omega)).kp kst (by have:=(R.grownX hg (fun b e=>by have:=hge b e;omega)).lt;omega) oN;replace HR:=(HR.grown hg (fun b e=>by have:=hge b e;omega)).kpRow kst oM;replace K:=(K.grown hg oM (fun b e=>by have:=hge b e;omega)).thenOwn kst (Nat.le_refl _) oM;replace ow:=ow'.kpRow kst oM;clear hwn cS fS cS0 cB Q hat hg kst S9;go_roundw
     case rel=>exact⟨j,bl++[(⟨mu,rad,tr⟩,A6,c6)],_,k6,by congr 1,by have:=hin7.out;simp only[List.length_append,List.length_cons,List.length_nil];omega,R,S8,ow,HR,by have:=hk'.out;simp only[List.length_append,List.length_cons,List.length_nil];omega,K⟩
     case measure=>simp[intOf]<;>omega
  ·
   obtain rfl:i=0:=by omega
   obtain⟨A,c,ev,-,-⟩:=ow.rd (row:=none) (fun _=>rfl) (fun b hb e=>by cases e);rw[show bl.length=n by omega] at ev hk';subst ev;have hnn:(0:Int)<(n:Int):=by omega
   have hk5:k'≤k+34:=by omega
   clear ow hin hk';have cS:=S9.cell;go_wp2_with fail
   refine(next_any g nums k' (n:Int) _ HR oM oM oM).mono ?_;rintro e wa ⟨v9,rfl,⟨hm,rfl,hhm0,hhm1⟩,HR2,k2⟩;replace R:=R.kq k2;replace S9:=S9.kq k2;replace K:=K.then_ k2 (Nat.le_refl _);have hzk:=K.size;replace HR:=HR2;try replace hcz:=Nat.le_trans hcz k2.size
   clear HR2 k2;clear cS;obtain⟨wb,hwb,S8,kst,hzst⟩:=S9.sto1s_1 (.int .i64 hm);simp only[sbt,sc0,scs] at S8;have cS:=S9.cell;have fS:=S9.frozen;go_wp2_with fail
   rw[← hwb];replace R:=R.kq kst;replace HR:=HR.kpRow kst oM;replace K:=K.thenOwn kst (Nat.le_refl _) oM;clear cS fS hwb kst hzst S9 hhm0 hhm1;have S9:=S8;clear S8;refine(next_any g nums (k'+1) 3 _ HR oM oM oM).mono ?_;rintro e wc ⟨v9,rfl,⟨m0,rfl,hm0,hm1⟩,HR2,k2⟩;replace R:=R.kq k2;replace S9:=S9.kq k2;replace K:=K.then_ k2 (Nat.le_refl _);have hzk:=K.size;replace HR:=HR2;try replace hcz:=Nat.le_trans hcz k2.size
   clear HR2 k2;obtain⟨m,hm9⟩:∃ m:Nat,(m:Int)=1+m0:=⟨(1+m0).toNat,by omega⟩;have hm2:1≤m∧m≤3:=by omega
   replace hm9:=Lib.hid hm9;go_wp2_with fail
   go_loopw [7,8] (fun v7 v8 wr=>SnAt g nums (k+36) m A n c hm w v7 v8 wr) (fun _ v8 _=>(intOf v8).toNat)
   case atStart=>exact⟨m,[],.slice none 0 0,k'+1+1,0,rfl,by rw[hm9.out],rfl,StP.nil,by simp,R,S9,Own.nil _ _ _ _ _,HR,by simp;omega,K⟩
   case round=>
    clear R S9 HR K hm9 hm0 hm1 hzk;obtain⟨i,st,v,k3,id,rfl,rfl,hin,hst,hid,R,S9,ow,HR,hk3,K⟩:=hrel;have hzk:=K.size;have hid0:=hst.id0;by_cases h3:0<i
    ·
     have hii3:(0:Int)<(i:Int):=by omega
     obtain⟨j,rfl⟩:∃ j,i=j+1:=⟨i-1,by omega⟩;have hj3:(j:Int)≤3:=by omega
     have hid9:id≤9:=by omega
     have hsl:st.length≤3:=by omega
     have hk7:k3≤890000:=by omega
     replace hin:=Lib.hid hin;replace hk3:=Lib.hid hk3;replace hst:=Lib.hid hst;replace hid:=Lib.hid hid;go_wp2_with fail
     refine(next_any g nums k3 3 _ HR oM oM oM).mono ?_;rintro e wd ⟨v9,rfl,⟨a0,rfl,ha0,ha1⟩,HR2,k2⟩;replace R:=R.kq k2;replace S9:=S9.kq k2;replace ow:=ow.kp k2 (fun b9 hb9=>oN);replace K:=K.then_ k2 (Nat.le_refl _);have hzk:=K.size;replace HR:=HR2;try replace hcz:=Nat.le_trans hcz k2.size
     clear HR2 k2;go_upto_region 17 with(fail)
     obtain⟨S,hS0,hS1⟩:=cls_of2 (P:=fun w'=>Blk w' _ _ _) wd S9;try dsimp only at hS0
     have cS9:=fun (x:Ev (S 0)) i=>((hS0 _).1 x.h).cell i;replace R:=R.drew;replace S9:=S9.drew;replace HR:=HR.drew;replace ow:=ow.drew;replace K:=K.drew;have hevT:=ev_true;refine wro S [(0,0),(1,1),(2,0),(3,0),(4,2),(5,0),(6,2),(7,2),(8,0),(9,3)] [9] ((hS0 _).2 S9) ?_;intro _hev;refine oX ?_;refine oL ?_;intro Kc hKc;go_step;refine(pointOf_any g nums (k3+1) 40 _ HR oM oM oM).mono ?_;rintro e we9 ⟨v9,rfl,⟨px,py,rfl,hpx,hpy⟩,HR9,k9⟩;replace R:=R.kq k9;replace S9:=S9.kq k9;replace ow:=ow.kp k9 (fun b9 hb9=>oN);replace K:=K.then_ k9 (Nat.le_refl _);replace HR:=HR9;try replace hcz:=Nat.le_trans hcz k9.size
     clear k9 HR9;refine hKc _ _ ((hS0 _).2 S9) ?_;clear hKc Kc;refine oX ?_;refine oL ?_;intro Kc hKc;go_step;have Q:=Blk.new we9 146 #[.int .i64 (id+1+a0),px,py];replace R:=R.alloc (.cells #[.int .i64 (id+1+a0),px,py] 146);replace S9:=S9.alloc (.cells #[.int .i64 (id+1+a0),px,py] 146);replace HR:=HR.alloc (.cells #[.int .i64 (id+1+a0),px,py] 146);replace ow:=ow.alloc (.cells #[.int .i64 (id+1+a0),px,py] 146);replace K:=K.alloc (by have:=K.size;omega) (.cells #[.int .i64 (id+1+a0),px,py] 146);refine hKc _ _ ((hS0 _).2 S9) ?_;clear hKc Kc;obtain⟨qb,hqb⟩:∃ q9,q9=we9.heap.size:=⟨_,rfl⟩;try replace hcz:=alloc_ge hcz (.cells #[.int .i64 (id+1+a0),px,py] 146)
     generalize we9.alloc (.cells #[.int .i64 (id+1+a0),px,py] 146)=we at *;rw[← hqb] at Q ⊢;replace hqb:=Lib.hid hqb;have hRz:=S9.lt;refine oL ?_;intro Kc hKc;refine wp_app1_Station (.tmp 67) (.tmp 72) (by rfl) (w.heap.size+2) v st qb 1 (⟨id+1+a0,px,py⟩:Stn) (by rfl) (by rfl) ow Q (by rfl) oM (by have:=K.size;omega) ?_;intro v' wf ow' hg hat;obtain⟨A',c',ev,-,-⟩:=ow'.rd (row:=none) (fun _=>rfl) (fun b hb e=>by cases e);generalize (st++[(⟨id+1+a0,px,py⟩:Stn)]).length=ln at ev;subst ev;dsimp only[Act.put];simp only[sbt,sc0,scs];have hge:=fun b e=>(ow.ge b e).1;replace R:=R.grownX hg (fun b e=>by have:=hge b e;omega);replace S9:=S9.grownX hg (fun b e=>by have:=hge b e;omega);replace HR:=HR.grown hg (fun b e=>by have:=hge b e;omega);try replace hcz:=Nat.le_trans hcz hg.size
     replace K:=K.grown hg (by have:=K.size;omega) (fun b e=>by have:=hge b e;omega);refine hKc _ _ ((hS0 _).2 S9) ?_;clear hKc Kc hge ow Q hat hg hRz;refine oX ?_;refine oA ?_;intro Kc hKc;have cR:=S9.cell;have fR:=S9.frozen;obtain⟨wg,hwn,R9,kst,hzst⟩:=S9.sto1s_2 (.slice A' ln c');simp only[sbt,sc0,scs] at R9;go_step;rw[← hwn];refine hKc _ _ ((hS1 _).2 trivial) ?_;clear hwn cR fR hKc Kc;replace R:=R.kq kst;replace HR:=HR.kpRow kst oM;have ow:=ow'.kpRow kst oM;replace K:=K.thenOwn kst (Nat.le_refl _) oM;replace S9:=R9;change wpOrd _ _ _ _ _ 1 _ _;refine wpOrd_nil ?_;clear hevT _hev;clear cS9 hS0 hS1 S;go_wp2_with fail
     go_roundw
     case rel=>exact⟨j,st++[⟨id+1+a0,px,py⟩],_,k3+1+2,id+1+a0,rfl,by congr 1,by have:=hin.out;simp only[List.length_append,List.length_cons,List.length_nil];omega,hst.out.snoc oM hpx hpy,by have:=hid.out;simp only[List.length_append,List.length_cons,List.length_nil];omega,R,S9,ow,HR,by have:=hk3.out;simp only[List.length_append,List.length_cons,List.length_nil];omega,K⟩
     case measure=>simp[intOf]<;>omega
    ·
     obtain rfl:i=0:=by omega
     obtain⟨B,e9,ev,-,-⟩:=ow.rd (row:=none) (fun _=>rfl) (fun b hb e=>by cases e);have hsl:st.length=m:=by omega
     have hk8:k3≤k+45:=by omega
     clear hin hk3 hid;have hst9:=Lib.hid hst;clear hst;go_wp2_with fail
     refine(next_any g nums k3 3 _ HR oM oM oM).mono ?_;rintro e wd ⟨v9,rfl,⟨m1,rfl,hmm0,hmm1⟩,HR2,k2⟩;replace R:=R.kq k2;replace S9:=S9.kq k2;replace ow:=ow.kp k2 (fun b9 hb9=>oN);replace K:=K.then_ k2 (Nat.le_refl _);have hzk:=K.size;replace HR:=HR2;try replace hcz:=Nat.le_trans hcz k2.size
     clear HR2 k2;obtain⟨m',hm9'⟩:∃ m':Nat,(m':Int)=1+m1:=⟨(1+m1).toNat,by omega⟩;have hm2':1≤m'∧m'≤3:=by omega
     replace hm9':=Lib.hid hm9';have how:=fun b e=>(ow.ge b e).2;obtain⟨cb,hcb⟩:∃ cb,cb=wd.heap.size:=⟨_,rfl⟩;rw[← hcb] at how;have hcz:cb≤wd.heap.size:=by omega
     have hcw:w.heap.size+2≤cb:=by have:=S9.lt;omega
     clear hcb;replace ev:=Lib.hid ev;go_wp2_with fail
     go_loopw [9,10] (fun v9 v10 wr=>CnAt g nums (k+46) m' A n c hm v st cb w v9 v10 wr) (fun _ v10 _=>(intOf v10).toNat)
     case atStart=>exact⟨m',[],.slice none 0 0,k3+1,0,rfl,by rw[hm9'.out],rfl,CtP.nil,by simp,R,S9,ow,Own.nil _ _ _ _ _,hcz,HR,by simp;omega,K⟩
     case round=>
      clear R S9 HR K ow hcz hzk hm9' hmm0 hmm1;rename_i wx9;obtain⟨i,ct,vc,k4,ver,rfl,rfl,hin,hct,hver,R,S9,os,ow,hcz,HR,hk4,K⟩:=hrel;have hzk:=K.size;have hos:=how;have hid0:=hct.id0;by_cases h4:0<i
      ·
       have hii4:(0:Int)<(i:Int):=by omega
       obtain⟨j,rfl⟩:∃ j,i=j+1:=⟨i-1,by omega⟩;have hj4:(j:Int)≤3:=by omega
       have hver9:ver≤9:=by omega
       have hcl:ct.length≤3:=by omega
       have hk7:k4≤890000:=by omega
       replace hin:=Lib.hid hin;replace hk4:=Lib.hid hk4;replace hct:=Lib.hid hct;replace hver:=Lib.hid hver;go_wp2_with fail
       refine(next_any g nums k4 3 _ HR oM oM oM).mono ?_;rintro e we0 ⟨v9,rfl,⟨a0,rfl,ha0,ha1⟩,HR2,k2⟩;replace R:=R.kq k2;replace S9:=S9.kq k2;replace os:=os.kp k2 (fun b9 hb9=>oN);replace ow:=ow.kp k2 (fun b9 hb9=>oN);replace K:=K.then_ k2 (Nat.le_refl _);have hzk:=K.size;replace HR:=HR2;try replace hcz:=Nat.le_trans hcz k2.size
       clear HR2 k2;go_wp2_with fail
       refine(next_any g nums (k4+1) 20001 _ HR oM oM oM).mono ?_;rintro e we1 ⟨v9,rfl,⟨b0,rfl,hb0,hb1⟩,HR2,k2⟩;replace R:=R.kq k2;replace S9:=S9.kq k2;replace os:=os.kp k2 (fun b9 hb9=>oN);replace ow:=ow.kp k2 (fun b9 hb9=>oN);replace K:=K.then_ k2 (Nat.le_refl _);have hzk:=K.size;replace HR:=HR2;try replace hcz:=Nat.le_trans hcz k2.size
       clear HR2 k2;go_upto_region 24 with(fail)
       obtain⟨S,hS0,hS1⟩:=cls_of2 (P:=fun w'=>Blk w' _ _ _) we1 S9;try dsimp only at hS0
       have cS9:=fun (x:Ev (S 0)) i=>((hS0 _).1 x.h).cell i;replace R:=R.drew;replace S9:=S9.drew;replace HR:=HR.drew;replace ow:=ow.drew;replace os:=os.drew;replace K:=K.drew;replace hcz:cb≤we1.drew.heap.size:=hcz;have hevT:=ev_true;refine wro S [(0,0),(1,1),(2,0),(3,0),(4,0),(5,0),(7,0),(6,2),(8,2),(9,0),(10,0),(11,0),(12,0),(13,2),(14,2),(15,0),(16,3)] [16] ((hS0 _).2 S9) ?_;intro _hev;refine oX ?_;refine oL ?_;intro Kc hKc;go_step;refine(next_any g nums (k4+1+1) 3 _ HR oM oM oM).mono ?_;rintro e we2 ⟨v9,rfl,⟨c0,rfl,hc0,hc1⟩,HR9,k9⟩;replace R:=R.kq k9;replace S9:=S9.kq k9;replace os:=os.kp k9 (fun b9 hb9=>oN);replace ow:=ow.kp k9 (fun b9 hb9=>oN);replace K:=K.then_ k9 (Nat.le_refl _);replace HR:=HR9;try replace hcz:=Nat.le_trans hcz k9.size
       clear k9 HR9;refine hKc _ _ ((hS0 _).2 S9) ?_;clear hKc Kc;refine oL ?_;intro Kc hKc;go_step;refine(next_any g nums (k4+1+1+1) 5000 _ HR oM oM oM).mono ?_;rintro e we3 ⟨v9,rfl,⟨d0,rfl,hd0,hd1⟩,HR9,k9⟩;replace R:=R.kq k9;replace S9:=S9.kq k9;replace os:=os.kp k9 (fun b9 hb9=>oN);replace ow:=ow.kp k9 (fun b9 hb9=>oN);replace K:=K.then_ k9 (Nat.le_refl _);replace HR:=HR9;try replace hcz:=Nat.le_trans hcz k9.size
       clear k9 HR9;refine hKc _ _ ((hS0 _).2 S9) ?_;clear hKc Kc;have hcd:=mul_small2 ⟨hc0,hc1⟩ ⟨hd0,hd1⟩;refine oX ?_;refine oL ?_;intro Kc hKc;go_step;have Q:=Blk.new we3 148 #[.int .i64 (ver+1+a0),.int .i64 (b0-10000),.int .i64 (b0-10000+c0 * d0)];replace R:=R.alloc (.cells #[.int .i64 (ver+1+a0),.int .i64 (b0-10000),.int .i64 (b0-10000+c0 * d0)] 148);replace S9:=S9.alloc (.cells #[.int .i64 (ver+1+a0),.int .i64 (b0-10000),.int .i64 (b0-10000+c0 * d0)] 148);replace HR:=HR.alloc (.cells #[.int .i64 (ver+1+a0),.int .i64 (b0-10000),.int .i64 (b0-10000+c0 * d0)] 148);replace ow:=ow.alloc (.cells #[.int .i64 (ver+1+a0),.int .i64 (b0-10000),.int .i64 (b0-10000+c0 * d0)] 148);replace os:=os.alloc (.cells #[.int .i64 (ver+1+a0),.int .i64 (b0-10000),.int .i64 (b0-10000+c0 * d0)] 148);replace K:=K.alloc (by have:=K.size;omega) (.cells #[.int .i64 (ver+1+a0),.int .i64 (b0-10000),.int .i64 (b0-10000+c0 * d0)] 148);refine hKc _ _ ((hS0 _).2 S9) ?_;clear hKc Kc;obtain⟨qb,hqb⟩:∃ q9,q9=we3.heap.size:=⟨_,rfl⟩;try replace hcz:=alloc_ge hcz (.cells #[.int .i64 (ver+1+a0),.int .i64 (b0-10000),.int .i64 (b0-10000+c0 * d0)] 148)
       generalize we3.alloc (.cells #[.int .i64 (ver+1+a0),.int .i64 (b0-10000),.int .i64 (b0-10000+c0 * d0)] 148)=we at *;rw[← hqb] at Q ⊢;replace hqb:=Lib.hid hqb;have hRz:=S9.lt;refine oL ?_;intro Kc hKc;refine wp_app1_Catalog (.tmp 91) (.tmp 103) (by rfl) (cb) vc ct qb 1 (⟨ver+1+a0,b0-10000,b0-10000+c0 * d0⟩:Cat) (by rfl) (by rfl) ow Q (by rfl) oM (by have:=K.size;omega) ?_;intro v' wf ow' hg hat;obtain⟨A',c',ev,-,-⟩:=ow'.rd (row:=none) (fun _=>rfl) (fun b hb e=>by cases e);generalize (ct++[(⟨ver+1+a0,b0-10000,b0-10000+c0 * d0⟩:Cat)]).length=ln at ev;subst ev;dsimp only[Act.put];simp only[sbt,sc0,scs];have hge:=fun b e=>(ow.ge b e).1;replace R:=R.grownX hg (fun b e=>by have:=hge b e;omega);replace S9:=S9.grownX hg (fun b e=>by have:=hge b e;omega);replace os:=os.grownO hg (fun b e e2=>by have:=hge b e;have:=hos b e2;omega);replace HR:=HR.grown hg (fun b e=>by have:=hge b e;omega);try replace hcz:=Nat.le_trans hcz hg.size
       replace K:=K.grown hg (by have:=K.size;omega) (fun b e=>by have:=hge b e;omega);refine hKc _ _ ((hS0 _).2 S9) ?_;clear hKc Kc hge ow Q hat hg hRz;refine oX ?_;refine oA ?_;intro Kc hKc;have cR:=S9.cell;have fR:=S9.frozen;obtain⟨wg,hwn,R9,kst,hzst⟩:=S9.sto1s_3 (.slice A' ln c');simp only[sbt,sc0,scs] at R9;go_step;rw[← hwn];refine hKc _ _ ((hS1 _).2 trivial) ?_;clear hwn cR fR hKc Kc;replace R:=R.kq kst;replace os:=os.kp kst (fun b9 hb9=>oN);replace HR:=HR.kpRow kst oM;have ow:=ow'.kpRow kst oM;replace K:=K.thenOwn kst (Nat.le_refl _) oM;replace S9:=R9;change wpOrd _ _ _ _ _ 1 _ _;refine wpOrd_nil ?_;clear hevT _hev;clear cS9 hS0 hS1 S;have hcz9:cb≤wg.heap.size:=by omega
       go_wp2_with fail
       go_roundw
       case rel=>exact⟨j,ct++[⟨ver+1+a0,b0-10000,b0-10000+c0 * d0⟩],_,k4+1+1+1+1,ver+1+a0,rfl,by congr 1,by have:=hin.out;simp only[List.length_append,List.length_cons,List.length_nil];omega,hct.out.snoc oM oM,by have:=hver.out;simp only[List.length_append,List.length_cons,List.length_nil];omega,R,S9,os,ow,hcz9,HR,by have:=hk4.out;simp only[List.length_append,List.length_cons,List.length_nil];omega,K⟩
       case measure=>simp[intOf]<;>omega
      ·
       obtain rfl:i=0:=by omega
       have hcl:ct.length=m':=by omega
       obtain⟨D,f,rfl,rdc,-⟩:=ow.rd (row:=some g) (fun _=>rfl) (fun b hb=>oN);obtain⟨B2,f2,e2,rds,-⟩:=os.rd (row:=some g) (fun _=>rfl) (fun b hb=>oN);have e3:=ev.out;rw[e3] at e2;simp only[Value.slice.injEq] at e2;obtain⟨rfl,-,rfl⟩:=e2;subst e3;have hst:=hst9.out;have hk9:k4≤k+100:=by omega
       clear hin hk4 hver how hos ev hst9;replace hcl:=Lib.hid hcl;replace hsl:=Lib.hid hsl;have cS:=S9.cell;have cR:=R.cell;have fR:=R.frozen;obtain⟨wz,hwz,R9,kst,hzst⟩:=R.st4 (.slice A n c) (.int .i64 hm) (.slice B st.length e9) (.slice D ct.length f);simp only[sbt,sc0,scs] at R9;have cR9:=R9.cell;have os':=os.kp kst (fun b9 hb9=>oN);have ow':=ow.kp kst (fun b9 hb9=>oN);have hT:StP id st∧CtP ver ct:=⟨hst,hct⟩;replace hT:=Lib.hid hT;clear hst hct hid0 os ow rds rdc;go_wp2_with fail
       rw[← hwz];obtain⟨D2,f2,e2,rdc,fc⟩:=ow'.rd (row:=some g) (fun _=>rfl) (fun b hb=>oN);obtain⟨B2,f3,e3,rds,fs⟩:=os'.rd (row:=some g) (fun _=>rfl) (fun b hb=>oN);simp only[Value.slice.injEq] at e2 e3;obtain⟨rfl,-,rfl⟩:=e2;obtain⟨rfl,-,rfl⟩:=e3;exact bodyPost_ret (v:=.agg #[.slice A n c,hm,.slice B st.length e9,.slice D ct.length f]) (by simp[results,Tryz.results31,go_sem,cR9]) rfl ⟨_,k4,rfl,⟨A,n,c,hm,B,e9,st,id,D,f,ct,ver,rfl,rds,rdc,hT.out.1,hT.out.2,by have:=hsl.out;omega,by have:=hcl.out;omega,fun ad h=>by have:=(fs ad h).1;omega,fun ad h=>by have:=(fc ad h).1;omega⟩,hk9,HR.kpRow kst oM,K.thenOwn kst (Nat.le_refl _) (Nat.le_refl _)⟩
end Go.Proofs.YtdhiappifnflpaaGreat
