/- The fate of a box: the walks of meet, third part: finder. The fate of a box: the walks of meet, fourth part: find. Chances: the walks of meet, fifth part: Odds. -/
import Derived.Test.YtdhiappifnflpaaGreatM35
import Derived.Laws.EntriesVeiled
import Derived.Test.YtdhiappifnflpaaGreatM18
set_option maxRecDepth 100000
set_option maxHeartbeats 4000000
namespace Go.Proofs.YtdhiappifnflpaaGreat
open Go.RowKit
attribute [local go_sem] Oper.semAt_some
theorem Ps.clear_any (p:Ps) (r:Int) (hp:p.sm) (hr:0≤r∧r≤1000) (w:World) :
  Calls Tryz.prog 143 #[.agg #[p.i,p.a.x.lo,p.a.x.hi,p.a.y.lo,p.a.y.hi,p.b.x.lo,p.b.x.hi,p.b.y.lo,p.b.y.hi,.bool p.lost],r] w fun e w'=>e=.returned (.bool (p.clear r))∧Kp w.heap.size none w w':=by
 have cc:=fun w=>span_Clear_any p.a p.b r w (hp.a.mono oM) (hp.b.mono oM) hr.1 oM;obtain⟨v,hv⟩:∃ q9,Hid (q9=p.clear r):=⟨_,Lib.hid rfl⟩;rw[← hv.out];have hv2:Hid (v=(!p.lost&&clearA p.a p.b r)):=Lib.hid hv.out;generalize clearA p.a p.b r=u at *;obtain⟨lb,hlb⟩:∃ q9,Hid (q9=p.lost):=⟨_,Lib.hid rfl⟩;rw[← hlb.out] at hv2 ⊢;clear hp hr hv;obtain⟨w1,hw1,P,K,hz⟩:=box1 w 182 #[p.i,p.a.x.lo,p.a.x.hi,p.a.y.lo,p.a.y.hi,p.b.x.lo,p.b.x.hi,p.b.y.lo,p.b.y.hi,.bool lb];cases lb
 ·
  go_enter Tryz.func143,Tryz.ntmps143
  go_wp2_with fail
  rw[← hw1];clear hw1;refine mK (cc _) fun w2 k=>?_;replace P:=P.kpN k;replace K:=K.thenN k oM;have hzk:=k.size;clear k;go_wp2
  go_ret
  exact⟨by rw[hv2.out];rfl,K⟩
 ·
  clear cc;go_enter Tryz.func143,Tryz.ntmps143
  go_wp2
  go_ret
  exact⟨by rw[hv2.out];rfl,by rw[← hw1];exact K⟩
theorem Ps.sure_any (p:Ps) (r:Int) (hp:p.sm) (hr:0≤r∧r≤1000) (w:World) :
  Calls Tryz.prog 173 #[.agg #[p.i,p.a.x.lo,p.a.x.hi,p.a.y.lo,p.a.y.hi,p.b.x.lo,p.b.x.hi,p.b.y.lo,p.b.y.hi,.bool p.lost],r] w fun e w'=>e=.returned (.bool (p.sure r))∧Kp w.heap.size none w w':=by
 have cc:=fun w=>span_Hits_any p.a p.b r w hp.a hp.b hr;obtain⟨v,hv⟩:∃ q9,Hid (q9=p.sure r):=⟨_,Lib.hid rfl⟩;rw[← hv.out];have hv2:Hid (v=(!p.lost&&hitsA p.a p.b r)):=Lib.hid hv.out;generalize hitsA p.a p.b r=u at *;obtain⟨lb,hlb⟩:∃ q9,Hid (q9=p.lost):=⟨_,Lib.hid rfl⟩;rw[← hlb.out] at hv2 ⊢;clear hp hr hv;obtain⟨w1,hw1,P,K,hz⟩:=box1 w 182 #[p.i,p.a.x.lo,p.a.x.hi,p.a.y.lo,p.a.y.hi,p.b.x.lo,p.b.x.hi,p.b.y.lo,p.b.y.hi,.bool lb];cases lb
 ·
  go_enter Tryz.func173,Tryz.ntmps173
  go_wp2_with fail
  rw[← hw1];clear hw1;refine mK (cc _) fun w2 k=>?_;replace P:=P.kpN k;replace K:=K.thenN k oM;have hzk:=k.size;clear k;go_wp2
  go_ret
  exact⟨by rw[hv2.out];rfl,K⟩
 ·
  clear cc;go_enter Tryz.func173,Tryz.ntmps173
  go_wp2
  go_ret
  exact⟨by rw[hv2.out];rfl,by rw[← hw1];exact K⟩
def fkI:Fk→Int
 | .miss=>1
 | .hit=>2
 | .open=>3
def fkF:Fk→Nat
 | .miss=>94
 | .hit=>174
 | .open=>144
def finC (r:Int) (k:Fk) (pn:Int) (fb:Nat):Array Value:=#[r,(fkI k),pn,.func (.func (fkF k)) #[.pointer (some ⟨fb,0,none⟩)] #[]]
def FinPost (r:Int) (k:Fk) (fb:Nat) (w:World) (e:Ending) (w':World):Prop:=∃ pn,e=.returned (.tuple #[])∧Blk w' fb 177 (finC r k pn fb)∧Kp w.heap.size (some fb) w w'
theorem Blk.sto3_1 {w:World} {r:Nat} {T:TypeId} {cs:Array Value} (h:Blk w r T cs) (x0 x1 x2:Value):∃ w',w'=(((w.setCell ⟨r,1,none⟩ x0).setCell ⟨r,2,none⟩ x1).setCell ⟨r,3,none⟩ x2)∧Blk w' r T (((cs.setIfInBounds 1 x0).setIfInBounds 2 x1).setIfInBounds 3 x2)∧Kp w.heap.size (some r) w w'∧w'.heap.size=w.heap.size:=
 ⟨_,rfl,((h.set_ _ x0).set_ _ x1).set_ _ x2,(((Kp.refl _ (some r) w).setRow (p:=⟨r,_,none⟩) rfl _).setRow (p:=⟨r,_,none⟩) rfl _).setRow (p:=⟨r,_,none⟩) rfl _,by simp[World.setCell]⟩
theorem finder_open_any (p:Ps) (r:Int) (fb:Nat) (pn:Int) (w:World) (hp:p.sm) (hr:0≤r∧r≤1000) (F:Blk w fb 177 (finC r .open pn fb)) :
  Calls Tryz.prog 144 #[.pointer (some ⟨fb,0,none⟩),.agg #[p.i,p.a.x.lo,p.a.x.hi,p.a.y.lo,p.a.y.hi,p.b.x.lo,p.b.x.hi,p.b.y.lo,p.b.y.hi,.bool p.lost]] w (FinPost r (stepF r .open p) fb w):=by
 have cs:=fun w=>p.sure_any r hp hr w;have hst:Hid (stepF r .open p=if p.sure r then .hit else .open):=Lib.hid rfl;rw[hst.out];generalize p.sure r=v at *;unfold finC at F;have hfb:=F.lt;clear hst hp hr;obtain⟨w1,hw1,P,K,hz⟩:=box1 w 182 #[p.i,p.a.x.lo,p.a.x.hi,p.a.y.lo,p.a.y.hi,p.b.x.lo,p.b.x.hi,p.b.y.lo,p.b.y.hi,.bool p.lost];replace F:=F.kpN K;have hne:fb<w.heap.size:=hfb;cases v
 ·
  go_enter Tryz.func144,Tryz.ntmps144
  go_wp2_with fail
  rw[← hw1];clear hw1;obtain⟨S,hS0,hS1⟩:=cls_of2 (P:=fun w'=>Blk w' _ _ _∧Blk w' _ _ _∧Kp _ _ _ w') w1 ⟨P,F,K⟩;try dsimp only at hS0
  have cP:=fun (x:Ev (S 0)) i=>((hS0 _).1 x.h).1.cell i;have cF:=fun (x:Ev (S 0)) i=>((hS0 _).1 x.h).2.1.cell i;replace P:=P.drew;replace F:=F.drew;replace K:=K.drew;have hevT:=ev_true;refine wro S [(0,1),(1,0),(2,0),(3,0),(4,1),(5,2)] [] ((hS0 _).2 ⟨P,F,K⟩) ?_;intro _hev;refine oX ?_;refine oL ?_;intro Kc hKc;generalize w1.drew=wd9 at *;go_step;refine mK (cs _) fun w2 k=>?_;replace P:=P.kpN k;replace F:=F.kpN k;replace K:=K.tN k;clear k;refine hKc _ _ ((hS0 _).2 ⟨P,F,K⟩) ?_;clear hKc Kc;refine wpOrd_nil ?_;clear hevT _hev;clear cP cF hS0 hS1 S;go_wp2
  exact bodyPost_end (v:=.tuple #[]) (by simp[results,Tryz.results144,go_sem]) rfl ⟨pn,rfl,F,K.wide _⟩
 ·
  go_enter Tryz.func144,Tryz.ntmps144
  go_wp2_with fail
  rw[← hw1];clear hw1;obtain⟨S,hS0,hS1⟩:=cls_of2 (P:=fun w'=>Blk w' _ _ _∧Blk w' _ _ _∧Kp _ _ _ w') w1 ⟨P,F,K⟩;try dsimp only at hS0
  have cP:=fun (x:Ev (S 0)) i=>((hS0 _).1 x.h).1.cell i;have cF:=fun (x:Ev (S 0)) i=>((hS0 _).1 x.h).2.1.cell i;replace P:=P.drew;replace F:=F.drew;replace K:=K.drew;have hevT:=ev_true;refine wro S [(0,1),(1,0),(2,0),(3,0),(4,1),(5,2)] [] ((hS0 _).2 ⟨P,F,K⟩) ?_;intro _hev;refine oX ?_;refine oL ?_;intro Kc hKc;generalize w1.drew=wd9 at *;go_step;refine mK (cs _) fun w2 k=>?_;replace P:=P.kpN k;replace F:=F.kpN k;replace K:=K.tN k;clear k;refine hKc _ _ ((hS0 _).2 ⟨P,F,K⟩) ?_;clear hKc Kc;refine wpOrd_nil ?_;clear hevT _hev;clear cP cF hS0 hS1 S;have cP:=P.cell;have cF:=F.cell;have fF:=F.frozen;go_wp2
  obtain⟨w3,hw3,F3,k3,hz3⟩:=F.sto3_1 (.int .i64 2) (.int .i64 p.i) (.func (.func 174) #[.pointer (some ⟨fb,0,none⟩)] #[]);rw[← hw3];exact bodyPost_end (v:=.tuple #[]) (by simp[results,Tryz.results144,go_sem]) rfl ⟨p.i,rfl,F3,(K.wide _).then_ k3 (Nat.le_refl _)⟩
theorem finder_hit_any (p:Ps) (r:Int) (fb:Nat) (pn:Int) (w:World) (F:Blk w fb 177 (finC r .hit pn fb)) :
  Calls Tryz.prog 174 #[.pointer (some ⟨fb,0,none⟩),.agg #[p.i,p.a.x.lo,p.a.x.hi,p.a.y.lo,p.a.y.hi,p.b.x.lo,p.b.x.hi,p.b.y.lo,p.b.y.hi,.bool p.lost]] w (FinPost r .hit fb w):=by
 have F1:=F.alloc (.cells #[p.i,p.a.x.lo,p.a.x.hi,p.a.y.lo,p.a.y.hi,p.b.x.lo,p.b.x.hi,p.b.y.lo,p.b.y.hi,.bool p.lost] 182);go_enter Tryz.func174,Tryz.ntmps174
 go_wp2_with fail
 exact bodyPost_end (v:=.tuple #[]) (by simp[results,Tryz.results174,go_sem]) rfl ⟨pn,rfl,F1,(Kp.new1 _ _).wide _⟩
theorem finder_missing_any (p:Ps) (r:Int) (fb:Nat) (pn:Int) (w:World) (hp:p.sm) (hr:0≤r∧r≤1000) (F:Blk w fb 177 (finC r .miss pn fb)) :
  Calls Tryz.prog 94 #[.pointer (some ⟨fb,0,none⟩),.agg #[p.i,p.a.x.lo,p.a.x.hi,p.a.y.lo,p.a.y.hi,p.b.x.lo,p.b.x.hi,p.b.y.lo,p.b.y.hi,.bool p.lost]] w (FinPost r (stepF r .miss p) fb w):=by
 have cc:=fun w=>p.clear_any r hp hr w;have co:=fun pn w F=>finder_open_any p r fb pn w hp hr F;have hst:Hid (stepF r .miss p=if p.clear r then .miss else stepF r .open p):=Lib.hid rfl;rw[hst.out];generalize p.clear r=v at *;generalize stepF r .open p=kk at *;unfold finC at F;have hfb:=F.lt;clear hst hp hr;obtain⟨w1,hw1,P,K,hz⟩:=box1 w 182 #[p.i,p.a.x.lo,p.a.x.hi,p.a.y.lo,p.a.y.hi,p.b.x.lo,p.b.x.hi,p.b.y.lo,p.b.y.hi,.bool p.lost];replace F:=F.kpN K;have hne:fb<w.heap.size:=hfb;cases v
 ·
  go_enter Tryz.func94,Tryz.ntmps94
  go_wp2_with fail
  rw[← hw1];clear hw1;obtain⟨S,hS0,hS1⟩:=cls_of2 (P:=fun w'=>Blk w' _ _ _∧Blk w' _ _ _∧Kp _ _ _ w') w1 ⟨P,F,K⟩;try dsimp only at hS0
  have cP:=fun (x:Ev (S 0)) i=>((hS0 _).1 x.h).1.cell i;have cF:=fun (x:Ev (S 0)) i=>((hS0 _).1 x.h).2.1.cell i;replace P:=P.drew;replace F:=F.drew;replace K:=K.drew;have hevT:=ev_true;refine wro S [(0,1),(1,0),(2,0),(3,0),(4,1),(5,2),(6,0)] [] ((hS0 _).2 ⟨P,F,K⟩) ?_;intro _hev;refine oX ?_;refine oL ?_;intro Kc hKc;generalize w1.drew=wd9 at *;go_step;refine mK (cc _) fun w2 k=>?_;replace P:=P.kpN k;replace F:=F.kpN k;replace K:=K.tN k;clear k;refine hKc _ _ ((hS0 _).2 ⟨P,F,K⟩) ?_;clear hKc Kc;refine oX ?_;refine wpOrd_nil ?_;clear hevT _hev;clear cP cF hS0 hS1 S;have hP:=P.lt;obtain⟨w3,hw3,F3,k3,hz3⟩:=F.sto3_1 (.int .i64 3) (.int .i64 p.i) (.func (.func 144) #[.pointer (some ⟨fb,0,none⟩)] #[]);have P3:=P.kp k3 hP oN;have cP:=P.cell;have cF:=F.cell;have fF:=F.frozen;go_wp2_with fail
  rw[← hw3];refine(co p.i w3 F3).mono ?_;unfold FinPost;rintro e w4 ⟨pn',rfl,F4,k4⟩;clear cP cF fF;go_wp2
  exact bodyPost_end (v:=.tuple #[]) (by simp[results,Tryz.results94,go_sem]) rfl ⟨pn',rfl,F4,((K.wide _).then_ k3 (Nat.le_refl _)).then_ k4 (Nat.le_refl _)⟩
 ·
  go_enter Tryz.func94,Tryz.ntmps94
  go_wp2_with fail
  rw[← hw1];clear hw1;obtain⟨S,hS0,hS1⟩:=cls_of2 (P:=fun w'=>Blk w' _ _ _∧Blk w' _ _ _∧Kp _ _ _ w') w1 ⟨P,F,K⟩;try dsimp only at hS0
  have cP:=fun (x:Ev (S 0)) i=>((hS0 _).1 x.h).1.cell i;have cF:=fun (x:Ev (S 0)) i=>((hS0 _).1 x.h).2.1.cell i;replace P:=P.drew;replace F:=F.drew;replace K:=K.drew;have hevT:=ev_true;refine wro S [(0,1),(1,0),(2,0),(3,0),(4,1),(5,2),(6,0)] [] ((hS0 _).2 ⟨P,F,K⟩) ?_;intro _hev;refine oX ?_;refine oL ?_;intro Kc hKc;generalize w1.drew=wd9 at *;go_step;refine mK (cc _) fun w2 k=>?_;replace P:=P.kpN k;replace F:=F.kpN k;replace K:=K.tN k;clear k;refine hKc _ _ ((hS0 _).2 ⟨P,F,K⟩) ?_;clear hKc Kc;refine oX ?_;refine wpOrd_nil ?_;clear hevT _hev;clear cP cF hS0 hS1 S;go_wp2
  exact bodyPost_end (v:=.tuple #[]) (by simp[results,Tryz.results94,go_sem]) rfl ⟨pn,rfl,F,K.wide _⟩
end Go.Proofs.YtdhiappifnflpaaGreat
namespace Go.Proofs.YtdhiappifnflpaaGreat
open Go.RowKit
attribute [local go_sem] Oper.semAt_some
def FdC (r:Int) (fb:Nat) (S:Nat→Prop) (pre:List Ps) (W:World):Prop:=pre.foldl (stepF r) .miss≠.hit∧(∃ pn,Blk W fb 177 (finC r (pre.foldl (stepF r) .miss) pn fb))∧¬ S fb
theorem FdC.abide (r:Int) (fb:Nat):AbideZ (FdC r fb) where
 step:=fun S s W W' row ⟨h1,⟨pn,h3⟩,h4⟩ hk hr=>by
  refine⟨h1,⟨pn,h3.kp hk h3.lt (fun e=>h4 (hr _ e.symm))⟩,?_⟩;rintro (q|q)
  · exact h4 q
  · have:=h3.lt;omega
 less:=fun S S' s W ⟨h1,h3,h4⟩ hs=>⟨h1,h3,fun q=>h4 (hs _ q)⟩
theorem FdC.put (r:Int) (fb M:Nat):PutZ M (FdC r fb):=fun S s W l o o' _ ⟨h1,⟨pn,h3⟩,h4⟩ ho hc=>⟨h1,⟨pn,h3.put_ o' ho hc⟩,h4⟩
def FdX (r:Int) (fb:Nat) (G:Prop) (c:Code) (S:Nat→Prop) (_:List Ps) (W:World):Prop:=c=.exit 0∧G∧(∃ pn,Blk W fb 177 (finC r .hit pn fb))∧¬ S fb
theorem FdX.abide (r:Int) (fb:Nat) (G:Prop) (c:Code):AbideZ (FdX r fb G c) where
 step:=fun S s W W' row ⟨h0,h1,⟨pn,h3⟩,h4⟩ hk hr=>by
  refine⟨h0,h1,⟨pn,h3.kp hk h3.lt (fun e=>h4 (hr _ e.symm))⟩,?_⟩;rintro (q|q)
  · exact h4 q
  · have:=h3.lt;omega
 less:=fun S S' s W ⟨h0,h1,h3,h4⟩ hs=>⟨h0,h1,h3,fun q=>h4 (hs _ q)⟩
theorem FdX.put (r:Int) (fb:Nat) (G:Prop) (c:Code) (M:Nat):PutZ M (FdX r fb G c):=fun S s W l o o' _ ⟨h0,h1,⟨pn,h3⟩,h4⟩ ho hc=>⟨h0,h1,⟨pn,h3.put_ o' ho hc⟩,h4⟩
def FndPost (k:Fk) (w:World) (e:Ending) (w':World):Prop:=∃ pn:Int,e=.returned (.agg #[(fkI k),pn])∧Kp w.heap.size none w w'
theorem Blk.sto1_3 {w:World} {r:Nat} {T:TypeId} {cs:Array Value} (h:Blk w r T cs) (x0:Value):∃ w',w'=(w.setCell ⟨r,3,none⟩ x0)∧Blk w' r T (cs.setIfInBounds 3 x0)∧Kp w.heap.size (some r) w w'∧w'.heap.size=w.heap.size:=
 ⟨_,rfl,h.set_ _ x0,(Kp.refl _ (some r) w).setRow (p:=⟨r,_,none⟩) rfl _,by simp[World.setCell]⟩
theorem finder_step_any (p:Ps) (r:Int) (fb:Nat) (k:Fk) (pn:Int) (w:World) (hp:p.sm) (hr:0≤r∧r≤1000) (F:Blk w fb 177 (finC r k pn fb)) :
  Calls Tryz.prog (fkF k) #[.pointer (some ⟨fb,0,none⟩),.agg #[p.i,p.a.x.lo,p.a.x.hi,p.a.y.lo,p.a.y.hi,p.b.x.lo,p.b.x.hi,p.b.y.lo,p.b.y.hi,.bool p.lost]] w (FinPost r (stepF r k p) fb w):=by
 cases k
 · exact finder_missing_any p r fb pn w hp hr F
 · exact finder_open_any p r fb pn w hp hr F
 · exact finder_hit_any p r fb pn w F
theorem fin_enters (k:Fk):∀ args w,(callFunc (fkF k) args).run Tryz.prog w=.ok (.enter (fkF k) args) w:=by
 cases k
 · exact enters_of Tryz.func94 (by kernel_rfl) rfl
 · exact enters_of Tryz.func144 (by kernel_rfl) rfl
 · exact enters_of Tryz.func174 (by kernel_rfl) rfl
theorem meet_find_any (A:Option Addr) (c:Nat) (W:Wd) (d:Dr) (t:Int) (b:Bx) (n:Nat) (w:World) (hW:W.ok) (hA:WdAt none w A W) (hd:d.ok) (ht:0≤t∧t≤900000) (hn:n≤400) (hb:okBx b=true) :
  Calls Tryz.prog 48 #[.agg #[.slice A W.bs.length c,W.home],d,t,b,n] w (FndPost (fateW W d n t b) w):=by
 obtain⟨kk,hkk⟩:∃ q9,Hid (q9=fateW W d n t b):=⟨_,Lib.hid rfl⟩;rw[← hkk.out];obtain⟨L,hL⟩:∃ q9,Hid (q9=passL W d n 0 t b):=⟨_,Lib.hid rfl⟩
 have hLk:Hid (L.foldl (stepF W.rad) .miss=kk):=Lib.hid (by
  have:=passL_fate W d n 0 t b false;rw[hL.out,hkk.out];simpa [fateW] using this)
 have hsm:Hid (∀ p∈L,p.sm):=Lib.hid (by rw[hL.out];exact passL_sm hW n 0 t b hb);have hrb:=hW.rad_bd;have cr:=fun w h=>meet_radius_any A c W w hW h;have hsq:=fun wb w0 nb tb ab db bb x hA hwb hx hbb hxl bN bT bA bD bB nx nbb=>passages_seq wb w0 A c W d t b n nb tb ab db bb x hW hd ht hn hb hA hwb hx hbb hxl bN bT bA bD bB nx nbb;rw[← hL.out] at hsq;obtain⟨r,hr⟩:∃ q9,Hid (q9=W.rad):=⟨_,Lib.hid rfl⟩;rw[← hr.out] at cr hrb hLk;replace hrb:=Lib.hid hrb;replace hsq:=Lib.hid hsq;obtain⟨G,hG⟩:∃ G:Prop,Hid (G=(kk=.hit)):=⟨_,Lib.hid rfl⟩;clear hkk hr hW hd ht hn hb hL;obtain⟨w1,hw1,D,F,B,R,K,hz⟩:=box4 w 27 #[.slice A W.bs.length c,W.home] 31 d 33 b 107 #[(0:Int),(0:Int)];refine calls_of_wp_m Tryz.func48 rfl ?_;simp only[Tryz.ntmps48,List.size_toArray,List.length_cons,List.length_nil,Nat.reduceAdd,Nat.reduceSub,Array.replicate_succ,Array.replicate_zero,List.push_toArray,List.append_toArray,List.nil_append,List.cons_append];go_wp2_with fail
 rw[← hw1];clear hw1;refine mK (cr _ (hA.kpN K)) fun w2 k=>?_;replace D:=D.kpN k;replace F:=F.kpN k;replace B:=B.kpN k;replace R:=R.kpN k;replace K:=K.thenN k oM;have hzk:=k.size;clear k;clear cr;have cD:=D.cell;go_upto_region 2 with(fail)
 clear cD;obtain⟨w3,hw3⟩:∃ w3,w3=(w2.alloc (.cells #[r,(1:Int),.int .i64 (-1),.nilFunc] 177)).alloc (.cells #[.pointer (some ⟨w2.heap.size,0,none⟩)] 174):=⟨_,rfl⟩;have k3:Kp w2.heap.size none w2 w3:=by rw[hw3];exact Kp.new2 _ _ _
 have F0:Blk w3 w2.heap.size 177 #[r,(1:Int),.int .i64 (-1),.nilFunc]:=by rw[hw3];exact(Blk.new _ _ _).alloc _
 have Pb:Blk w3 (w2.heap.size+1) 174 #[.pointer (some ⟨w2.heap.size,0,none⟩)]:=by rw[hw3];exact Blk.newAt _ _ _ (by simp)
 have hz3:w3.heap.size=w2.heap.size+2:=by rw[hw3];simp
 rw[← hw3];replace D:=D.kpN k3;replace F:=F.kpN k3;replace B:=B.kpN k3;replace R:=R.kpN k3;replace K:=K.thenN k3 oM;obtain⟨fb,hfb⟩:∃ q9,q9=w2.heap.size:=⟨_,rfl⟩;have hfw:w.heap.size+4≤fb:=by omega
 rw[← hfb] at F0 Pb hz3 ⊢;clear hw3 k3 hzk hz hfb;obtain⟨w4,hw4,Fb,kst,hz4⟩:=F0.sto1_3 (.func (.func 94) #[.pointer (some ⟨fb,0,none⟩)] #[]);simp only[sbt,sc0,scs] at Fb;have D4:=D.kq kst;have F4:=F.kq kst;have B4:=B.kq kst;have R4:=R.kq kst;have Pb4:=Pb.kq kst;have K4:=K.thenOwn kst (Nat.le_refl _) oM;have cP:=Pb.cell;have cF:=F0.cell;have fF:=F0.frozen;have cD:=D4.cell;have cE:=F4.cell;have cB:=B4.cell;rw[hw4] at cD cE cB;have hfl:=F0.lt;go_wp2_with fail
 rw[← hw4];clear cP cF fF cD cE cB D F B R Pb K kst hw4 F0;rw[hz3] at hz4;refine(meet_passages_any A c W d t b n _).mono ?_;rintro e w5 ⟨rfl,pD,pF,pT,pB,pN,hz5,k⟩;replace R4:=R4.kpN k;replace Pb4:=Pb4.kpN k;replace Fb:=Fb.kpN k;replace K4:=K4.tN k;rw[hz4] at pD pF pT pB pN hz5 ⊢;clear k D4 F4 B4 hz4 hz3;go_wp2_with fail
 have hseq:=hsq.out w w5 (fb+2+4) (fb+2+2) (fb+2) (fb+2+1) (fb+2+3) fb hA K4 oM oM oM pN pT pD pF pB ⟨by omega,by omega,by omega,by omega,by omega⟩ ⟨by omega,by omega,by omega,by omega⟩;have hB5:=pB.lt;have hF5:=Fb.lt
 refine wp_rangeFunc_z (gf:=145) (lb:=#[.pointer (some ⟨fb+2+4,0,none⟩),.pointer (some ⟨fb+2+2,0,none⟩),.pointer (some ⟨fb+2,0,none⟩),.pointer (some ⟨fb+2+1,0,none⟩),.pointer (some ⟨fb+2+3,0,none⟩)]) rfl (enters_of Tryz.func145 (by kernel_rfl) rfl) hseq (Nat.le_refl _) (fun w' k=>Kz.ofN k) (by rintro p v W rfl;rfl) (fun k hk=>⟨by rw[hk];exact hB5,by omega⟩) (fun k hk=>by rw[hk];exact hF5)
  (FdC r fb) (FdX r fb G) (FdC.abide r fb) (FdX.abide r fb G) (FdC.put _ _ _) (fun c=>FdX.put _ _ _ c _) ⟨by simp,⟨-1,Fb⟩,by omega⟩ ?round ?done ?stop
 case round=>
  rintro l S9 pre p rest vals W7 K1 hxs hC rfl hl hsz hkz hS hK;have hl1:w5.heap.size<l:=by omega
  have hl2:l<W7.heap.size:=by omega
  clear hl;obtain⟨k0,hk0⟩:∃ q9,Hid (q9=pre.foldl (stepF r) .miss):=⟨_,Lib.hid rfl⟩;have hpsm:=hsm.out p (by rw[hxs];simp);have hs1:Hid ((pre++[p]).foldl (stepF r) .miss=stepF r k0 p):=Lib.hid (by rw[List.foldl_append,hk0.out];rfl)
  have hgo:stepF r k0 p=.hit→G:=fun e=>by
   rw[hG.out,← hLk.out,hxs,List.foldl_append,← hk0.out,List.foldl_cons,e];exact foldF_hit r rest
  have cc:=fun pn w F=>finder_step_any p r fb k0 pn w hpsm (by have:=hrb.out;omega) F;have eg:=fin_enters k0;obtain⟨k1,hk1⟩:∃ q9,Hid (q9=stepF r k0 p):=⟨_,Lib.hid rfl⟩;rw[← hk1.out] at cc hgo;replace hgo:=Lib.hid hgo;clear hxs hC hpsm;have e0:(#[29].zip #[.agg #[p.i,p.a.x.lo,p.a.x.hi,p.a.y.lo,p.a.y.hi,p.b.x.lo,p.b.x.hi,p.b.y.lo,p.b.y.hi,.bool p.lost]]:Array (Nat × Value))=#[(29,.agg #[p.i,p.a.x.lo,p.a.x.hi,p.a.y.lo,p.a.y.hi,p.b.x.lo,p.b.x.hi,p.b.y.lo,p.b.y.hi,.bool p.lost])]:=by simp
  rw[e0];clear e0;simp only[List.foldl_toArray',List.foldl_cons,List.foldl_nil,sbt,sc0,scs];gi_wp2_with fail
  refine hK _ _ (Kp.new1 _ _) (fun W8 kr hsz8 hrec hC8=>?_);have hzz:=hkz.size;have Z8:=(Blk.new W7 182 #[p.i,p.a.x.lo,p.a.x.hi,p.a.y.lo,p.a.y.hi,p.b.x.lo,p.b.x.hi,p.b.y.lo,p.b.y.hi,.bool p.lost]).kp kr (by simp) oN;have P8:=((Pb4.kz hkz Pb4.lt (by rintro (e|e)<;>omega)).kpN (Kp.new1 W7 (.cells #[p.i,p.a.x.lo,p.a.x.hi,p.a.y.lo,p.a.y.hi,p.b.x.lo,p.b.x.hi,p.b.y.lo,p.b.y.hi,.bool p.lost] 182))).kp kr (by have:=Pb4.lt;simp;omega) (sne (by have:=Pb4.lt;omega));obtain⟨-,⟨pn,F8⟩,hSx⟩:=hC8;rw[← hk0.out] at F8;unfold finC at F8;have hFb:=F8.lt;have hf7:fb<W7.heap.size:=by omega
  have hPl:fb+1<W7.heap.size:=by have:=Pb4.lt;omega
  clear hK K1 hrec hkz hsz K4 hseq pD pF pT pB pN Fb R4 Pb4 hS;obtain⟨y8,hy8⟩:∃ q9,q9=W7.heap.size:=⟨_,rfl⟩;rw[← hy8] at Z8 hf7 hPl ⊢;clear hy8 kr hsz8 hzz;have K:=Kp.refl W8.heap.size none W8;gi_wp2_with fail
  obtain⟨S,hS0,hS1⟩:=cls_of2 (P:=fun w'=>Blk w' _ _ _∧Blk w' _ _ _∧Blk w' _ _ _∧Kp _ none _ w') W8 ⟨P8,Z8,F8,K⟩;try dsimp only at hS0
  have cP:=fun (x:Ev (S 0)) i=>((hS0 _).1 x.h).1.cell i;have cZ:=fun (x:Ev (S 0)) i=>((hS0 _).1 x.h).2.1.cell i;have cF:=fun (x:Ev (S 0)) i=>((hS0 _).1 x.h).2.2.1.cell i;replace P8:=P8.drew;replace Z8:=Z8.drew;replace F8:=F8.drew;replace K:=K.drew;have hevT:=ev_true;refine wpIn_region_ord l S [(4,1),(0,2),(1,0),(2,0),(3,1),(5,3)] [5] (by kernel_rfl) (by kernel_rfl) (by kernel_rfl) ((hS0 _).2 ⟨P8,Z8,F8,K⟩) ?_;intro _hev;refine oX ?_;refine oL ?_;intro Kc hKc;have cP9:=P8.cell;go_step;refine hKc _ _ ((hS0 _).2 ⟨P8,Z8,F8,K⟩) ?_;clear hKc Kc cP9;refine oX ?_;refine oA ?_;intro Kc hKc;go_step;refine(cc pn _ F8).mono ?_;rintro e W9 ⟨pn',rfl,F9,k9⟩;refine hKc _ _ ((hS1 _).2 trivial) ?_;clear hKc Kc;change wpOrd _ _ _ _ _ 1 _ _;refine wpOrd_nil ?_;clear hevT _hev;have P9:=P8.kq k9;have K9:=(K.wide (some fb)).then_ k9 (Nat.le_refl _);clear cP cZ cF hS0 hS1 S F8 Z8 P8 k9 K cc eg;have cP:=P9.cell;have F10:=F9;unfold finC at F10;have hkz9:Kz W8.heap.size (fun k=>k=fb) W8 W9:=Kz.of K9 (fun r e _=>by injection e with e;exact e.symm);have hs2:Hid ((pre++[p]).foldl (stepF r) .miss=k1):=Lib.hid (by rw[hs1.out,hk1.out]);clear hs1 hk1 hk0 K9;have hC9:k1≠.hit→FdC r fb S9 (pre++[p]) W9:=fun hne=>⟨by rw[hs2.out];exact hne,⟨pn',by rw[hs2.out];exact F9⟩,hSx⟩;have hX9:k1=.hit→FdX r fb G (.exit 0) S9 (pre++[p]) W9:=fun e=>⟨rfl,hgo.out e,⟨pn',by rw[← e];exact F9⟩,hSx⟩;replace hC9:=Lib.hid hC9;replace hX9:=Lib.hid hX9;clear hgo hs2 F9;cases k1
  ·
   simp only[fkI] at F10;have cF:=F10.cell;gi_wp2
   exact⟨hkz9,hC9.out (by simp)⟩
  ·
   simp only[fkI] at F10;have cF:=F10.cell;gi_wp2
   exact⟨hkz9,hC9.out (by simp)⟩
  ·
   simp only[fkI] at F10;have cF:=F10.cell;gi_wp2
   exact⟨hkz9,hX9.out (by simp)⟩
 case done=>
  intro W hC hkz hD hsz;obtain⟨-,⟨pn,F2⟩,-⟩:=hC;rw[hLk.out] at F2;have K2:Kp w.heap.size none w W:=K4.trans ((hkz.less (by have:=K4.size;omega) (fun k hk e=>by omega):Kz w.heap.size (fun _=>False) w5 W).kpN);have hKs:=K4.size;have P2:=Pb4.kz hkz Pb4.lt (by rintro (e|e)<;>omega);have R2:=R4.kz hkz R4.lt (by rintro (e|e)<;>omega);clear hkz Pb4 R4 K4 hseq pD pF pT pB pN Fb hB5 hF5;have cP:=P2.cell;have cF:=F2.cell;have cR:=R2.cell;have fR:=R2.frozen;unfold finC at cF;replace hD:=Lib.hid hD;obtain⟨W6,hwn,R5,kst,hzst⟩:=R2.st2 (.int .i64 (fkI kk)) (.int .i64 pn);simp only[sbt,sc0,scs] at R5;dsimp only;go_wp2_with fail
  rw[← hwn];have D5:W6.heap[w5.heap.size]?=some (.deferred (some [])):=(kst.block _ oM oN).trans hD.out;have K5:=K2.thenOwn kst oM oM;have R6:=R5.put_ (.deferred none) D5 rfl;clear hwn cR fR;have cR:=R6.cell;exact postM_mark (v:=.agg #[(fkI kk),pn]) rfl D5 (by simp[results,Tryz.results48,go_sem,cR]) ⟨pn,by rfl,mark_kp K5 oM⟩
 case stop=>
  rintro c pre W ⟨rfl,hg,⟨pn,F2⟩,-⟩ hkz hD hsz;have hkk:Hid (kk=.hit):=Lib.hid (by rw[← hG.out];exact hg);have K2:Kp w.heap.size none w W:=K4.trans ((hkz.less (by have:=K4.size;omega) (fun k hk e=>by omega):Kz w.heap.size (fun _=>False) w5 W).kpN);have hKs:=K4.size;have P2:=Pb4.kz hkz Pb4.lt (by rintro (e|e)<;>omega);have R2:=R4.kz hkz R4.lt (by rintro (e|e)<;>omega);clear hkz Pb4 R4 K4 hseq pD pF pT pB pN Fb hB5 hF5;have cP:=P2.cell;have cF:=F2.cell;have cR:=R2.cell;have fR:=R2.frozen;unfold finC at cF;replace hD:=Lib.hid hD;obtain⟨W6,hwn,R5,kst,hzst⟩:=R2.st2 (.int .i64 (fkI .hit)) (.int .i64 pn);simp only[sbt,sc0,scs] at R5;refine wpIn_wide.2 ?_;dsimp only;go_wp2_with fail
  rw[← hwn];have D5:W6.heap[w5.heap.size]?=some (.deferred (some [])):=(kst.block _ oM oN).trans hD.out;have K5:=K2.thenOwn kst oM oM;have R6:=R5.put_ (.deferred none) D5 rfl;clear hwn cR fR;have cR:=R6.cell;exact postM_mark (v:=.agg #[(fkI .hit),pn]) rfl D5 (by simp[results,Tryz.results48,go_sem,cR]) ⟨pn,by rw[hkk.out],mark_kp K5 oM⟩
end Go.Proofs.YtdhiappifnflpaaGreat
namespace Go.Proofs.YtdhiappifnflpaaGreat
open Go.RowKit
theorem Blk.sto1_0 {w:World} {r:Nat} {T:TypeId} {cs:Array Value} (h:Blk w r T cs) (x0:Value):∃ w',w'=(w.setCell ⟨r,0,none⟩ x0)∧Blk w' r T (cs.setIfInBounds 0 x0)∧Kp w.heap.size (some r) w w'∧w'.heap.size=w.heap.size:=
 ⟨_,rfl,h.set_ _ x0,(Kp.refl _ (some r) w).setRow (p:=⟨r,_,none⟩) rfl _,by simp[World.setCell]⟩
theorem Blk.sto1_1 {w:World} {r:Nat} {T:TypeId} {cs:Array Value} (h:Blk w r T cs) (x0:Value):∃ w',w'=(w.setCell ⟨r,1,none⟩ x0)∧Blk w' r T (cs.setIfInBounds 1 x0)∧Kp w.heap.size (some r) w w'∧w'.heap.size=w.heap.size:=
 ⟨_,rfl,h.set_ _ x0,(Kp.refl _ (some r) w).setRow (p:=⟨r,_,none⟩) rfl _,by simp[World.setCell]⟩
theorem Blk.sto1_2 {w:World} {r:Nat} {T:TypeId} {cs:Array Value} (h:Blk w r T cs) (x0:Value):∃ w',w'=(w.setCell ⟨r,2,none⟩ x0)∧Blk w' r T (cs.setIfInBounds 2 x0)∧Kp w.heap.size (some r) w w'∧w'.heap.size=w.heap.size:=
 ⟨_,rfl,h.set_ _ x0,(Kp.refl _ (some r) w).setRow (p:=⟨r,_,none⟩) rfl _,by simp[World.setCell]⟩
def OdAt (W:Wd) (d:Dr) (n:Nat) (t:Int) (ps:List (Bx × Int)) (A:Option Addr) (c:Nat) (w:World) (cb:Nat) (v:Value) (wr:World):Prop:=
 ∃ i:Nat,v=.int .i64 i∧i≤ps.length∧Blk wr cb 60 #[(sumIf (isHit W d n t) (ps.take i)),(sumIf (notMiss W d n t) (ps.take i)),(sumIf anyB (ps.take i))] ∧
  Blk wr w.heap.size 27 #[.slice A W.bs.length c,W.home]∧Blk wr (w.heap.size+1) 31 d∧Blk wr (w.heap.size+2) 60 #[(0:Int),(0:Int),(0:Int)]∧Kp w.heap.size none w wr
end Go.Proofs.YtdhiappifnflpaaGreat
