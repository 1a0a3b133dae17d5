/- Orbits: the walks of orbit: filter, checkSights, Filter. A range over a function whose iterator writes no cells of its own: what the caller knows need only abide new blocks. Plain theory, no program. Orbits: the walks of orbit: checkSights, Filter, and the sets of an update, one by one. TopNarrows: the walk. -/
import Derived.Test.YtdhiappifnflpaaGreatM51
import Derived.Test.YtdhiappifnflpaaGreatM21
import Derived.Test.YtdhiappifnflpaaGreatM27
import Derived.RangeFuncLeaves
import Derived.RangeFuncBound
import Derived.RangeFuncCalls
import Derived.RangeFuncBox
import Derived.OwnWalkIn
import Derived.TacticsInMore
import Derived.LoopNIn
import Derived.LoopIn
import Derived.Shelf.Abstract
import Derived.Shelf.RegionOpen
import Derived.Test.YtdhiappifnflpaaGreatM47
import Derived.Test.YtdhiappifnflpaaGreatM48
import Derived.Test.YtdhiappifnflpaaGreatM35
import Derived.Test.YtdhiappifnflpaaGreatM33
import Derived.Test.YtdhiappifnflpaaGreatVv
namespace Go.Proofs.YtdhiappifnflpaaGreat
open Go.RowKit
theorem Bx.place_bd {b:Bx} (h:okBx b=true):b.place.bd 33554432:=by
 obtain⟨⟨o1,o2,o3,o4⟩,b1,b2,b3,b4,b5,b6,b7,b8⟩:=(okBx_iff b).1 h;unfold Ar.bd Sp.bd Bx.place;simp only;omega
set_option maxRecDepth 100000 in
set_option maxHeartbeats 1000000 in
theorem filter11_pred (A B C:Option Addr) (c e f:Nat) (S:Sky) (t:Int) (b:Bx) (tb sb bb:Nat) (xs:List Sg) (w:World) (hS:S.ok) (hA:SkyAt none w A B C S) (hx:∀ x∈xs,S.okSg x) (hb:okBx b=true)
  (T:Blk w tb 2 #[.int .i64 t]) (D:Blk w sb 43 #[.slice A S.W.bs.length c,.int .i64 S.W.home,.slice B S.st.length e,.slice C S.ct.length f]) (G:Blk w bb 33 #[.int .i64 b.x.lo,.int .i64 b.x.hi,.int .i64 b.y.lo,.int .i64 b.y.hi,.int .i64 b.u.lo,.int .i64 b.u.hi,.int .i64 b.v.lo,.int .i64 b.v.hi]) :
  PredK 89 #[.pointer (some ⟨tb,0,none⟩),.pointer (some ⟨sb,0,none⟩),.pointer (some ⟨bb,0,none⟩)] oneSight (fun x=>decide (x.tick=t)&&(S.look x).excl b.place) xs w:=fun W x hm hk=>by
 have cx:=fun w h=>sky_Excludes_any A B C c e f S x b.place w hS h (hx x hm) (Bx.place_bd hb);have T1:=T.kpN hk;have D1:=D.kpN hk;have G1:=G.kpN hk;have hA1:=hA.kpN hk;unfold oneSight;change Calls Tryz.prog 89 #[.agg #[.int .i64 x.kind,.int .i64 x.stn,.int .i64 x.cat,.int .i64 x.tick,.int .i64 x.dx,.int .i64 x.dy,.int .i64 x.err,.int .i64 x.lo,.int .i64 x.hi],.pointer (some ⟨tb,0,none⟩),.pointer (some ⟨sb,0,none⟩),.pointer (some ⟨bb,0,none⟩)] W fun e9 w'=>e9=.returned (.bool (decide (x.tick=t)&&(S.look x).excl b.place))∧Kp W.heap.size none W w';simp only[Bx.place] at cx ⊢;generalize (S.look x).excl ⟨b.x,b.y⟩=r at *;clear hS hx hb hm hk T D G hA;obtain⟨w1,hw1,X,K,hz⟩:=box1 W 90 #[.int .i64 x.kind,.int .i64 x.stn,.int .i64 x.cat,.int .i64 x.tick,.int .i64 x.dx,.int .i64 x.dy,.int .i64 x.err,.int .i64 x.lo,.int .i64 x.hi];have T:=T1.kpN K;have D:=D1.kpN K;have G:=G1.kpN K;have hA:=hA1.kpN K;clear T1 D1 G1 hA1;have cT:=T.cell;have cD:=D.cell;have cG:=G.cell;have cX:=X.cell;rw[hw1] at cT cD cG cX;by_cases h:x.tick=t
 ·
  have n1:decide (x.tick=t)=true:=decide_eq_true h;have n2:(x.tick==t)=true:=by simp[h]
  clear h;go_enter Tryz.func89,Tryz.ntmps89
  go_wp2_with fail
  rw[← hw1];refine(cx _ hA).mono ?_;rintro e9 w2 ⟨rfl,k⟩;clear cT cD cG cX hw1;go_wp2
  go_ret
  exact⟨by rw[n1];rfl,K.tN k⟩
 ·
  have n1:decide (x.tick=t)=false:=decide_eq_false h;have n2:(x.tick==t)=false:=by simp[h]
  clear h;go_enter Tryz.func89,Tryz.ntmps89
  go_wp2
  go_ret
  exact⟨by rw[n1];rfl,by rw[← hw1];exact K⟩
set_option maxRecDepth 100000 in
set_option maxHeartbeats 1000000 in
theorem filter1_pred (A B C:Option Addr) (c e f:Nat) (S:Sky) (t:Int) (G:Option Addr) (n:Nat) (gs:List Sg) (tb sb gb:Nat) (xs:List Bx) (w:World) (hS:S.ok) (hA:SkyAt none w A B C S) (hg:Rd none w 9 encSg G gs.length gs) (hgl:gs.length≤1000) (hx:∀ x∈gs,S.okSg x) (hb:∀ b∈xs,okBx b=true)
  (T:Blk w tb 2 #[.int .i64 t]) (D:Blk w sb 43 #[.slice A S.W.bs.length c,.int .i64 S.W.home,.slice B S.st.length e,.slice C S.ct.length f]) (H:Blk w gb 44 #[.slice G gs.length n]) :
  PredK 87 #[.pointer (some ⟨gb,0,none⟩),.pointer (some ⟨tb,0,none⟩),.pointer (some ⟨sb,0,none⟩)] oneBox (fun b=>S.exB gs t b) xs w:=fun W b hm hk=>by
 have hbb:=hb b hm;have K:=Kp.new1 W (.cells #[.int .i64 b.x.lo,.int .i64 b.x.hi,.int .i64 b.y.lo,.int .i64 b.y.hi,.int .i64 b.u.lo,.int .i64 b.u.hi,.int .i64 b.v.lo,.int .i64 b.v.hi] 33);have X:=Blk.new W 33 #[.int .i64 b.x.lo,.int .i64 b.x.hi,.int .i64 b.y.lo,.int .i64 b.y.hi,.int .i64 b.u.lo,.int .i64 b.u.hi,.int .i64 b.v.lo,.int .i64 b.v.hi];have T1:=(T.kpN hk).kpN K;have D1:=(D.kpN hk).kpN K;have H1:=(H.kpN hk).kpN K;have hA1:=(hA.kpN hk).kpN K;have hg1:=(hg.kpN hk).kpN K;have cc:=containsSight_any 89 #[.pointer (some ⟨tb,0,none⟩),.pointer (some ⟨sb,0,none⟩),.pointer (some ⟨W.heap.size,0,none⟩)] (fun x=>decide (x.tick=t)&&(S.look x).excl b.place) (enters_of Tryz.func89 (by kernel_rfl) rfl) G n gs _ (filter11_pred A B C c e f S t b tb sb W.heap.size gs _ hS hA1 hx hbb T1 D1 X) hg1 (by omega);unfold oneBox;change Calls Tryz.prog 87 #[.agg #[.int .i64 b.x.lo,.int .i64 b.x.hi,.int .i64 b.y.lo,.int .i64 b.y.hi,.int .i64 b.u.lo,.int .i64 b.u.hi,.int .i64 b.v.lo,.int .i64 b.v.hi],.pointer (some ⟨gb,0,none⟩),.pointer (some ⟨tb,0,none⟩),.pointer (some ⟨sb,0,none⟩)] W fun e9 w'=>e9=.returned (.bool (gs.any fun x=>decide (x.tick=t)&&(S.look x).excl b.place))∧Kp W.heap.size none W w';generalize (gs.any fun x=>decide (x.tick=t)&&(S.look x).excl b.place)=r at *;clear hS hx hb hm hk T D H hA hbb hgl;have cH:=H1.cell;go_enter Tryz.func87,Tryz.ntmps87
 go_wp2_with fail
 refine cc.mono ?_;rintro e9 w2 ⟨rfl,k⟩;clear cH;go_wp2
 go_ret
 exact⟨rfl,K.tN k⟩
def FltPost (m:List Bx) (w:World) (e:Ending) (w':World):Prop:=∃ A cap,e=.returned (.slice A m.length cap)∧Rd none w' 8 encBx A m.length m∧(∀ ad,A=some ad→w.heap.size≤ad.block)∧Kp w.heap.size none w w'
set_option maxRecDepth 100000 in
set_option maxHeartbeats 2000000 in
theorem orbit_filter_any (A B C:Option Addr) (c e f:Nat) (S:Sky) (t:Int) (G:Option Addr) (n:Nat) (gs:List Sg) (L:Option Addr) (m:Nat) (l:List Bx) (w:World) (hS:S.ok) (hA:SkyAt none w A B C S) (hg:Rd none w 9 encSg G gs.length gs) (hgl:gs.length≤1000) (hx:∀ x∈gs,S.okSg x) (hb:∀ b∈l,okBx b=true)
  (hr:Rd none w 8 encBx L l.length l) (hl:l.length≤1000) :
  Calls Tryz.prog 39 #[.agg #[.slice A S.W.bs.length c,.int .i64 S.W.home,.slice B S.st.length e,.slice C S.ct.length f],.int .i64 t,.slice L l.length m,.slice G gs.length n] w (FltPost (l.filter fun b=>!S.exB gs t b) w):=by
 obtain⟨w1,hw1,D,T,H,K,hz⟩:=box3 w 43 #[.slice A S.W.bs.length c,.int .i64 S.W.home,.slice B S.st.length e,.slice C S.ct.length f] 2 #[.int .i64 t] 44 #[.slice G gs.length n];go_enter Tryz.func39,Tryz.ntmps39
 go_wp2_with fail
 rw[← hw1];clear hw1;have hp:=filter1_pred A B C c e f S t G n gs (w.heap.size+1) w.heap.size (w.heap.size+2) l w1 hS (hA.kpN K) (hg.kpN K) hgl hx hb T D H;refine(cloneBox_any L m l _ (hr.kpN K) (by omega)).mono ?_;rintro e9 w2 ⟨v,rfl,own,k⟩
 have hd:=deleteBox_any 87 #[.pointer (some ⟨w.heap.size+2,0,none⟩),.pointer (some ⟨w.heap.size+1,0,none⟩),.pointer (some ⟨w.heap.size,0,none⟩)] (fun b=>S.exB gs t b) (enters_of Tryz.func87 (by kernel_rfl) rfl) w1.heap.size v l w2
  (fun W x hx' hk=>hp W x hx' (k.trans hk)) own k.size (by omega)
 replace K:=K.tN k;clear hS hA hg hx hb hr hp own D T H;clear k;go_wp2_with fail
 refine hd.mono ?_;rintro e9 w3 ⟨A2,cap2,rfl,hr2,k2,hfr⟩;replace hfr:=Lib.hid hfr;go_wp2
 go_ret
 exact⟨A2,cap2,rfl,hr2,fun ad e=>by have:=hfr.out ad e;omega,K.trans (k2.mono (by omega))⟩
def AbideE {β:Type} (J:β→World→Prop):Prop:=∀ s W W',J s W→Kp W.heap.size none W W'→J s W'
def PutE {β:Type} (r:Nat) (J:β→World→Prop):Prop:=∀ s W l o o',l=r→J s W→W.heap[l]?=some o→o.isCells=false→J s (W.putObj l o')
def SeqE {α:Type} (P:Program) (gf:Nat) (lb:Array Value) (Hd:α→Array Value→World→Prop) (xs:List α) (X:Nat→Prop) (M:Nat) (Pre:World→Prop):Prop:=
 ∀ (l:Nat) (J Jx:List α→World→Prop) (W:World),M≤l→AbideE J→AbideE Jx →
  (∀ pre x rest vals W1,xs=pre++x::rest→J pre W1→Hd x vals W1→YieldAt Fence.wide 0 P l vals W1 fun e W'=>
   (e=.returned (.bool true)∧J (pre++[x]) W'∧Kz W1.heap.size X W1 W')∨(e=.returned (.bool false)∧Jx (pre++[x]) W'∧Kz W1.heap.size (fun k=>X k∨k=l) W1 W')) →
  J [] W→Pre W →
  Calls P gf (#[.func (.yield l) #[] #[]]++lb) W fun e W'=>(∃ v,e=.returned v)∧(J xs W'∨∃ pre,Jx pre W')
def roundE {α:Type} (X:Nat→Prop) (C:List α→World→Prop) (Cx:Code→List α→World→Prop) (xs:List α) (W:World):Exit→Act→World→Prop
 | .normal,_,W'=>Kz W.heap.size X W W'∧C xs W'
 | .ret,_,W'=>Kz W.heap.size X W W'∧Cx .ret xs W'
 | .exit id,_,W'=>Kz W.heap.size X W W'∧Cx (.exit id) xs W'
 | .goto t,_,W'=>Kz W.heap.size X W W'∧Cx (.goto t) xs W'
 | .panic _,_,_=>False
 | .outgrown,_,_=>False
section
variable {P:Program} {α:Type} {g:Operand} {ps:Array Tmp} {assign body:Code} {Q:Exit→Act→World→Prop} {a:Act} {w:World} {gf:Nat} {lb:Array Value}
 {Hd:α→Array Value→World→Prop} {xs:List α} {X:Nat→Prop} {Pre:World→Prop}
end
end Go.Proofs.YtdhiappifnflpaaGreat
namespace Go.Proofs.YtdhiappifnflpaaGreat
open Go.RowKit
attribute [local go_sem] Oper.semAt_some
theorem Rd.sg9 {w:World} {A:Option Addr} {l:List Sg} (h:Rd none w 9 encSg A l.length l) {i:Nat} (hi:i<l.length):∃ b o,A=some ⟨b,o,none⟩∧b<w.heap.size ∧
  ∀ j u,(encSg l[i])[j]?=some u→w.cell? ⟨b,o+i * 9+j,none⟩=some u:=by
 obtain⟨b,o,rfl,hb,-,hc⟩:=h.at_ (by omega);exact⟨b,o,rfl,hb,fun j u hj=>by rw[Nat.add_assoc];exact hc i hi j u hj⟩
set_option maxHeartbeats 2000000 in
theorem orbit_checkSights_any (A B C:Option Addr) (c e f:Nat) (S:Sky) (G:Option Addr) (n:Nat) (gs:List Sg) (w:World) (hS:S.ok) (hA:SkyAt none w A B C S) (hg:Rd none w 9 encSg G gs.length gs) (hgl:gs.length≤64) (hx:∀ x∈gs,S.okSg x) :
  Calls Tryz.prog 38 #[.agg #[.slice A S.W.bs.length c,.int .i64 S.W.home,.slice B S.st.length e,.slice C S.ct.length f],.slice G gs.length n] w fun e9 w'=>e9=.returned (.int .i64 0)∧Kp w.heap.size none w w':=by
 have n1:¬ (64:Int)<(gs.length:Int):=by omega
 have ck:∀ x,S.okSg x→∀ w,SkyAt none w A B C S→Calls Tryz.prog 78 #[.agg #[.slice A S.W.bs.length c,.int .i64 S.W.home,.slice B S.st.length e,.slice C S.ct.length f],.agg #[.int .i64 x.kind,.int .i64 x.stn,.int .i64 x.cat,.int .i64 x.tick,.int .i64 x.dx,.int .i64 x.dy,.int .i64 x.err,.int .i64 x.lo,.int .i64 x.hi]] w fun e9 w'=>e9=.returned (.int .i64 0)∧Kp w.heap.size none w w':=fun x hx w h=>(sky_CheckSight_any A B C c e f S x w hS h).mono fun e9 w' ⟨⟨v,h1,h2⟩,h3⟩=>⟨by rw[h1,h2.2 hx],h3⟩;obtain⟨w1,hw1,D,K,hz⟩:=box1 w 43 #[.slice A S.W.bs.length c,.int .i64 S.W.home,.slice B S.st.length e,.slice C S.ct.length f];clear hS;go_enter Tryz.func38,Tryz.ntmps38
 go_wp2_with fail
 rw[← hw1];clear hw1;go_loopw [13] (fun v wr=>∃ i:Nat,v=.int .i64 i∧i≤gs.length∧Blk wr w.heap.size 43 #[.slice A S.W.bs.length c,.int .i64 S.W.home,.slice B S.st.length e,.slice C S.ct.length f]∧Kp w.heap.size none w wr) (fun v _=>(gs.length:Int).toNat-(intOf v).toNat)
 case atStart=>exact⟨0,rfl,Nat.zero_le _,D,K⟩
 case round=>
  obtain⟨i,rfl,hi,D1,K1⟩:=hrel;clear D K;have D:=D1;have K:=K1;clear D1 K1;by_cases h:i<gs.length
  ·
   obtain⟨b,o,rfl,hlt,hc⟩:=(hg.kpN K).sg9 h;have c0:wr.cell? ⟨b,o+i * 9+0,none⟩=some (.int .i64 gs[i].kind):=hc 0 _ rfl;have c1:wr.cell? ⟨b,o+i * 9+1,none⟩=some (.int .i64 gs[i].stn):=hc 1 _ rfl;have c2:wr.cell? ⟨b,o+i * 9+2,none⟩=some (.int .i64 gs[i].cat):=hc 2 _ rfl;have c3:wr.cell? ⟨b,o+i * 9+3,none⟩=some (.int .i64 gs[i].tick):=hc 3 _ rfl;have c4:wr.cell? ⟨b,o+i * 9+4,none⟩=some (.int .i64 gs[i].dx):=hc 4 _ rfl;have c5:wr.cell? ⟨b,o+i * 9+5,none⟩=some (.int .i64 gs[i].dy):=hc 5 _ rfl;have c6:wr.cell? ⟨b,o+i * 9+6,none⟩=some (.int .i64 gs[i].err):=hc 6 _ rfl;have c7:wr.cell? ⟨b,o+i * 9+7,none⟩=some (.int .i64 gs[i].lo):=hc 7 _ rfl;have c8:wr.cell? ⟨b,o+i * 9+8,none⟩=some (.int .i64 gs[i].hi):=hc 8 _ rfl;simp only[Nat.add_zero] at c0;have hii:(i:Int)<(gs.length:Int):=by omega
   have hi0:(0:Int)≤(i:Int):=by omega
   have hm:(gs.length:Int).toNat-((i+1:Nat):Int).toNat<(gs.length:Int).toNat-(i:Int).toNat:=by omega
   replace hm:=Lib.hid hm;have hcx:=ck _ (hx _ (List.getElem_mem h));generalize gs[i]=x at *;clear hc hx ck hg;have k1:=Kp.new1 wr (.cells #[.int .i64 x.kind,.int .i64 x.stn,.int .i64 x.cat,.int .i64 x.tick,.int .i64 x.dx,.int .i64 x.dy,.int .i64 x.err,.int .i64 x.lo,.int .i64 x.hi] 90);have D1:=D.kpN k1;have K1:=K.tN k1;have cD:=D1.cell;go_wp2_with fail
   refine(hcx _ (hA.kpN K1)).mono ?_;rintro e9 w2 ⟨rfl,k⟩;replace D:=D1.kpN k;replace K:=K1.tN k;clear k k1 D1 K1 cD c0 c1 c2 c3 c4 c5 c6 c7 c8 hcx;replace h:=Lib.hid h;go_wp2
   go_roundw
   case rel=>exact⟨i+1,by congr 1,h.out,D,K⟩
   case measure=>exact hm.out
  ·
   obtain rfl:i=gs.length:=by omega
   clear hx ck hg;have cD:=D.cell;have fD:=D.frozen;go_wp2_with fail
   clear cD fD;go_ret
   exact⟨rfl,K⟩
def FilPost (m:List Bx) (w:World) (e:Ending) (w':World):Prop:=∃ A cap,e=.returned (.tuple #[.slice A m.length cap,.int .i64 0])∧Rd none w' 8 encBx A m.length m∧(∀ ad,A=some ad→w.heap.size≤ad.block)∧Kp w.heap.size none w w'
set_option maxHeartbeats 1000000 in
theorem orbit_Filter_any (A B C:Option Addr) (c e f:Nat) (S:Sky) (t:Int) (G:Option Addr) (n:Nat) (gs:List Sg) (L:Option Addr) (m:Nat) (l:List Bx) (w:World) (hS:S.ok) (hA:SkyAt none w A B C S) (ht:0≤t∧t≤1073741824) (hg:Rd none w 9 encSg G gs.length gs) (hgl:gs.length≤64) (hx:∀ x∈gs,S.okSg x) (hb:∀ b∈l,okBx b=true)
  (hr:Rd none w 8 encBx L l.length l) (hl:l.length≤512) :
  Calls Tryz.prog 12 #[.agg #[.slice A S.W.bs.length c,.int .i64 S.W.home,.slice B S.st.length e,.slice C S.ct.length f],.int .i64 t,.slice L l.length m,.slice G gs.length n] w (FilPost (l.filter fun b=>!S.exB gs t b) w):=by
 have c1:=fun w h=>sky_Check_any A B C c e f S w hS h;have c2:=fun w=>orbit_within_any t 0 1073741824 w;rw[btw_t ht.1 ht.2] at c2;have c3:=fun w h=>orbit_CheckSet_any L m l w h hl hb;have c4:=fun w h h2=>orbit_checkSights_any A B C c e f S G n gs w hS h h2 hgl hx;have c5:=fun w h h2 h3=>orbit_filter_any A B C c e f S t G n gs L m l w hS h h2 (by omega) hx hb h3 (by omega);clear hS hx hb ht hgl hl;obtain⟨w1,hw1,D,K,hz⟩:=box1 w 43 #[.slice A S.W.bs.length c,.int .i64 S.W.home,.slice B S.st.length e,.slice C S.ct.length f];go_enter Tryz.func12,Tryz.ntmps12
 go_wp2_with fail
 rw[← hw1];clear hw1;refine(c1 _ (hA.kpN K)).mono ?_;rintro e w2 ⟨rfl,k⟩;replace D:=D.kpN k;replace K:=K.tN k;have hzk:=k.size;clear k;have cD:=D.cell;have fD:=D.frozen;go_wp2_with fail
 refine(c2 _).mono ?_;rintro e w3 ⟨rfl,k⟩;clear cD fD;replace D:=D.kpN k;replace K:=K.tN k;have hzk:=k.size;clear k;have cD:=D.cell;have fD:=D.frozen;go_wp2_with fail
 refine(c3 _ (hr.kpN K)).mono ?_;rintro e w4 ⟨rfl,k⟩;clear cD fD;replace D:=D.kpN k;replace K:=K.tN k;have hzk:=k.size;clear k;have cD:=D.cell;have fD:=D.frozen;go_wp2_with fail
 refine(c4 _ (hA.kpN K) (hg.kpN K)).mono ?_;rintro e w5 ⟨rfl,k⟩;clear cD fD;replace D:=D.kpN k;replace K:=K.tN k;have hzk:=k.size;clear k;have cD:=D.cell;go_wp2_with fail
 refine(c5 _ (hA.kpN K) (hg.kpN K) (hr.kpN K)).mono ?_;rintro e9 w6 ⟨A2,cap2,rfl,hr2,hf2,k2⟩;obtain⟨q,hq⟩:∃ q9,Hid (q9=(l.filter fun b=>!S.exB gs t b)):=⟨_,Lib.hid rfl⟩;rw[← hq.out] at hr2 ⊢;clear cD;go_wp2
 exact bodyPost_ret (v:=.tuple #[.slice A2 q.length cap2,.int .i64 0]) (by simp[results,Tryz.results12,go_sem]) rfl ⟨A2,cap2,by rw[hq.out],by rw[hq.out] at hr2;exact hr2,fun ad h=>Nat.le_trans K.size (hf2 ad h),K.tN k2⟩
def updF (W:Wd) (d:Dr) (ex:Int→Bx→Bool):Nat→Int→List Bx→List (List Bx × Bool)
 | 0,_,m=>[(m,true)]
 | n+1,t,m=>(m,true)::match stepAll W d t m with
  | none=>[([],false)]
  | some q=>updF W d ex n (t+1) (q.filter fun b=>!ex (t+1) b)
def updG (W:Wd) (d:Dr) (ex:Int→Bx→Bool):Nat→Int→List Bx→Option (List Bx)
 | 0,_,m=>some m
 | n+1,t,m=>match stepAll W d t m with
  | none=>none
  | some q=>updG W d ex n (t+1) (q.filter fun b=>!ex (t+1) b)
def HdU (p:List Bx × Bool) (v:Array Value) (W:World):Prop:=∃ A c,v=#[.slice A p.1.length c,.bool p.2]∧Rd none W 8 encBx A p.1.length p.1
def UpAt (W:Wd) (d:Dr) (ex:Int→Bx→Bool) (k:Nat) (t:Int) (n0:Nat) (L:List (List Bx × Bool)) (w0:World) (X:Nat→Prop) (J:List (List Bx × Bool)→World→Prop) (v i9:Value) (wr:World):Prop:=
 ∃ (i:Nat) (m:List Bx) (pre:List (List Bx × Bool)) (A:Option Addr) (c:Nat),i9=.int .i64 i∧i≤k∧v=.slice A m.length c∧Rd none wr 8 encBx A m.length m∧(∀ ad,A=some ad→w0.heap.size≤ad.block)∧(∀ b∈m,okBx b=true)∧m.length≤n0∧L=pre++updF W d ex (k-i) (t+i) m∧J pre wr∧Kz w0.heap.size X w0 wr
end Go.Proofs.YtdhiappifnflpaaGreat
namespace Go.Proofs.YtdhiappifnflpaaGreat
open Go.RowKit
def NarAt (g:Nat) (nums:List Int) (k:Nat) (st8 lf:List Bx) (wF:World) (v16 v17 v18:Value) (wr:World):Prop:=
 ∃ (i:Nat) (bf af:List Int) (k':Nat),v18=.int .i64 i∧i≤st8.length∧bf.length=i∧(∀ x∈bf,1≤x∧x≤90)∧af=afterL lf ((st8.take i).zip bf)∧af.length≤8 * i∧Own wr wF.heap.size 2 1 encI v16 bf∧Own wr wF.heap.size 2 1 encI v17 af ∧
  (∀ x,v16.ownBlock=some x→v17.ownBlock≠some x)∧RingAt wr g nums k'∧k'≤k+i∧Kp wF.heap.size (some g) wF wr
def NarIn (g:Nat) (nums:List Int) (k:Nat) (lf:List Bx) (y:Bx) (x:Int) (v16:Value) (bf af:List Int) (n0:Nat) (wF:World) (v17 v19:Value) (wr:World):Prop:=
 ∃ (i:Nat) (a2:List Int),v19=.int .i64 i∧i≤lf.length∧a2=af++((lf.take i).filter fun c=>decide (c=y)).map (fun _=>x)∧a2.length≤n0+i∧Own wr wF.heap.size 2 1 encI v16 bf∧Own wr wF.heap.size 2 1 encI v17 a2 ∧
  (∀ x,v16.ownBlock=some x→v17.ownBlock≠some x)∧RingAt wr g nums k∧Kp wF.heap.size (some g) wF wr
set_option maxRecDepth 100000 in
set_option maxHeartbeats 16000000 in
theorem law_TopNarrows_any (A0:Option Addr) (cap:Nat) (nums:List Int) (w:World) (h:Rd none w 1 (fun x=>[Value.int .i64 x]) A0 nums.length nums) (hnl:nums.length≤17592186044416) :
  Calls Tryz.prog 3 #[.slice A0 nums.length cap] w fun e w'=>e=.returned (.bool true)∧Kp w.heap.size none w w':=by
 go_enter Tryz.func3,Tryz.ntmps3
 go_wp2_with fail
 refine(newRing_any A0 cap nums _ h hnl).mono ?_;rintro e w1 ⟨g,rfl,hg0,HR,K1⟩;clear h hnl;go_wp2_with fail
 refine(meetingOf_any g nums 0 _ HR (by omega)).mono ?_;rintro e w2 ⟨v9,k',rfl,⟨A,c,W,d,t,b,n,rfl,hW,hA,hd,ht,hb,hn1,hn8⟩,hk',HR2,k2⟩;have hgz:=HR.lt;clear HR;have HR:=HR2;clear HR2;have K:=(K1.wide (some g)).then_ k2 (Nat.le_refl _);have hzk:=K.size;have hgl:=HR.lt;clear K1 k2;have M:=((Blk.new w2 27 #[.slice A W.bs.length c,.int .i64 W.home]).alloc (.cells #[.int .i64 d.light.lo,.int .i64 d.light.hi,.int .i64 d.heat.lo,.int .i64 d.heat.hi,.int .i64 d.gas] 31)).alloc (.cells #[.int .i64 b.x.lo,.int .i64 b.x.hi,.int .i64 b.y.lo,.int .i64 b.y.hi,.int .i64 b.u.lo,.int .i64 b.u.hi,.int .i64 b.v.lo,.int .i64 b.v.hi] 33);have G:=(Blk.newAt (w2.alloc (.cells #[.slice A W.bs.length c,.int .i64 W.home] 27)) 31 #[.int .i64 d.light.lo,.int .i64 d.light.hi,.int .i64 d.heat.lo,.int .i64 d.heat.hi,.int .i64 d.gas] (n:=w2.heap.size+1) (by simp)).alloc (.cells #[.int .i64 b.x.lo,.int .i64 b.x.hi,.int .i64 b.y.lo,.int .i64 b.y.hi,.int .i64 b.u.lo,.int .i64 b.u.hi,.int .i64 b.v.lo,.int .i64 b.v.hi] 33);have X:=Blk.newAt ((w2.alloc (.cells #[.slice A W.bs.length c,.int .i64 W.home] 27)).alloc (.cells #[.int .i64 d.light.lo,.int .i64 d.light.hi,.int .i64 d.heat.lo,.int .i64 d.heat.hi,.int .i64 d.gas] 31)) 33 #[.int .i64 b.x.lo,.int .i64 b.x.hi,.int .i64 b.y.lo,.int .i64 b.y.hi,.int .i64 b.u.lo,.int .i64 b.u.hi,.int .i64 b.v.lo,.int .i64 b.v.hi] (n:=w2.heap.size+2) (by simp);have kz:=(Kp.new2 w2 (.cells #[.slice A W.bs.length c,.int .i64 W.home] 27) (.cells #[.int .i64 d.light.lo,.int .i64 d.light.hi,.int .i64 d.heat.lo,.int .i64 d.heat.hi,.int .i64 d.gas] 31)).alloc (by simp<;>omega) (.cells #[.int .i64 b.x.lo,.int .i64 b.x.hi,.int .i64 b.y.lo,.int .i64 b.y.hi,.int .i64 b.u.lo,.int .i64 b.u.hi,.int .i64 b.v.lo,.int .i64 b.v.hi] 33);have hA3:=hA.kpN kz;have HR3:=HR.kpN kz;have K3:=K.tN kz;go_upto_region 3 with(fail)
 generalize ((w2.alloc (.cells #[.slice A W.bs.length c,.int .i64 W.home] 27)).alloc (.cells #[.int .i64 d.light.lo,.int .i64 d.light.hi,.int .i64 d.heat.lo,.int .i64 d.heat.hi,.int .i64 d.gas] 31)).alloc (.cells #[.int .i64 b.x.lo,.int .i64 b.x.hi,.int .i64 b.y.lo,.int .i64 b.y.hi,.int .i64 b.u.lo,.int .i64 b.u.hi,.int .i64 b.v.lo,.int .i64 b.v.hi] 33)=w3 at *;obtain⟨mb,hmb⟩:∃ mb,mb=w2.heap.size:=⟨_,rfl⟩;rw[← hmb] at M G X ⊢;have hmg:g<mb:=by omega
 have hmw:w.heap.size≤mb:=by omega
 clear hmb kz hA HR K hgl hzk;have hA:=hA3;have HR:=HR3;have K:=K3;clear hA3 HR3 K3;have cM:=M.cell;have cG:=G.cell;have cX:=X.cell;go_wp2_with fail
 clear cM cG cX;refine(truth_any g nums k' A c W d t b n _ HR (by omega) (by omega) hW hA hd (by omega) hb).mono ?_;rintro e w4 ⟨v9,k4,rfl,⟨L,cl,l,z,ok,rfl,hll,hlh,hbz,rdl,hT,hfr⟩,hk4,HR2,k⟩;have HRz:=HR.lt;clear HR;have HR:=HR2;replace M:=M.kq k (by omega);replace G:=G.kq k (by omega);replace X:=X.kq k (by omega);replace hA:=hA.kp k;replace K:=K.then_ k (Nat.le_refl _);replace rdl:=rdl.rowOf hfr (show g<_ from HRz);clear HR2 k hfr;have hl10:l.length≤10:=by omega
 replace hll:=Lib.hid hll;replace hlh:=Lib.hid hlh;cases ok with
 | false=>
  go_wp2_with fail
  refine(awake_any _).mono ?_;rintro e w5 ⟨rfl,k⟩;go_wp2
  go_ret
  exact⟨rfl,(K.tN k).narrow hg0⟩
 | true=>
 replace hT:=hT rfl;have hok:=hT.1;have cM:=M.cell;go_wp2_with fail
 clear cM;have cw:∀ w,RingAt w g nums k4→WdAt (some g) w A W→Rd (some g) w 4 encSt L l.length l→Calls Tryz.prog 9 #[.pointer (some ⟨g,0,none⟩),.agg #[.slice A W.bs.length c,.int .i64 W.home],.int .i64 t,.slice L l.length cl,.int .i64 0] w (RPostB g nums (k4+110) w (WatP g A c W t l 0)):=fun w h1 h2 h3=>watched_any g nums k4 A c W t L cl l 0 w h1 (by omega) hW h2 (by omega) h3 (by omega) hok (by omega);refine(cw _ HR hA rdl).mono ?_;rintro e w5 ⟨v9,k5,rfl,⟨S,B,e1,C,f1,G9,m9,gs,rfl,rfl,hS,hSA,rdg,hgl,hgs⟩,hk5,HR2,k⟩;clear HR;have HR:=HR2;replace M:=M.kq k (by omega);replace G:=G.kq k (by omega);replace X:=X.kq k (by omega);replace rdl:=rdl.kp k;replace K:=K.then_ k (Nat.le_refl _);clear HR2 k hA;have hXl:=X.lt;replace HR:=HR.alloc (.cells #[.slice A S.W.bs.length c,.int .i64 S.W.home,.slice B S.st.length e1,.slice C S.ct.length f1] 43);have hzk:=K.size;have k5:=Kp.new1 w5 (.cells #[.slice A S.W.bs.length c,.int .i64 S.W.home,.slice B S.st.length e1,.slice C S.ct.length f1] 43);have hSA5:=hSA.kpN k5;have rdg5:=rdg.kpN k5;have rdl5:=rdl.kpN k5;have pM:=M.cell;have pG:=G.cell;have pX:=X.cell;obtain⟨w9_,rfl,SB,k9_,hzn⟩:=box1 w5 43 #[.slice A S.W.bs.length c,.int .i64 S.W.home,.slice B S.st.length e1,.slice C S.ct.length f1];replace M:=M.kpN k9_;replace G:=G.kpN k9_;replace X:=X.kpN k9_;replace K:=K.thenN k9_ (by first|exact Nat.le_refl _|omega);clear k9_;have cM:=M.cell;have fM:=M.frozen;have cG:=G.cell;have fG:=G.frozen;have cX:=X.cell;have fX:=X.frozen;go_wp2_with fail
 clear cM fM pM cG fG pG cX fX pX;generalize (w5.alloc (.cells #[.slice A S.W.bs.length c,.int .i64 S.W.home,.slice B S.st.length e1,.slice C S.ct.length f1] 43))=w6 at *;obtain⟨sb,hx⟩:∃ q9,q9=w5.heap.size:=⟨_,rfl⟩;rw[← hx] at SB ⊢;replace hx:=Lib.hid hx;have hsb:mb+2<sb:=by have:=hx.out;omega
 clear hx hzn hzk k5 hSA rdg rdl;have hg6:g<w6.heap.size:=HR.lt;have KO:=K;clear K;have K:=Kp.refl w6.heap.size (some g) w6;have cc:=fun (q:Int) (h1:0≤q) (h2:q<8) w=>(show Calls Tryz.prog 10 #[.agg #[.int .i64 b.x.lo,.int .i64 b.x.hi,.int .i64 b.y.lo,.int .i64 b.y.hi,.int .i64 b.u.lo,.int .i64 b.u.hi,.int .i64 b.v.lo,.int .i64 b.v.hi],.int .i64 (1+q)] w fun e w'=>∃ v,e=.returned v∧CellP b (1+q).toNat w v w' from by have:=cellsOf_any b (1+q).toNat w hb (by omega);rwa [show (((1+q).toNat:Nat):Int)=1+q from by omega] at this);obtain⟨S,hS0,hS1⟩:=cls_of2 (P:=fun w'=>Blk w' _ _ _∧Kp _ _ _ w') w6 ⟨X,K⟩;try dsimp only at hS0
 have cX:=fun (x:Ev (S 0)) i=>((hS0 _).1 x.h).1.cell i;replace X:=X.drew;replace K:=K.drew;replace M:=M.drew;replace G:=G.drew;replace SB:=SB.drew;replace HR:=HR.drew;have hevT:=ev_true;refine wp_region_ord S [(0,1),(1,0),(2,2),(3,0),(4,2),(5,0)] [] (by kernel_rfl) (by kernel_rfl) ((hS0 _).2 ⟨X,K⟩) ?_;intro _hev;iterate 2 (first|((first|refine oV ?_|refine oQ ?_);intro K hK;go_big_quiet_op;go_big_quiet_on)|refine oS ?_)
 refine oL ?_;intro Kc hKc;generalize w6.drew=wd9 at *;go_step;refine(next_any g nums k5 8 _ HR (by omega) (by omega) (by omega)).mono ?_;rintro e w7 ⟨v9,rfl,⟨q,rfl,hq0,hq1⟩,HR9,k⟩;replace X:=X.kq k (by omega);replace M:=M.kq k (by omega);replace G:=G.kq k (by omega);replace SB:=SB.kq k (by omega);replace K:=K.then_ k (Nat.le_refl _);replace HR:=HR9;clear k HR9;have hzr_w7:=K.size;refine hKc _ _ ((hS0 _).2 ⟨X,K⟩) ?_;clear hKc Kc;iterate 1 (first|((first|refine oV ?_|refine oQ ?_);intro K hK;go_big_quiet_op;go_big_quiet_on)|refine oS ?_)
 refine oL ?_;intro Kc hKc;go_step;refine(cc q hq0 hq1 _).mono ?_;rintro e w8 ⟨v8,rfl,A8,c8,st8,rfl,rds,hP,hsl,hfs,k⟩;replace X:=X.kpN k;replace M:=M.kpN k;replace G:=G.kpN k;replace SB:=SB.kpN k;replace HR:=HR.kpN k;replace K:=K.tN k;clear k;refine hKc _ _ ((hS0 _).2 ⟨X,K⟩) ?_;clear hKc Kc;iterate 1 (first|((first|refine oV ?_|refine oQ ?_);intro K hK;go_big_quiet_op;go_big_quiet_on)|refine oS ?_)
 refine wpOrd_nil ?_;clear hevT _hev;clear cX hS0 hS1 S;clear cc;have hSA:=hSA5.kp K;have rdg:=rdg5.kp K;have rdl:=rdl5.kp K;have hsbl:=SB.lt;replace K:=KO.then_ K (Nat.le_refl _);clear hSA5 rdg5 rdl5 KO X;have hs8:st8.length≤8:=by omega
 clear hsl hq0 hq1;have rds':=rds.rowOf (g:=g) hfs (by omega);clear rds hfs;have rds:=rds';clear rds';have h1g:gs.length≤64:=by omega
 have cf:=fun w h1 h2 h3=>orbit_Filter_any A B C c e1 f1 S t G9 m9 gs A8 c8 st8 w hS h1 (by omega) h2 h1g (fun x hx=>(hgs x hx).1) (hP.ok hb) h3 (by omega);replace hgl:=Lib.hid hgl;have hw8g:=HR.lt;have cS:=SB.cell;go_wp2_with fail
 clear cS;refine(cf _ hSA.free rdg.free rds.free).mono ?_;rintro e w10 ⟨A10,c10,rfl,rdf,hff,k⟩;clear cf;obtain⟨fx,hfx⟩:∃ fx:Bx→Bool,Hid (fx=fun b=>!S.exB gs t b):=⟨_,Lib.hid rfl⟩;obtain⟨lf,hlf⟩:∃ lf:List Bx,Hid (lf=st8.filter fx):=⟨_,Lib.hid rfl⟩;rw[← hfx.out,← hlf.out] at rdf ⊢;have hlf8:lf.length≤8:=by rw[hlf.out];exact Nat.le_trans (List.length_filter_le _ _) hs8
 obtain⟨z0,rl0,hl0⟩:∃ z0 r,l=z0::r:=by
  cases l with
  | nil=>have:=hll.out;simp at this
  | cons a r=>exact⟨a,r,rfl⟩
 have hz0:z=z0:=by have:=hlh.out;rw[hl0] at this;injection this with this;exact this.symm
 subst hz0;have hn0:nth l 0=z:=by rw[hl0];rfl
 have hfz:∀ c:Bx,c.has z→fx c=true:=fun c hc=>by
  have q:=Sky.exB_sound (S:=S) (l:=gs) (t:=t) (s:=l) (n:=0) (fun x hx=>(hgs x hx).2) 0 c (by rw[hn0];exact hc);rw[show t+((0:Nat):Int)=t from by omega] at q;rw[hfx.out];simp only[q,Bool.not_false]
 have hin:Hid ((lf.any fun b=>holdsB b z)=true):=Lib.hid (by
  obtain⟨c,hc,hcz⟩:=hP.cover hbz;exact List.any_eq_true.2 ⟨c,by rw[hlf.out];exact List.mem_filter.2 ⟨hc,hfz c hcz⟩,holdsB_iff.2 hcz⟩)
 have hwi:Hid (∀ x∈lf,∃ y∈st8,insB x y=true):=Lib.hid (fun x hx=>by
  rw[hlf.out] at hx;obtain⟨h1,-⟩:=List.mem_filter.1 hx;have h2:=hP.ok hb x h1;unfold okBx at h2;simp only[Bool.and_eq_true] at h2;exact⟨x,h1,insB_self h2.1⟩)
 replace M:=M.kpN k;replace G:=G.kpN k;replace SB:=SB.kpN k;replace HR:=HR.kpN k;replace rdl:=rdl.kpN k;replace rds:=rds.kpN k;replace K:=K.tN k;have hw8z:g<w8.heap.size:=hw8g;have rdf':=rdf.rowOf (g:=g) hff (by omega);have hA:=hSA.1.kpN k;clear rdf hff k hSA rdg hgs SB;have rdf:=rdf';clear rdf';obtain⟨bl,ol,hL,hlt,hbg,hcc⟩:=rdl.at_ (by have:=hll.out;omega)
 have hez:∀ j v,(encSt z)[j]?=some v→w10.cell? ⟨bl,ol+j,none⟩=some v:=fun j v hv=>by
  have:=hcc 0 (by have:=hll.out;omega) j v (by simp only[hl0];exact hv);rwa [Nat.zero_mul,Nat.zero_add] at this
 have e0:=hez 0 _ rfl;have e1:=hez 1 _ rfl;have e2:=hez 2 _ rfl;have e3:=hez 3 _ rfl;rw[Nat.add_zero] at e0;have hlpos:(0:Int)<(l.length:Int):=by have:=hll.out;omega
 replace hl0:=Lib.hid hl0;replace hn0:=Lib.hid hn0;replace hfz:=Lib.hid hfz;replace hP:=Lib.hid hP;replace hT:=Lib.hid hT;replace hbz:=Lib.hid hbz;replace hok:=Lib.hid hok;replace hL:=Lib.hid hL;clear hez hcc;rw[hL.out];go_wp2_with fail
 refine(orbit_In_any A10 c10 lf z _ rdf.free (by omega)).mono ?_;rintro e w11 ⟨rfl,k⟩;rw[hin.out];replace M:=M.kpN k;replace G:=G.kpN k;replace HR:=HR.kpN k;replace rdl:=rdl.kpN k;replace rds:=rds.kpN k;replace rdf:=rdf.kpN k;replace hA:=hA.kpN k;replace K:=K.tN k;clear k e0 e1 e2 e3 hlt hbg hin;go_wp2_with fail
 refine(orbit_Within_any A10 A8 c10 c8 lf st8 _ rdf.free rds.free (by omega) (by omega) hwi.out).mono ?_;rintro e wF ⟨rfl,k⟩;replace M:=M.kpN k;replace G:=G.kpN k;replace HR:=HR.kpN k;replace rdl:=rdl.kpN k;replace rds:=rds.kpN k;replace rdf:=rdf.kpN k;replace hA:=hA.kpN k;replace K:=K.tN k;clear k hwi;have hk6:k5+1≤600000:=by omega
 have hgF:=HR.lt;have hsp:=part_pos hP.out;go_wp2_with fail
 go_loopw [16,17,18] (fun v16 v17 v18 wr=>NarAt g nums (k5+1) st8 lf wF v16 v17 v18 wr) (fun _ _ v18 _=>st8.length-(intOf v18).toNat)
 case atStart=>exact⟨0,[],[],k5+1,rfl,Nat.zero_le _,rfl,by simp,by simp[afterL],by simp,Own.nil _ _ _ _ _,Own.nil _ _ _ _ _,(by intro x hx;cases hx),HR,by omega,Kp.refl _ _ _⟩
 case round=>
  clear HR;obtain⟨i,bf,af,k6,rfl,hi,hbl,hb90,haf,hal,owb,owa,hne,HR,hk6',KF⟩:=hrel;by_cases h:i<st8.length
  ·
   have hii:(i:Int)<(st8.length:Int):=by omega
   have hal9:af.length≤64:=by omega
   have hbl9:bf.length≤64:=by omega
   have hk7:k6≤700000:=by omega
   replace hb90:=Lib.hid hb90;replace haf:=Lib.hid haf;replace hal:=Lib.hid hal;replace hbl:=Lib.hid hbl;replace hk6':=Lib.hid hk6';go_wp2_with fail
   refine(range_any g nums k6 1 90 _ HR (by omega) (by omega) (by omega) (by omega) (by omega)).mono ?_;rintro e wa ⟨v9,rfl,⟨x,rfl,hx1,hx2⟩,HR2,k2⟩;replace owb:=owb.kp k2 (fun b9 hb9=>sne (by omega));replace owa:=owa.kp k2 (fun b9 hb9=>sne (by omega));replace KF:=KF.then_ k2 (Nat.le_refl _);clear HR k2;have Q:=Blk.new wa 2 #[.int .i64 x];have owb1:=owb.alloc (.cells #[.int .i64 x] 2);have owa1:=owa.alloc (.cells #[.int .i64 x] 2);have HR1:=HR2.alloc (.cells #[.int .i64 x] 2);have KF1:=KF.alloc KF.size (.cells #[.int .i64 x] 2);clear owb HR2 KF;go_wp2_with (at_builtin;go_loud (refine wpList_app1_Int (by rfl) (.tmp 90) (.tmp 93) (by rfl) wF.heap.size u16 bf _ 1 x (by rfl) (by rfl) owb1 Q (by rfl) (by omega) KF1.size ?_);intro v' wf owb' hg' hat)
   have hge:=fun b e=>(owb1.ge b e).1
   have hne':∀ y,v'.ownBlock=some y→u17.ownBlock≠some y:=fun y hy hy2=>by
    rcases hat with q|q
    · exact hne y (q ▸ hy) hy2
    ·
     have:=(owa1.ge y hy2).2;rw[q] at hy;injection hy with hy
     omega
   replace owa:=owa1.grownO hg' (fun b e e2=>hne b e e2);replace HR:=HR1.grown hg' (fun b e=>by have:=hge b e;omega);have KF:=KF1.grown hg' KF1.size (fun b e=>hge b e);clear hne owa1 HR1 KF1 owb1 Q hat hg' hge;obtain⟨bf',hbf'⟩:∃ q9,Hid (q9=bf++[x]):=⟨_,Lib.hid rfl⟩;rw[← hbf'.out] at owb';have hbl':bf'.length=i+1:=by rw[hbf'.out,List.length_append,hbl.out];rfl
   have hbi:Hid (bf'[i]'(by omega)=x):=Lib.hid (by
    simp only[hbf'.out];rw[List.getElem_append_right (by have:=hbl.out;omega)];simp[hbl.out])
   have hb90':Hid (∀ y∈bf',1≤y∧y≤90):=Lib.hid (fun y hy=>by
    rw[hbf'.out] at hy;rcases List.mem_append.1 hy with q|q
    · exact hb90.out y q
    · rw[List.mem_singleton] at q;subst q;exact⟨hx1,hx2⟩)
   obtain⟨b8,o8,hA8,hl8,hb8,hc8⟩:=rds.at_ (by omega);obtain⟨y,hy⟩:∃ y,y=st8[i]:=⟨_,rfl⟩;have hc8i:=hc8 i h;rw[← hy] at hc8i;have hb8g:b8≠g:=fun e=>hb8 (by rw[e]);have s0:=hc8i 0 _ rfl;have s1:=hc8i 1 _ rfl;have s2:=hc8i 2 _ rfl;have s3:=hc8i 3 _ rfl;have s4:=hc8i 4 _ rfl;have s5:=hc8i 5 _ rfl;have s6:=hc8i 6 _ rfl;have s7:=hc8i 7 _ rfl;rw[Nat.add_zero] at s0;rw[← Nat.add_assoc] at s1;rw[← Nat.add_assoc] at s2;rw[← Nat.add_assoc] at s3;rw[← Nat.add_assoc] at s4;rw[← Nat.add_assoc] at s5;rw[← Nat.add_assoc] at s6;rw[← Nat.add_assoc] at s7;replace hy:=Lib.hid hy;clear hc8 hc8i hb8;have hi0:¬ (i:Int)<0:=by omega
   have hi8:(i:Int)≤8:=by omega
   have hm8:st8.length-(i+1)<st8.length-i:=by omega
   replace hm8:=Lib.hid hm8;replace hA8:=Lib.hid hA8;replace hbl':=Lib.hid hbl';go_loopw [17,19] (fun v17 v19 wr=>NarIn g nums (k6+1) lf y x v' bf' af (8 * i) wF v17 v19 wr) (fun _ v19 _=>lf.length-(intOf v19).toNat)
   case atStart=>exact⟨0,af,rfl,Nat.zero_le _,by simp,hal.out,owb',owa,hne',HR,KF⟩
   case round=>
    clear owb' owa hne' HR KF;obtain⟨j,a2,rfl,hj,ha2,hal2,owb,owa,hne,HR,KF⟩:=hrel;by_cases hjl:j<lf.length
    ·
     have hjj:(j:Int)<(lf.length:Int):=by omega
     have hj0:¬ (j:Int)<0:=by omega
     have hj8:(j:Int)≤8:=by omega
     have hmj:lf.length-(j+1)<lf.length-j:=by omega
     have ha9:a2.length≤200:=by omega
     obtain⟨b9,o9,hA9,hl9,hb9,hc9⟩:=rdf.at_ (by omega);obtain⟨y',hy'⟩:∃ y',y'=lf[j]:=⟨_,rfl⟩;have hc9i:=hc9 j hjl;rw[← hy'] at hc9i;have hb9g:b9≠g:=fun e=>hb9 (by rw[e]);have r0:=hc9i 0 _ rfl;have r1:=hc9i 1 _ rfl;have r2:=hc9i 2 _ rfl;have r3:=hc9i 3 _ rfl;have r4:=hc9i 4 _ rfl;have r5:=hc9i 5 _ rfl;have r6:=hc9i 6 _ rfl;have r7:=hc9i 7 _ rfl;rw[Nat.add_zero] at r0;rw[← Nat.add_assoc] at r1;rw[← Nat.add_assoc] at r2;rw[← Nat.add_assoc] at r3;rw[← Nat.add_assoc] at r4;rw[← Nat.add_assoc] at r5;rw[← Nat.add_assoc] at r6;rw[← Nat.add_assoc] at r7;have bq:=fun w=>box_eqIn y' y w;have bq2:=fun w=>box_eql y' y w;have hts:=take_filter_succ (fun c=>decide (c=y)) lf j hjl;rw[← hy'] at hts;clear hc9 hc9i hb9;have hA8':=hA8.out;subst hA8';subst hA9;have KO:=K;clear K;have K:=KF;clear KF;replace hmj:=Lib.hid hmj;replace ha2:=Lib.hid ha2;replace hal2:=Lib.hid hal2;replace hjl:=Lib.hid hjl;replace hy':=Lib.hid hy';by_cases hxy:y'=y
     ·
      rw[decide_eq_true hxy] at bq bq2;rw[if_pos (decide_eq_true hxy)] at hts;replace hts:=Lib.hid hts;replace hxy:=Lib.hid hxy;go_upto_region 19 with(fail)
      obtain⟨S,hS0,hS1⟩:=cls_of2 (P:=fun w'=>Kp _ _ _ w') wr K;try dsimp only at hS0
      have p0:=fun (x:Ev (S 0))=>((((hS0 _).1 x.h)).cell _ _ hl8 (by first|(simp;done)|exact sne (by omega))).trans s0;have p1:=fun (x:Ev (S 0))=>((((hS0 _).1 x.h)).cell _ _ hl8 (by first|(simp;done)|exact sne (by omega))).trans s1;have p2:=fun (x:Ev (S 0))=>((((hS0 _).1 x.h)).cell _ _ hl8 (by first|(simp;done)|exact sne (by omega))).trans s2;have p3:=fun (x:Ev (S 0))=>((((hS0 _).1 x.h)).cell _ _ hl8 (by first|(simp;done)|exact sne (by omega))).trans s3;have p4:=fun (x:Ev (S 0))=>((((hS0 _).1 x.h)).cell _ _ hl8 (by first|(simp;done)|exact sne (by omega))).trans s4;have p5:=fun (x:Ev (S 0))=>((((hS0 _).1 x.h)).cell _ _ hl8 (by first|(simp;done)|exact sne (by omega))).trans s5;have p6:=fun (x:Ev (S 0))=>((((hS0 _).1 x.h)).cell _ _ hl8 (by first|(simp;done)|exact sne (by omega))).trans s6;have p7:=fun (x:Ev (S 0))=>((((hS0 _).1 x.h)).cell _ _ hl8 (by first|(simp;done)|exact sne (by omega))).trans s7;have q0:=fun (x:Ev (S 0))=>((((hS0 _).1 x.h)).cell _ _ hl9 (by first|(simp;done)|exact sne (by omega))).trans r0;have q1:=fun (x:Ev (S 0))=>((((hS0 _).1 x.h)).cell _ _ hl9 (by first|(simp;done)|exact sne (by omega))).trans r1;have q2:=fun (x:Ev (S 0))=>((((hS0 _).1 x.h)).cell _ _ hl9 (by first|(simp;done)|exact sne (by omega))).trans r2;have q3:=fun (x:Ev (S 0))=>((((hS0 _).1 x.h)).cell _ _ hl9 (by first|(simp;done)|exact sne (by omega))).trans r3;have q4:=fun (x:Ev (S 0))=>((((hS0 _).1 x.h)).cell _ _ hl9 (by first|(simp;done)|exact sne (by omega))).trans r4;have q5:=fun (x:Ev (S 0))=>((((hS0 _).1 x.h)).cell _ _ hl9 (by first|(simp;done)|exact sne (by omega))).trans r5;have q6:=fun (x:Ev (S 0))=>((((hS0 _).1 x.h)).cell _ _ hl9 (by first|(simp;done)|exact sne (by omega))).trans r6;have q7:=fun (x:Ev (S 0))=>((((hS0 _).1 x.h)).cell _ _ hl9 (by first|(simp;done)|exact sne (by omega))).trans r7;replace K:=K.drew;replace owb:=owb.drew;replace owa:=owa.drew;replace HR:=HR.drew;have hevT:=ev_true;refine wp_region_ord S [(0,0),(1,0),(2,0),(3,1),(4,0),(5,0),(6,0),(7,1),(8,0)] [] (by kernel_rfl) (by kernel_rfl) ((hS0 _).2 K) ?_;intro _hev;iterate 9 (first|((first|refine oV ?_|refine oQ ?_);intro K hK;go_big_quiet_op;go_big_quiet_on)|refine oS ?_)
      refine wpOrd_nil ?_;clear hevT _hev;clear p0 p1 p2 p3 p4 p5 p6 p7 q0 q1 q2 q3 q4 q5 q6 q7;clear hS0 hS1 S;generalize wr.drew=wz at *;obtain⟨Ab,cb,ev,rdb,-⟩:=owb.rd (row:=none) (fun _=>rfl) (fun b hb e=>by cases e);obtain⟨bb,ob,rfl,hlb,-,hcb⟩:=rdb.at_ (by have:=hbl'.out;omega);have cb0:=hcb i (by have:=hbl'.out;omega) 0 (.int .i64 x) (by rw[hbi.out];rfl);rw[Nat.mul_one,Nat.add_zero] at cb0;have hib:(i:Int)<(bf'.length:Int):=by have:=hbl'.out;omega
      subst ev;have Q:=Blk.new wz 2 #[.int .i64 x];have owa1:=owa.alloc (.cells #[.int .i64 x] 2);have owb1:=owb.alloc (.cells #[.int .i64 x] 2);have HR1:=HR.alloc (.cells #[.int .i64 x] 2);have K1:=K.alloc K.size (.cells #[.int .i64 x] 2);clear owa owb HR K rdb hcb;go_wp2_with (at_builtin;go_loud (refine wpList_app1_Int (by rfl) (.tmp 110) (.tmp 115) (by rfl) wF.heap.size u17 a2 _ 1 x (by rfl) (by rfl) owa1 Q (by rfl) (by omega) K1.size ?_);intro v'' wf owa' hg' hat)
      have hge:=fun b e=>(owa1.ge b e).1
      have hne':∀ z,(Value.slice (some ⟨bb,ob,none⟩) bf'.length cb).ownBlock=some z→v''.ownBlock≠some z:=fun z hz hz2=>by
       rcases hat with q|q
       · exact hne z hz (q ▸ hz2)
       ·
        have:=(owb1.ge z hz).2;rw[q] at hz2;injection hz2 with hz2
        omega
      have owb:=owb1.grownO hg' (fun b e e2=>hne b e2 e);have HR:=HR1.grown hg' (fun b e=>by have:=hge b e;omega);have K:=K1.grown hg' K1.size (fun b e=>hge b e);clear hne owa1 HR1 K1 owb1 Q hat hg' hge cb0;go_roundw
      case rel=>exact⟨j+1,a2++[x],by congr 1,hjl.out,by rw[hts.out,ha2.out];simp,by have:=hal2.out;simp only[List.length_append,List.length_cons,List.length_nil];omega,by first|exact owb|(rw[← hbl'.out];exact owb),owa',hne',HR,K⟩
      case measure=>exact hmj.out
     ·
      rw[decide_eq_false hxy] at bq bq2;rw[if_neg (by rw[decide_eq_false hxy];decide)] at hts;replace hts:=Lib.hid hts;replace hxy:=Lib.hid hxy;go_upto_region 19 with(fail)
      obtain⟨S,hS0,hS1⟩:=cls_of2 (P:=fun w'=>Kp _ _ _ w') wr K;try dsimp only at hS0
      have p0:=fun (x:Ev (S 0))=>((((hS0 _).1 x.h)).cell _ _ hl8 (by first|(simp;done)|exact sne (by omega))).trans s0;have p1:=fun (x:Ev (S 0))=>((((hS0 _).1 x.h)).cell _ _ hl8 (by first|(simp;done)|exact sne (by omega))).trans s1;have p2:=fun (x:Ev (S 0))=>((((hS0 _).1 x.h)).cell _ _ hl8 (by first|(simp;done)|exact sne (by omega))).trans s2;have p3:=fun (x:Ev (S 0))=>((((hS0 _).1 x.h)).cell _ _ hl8 (by first|(simp;done)|exact sne (by omega))).trans s3;have p4:=fun (x:Ev (S 0))=>((((hS0 _).1 x.h)).cell _ _ hl8 (by first|(simp;done)|exact sne (by omega))).trans s4;have p5:=fun (x:Ev (S 0))=>((((hS0 _).1 x.h)).cell _ _ hl8 (by first|(simp;done)|exact sne (by omega))).trans s5;have p6:=fun (x:Ev (S 0))=>((((hS0 _).1 x.h)).cell _ _ hl8 (by first|(simp;done)|exact sne (by omega))).trans s6;have p7:=fun (x:Ev (S 0))=>((((hS0 _).1 x.h)).cell _ _ hl8 (by first|(simp;done)|exact sne (by omega))).trans s7;have q0:=fun (x:Ev (S 0))=>((((hS0 _).1 x.h)).cell _ _ hl9 (by first|(simp;done)|exact sne (by omega))).trans r0;have q1:=fun (x:Ev (S 0))=>((((hS0 _).1 x.h)).cell _ _ hl9 (by first|(simp;done)|exact sne (by omega))).trans r1;have q2:=fun (x:Ev (S 0))=>((((hS0 _).1 x.h)).cell _ _ hl9 (by first|(simp;done)|exact sne (by omega))).trans r2;have q3:=fun (x:Ev (S 0))=>((((hS0 _).1 x.h)).cell _ _ hl9 (by first|(simp;done)|exact sne (by omega))).trans r3;have q4:=fun (x:Ev (S 0))=>((((hS0 _).1 x.h)).cell _ _ hl9 (by first|(simp;done)|exact sne (by omega))).trans r4;have q5:=fun (x:Ev (S 0))=>((((hS0 _).1 x.h)).cell _ _ hl9 (by first|(simp;done)|exact sne (by omega))).trans r5;have q6:=fun (x:Ev (S 0))=>((((hS0 _).1 x.h)).cell _ _ hl9 (by first|(simp;done)|exact sne (by omega))).trans r6;have q7:=fun (x:Ev (S 0))=>((((hS0 _).1 x.h)).cell _ _ hl9 (by first|(simp;done)|exact sne (by omega))).trans r7;replace K:=K.drew;replace owb:=owb.drew;replace owa:=owa.drew;replace HR:=HR.drew;have hevT:=ev_true;refine wp_region_ord S [(0,0),(1,0),(2,0),(3,1),(4,0),(5,0),(6,0),(7,1),(8,0)] [] (by kernel_rfl) (by kernel_rfl) ((hS0 _).2 K) ?_;intro _hev;iterate 9 (first|((first|refine oV ?_|refine oQ ?_);intro K hK;go_big_quiet_op;go_big_quiet_on)|refine oS ?_)
      refine wpOrd_nil ?_;clear hevT _hev;clear p0 p1 p2 p3 p4 p5 p6 p7 q0 q1 q2 q3 q4 q5 q6 q7;clear hS0 hS1 S;generalize wr.drew=wz at *;go_wp2
      go_roundw
      case rel=>exact⟨j+1,a2,by congr 1,hjl.out,by rw[hts.out];exact ha2.out,by have:=hal2.out;omega,owb,owa,hne,HR,K⟩
      case measure=>exact hmj.out
    ·
     obtain rfl:j=lf.length:=by omega
     have ha3:Hid (a2=afterL lf ((st8.take (i+1)).zip bf')):=Lib.hid (by
      rw[ha2,List.take_of_length_le (Nat.le_refl _),haf.out,hbf'.out,zip_take_succ h hbl.out,afterL_snoc,hy.out])
     have hal3:Hid (a2.length≤8 * (i+1)):=Lib.hid (by omega);clear ha2 hal2;replace h:=Lib.hid h;go_wp2
     go_roundw
     case rel=>exact⟨i+1,bf',a2,k6+1,by congr 1,h.out,hbl'.out,hb90'.out,ha3.out,hal3.out,owb,owa,hne,HR,by have:=hk6'.out;omega,KF⟩
     case measure=>exact hm8.out
  ·
   obtain rfl:i=st8.length:=by omega
   rw[List.take_of_length_le (Nat.le_refl _)] at haf;obtain⟨-,qs,hq1,hq2,hq3,hs1,hs2,hs3,hs4,hs5,hs6⟩:=narrows_law hS.W hd hT.out hll.out (by rw[hn0.out];exact hbz.out) hb hP.out hbl hb90 fx (fun c hc=>hfz.out c (hn0.out ▸ hc));rw[← hlf.out] at hq1 hq2;rw[← haf] at hq2;have hzq:lf.zip af=qs:=by rw[← hq1,← hq2,zip_of_map]
   have hafl:af.length=lf.length:=by rw[← hq1,← hq2,List.length_map,List.length_map]
   have haf3:∀ x∈af,0≤x∧x≤1000:=fun x hx=>by
    rw[← hq2] at hx;obtain⟨p,hp,rfl⟩:=List.mem_map.1 hx;have:=hq3 p hp;omega
   have hbf3:∀ x∈bf,0≤x∧x≤1000:=fun x hx=>by have:=hb90 x hx;omega
   obtain⟨Ab,cb,rfl,rdb,-⟩:=owb.rd (row:=none) (fun _=>rfl) (fun b hb e=>by cases e);obtain⟨Aa,ca,rfl,rda,-⟩:=owa.rd (row:=none) (fun _=>rfl) (fun b hb e=>by cases e);have oks:=hP.out.ok hb;have okf:∀ c∈lf,okBx c=true:=fun c hc=>by rw[hlf.out] at hc;exact oks c (List.mem_filter.1 hc).1
   have co1:=fun w h1 h2 h3=>meet_Odds_any A c S.W d t A8 c8 st8 Ab cb bf n w hS.W h1 hd (by omega) (by omega) h2 (by omega) oks h3 hbl hbf3;have co2:=fun w h1 h2 h3=>meet_Odds_any A c S.W d t A10 c10 lf Aa ca af n w hS.W h1 hd (by omega) (by omega) h2 (by omega) okf h3 hafl haf3;rw[hzq] at co2;have hM:=M.kq KF (by omega);have hG:=G.kq KF (by omega);have hA2:=hA.kp KF;have rds2:=rds.kp KF;have rdf2:=rdf.kp KF;have rdl2:=rdl.kp KF;have K2:=K.then_ KF (Nat.le_refl _);rw[hL.out] at rdl2;have hS2:=Lib.hid hS;have hT2:=hT.out;have hHits:=Lib.hid (And.intro hs5 hs6);clear hs5 hs6 hq1 hq2 hq3 hzq hafl haf3 hbf3 oks okf haf hb90 hbl hal owb owa hne KF M G hA rds rdf rdl K hlf hfx hP hi h;obtain⟨H,hH⟩:∃ H:Prop,Hid (H=HitsW S.W t l):=⟨_,Lib.hid rfl⟩;have hh5:H→0<sumIf (notMiss S.W d n t) qs:=fun h=>hHits.out.1 (hH.out ▸ h);have hh6:¬ H→sumIf (isHit S.W d n t) qs<sumIf anyB qs:=fun h=>hHits.out.2 (hH.out ▸ h);clear hHits;generalize sumIf (isHit S.W d n t) qs=Y1 at *;generalize sumIf (notMiss S.W d n t) qs=Y2 at *;generalize sumIf anyB qs=Y3 at *;generalize sumIf (isHit S.W d n t) (st8.zip bf)=X1 at *;generalize sumIf (notMiss S.W d n t) (st8.zip bf)=X2 at *;generalize sumIf anyB (st8.zip bf)=X3 at *;have p1:¬ X2<Y2:=by omega
   have p2:¬ X1<Y1:=by omega
   have p3:¬ X3<Y3:=by omega
   have p4:¬ Y3<1:=by omega
   clear hs1 hs2 hs3 hs4;have cM:=hM.cell;have cG:=hG.cell;go_wp2_with fail
   clear cM cG;refine(co1 _ hA2.free rds2.free rdb).mono ?_;rintro e wa ⟨rfl,k⟩;replace hM:=hM.kpN k;replace hG:=hG.kpN k;replace HR:=HR.kpN k;replace hA2:=hA2.kpN k;replace rda:=rda.kpN k;replace rdf2:=rdf2.kpN k;replace rdl2:=rdl2.kpN k;replace K2:=K2.tN k;clear k rds2 rdb co1;have hzk:=K2.size;have hGl:=hG.lt;have C1:=Blk.new wa 60 #[.int .i64 X1,.int .i64 X2,.int .i64 X3];have k1:=Kp.new1 wa (.cells #[.int .i64 X1,.int .i64 X2,.int .i64 X3] 60);replace hM:=hM.kpN k1;replace hG:=hG.kpN k1;replace hA2:=hA2.kpN k1;replace rda:=rda.kpN k1;replace rdf2:=rdf2.kpN k1;replace rdl2:=rdl2.kpN k1;replace K2:=K2.tN k1;clear k1;have cM:=hM.cell;have cG:=hG.cell;go_wp2_with fail
   clear cM cG;refine(co2 _ hA2.free rdf2.free rda).mono ?_;rintro e wb ⟨rfl,k⟩;replace hM:=hM.kpN k;replace hA2:=hA2.kpN k;replace rdl2:=rdl2.kpN k;replace C1:=C1.kpN k;replace K2:=K2.tN k;obtain⟨c1b,hc1⟩:∃ q9,q9=wa.heap.size:=⟨_,rfl⟩;rw[← hc1] at C1 ⊢;have hc1z:=C1.lt;clear k rdf2 rda co2 hG hGl hc1 hzk;have C2:=Blk.new wb 60 #[.int .i64 Y1,.int .i64 Y2,.int .i64 Y3];have k1:=Kp.new1 wb (.cells #[.int .i64 Y1,.int .i64 Y2,.int .i64 Y3] 60);replace hM:=hM.kpN k1;replace hA2:=hA2.kpN k1;replace rdl2:=rdl2.kpN k1;replace C1:=C1.kpN k1;replace K2:=K2.tN k1;clear k1;have cM:=hM.cell;have cC:=C1.cell;have cD:=C2.cell;go_wp2_with fail
   clear cM cC cD;refine(meet_Hit_any A c S.W t (some ⟨bl,ol,none⟩) cl l _ hS2.out.W hA2.free (by omega) rdl2.free (by omega) hok.out).mono ?_;rintro e wc ⟨⟨v,rfl,hv⟩,k⟩;replace C2:=C2.kpN k;replace K2:=K2.tN k;have hKf:=Lib.hid (K2.narrow hg0);obtain⟨c2b,hc2⟩:∃ q9,q9=wb.heap.size:=⟨_,rfl⟩;rw[← hc2] at C2 ⊢;have cD:=C2.cell;clear k hM hA2 rdl2 C1 hc2
   have hv2:(v=-1∧¬ H)∨(0≤v∧H):=by
    rcases hv with⟨h1,h2⟩|⟨i,h1,h2,h3⟩
    · exact .inl ⟨h1,by rw[hH.out];exact h2⟩
    · exact .inr ⟨by omega,by rw[hH.out];exact⟨i,h2,h3⟩⟩
   clear hv;rcases hv2 with⟨rfl,h2⟩|⟨h1,h2⟩
   ·
    have p6:=hh6 h2;go_wp2_with fail
    refine(awake_any _).mono ?_;rintro e wd ⟨rfl,k⟩;go_wp2
    go_ret
    exact⟨rfl,hKf.out.thenN k (Nat.le_refl _)⟩
   ·
    have p5:=hh5 h2;go_wp2_with fail
    refine(awake_any _).mono ?_;rintro e wd ⟨rfl,k⟩;go_wp2
    go_ret
    exact⟨rfl,hKf.out.thenN k (Nat.le_refl _)⟩
end Go.Proofs.YtdhiappifnflpaaGreat
