/- Orbits: the walks of orbit: filter, checkSights, Filter. A range over a function whose iterator writes no cells of its own: what the caller knows need only abide new blocks. Plain theory, no program. Orbits: the walks of orbit: checkSights, Filter, and the sets of an update, one by one. -/
import Derived.Test.YtdhiappifnflpaaGreatM49
import Derived.Test.YtdhiappifnflpaaGreatM22
import Derived.Test.YtdhiappifnflpaaGreatM29
import Derived.RangeFuncLeaves
import Derived.RangeFuncBound
import Derived.RangeFuncCalls
import Derived.RangeFuncBox
import Derived.OwnWalkIn
import Derived.TacticsInMore
import Derived.LoopNIn
import Derived.LoopIn
import Derived.Shelf.Abstract
import Derived.Shelf.RegionOpen
set_option maxRecDepth 100000
set_option maxHeartbeats 4000000
namespace Go.Proofs.YtdhiappifnflpaaGreat
open Go.RowKit
theorem Bx.place_bd {b:Bx} (h:okBx b=true):b.place.bd 33554432:=by
 obtain⟨⟨o1,o2,o3,o4⟩,b1,b2,b3,b4,b5,b6,b7,b8⟩:=(okBx_iff b).1 h;unfold Ar.bd Sp.bd Bx.place;simp only;omega
theorem filter11_pred (A B C:Option Addr) (c e f:Nat) (S:Sky) (t:Int) (b:Bx) (tb sb bb:Nat) (xs:List Sg) (w:World) (hS:S.ok) (hA:SkyAt none w A B C S) (hx:∀ x∈xs,S.okSg x) (hb:okBx b=true)
  (T:Blk w tb 2 #[t]) (D:Blk w sb 43 #[.slice A S.W.bs.length c,S.W.home,.slice B S.st.length e,.slice C S.ct.length f]) (G:Blk w bb 33 b) :
  PredK 89 #[.pointer (some ⟨tb,0,none⟩),.pointer (some ⟨sb,0,none⟩),.pointer (some ⟨bb,0,none⟩)] oneSight (fun x=>decide (x.tick=t)&&(S.look x).excl b.place) xs w:=fun W x hm hk=>by
 have cx:=fun w h=>sky_Excludes_any A B C c e f S x b.place w hS h (hx x hm) (Bx.place_bd hb);have T1:=T.kpN hk;have D1:=D.kpN hk;have G1:=G.kpN hk;have hA1:=hA.kpN hk;unfold oneSight;change Calls Tryz.prog 89 #[x,.pointer (some ⟨tb,0,none⟩),.pointer (some ⟨sb,0,none⟩),.pointer (some ⟨bb,0,none⟩)] W fun e9 w'=>e9=.returned (.bool (decide (x.tick=t)&&(S.look x).excl b.place))∧Kp W.heap.size none W w';simp only[Bx.place] at cx ⊢;generalize (S.look x).excl ⟨b.x,b.y⟩=r at *;clear hS hx hb hm hk T D G hA;obtain⟨w1,hw1,X,K,hz⟩:=box1 W 90 x;have T:=T1.kpN K;have D:=D1.kpN K;have G:=G1.kpN K;have hA:=hA1.kpN K;clear T1 D1 G1 hA1;have cT:=T.cell;have cD:=D.cell;have cG:=G.cell;have cX:=X.cell;rw[hw1] at cT cD cG cX;by_cases h:x.tick=t
 ·
  have n1:decide (x.tick=t)=true:=decide_eq_true h;have n2:(x.tick==t)=true:=by simp[h]
  clear h;go_enter Tryz.func89,Tryz.ntmps89
  go_wp2_with fail
  rw[← hw1];refine(cx _ hA).mono ?_;rintro e9 w2 ⟨rfl,k⟩;clear cT cD cG cX hw1;go_wp2
  go_ret
  exact⟨by rw[n1];rfl,K.thenN k oM⟩
 ·
  have n1:decide (x.tick=t)=false:=decide_eq_false h;have n2:(x.tick==t)=false:=by simp[h]
  clear h;go_enter Tryz.func89,Tryz.ntmps89
  go_wp2
  go_ret
  exact⟨by rw[n1];rfl,by rw[← hw1];exact K⟩
theorem filter1_pred (A B C:Option Addr) (c e f:Nat) (S:Sky) (t:Int) (G:Option Addr) (n:Nat) (gs:List Sg) (tb sb gb:Nat) (xs:List Bx) (w:World) (hS:S.ok) (hA:SkyAt none w A B C S) (hg:Rd none w 9 encSg G gs.length gs) (hgl:gs.length≤1000) (hx:∀ x∈gs,S.okSg x) (hb:∀ b∈xs,okBx b=true)
  (T:Blk w tb 2 #[t]) (D:Blk w sb 43 #[.slice A S.W.bs.length c,S.W.home,.slice B S.st.length e,.slice C S.ct.length f]) (H:Blk w gb 44 #[.slice G gs.length n]) :
  PredK 87 #[.pointer (some ⟨gb,0,none⟩),.pointer (some ⟨tb,0,none⟩),.pointer (some ⟨sb,0,none⟩)] oneBox (fun b=>S.exB gs t b) xs w:=fun W b hm hk=>by
 have hbb:=hb b hm;have K:=Kp.new1 W (.cells b 33);have X:=Blk.new W 33 b;have T1:=(T.kpN hk).kpN K;have D1:=(D.kpN hk).kpN K;have H1:=(H.kpN hk).kpN K;have hA1:=(hA.kpN hk).kpN K;have hg1:=(hg.kpN hk).kpN K;have cc:=containsSight_any 89 #[.pointer (some ⟨tb,0,none⟩),.pointer (some ⟨sb,0,none⟩),.pointer (some ⟨W.heap.size,0,none⟩)] (fun x=>decide (x.tick=t)&&(S.look x).excl b.place) (enters_of Tryz.func89 (by kernel_rfl) rfl) G n gs _ (filter11_pred A B C c e f S t b tb sb W.heap.size gs _ hS hA1 hx hbb T1 D1 X) hg1 oM;unfold oneBox;change Calls Tryz.prog 87 #[b,.pointer (some ⟨gb,0,none⟩),.pointer (some ⟨tb,0,none⟩),.pointer (some ⟨sb,0,none⟩)] W fun e9 w'=>e9=.returned (.bool (gs.any fun x=>decide (x.tick=t)&&(S.look x).excl b.place))∧Kp W.heap.size none W w';generalize (gs.any fun x=>decide (x.tick=t)&&(S.look x).excl b.place)=r at *;clear hS hx hb hm hk T D H hA hbb hgl;have cH:=H1.cell;go_enter Tryz.func87,Tryz.ntmps87
 go_wp2_with fail
 refine cc.mono ?_;rintro e9 w2 ⟨rfl,k⟩;clear cH;go_wp2
 go_ret
 exact⟨rfl,K.tN k⟩
def FltPost (m:List Bx) (w:World) (e:Ending) (w':World):Prop:=∃ A cap,e=.returned (.slice A m.length cap)∧Rd none w' 8 encBx A m.length m∧(∀ ad,A=some ad→w.heap.size≤ad.block)∧Kp w.heap.size none w w'
theorem orbit_filter_any (A B C:Option Addr) (c e f:Nat) (S:Sky) (t:Int) (G:Option Addr) (n:Nat) (gs:List Sg) (L:Option Addr) (m:Nat) (l:List Bx) (w:World) (hS:S.ok) (hA:SkyAt none w A B C S) (hg:Rd none w 9 encSg G gs.length gs) (hgl:gs.length≤1000) (hx:∀ x∈gs,S.okSg x) (hb:∀ b∈l,okBx b=true)
  (hr:Rd none w 8 encBx L l.length l) (hl:l.length≤1000) :
  Calls Tryz.prog 39 #[.agg #[.slice A S.W.bs.length c,S.W.home,.slice B S.st.length e,.slice C S.ct.length f],t,.slice L l.length m,.slice G gs.length n] w (FltPost (l.filter fun b=>!S.exB gs t b) w):=by
 obtain⟨w1,hw1,D,T,H,K,hz⟩:=box3 w 43 #[.slice A S.W.bs.length c,S.W.home,.slice B S.st.length e,.slice C S.ct.length f] 2 #[t] 44 #[.slice G gs.length n];go_enter Tryz.func39,Tryz.ntmps39
 go_wp2_with fail
 rw[← hw1];clear hw1;have hp:=filter1_pred A B C c e f S t G n gs (w.heap.size+1) w.heap.size (w.heap.size+2) l w1 hS (hA.kpN K) (hg.kpN K) hgl hx hb T D H;refine(cloneBox_any L m l _ (hr.kpN K) oM).mono ?_;rintro e9 w2 ⟨v,rfl,own,k⟩
 have hd:=deleteBox_any 87 #[.pointer (some ⟨w.heap.size+2,0,none⟩),.pointer (some ⟨w.heap.size+1,0,none⟩),.pointer (some ⟨w.heap.size,0,none⟩)] (fun b=>S.exB gs t b) (enters_of Tryz.func87 (by kernel_rfl) rfl) w1.heap.size v l w2
  (fun W x hx' hk=>hp W x hx' (k.trans hk)) own k.size oM
 replace K:=K.thenN k oM;clear hS hA hg hx hb hr hp own D T H;clear k;go_wp2_with fail
 refine hd.mono ?_;rintro e9 w3 ⟨A2,cap2,rfl,hr2,k2,hfr⟩;replace hfr:=Lib.hid hfr;go_wp2
 go_ret
 exact⟨A2,cap2,rfl,hr2,fun ad e=>by have:=hfr.out ad e;omega,K.trans (k2.mono oM)⟩
def AbideE {β:Type} (J:β→World→Prop):Prop:=∀ s W W',J s W→Kp W.heap.size none W W'→J s W'
def PutE {β:Type} (r:Nat) (J:β→World→Prop):Prop:=∀ s W l o o',l=r→J s W→W.heap[l]?=some o→o.isCells=false→J s (W.putObj l o')
def SeqE {α:Type} (P:Program) (gf:Nat) (lb:Array Value) (Hd:α→Array Value→World→Prop) (xs:List α) (X:Nat→Prop) (M:Nat) (Pre:World→Prop):Prop:=
 ∀ (l:Nat) (J Jx:List α→World→Prop) (W:World),M≤l→AbideE J→AbideE Jx →
  (∀ pre x rest vals W1,xs=pre++x::rest→J pre W1→Hd x vals W1→YieldAt Fence.wide 0 P l vals W1 fun e W'=>
   (e=.returned (.bool true)∧J (pre++[x]) W'∧Kz W1.heap.size X W1 W')∨(e=.returned (.bool false)∧Jx (pre++[x]) W'∧Kz W1.heap.size (fun k=>X k∨k=l) W1 W')) →
  J [] W→Pre W →
  Calls P gf (#[.func (.yield l) #[] #[]]++lb) W fun e W'=>(∃ v,e=.returned v)∧(J xs W'∨∃ pre,Jx pre W')
def roundE {α:Type} (X:Nat→Prop) (C:List α→World→Prop) (Cx:Code→List α→World→Prop) (xs:List α) (W:World):Exit→Act→World→Prop
 | .normal,_,W'=>Kz W.heap.size X W W'∧C xs W'
 | .ret,_,W'=>Kz W.heap.size X W W'∧Cx .ret xs W'
 | .exit id,_,W'=>Kz W.heap.size X W W'∧Cx (.exit id) xs W'
 | .goto t,_,W'=>Kz W.heap.size X W W'∧Cx (.goto t) xs W'
 | .panic _,_,_=>False
 | .outgrown,_,_=>False
section
variable {P:Program} {α:Type} {g:Operand} {ps:Array Tmp} {assign body:Code} {Q:Exit→Act→World→Prop} {a:Act} {w:World} {gf:Nat} {lb:Array Value}
 {Hd:α→Array Value→World→Prop} {xs:List α} {X:Nat→Prop} {Pre:World→Prop}
theorem wp_rangeFunc_e (hg:a.eval g=.func (.func gf) #[] lb) (eg:∀ args w,(callFunc gf args).run P w=.ok (.enter gf args) w)
  {M0:Nat} (hseq:SeqE P gf lb Hd xs X M0 Pre) (hM0:M0≤w.heap.size) (hPre:∀ w',Kp w.heap.size none w w'→Pre w') (hps:∀ x v W,Hd x v W→v.size=ps.size) (hX:∀ k,X k→k<w.heap.size)
  (C:List α→World→Prop) (Cx:Code→List α→World→Prop) (hC:AbideE C) (hCx:∀ c,AbideE (Cx c)) (hCp:PutE (w.heap.size+1) C) (hCxp:∀ c,PutE (w.heap.size+1) (Cx c)) (h0:C [] w)
  (hround:∀ (l:Nat) (pre:List α) (x:α) (rest:List α) (vals:Array Value) (W:World) (K:Act→World→Prop),xs=pre++x::rest→C pre W→Hd x vals W→l=w.heap.size+1→w.heap.size+2≤W.heap.size →
   Kz w.heap.size X w W→(∃ r,W.heap[l]?=some (.loop r)) →
   (∀ a₁ W₁,Kp W.heap.size none W W₁→(∀ W₂,Kp W₁.heap.size (some l) W₁ W₂→W₂.heap.size=W₁.heap.size→(∃ r,W₂.heap[l]?=some (.loop r))→C pre W₂ →
    body.wpIn (Fence.wide.inRound l) 0 P (roundE X C Cx (pre++[x]) W₂) a₁ W₂)→K a₁ W₁) →
   assign.wpIn (Fence.wide.inRound l) 0 P (Exit.then K (fun _ _ _=>False)) { tmps:=(ps.zip vals).foldl (fun t (p,v)=>t.setIfInBounds p v) a.tmps,defers:=[] } W)
  (hdone:∀ (W:World),C xs W→Kz w.heap.size X w W→W.heap[w.heap.size]?=some (.deferred (some []))→w.heap.size+2≤W.heap.size→Q .normal { a with defers:={ target:=.collected w.heap.size,args:=#[] }::a.defers } W)
  (hstop:∀ (c:Code) (pre:List α) (W:World),Cx c pre W→Kz w.heap.size X w W→W.heap[w.heap.size]?=some (.deferred (some []))→w.heap.size+2≤W.heap.size→c.wpIn Fence.wide 0 P Q { a with defers:={ target:=.collected w.heap.size,args:=#[] }::a.defers } W) :
  (Code.rangeFunc g ps assign body).wp P Q a w:=by
 refine(wpIn_wide (n:=0)).1 (wpIn_rangeFunc ?_);intro fn hfn;rw[show Fence.wide.round=none from rfl];obtain⟨rec,hrec⟩:∃ rec:LoopState→Option Code→Loop,rec=fun st pe=>{ state:=st,pending:=pe,fn,tmps:=a.tmps,params:=ps,assign,body,defers:=w.heap.size }:=⟨_,rfl⟩;obtain⟨W1,hW1⟩:∃ W1,(w.alloc (.deferred (some []))).alloc (.loop (rec .ready none))=W1:=⟨_,rfl⟩
 have hL1:W1.heap[w.heap.size+1]?=some (.loop (rec .ready none)):=by
  rw[← hW1];have:=World.alloc_heap_new (w.alloc (.deferred (some []))) (.loop (rec .ready none));rwa [World.size_alloc] at this
 have hK1:W1.heap[w.heap.size]?=some (.deferred (some [])):=by
  rw[← hW1];exact(Below.heap_alloc _ _ _ (by simp)).trans (World.alloc_heap_new w _)
 have hk1:Kp w.heap.size none w W1:=by
  rw[← hW1];exact((Kp.refl w.heap.size none w).alloc (Nat.le_refl _) _).alloc (by simp) _
 have hs1:w.heap.size+2≤W1.heap.size:=by rw[← hW1];simp
 obtain⟨M,hM⟩:∃ M,M=w.heap.size:=⟨_,rfl⟩;obtain⟨B,hB⟩:∃ B:(Nat→Prop)→World→Prop,B=fun S W=>W.heap[w.heap.size]?=some (.deferred (some []))∧(∀ k,S k→¬ X k∧(k<w.heap.size→False)∧k≠w.heap.size∧k≠w.heap.size+1)∧Kz w.heap.size X w W∧w.heap.size+2≤W.heap.size:=⟨_,rfl⟩;have hBe:∀ S W,B S W↔(W.heap[w.heap.size]?=some (.deferred (some []))∧(∀ k,S k→¬ X k∧(k<w.heap.size→False)∧k≠w.heap.size∧k≠w.heap.size+1)∧Kz w.heap.size X w W∧w.heap.size+2≤W.heap.size):=fun S W=>by rw[hB]
 clear hB
 have Bstep:∀ S W W' row,B S W→Kp W.heap.size row W W'→(∀ r,row=some r→S r)→B (fun k=>S k∨(W.heap.size≤k∧k<W'.heap.size)) W':=fun S W W' row h hk hr=>by
  obtain⟨h1,h2,h3,h4⟩:=(hBe _ _).1 h;have hz:=hk.size;refine(hBe _ _).2 ⟨(hk.block _ oM (fun e=>(h2 _ (hr _ e.symm)).2.2.1 rfl)).trans h1,?_,h3.then_ hk oM (fun r e hlt=>((h2 r (hr r e)).2.1 hlt).elim),by omega⟩;rintro k (hk'|hk')
  · exact h2 k hk'
  · exact⟨fun hx=>by have:=hX k hx;omega,fun hlt=>by omega,by omega,by omega⟩
 have Bless:∀ S S' W,B S W→(∀ k,S' k→S k)→B S' W:=fun S S' W h hs=>by
  obtain⟨h1,h2,h3,h4⟩:=(hBe _ _).1 h;exact(hBe _ _).2 ⟨h1,fun k hk=>h2 k (hs k hk),h3,h4⟩
 have Brec:∀ S W W' row,B S W→Kp W.heap.size row W W'→(∀ r,row=some r→S r)→∀ o,W.heap[w.heap.size+1]?=some o→W'.heap[w.heap.size+1]?=some o:=fun S W W' row h hk hr o ho=>by
  obtain⟨h1,h2,h3,h4⟩:=(hBe _ _).1 h;exact(hk.block _ oM (fun e=>(h2 _ (hr _ e.symm)).2.2.2 rfl)).trans ho
 have Bz:∀ S W W',B S W→Kz W.heap.size X W W'→B S W':=fun S W W' h hk=>by
  obtain⟨h1,h2,h3,h4⟩:=(hBe _ _).1 h;have hz:=hk.size;exact(hBe _ _).2 ⟨(hk.block _ oM (fun e=>by have:=hX _ e;omega)).trans h1,h2,h3.trans (hk.less oM (fun k _ hx=>hx)),by omega⟩
 have Bput:∀ S W o',B S W→B S (W.putObj (w.heap.size+1) o'):=fun S W o' h=>by
  obtain⟨h1,h2,h3,h4⟩:=(hBe _ _).1 h;exact(hBe _ _).2 ⟨(World.putObj_heap_other oM).trans h1,h2,h3.trans ⟨rfl,rfl,rfl,by simp,fun i hi _=>World.putObj_heap_other oM⟩,by simp;omega⟩
 refine⟨w.heap.size+1,[{ target:=.collected w.heap.size,args:=#[] }],W1,{ target:=.fn (.func gf) lb,args:=#[.func (.yield (w.heap.size+1)) #[] #[]] },W1,gf,
  #[.func (.yield (w.heap.size+1)) #[] #[]]++lb,W1,?_,?_,fun _ _=>trivial,?_,fun h=>(by cases h),?_⟩
 · rw[← hW1,hrec];exact run_enterLoop_outer _ _ _ _ _
 ·
  simp only[resolve,hg];simp[go_sem]
 · simp[invoke,go_sem,eg]
 ·
  refine callsIn_wide.2 ((hseq (w.heap.size+1)
   (fun pre W=>C pre W∧W.heap[w.heap.size+1]?=some (.loop (rec .ready none))∧B (fun _=>False) W)
   (fun pre W=>∃ c,Cx c pre W∧W.heap[w.heap.size+1]?=some (.loop (rec .done (some c)))∧B (fun _=>False) W)
   W1 oM ?_ ?_ ?_ ⟨hC _ _ _ h0 hk1,hL1,(hBe _ _).2 ⟨hK1,fun k hk=>hk.elim,.ofN hk1,hs1⟩⟩ (hPre _ hk1)).mono ?_)
  ·
   rintro s W W' ⟨h1,h2,h3⟩ hk;exact⟨hC _ _ _ h1 hk,Brec _ _ _ _ h3 hk (fun _ e=>by cases e) _ h2,Bless _ _ _ (Bstep _ _ _ _ h3 hk (fun _ e=>by cases e)) fun _ h=>.inl h⟩
  ·
   rintro s W W' ⟨c,h1,h2,h3⟩ hk;exact⟨c,hCx c _ _ _ h1 hk,Brec _ _ _ _ h3 hk (fun _ e=>by cases e) _ h2,Bless _ _ _ (Bstep _ _ _ _ h3 hk (fun _ e=>by cases e)) fun _ h=>.inl h⟩
  ·
   rintro pre x rest vals W hxs ⟨hi,hl,hb⟩ hd;have hy:=run_yield (P:=P) (args:=vals) hl (by rw[hrec];exact hps x vals W hd);rw[hrec] at hy;have hb':=(hBe _ _).1 hb;refine⟨fn,_,assign,body,hy,roundIn_of_wpIn hfn (hround _ pre x rest vals W _ hxs hi hd rfl hb'.2.2.2 hb'.2.2.1 ⟨_,hl⟩ fun a₁ W₂ hkw hbody=>?_)⟩;have hzw:=hkw.size;have hl2:=Brec _ _ _ _ hb hkw (fun _ e=>by cases e) _ hl;have hb2:B (fun _=>False) W₂:=Bless _ _ _ (Bstep _ _ _ _ hb hkw (fun _ e=>by cases e)) fun _ h=>.inl h;have hz2:=((hBe _ _).1 hb2).2.2.2;refine⟨_,run_beginRound hl2 (by rw[hrec]),?_⟩;obtain⟨W₃,hW₃⟩:∃ W₃,W₃=W₂.putObj (w.heap.size+1) (.loop { rec .ready none with state:=.busy }):=⟨_,rfl⟩;have hs3:W₃.heap.size=W₂.heap.size:=by rw[hW₃];simp
   have hl3:W₃.heap[w.heap.size+1]?=some (.loop { rec .ready none with state:=.busy }):=by rw[hW₃];exact World.putObj_heap_same oM
   have hb3:B (fun _=>False) W₃:=hW₃ ▸ Bput _ _ _ hb2;have hi3:C pre W₃:=hW₃ ▸ hCp _ _ _ _ _ rfl (hC _ _ _ hi hkw) hl2 rfl;have ho3:∀ k,k≠w.heap.size+1→W₃.heap[k]?=W₂.heap[k]?:=fun k hk=>by rw[hW₃];exact World.putObj_heap_other hk
   have hk3:Kp W₂.heap.size (some (w.heap.size+1)) W₂ W₃:=by rw[hW₃];exact⟨rfl,rfl,rfl,by simp,fun i _ hn=>World.putObj_heap_other (fun e=>hn (by rw[e]))⟩
   replace hbody:=hbody W₃ hk3 hs3 ⟨_,hl3⟩ hi3;rw[← hW₃];refine wpIn_mono hbody ?_
   have fin:∀ (jump:Option Code) (W₄:World),Kz W₃.heap.size X W₃ W₄ →
     (Instr.endRound (w.heap.size+1) jump).run P W₄=.ok (.bool jump.isNone) (W₄.putObj (w.heap.size+1) (.loop (rec (if jump.isNone then .ready else .done) jump))) ∧
     W₄.heap[w.heap.size+1]?=some (.loop { rec .ready none with state:=.busy }) ∧
     (W₄.putObj (w.heap.size+1) (.loop (rec (if jump.isNone then .ready else .done) jump))).heap[w.heap.size+1]?=some (.loop (rec (if jump.isNone then .ready else .done) jump)) ∧
     B (fun _=>False) (W₄.putObj (w.heap.size+1) (.loop (rec (if jump.isNone then .ready else .done) jump))):=fun jump W₄ hk4=>by
    have hl4:=(hk4.block (w.heap.size+1) oM (fun e=>by have:=hX _ e;omega)).trans hl3;have hz4:=hk4.size;have:=run_endRound (P:=P) jump hl4;rw[hrec] at this ⊢;exact⟨this,by rw[hrec] at hl4;exact hl4,World.putObj_heap_same oM,Bput _ _ _ (Bz _ _ _ hb3 hk4)⟩
   have stop:∀ (W₄:World) (o':Obj),Kz W₃.heap.size X W₃ W₄→Kz W.heap.size (fun k=>X k∨k=w.heap.size+1) W (W₄.putObj (w.heap.size+1) o'):=fun W₄ o' hk4=>by
    have hz4:=hk4.size
    exact⟨hk4.os.trans (hk3.os.trans hkw.os),hk4.tape.trans (hk3.tape.trans hkw.tape),hk4.output.trans (hk3.output.trans hkw.output),by simp;omega,fun k hk hx=>
     (World.putObj_heap_other (fun e=>hx (.inr e))).trans ((hk4.block k oM (fun e=>hx (.inl e))).trans ((ho3 k (fun e=>hx (.inr e))).trans (hkw.block k hk (by simp))))⟩
   rintro e a₃ W₄ hp;cases e with
   | normal=>
    obtain⟨hk4,hi4⟩:=hp;obtain⟨hr,hl4,hl5,hb5⟩:=fin none W₄ hk4;have hz4:=hk4.size;refine⟨_,_,hr,.inl ⟨rfl,⟨hCp _ _ _ _ _ rfl hi4 hl4 rfl,hl5,hb5⟩,?_⟩⟩;refine⟨hk4.os.trans (hk3.os.trans hkw.os),hk4.tape.trans (hk3.tape.trans hkw.tape),hk4.output.trans (hk3.output.trans hkw.output),by simp;omega,fun k hk hx=>?_⟩;by_cases e:k=w.heap.size+1
    · rw[e];exact hl5.trans hl.symm
    · exact(World.putObj_heap_other e).trans ((hk4.block k oM hx).trans ((ho3 k e).trans (hkw.block k hk (by simp))))
   | ret=>
    obtain⟨hk4,hi4⟩:=hp;obtain⟨hr,hl4,hl5,hb5⟩:=fin (some .ret) W₄ hk4;exact⟨_,_,hr,.inr ⟨rfl,⟨.ret,hCxp _ _ _ _ _ _ rfl hi4 hl4 rfl,hl5,hb5⟩,stop _ _ hk4⟩⟩
   | exit id=>
    obtain⟨hk4,hi4⟩:=hp;obtain⟨hr,hl4,hl5,hb5⟩:=fin (some (.exit id)) W₄ hk4;exact⟨_,_,hr,.inr ⟨rfl,⟨.exit id,hCxp _ _ _ _ _ _ rfl hi4 hl4 rfl,hl5,hb5⟩,stop _ _ hk4⟩⟩
   | goto t=>
    obtain⟨hk4,hi4⟩:=hp;obtain⟨hr,hl4,hl5,hb5⟩:=fin (some (.goto t)) W₄ hk4;exact⟨_,_,hr,.inr ⟨rfl,⟨.goto t,hCxp _ _ _ _ _ _ rfl hi4 hl4 rfl,hl5,hb5⟩,stop _ _ hk4⟩⟩
   | panic ch=>exact hp.elim
   | outgrown=>exact hp.elim
  ·
   rintro e W2 ⟨⟨v,rfl⟩,(⟨hi,hl,hb⟩|⟨pre,c,hi,hl,hb⟩)⟩
   ·
    have he:(Instr.endLoop (w.heap.size+1)).run P W2=.ok none (W2.putObj (w.heap.size+1) (.loop { rec .ready none with state:=.exhausted })):=by
     have:=run_endLoop (P:=P) hl (by rw[hrec];simp);rw[hrec] at this ⊢;exact this
    have q:=(hBe _ _).1 (Bput _ _ (.loop { rec .ready none with state:=.exhausted }) hb);exact⟨none,_,he,hdone _ (hCp _ _ _ _ _ rfl hi hl rfl) q.2.2.1 q.1 q.2.2.2⟩
   ·
    have he:(Instr.endLoop (w.heap.size+1)).run P W2=.ok (some c) (W2.putObj (w.heap.size+1) (.loop { rec .done (some c) with state:=.exhausted })):=by
     have:=run_endLoop (P:=P) hl (by rw[hrec];simp);rw[hrec] at this ⊢;exact this
    have q:=(hBe _ _).1 (Bput _ _ (.loop { rec .done (some c) with state:=.exhausted }) hb);exact⟨some c,_,he,hstop c pre _ (hCxp _ _ _ _ _ _ rfl hi hl rfl) q.2.2.1 q.1 q.2.2.2⟩
end
end Go.Proofs.YtdhiappifnflpaaGreat
namespace Go.Proofs.YtdhiappifnflpaaGreat
open Go.RowKit
attribute [local go_sem] Oper.semAt_some
theorem Rd.sg9 {w:World} {A:Option Addr} {l:List Sg} (h:Rd none w 9 encSg A l.length l) {i:Nat} (hi:i<l.length):∃ b o,A=some ⟨b,o,none⟩∧b<w.heap.size ∧
  ∀ j u,(encSg l[i])[j]?=some u→w.cell? ⟨b,o+i * 9+j,none⟩=some u:=by
 obtain⟨b,o,rfl,hb,-,hc⟩:=h.at_ oM;exact⟨b,o,rfl,hb,fun j u hj=>by rw[Nat.add_assoc];exact hc i hi j u hj⟩
theorem orbit_checkSights_any (A B C:Option Addr) (c e f:Nat) (S:Sky) (G:Option Addr) (n:Nat) (gs:List Sg) (w:World) (hS:S.ok) (hA:SkyAt none w A B C S) (hg:Rd none w 9 encSg G gs.length gs) (hgl:gs.length≤64) (hx:∀ x∈gs,S.okSg x) :
  Calls Tryz.prog 38 #[.agg #[.slice A S.W.bs.length c,S.W.home,.slice B S.st.length e,.slice C S.ct.length f],.slice G gs.length n] w fun e9 w'=>e9=.returned (.int .i64 0)∧Kp w.heap.size none w w':=by
 have n1:¬ (64:Int)<(gs.length:Int):=by omega
 have ck:∀ x,S.okSg x→∀ w,SkyAt none w A B C S→Calls Tryz.prog 78 #[.agg #[.slice A S.W.bs.length c,S.W.home,.slice B S.st.length e,.slice C S.ct.length f],x] w fun e9 w'=>e9=.returned (.int .i64 0)∧Kp w.heap.size none w w':=fun x hx w h=>(sky_CheckSight_any A B C c e f S x w hS h).mono fun e9 w' ⟨⟨v,h1,h2⟩,h3⟩=>⟨by rw[h1,h2.2 hx],h3⟩;obtain⟨w1,hw1,D,K,hz⟩:=box1 w 43 #[.slice A S.W.bs.length c,S.W.home,.slice B S.st.length e,.slice C S.ct.length f];clear hS;go_enter Tryz.func38,Tryz.ntmps38
 go_wp2_with fail
 rw[← hw1];clear hw1;go_loopw [13] (fun v wr=>∃ i:Nat,v=.int .i64 i∧i≤gs.length∧Blk wr w.heap.size 43 #[.slice A S.W.bs.length c,S.W.home,.slice B S.st.length e,.slice C S.ct.length f]∧Kp w.heap.size none w wr) (fun v _=>(gs.length:Int).toNat-(intOf v).toNat)
 case atStart=>exact⟨0,rfl,Nat.zero_le _,D,K⟩
 case round=>
  obtain⟨i,rfl,hi,D1,K1⟩:=hrel;clear D K;have D:=D1;have K:=K1;clear D1 K1;by_cases h:i<gs.length
  ·
   obtain⟨b,o,rfl,hlt,hc⟩:=(hg.kpN K).sg9 h;have c0:wr.cell? ⟨b,o+i * 9+0,none⟩=some (.int .i64 gs[i].kind):=hc 0 _ rfl;have c1:wr.cell? ⟨b,o+i * 9+1,none⟩=some (.int .i64 gs[i].stn):=hc 1 _ rfl;have c2:wr.cell? ⟨b,o+i * 9+2,none⟩=some (.int .i64 gs[i].cat):=hc 2 _ rfl;have c3:wr.cell? ⟨b,o+i * 9+3,none⟩=some (.int .i64 gs[i].tick):=hc 3 _ rfl;have c4:wr.cell? ⟨b,o+i * 9+4,none⟩=some (.int .i64 gs[i].dx):=hc 4 _ rfl;have c5:wr.cell? ⟨b,o+i * 9+5,none⟩=some (.int .i64 gs[i].dy):=hc 5 _ rfl;have c6:wr.cell? ⟨b,o+i * 9+6,none⟩=some (.int .i64 gs[i].err):=hc 6 _ rfl;have c7:wr.cell? ⟨b,o+i * 9+7,none⟩=some (.int .i64 gs[i].lo):=hc 7 _ rfl;have c8:wr.cell? ⟨b,o+i * 9+8,none⟩=some (.int .i64 gs[i].hi):=hc 8 _ rfl;simp only[Nat.add_zero] at c0;have hii:(i:Int)<(gs.length:Int):=by omega
   have hi0:(0:Int)≤(i:Int):=by omega
   have hm:(gs.length:Int).toNat-((i+1:Nat):Int).toNat<(gs.length:Int).toNat-(i:Int).toNat:=by omega
   replace hm:=Lib.hid hm;have hcx:=ck _ (hx _ (List.getElem_mem h));generalize gs[i]=x at *;clear hc hx ck hg;have k1:=Kp.new1 wr (.cells x 90);have D1:=D.kpN k1;have K1:=K.tN k1;have cD:=D1.cell;go_wp2_with fail
   refine(hcx _ (hA.kpN K1)).mono ?_;rintro e9 w2 ⟨rfl,k⟩;replace D:=D1.kpN k;replace K:=K1.tN k;clear k k1 D1 K1 cD c0 c1 c2 c3 c4 c5 c6 c7 c8 hcx;replace h:=Lib.hid h;go_wp2
   go_roundw
   case rel=>exact⟨i+1,by congr 1,h.out,D,K⟩
   case measure=>exact hm.out
  ·
   obtain rfl:i=gs.length:=by omega
   clear hx ck hg;have cD:=D.cell;have fD:=D.frozen;go_wp2_with fail
   clear cD fD;go_ret
   exact⟨rfl,K⟩
def FilPost (m:List Bx) (w:World) (e:Ending) (w':World):Prop:=∃ A cap,e=.returned (.tuple #[.slice A m.length cap,(0:Int)])∧Rd none w' 8 encBx A m.length m∧(∀ ad,A=some ad→w.heap.size≤ad.block)∧Kp w.heap.size none w w'
def updF (W:Wd) (d:Dr) (ex:Int→Bx→Bool):Nat→Int→List Bx→List (List Bx × Bool)
 | 0,_,m=>[(m,true)]
 | n+1,t,m=>(m,true)::match stepAll W d t m with
  | none=>[([],false)]
  | some q=>updF W d ex n (t+1) (q.filter fun b=>!ex (t+1) b)
def updG (W:Wd) (d:Dr) (ex:Int→Bx→Bool):Nat→Int→List Bx→Option (List Bx)
 | 0,_,m=>some m
 | n+1,t,m=>match stepAll W d t m with
  | none=>none
  | some q=>updG W d ex n (t+1) (q.filter fun b=>!ex (t+1) b)
theorem updW_G {W:Wd} {d:Dr} {ex:Int→Bx→Bool}:∀ (n:Nat) (t:Int) (l:List Bx),updW W d ex n t l=updG W d ex n t (l.filter fun b=>!ex t b)
 | 0,_,_=>rfl
 | n+1,t,l=>by
  unfold updW updG;cases stepAll W d t (l.filter fun b=>!ex t b) with
  | none=>rfl
  | some q=>exact updW_G n (t+1) q
theorem updF_spec {W:Wd} {d:Dr} {ex:Int→Bx→Bool}:∀ (n:Nat) (t:Int) (m:List Bx),(∃ (q:List Bx) (ini:List (List Bx × Bool)),updG W d ex n t m=some q∧updF W d ex n t m=ini++[(q,true)]∧∀ p∈ini,p.2=true)∨(updG W d ex n t m=none∧∃ ini:List (List Bx × Bool),updF W d ex n t m=ini++[([],false)]∧∀ p∈ini,p.2=true)
 | 0,_,m=>.inl ⟨m,[],rfl,rfl,by simp⟩
 | n+1,t,m=>by
  unfold updG updF;cases stepAll W d t m with
  | none=>exact .inr ⟨rfl,[(m,true)],rfl,by simp⟩
  | some q=>
   rcases updF_spec (W:=W) (d:=d) (ex:=ex) n (t+1) (q.filter fun b=>!ex (t+1) b) with⟨r,ini,h1,h2,h3⟩|⟨h1,ini,h2,h3⟩
   ·
    exact .inl ⟨r,(m,true)::ini,h1,by simp only[h2,List.cons_append],fun p hp=>by
     rcases List.mem_cons.1 hp with rfl|hp
     · rfl
     · exact h3 p hp⟩
   ·
    exact .inr ⟨h1,(m,true)::ini,by simp only[h2,List.cons_append],fun p hp=>by
     rcases List.mem_cons.1 hp with rfl|hp
     · rfl
     · exact h3 p hp⟩
theorem updF_head (W:Wd) (d:Dr) (ex:Int→Bx→Bool) (n:Nat) (t:Int) (m:List Bx):∃ r,updF W d ex n t m=(m,true)::r:=by
 cases n with
 | zero=>exact⟨[],rfl⟩
 | succ n=>exact⟨_,rfl⟩
def HdU (p:List Bx × Bool) (v:Array Value) (W:World):Prop:=∃ A c,v=#[.slice A p.1.length c,.bool p.2]∧Rd none W 8 encBx A p.1.length p.1
theorem updF_some {W:Wd} {d:Dr} {ex:Int→Bx→Bool} {n:Nat} {t:Int} {m q:List Bx} (h:stepAll W d t m=some q):updF W d ex (n+1) t m=(m,true)::updF W d ex n (t+1) (q.filter fun b=>!ex (t+1) b):=by
 rw[updF,h]
theorem updF_none {W:Wd} {d:Dr} {ex:Int→Bx→Bool} {n:Nat} {t:Int} {m:List Bx} (h:stepAll W d t m=none):updF W d ex (n+1) t m=[(m,true),([],false)]:=by
 rw[updF,h]
theorem Rd.kzX {α:Type} {w w':World} {X:Nat→Prop} {sz n:Nat} {enc:α→List Value} {A:Option Addr} {xs:List α} (h:Rd none w sz enc A n xs) (k:Kz w.heap.size X w w') (hX:∀ ad,A=some ad→¬ X ad.block):Rd none w' sz enc A n xs:=by
 refine⟨h.1,fun hn=>?_⟩;obtain⟨b,o,rfl,hb,h4,h5⟩:=h.2 hn;exact⟨b,o,rfl,Nat.lt_of_lt_of_le hb k.size,h4,fun i hi j v hv=>(World.cell?_of_block (k.block b hb (hX _ rfl))).trans (h5 i hi j v hv)⟩
def UpAt (W:Wd) (d:Dr) (ex:Int→Bx→Bool) (k:Nat) (t:Int) (n0:Nat) (L:List (List Bx × Bool)) (w0:World) (X:Nat→Prop) (J:List (List Bx × Bool)→World→Prop) (v i9:Value) (wr:World):Prop:=
 ∃ (i:Nat) (m:List Bx) (pre:List (List Bx × Bool)) (A:Option Addr) (c:Nat),i9=.int .i64 i∧i≤k∧v=.slice A m.length c∧Rd none wr 8 encBx A m.length m∧(∀ ad,A=some ad→w0.heap.size≤ad.block)∧(∀ b∈m,okBx b=true)∧m.length≤n0∧L=pre++updF W d ex (k-i) (t+i) m∧J pre wr∧Kz w0.heap.size X w0 wr
theorem updates_seq (wb w0:World) (A B C:Option Addr) (c e f:Nat) (S:Sky) (d:Dr) (t:Int) (G:Option Addr) (n:Nat) (gs:List Sg) (L:Option Addr) (m:Nat) (l:List Bx) (k:Nat) (sb db tb lb kb gb:Nat) (X:Nat→Prop)
  (hS:S.ok) (hd:d.ok) (ht:0≤t∧t≤1000000) (hk:k≤400) (hgl:gs.length≤64) (hx:∀ x∈gs,S.okSg x) (hb:∀ b∈l,okBx b=true) (hl:l.length≤512)
  (hA:SkyAt none wb A B C S) (hg:Rd none wb 9 encSg G gs.length gs) (hr:Rd none wb 8 encBx L l.length l) (hwb:Kp wb.heap.size none wb w0) (hX:∀ k,X k→wb.heap.size≤k) (hXl:∀ k,X k→k<w0.heap.size)
  (bS:Blk w0 sb 43 #[.slice A S.W.bs.length c,S.W.home,.slice B S.st.length e,.slice C S.ct.length f]) (bD:Blk w0 db 31 d) (bT:Blk w0 tb 2 #[t]) (bL:Blk w0 lb 47 #[.slice L l.length m]) (bK:Blk w0 kb 3 #[k]) (bG:Blk w0 gb 44 #[.slice G gs.length n])
  (nS:¬ X sb) (nD:¬ X db) (nT:¬ X tb) (nL:¬ X lb) (nK:¬ X kb) (nG:¬ X gb) :
  SeqE Tryz.prog 103 #[.pointer (some ⟨sb,0,none⟩),.pointer (some ⟨tb,0,none⟩),.pointer (some ⟨lb,0,none⟩),.pointer (some ⟨gb,0,none⟩),.pointer (some ⟨kb,0,none⟩),.pointer (some ⟨db,0,none⟩)] HdU
   (updF S.W d (S.exB gs) k t (l.filter fun b=>!S.exB gs t b)) X w0.heap.size (fun w'=>Kz w0.heap.size X w0 w'):=by
 intro l9 J Jx W0 hl9 hJ hJx hY h0 hP;change Calls Tryz.prog 103 #[.func (.yield l9) #[] #[],.pointer (some ⟨sb,0,none⟩),.pointer (some ⟨tb,0,none⟩),.pointer (some ⟨lb,0,none⟩),.pointer (some ⟨gb,0,none⟩),.pointer (some ⟨kb,0,none⟩),.pointer (some ⟨db,0,none⟩)] W0 (fun e W'=>(∃ v,e=.returned v)∧(J _ W'∨∃ pre,Jx pre W'));replace hY:=Lib.hid hY;obtain⟨xs,hxs⟩:∃ xs,Hid (xs=updF S.W d (S.exB gs) k t (l.filter fun b=>!S.exB gs t b)):=⟨_,Lib.hid rfl⟩;rw[← hxs.out] at hY ⊢;have kb0:∀ W,Kz w0.heap.size X w0 W→Kp wb.heap.size none wb W:=fun W h=>hwb.trans ((h.less hwb.size (fun q hq e=>by have:=hX q e;omega):Kz wb.heap.size (fun _=>False) w0 W).kpN);have cS:=fun i=>(bS.kz hP bS.lt nS).cell i;have cT:=fun i=>(bT.kz hP bT.lt nT).cell i;have cL:=fun i=>(bL.kz hP bL.lt nL).cell i;have cG:=fun i=>(bG.kz hP bG.lt nG).cell i;have hA0:=hA.kpN (kb0 _ hP);have hg0:=hg.kpN (kb0 _ hP);have hr0:=hr.kpN (kb0 _ hP);have hf0:∀ b∈(l.filter fun b=>!S.exB gs t b),okBx b=true:=fun b h=>hb b (List.mem_filter.1 h).1;have hf1:=List.length_filter_le (fun b=>!S.exB gs t b) l;have cf:=fun w h h2 h3=>orbit_filter_any A B C c e f S t G n gs L m l w hS h h2 oM hx hb h3 oM;refine(callsIn_wide (n:=0)).1 (callsIn_of_wp Tryz.func103 rfl trivial ?_ rfl);simp only[Tryz.ntmps103,List.size_toArray,List.length_cons,List.length_nil,Nat.reduceAdd,Nat.reduceSub,Array.replicate_succ,Array.replicate_zero,List.push_toArray,List.append_toArray,List.nil_append,List.cons_append];gi_wp2_with fail
 refine⟨trivial,rfl,(callsIn_wide.2 (cf W0 hA0 hg0 hr0)).mono ?_⟩;rintro e9 w2 ⟨A2,cap2,rfl,hr2,hfr,k2⟩;replace hfr:=Lib.hid (fun ad e=>Nat.le_trans hP.size (hfr ad e));have hP2:=hP.thenN k2 hP.size;have h2:=hJ _ _ _ h0 k2;clear cS cT cL cG cf hA0 hg0 hr0 h0 hP k2 W0;gi_wp2_with fail
 gi_loopw [8,9] (fun v i9 wr=>UpAt S.W d (S.exB gs) k t l.length xs w0 X J v i9 wr) (fun _ i9 _=>(k:Int).toNat+1-(intOf i9).toNat)
 case atStart=>exact⟨0,_,[],A2,cap2,rfl,Nat.zero_le _,rfl,hr2,hfr.out,hf0,hf1,by rw[hxs.out];simp,h2,hP2⟩
 case round=>
  clear hr2 hP2 h2 hf0 hf1 hfr;obtain⟨i,q,pre,A3,c3,rfl,hi,rfl,hr3,hf3,hq,hql,hL,hj,hkz⟩:=hrel;obtain⟨rest,hrest⟩:=updF_head S.W d (S.exB gs) (k-i) (t+i) q;obtain⟨fn,tmps,assign,body,hy,hR⟩:=hY.out pre (q,true) rest #[.slice A3 q.length c3,.bool true] wr (by rw[hL,hrest]) hj ⟨A3,c3,rfl,hr3⟩;gi_wp2
  refine⟨rfl,hR.mono ?_⟩;rintro e9 W3 (⟨rfl,hJ3,hk3⟩|⟨rfl,hJx3,-⟩)
  case inr=>
   gi_wp2
   go_end0
   exact⟨⟨_,rfl⟩,.inr ⟨_,hJx3⟩⟩
  have hkz3:=hkz.trans (hk3.less hkz.size (fun _ _ e=>e));have hr3:Rd none W3 8 encBx A3 q.length q:=hr3.kzX hk3 (fun ad e hx=>by have:=hf3 ad e;have:=hXl _ hx;omega);have cK:=fun i=>(bK.kz hkz3 bK.lt nK).cell i;clear hy hR hj hkz hk3;by_cases hik:i<k
  ·
   have hii:(i:Int)<(k:Int):=by omega
   have cS:=fun i=>(bS.kz hkz3 bS.lt nS).cell i;have cT:=fun i=>(bT.kz hkz3 bT.lt nT).cell i;have cD:=fun i=>(bD.kz hkz3 bD.lt nD).cell i;have e1:wrap64 (t+(i:Int))=t+(i:Int):=by unfold wrap64;omega
   have e2:wrap64 (t+(i:Int)+1)=t+(i:Int)+1:=by unfold wrap64;omega
   have ca:=fun w hA hr=>orbit_all_any A c S.W d (t+i) A3 c3 q w hS.W hA hd oM hr oM hq;have hm:(k:Int).toNat+1-(((i+1:Nat):Int)).toNat<(k:Int).toNat+1-((i:Int)).toNat:=by omega
   replace hm:=Lib.hid hm;gi_wp2_with fail
   refine⟨trivial,rfl,(callsIn_wide.2 (ca _ (hA.kpN (kb0 _ hkz3)).1 hr3)).mono ?_⟩;unfold AllPost;rintro e9 w4 ⟨h4,k4⟩;have hkz4:=hkz3.thenN k4 hkz3.size;have hj4:=hJ _ _ _ hJ3 k4;have hki:k-i=(k-(i+1))+1:=by omega
   cases hs:stepAll S.W d (t+i) q with
   | none=>
    rw[hs] at h4;dsimp only at h4;subst h4;have hL2:xs=(pre++[(q,true)])++(([],false):List Bx × Bool)::[]:=by rw[hL,hki,updF_none hs];simp
    obtain⟨fn,tmps,assign,body,hy,hR⟩:=hY.out (pre++[(q,true)]) ([],false) [] #[.slice none 0 0,.bool false] w4 hL2 hj4 ⟨none,0,rfl,Rd.nil _ _ _ _ _⟩;have hL3:Hid (pre++[(q,true)]++[(([],false):List Bx × Bool)]=xs):=Lib.hid hL2.symm;clear cK cS cT cD hL hL2 hs hkz3 hkz4 ca;gi_wp2
    refine⟨rfl,hR.mono ?_⟩;rintro e9 W5 (⟨rfl,hJ5,hk5⟩|⟨rfl,hJx5,-⟩)
    ·
     rw[hL3.out] at hJ5;gi_wp2
     refine bodyPost_ret (results_none rfl _ _ _) rfl ⟨⟨_,rfl⟩,.inl hJ5⟩
    ·
     gi_wp2
     refine bodyPost_ret (results_none rfl _ _ _) rfl ⟨⟨_,rfl⟩,.inr ⟨_,hJx5⟩⟩
   | some m2=>
    rw[hs] at h4;dsimp only at h4;obtain⟨A4,c4,rfl,hr4⟩:=h4;obtain⟨-,o4,o5⟩:=stepAll_mem hs;have o6:m2.length≤l.length:=by omega
    clear o5;have cS:=fun i=>(bS.kz hkz4 bS.lt nS).cell i;have cT:=fun i=>(bT.kz hkz4 bT.lt nT).cell i;have cG:=fun i=>(bG.kz hkz4 bG.lt nG).cell i;have cf:=fun w h h2 h3=>orbit_filter_any A B C c e f S (t+i+1) G n gs A4 c4 m2 w hS h h2 oM hx o4 h3 oM
    have hL2:Hid (xs=(pre++[(q,true)])++updF S.W d (S.exB gs) (k-(i+1)) (t+((i+1:Nat):Int)) (m2.filter fun b=>!S.exB gs (t+i+1) b)):=Lib.hid (by
     rw[hL,hki,updF_some hs,show t+((i+1:Nat):Int)=t+(i:Int)+1 by push_cast;omega];simp only[List.append_assoc,List.singleton_append])
    have ho:=fun b (h:b∈m2.filter fun b=>!S.exB gs (t+i+1) b)=>o4 b (List.mem_filter.1 h).1;have hl4:=List.length_filter_le (fun b=>!S.exB gs (t+i+1) b) m2;clear cK cD hL hs hkz3 ca;gi_wp2_with fail
    refine⟨trivial,rfl,(callsIn_wide.2 (cf _ (hA.kpN (kb0 _ hkz4)) (hg.kpN (kb0 _ hkz4)) hr4)).mono ?_⟩;rintro e9 w5 ⟨A5,c5,rfl,hr5,hf5,k5⟩;replace hf5:=Lib.hid (fun ad e=>Nat.le_trans hkz4.size (hf5 ad e));have hkz5:=hkz4.thenN k5 hkz4.size;have hj5:=hJ _ _ _ hj4 k5;clear cS cT cG cf hkz4 hj4 hr4 k5;replace hik:=Lib.hid hik;gi_wp2
    go_roundw
    case rel=>exact⟨i+1,_,pre++[(q,true)],A5,c5,by congr 1,hik.out,rfl,hr5,hf5.out,ho,by omega,hL2.out,hj5,hkz5⟩
    case measure=>exact hm.out
  ·
   obtain rfl:i=k:=by omega
   have hn:¬ (i:Int)<(i:Int):=by omega
   have hL2:pre++[(q,true)]=xs:=by rw[hL,Nat.sub_self];rfl
   rw[hL2] at hJ3;clear hL hL2 hrest hkz3;gi_wp2
   go_end0
   exact⟨⟨_,rfl⟩,.inl hJ3⟩
end Go.Proofs.YtdhiappifnflpaaGreat
