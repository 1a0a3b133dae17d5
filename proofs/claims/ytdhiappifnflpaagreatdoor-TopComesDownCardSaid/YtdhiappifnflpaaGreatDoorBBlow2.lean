/- The iterator over the blows of a rock: its contract. -/
import Derived.Test.YtdhiappifnflpaaGreatDoorM40
import Derived.Test.YtdhiappifnflpaaGreatDoorBIter
import Derived.Deep.DeepCutAuto
set_option maxRecDepth 100000
set_option maxHeartbeats 4000000
namespace Go.Proofs.YtdhiappifnflpaaGreatDoor.Bl
open Go.RowKit
def encB1 (b:Blow):Array Value:=#[.agg #[b.layer,b.lo,b.hi]]
structure PreB (A:Option Addr) (cap:Nat) (ls:List Layer) (r:Rock) (f:Fall) (bk bf bl:Nat) (W:World):Prop where
 k:Blk W bk 70 #[r.size.lo,r.size.hi,r.dens.lo,r.dens.hi,r.strong.lo,r.strong.hi,r.spin.lo,r.spin.hi,r.shape.lo,r.shape.hi,.bool r.pile]
 f:Blk W bf 72 #[f.speed.lo,f.speed.hi,f.slope.lo,f.slope.hi]
 l:Blk W bl 78 #[.slice A ls.length cap]
 rd:Rd none W 2 encLayer A ls.length ls
structure LowB (A:Option Addr) (n bk bf bl M X:Nat):Prop where
 k:bk<M∧bk≠X
 f:bf<M∧bf≠X
 l:bl<M∧bl≠X
 a:0<n→∀ ad,A=some ad→ad.block<M∧ad.block≠X
theorem _root_.Go.Proofs.YtdhiappifnflpaaGreatDoor.Blk.same {W W':World} {g:Nat} {t:TypeId} {cs:Array Value} (h:Blk W g t cs) (e:W'.heap[g]?=W.heap[g]?):Blk W' g t cs:=e.trans h
theorem PreB.same {A:Option Addr} {cap:Nat} {ls:List Layer} {r:Rock} {f:Fall} {bk bf bl M X:Nat} {W W':World} (h:PreB A cap ls r f bk bf bl W) (lo:LowB A ls.length bk bf bl M X)
  (hs:∀ k,k<M∧k≠X→W'.heap[k]?=W.heap[k]?) (hz:W.heap.size≤W'.heap.size):PreB A cap ls r f bk bf bl W':=by
 refine⟨h.k.same (hs _ lo.k),h.f.same (hs _ lo.f),h.l.same (hs _ lo.l),h.rd.1,fun hn=>?_⟩;obtain⟨b,o,e,hb,hr,hc⟩:=h.rd.2 hn;have hl:=lo.a hn _ e;exact⟨b,o,e,by omega,hr,fun i hi j v hv=>(World.cell?_of_block (hs b hl)).trans (hc i hi j v hv)⟩
theorem PreB.kp {A:Option Addr} {cap:Nat} {ls:List Layer} {r:Rock} {f:Fall} {bk bf bl M X:Nat} {W W':World} {row:Option Nat} (h:PreB A cap ls r f bk bf bl W) (lo:LowB A ls.length bk bf bl M X)
  (hM:M≤W.heap.size) (k:Kp W.heap.size row W W') (hr:∀ r,row=some r→M≤r):PreB A cap ls r f bk bf bl W':=
 h.same lo (fun i hi=>k.block i oM (fun e=>by have:=hr _ e.symm;omega)) k.size
theorem _root_.Go.Proofs.YtdhiappifnflpaaGreatDoor.Blk.ne_of {w:World} {a b:Nat} {t t':TypeId} {cs cs':Array Value} (h:Blk w a t cs) (k:Blk w b t' cs') (ht:t≠t'):a≠b:=fun e=>by
 subst e;unfold Blk at h k;rw[h] at k;injection k with k
 injection k with _ k
 exact ht k
def FB (W:World) (g:Nat) (s:Stone) (v:Int) (w:World):Prop:=Blk w g 137 (fallCells s v)∧W.heap.size≤g
def FB2 (W:World) (g1 g:Nat) (s:Stone) (v:Int) (w:World):Prop:=FB W g s v w∧g1<g
def PB (W:World) (p:Nat) (w:World):Prop:=W.heap.size≤p∧∃ v,Blk w p 132 #[v]
def PG (p g:Nat) (w:World):Prop:=Blk w p 132 #[.pointer (some ⟨g,0,none⟩)]
theorem FB.kpN {W w w':World} {g:Nat} {s:Stone} {v:Int} (h:FB W g s v w) (k:Kp w.heap.size none w w'):FB W g s v w':=⟨h.1.kpN k,h.2⟩
theorem FB2.kpN {W w w':World} {g1 g:Nat} {s:Stone} {v:Int} (h:FB2 W g1 g s v w) (k:Kp w.heap.size none w w'):FB2 W g1 g s v w':=⟨h.1.kpN k,h.2⟩
theorem PB.kpN {W w w':World} {p:Nat} (h:PB W p w) (k:Kp w.heap.size none w w'):PB W p w':=⟨h.1,h.2.imp fun _ h=>h.kpN k⟩
theorem PG.kpN {w w':World} {p g:Nat} (h:PG p g w) (k:Kp w.heap.size none w w'):PG p g w':=Blk.kpN h k
structure GB where
 g1:Nat
 g2:Nat
 p1:Nat
 p2:Nat
def EndY (J:(Nat→Prop)→List Blow→World→Prop) (xs:List Blow) (e:Ending) (W':World):Prop:=(∃ v,e=.returned v)∧J (fun _=>False) xs W'
structure OwnB (g1 g2 p1 p2:Nat) (a b:Stone) (va vb:Int) (w:World):Prop where
 f1:Blk w g1 137 (fallCells a va)
 f2:Blk w g2 137 (fallCells b vb)
 b1:Blk w p1 132 #[.pointer (some ⟨g1,0,none⟩)]
 b2:Blk w p2 132 #[.pointer (some ⟨g2,0,none⟩)]
 ne:g1≠g2
def S4 (g1 g2 p1 p2:Nat) (k:Nat):Prop:=k=g1∨k=g2∨k=p1∨k=p2
def LoopB (J:(Nat→Prop)→List Blow→World→Prop) (ls:List Layer) (r:Rock) (f:Fall) (g1 g2 p1 p2:Nat) (Pre:World→Prop) (W:World) (v:Value) (wr:World):Prop:=
 ∃ (i:Nat) (va vb:Int) (pre:List Blow),v=.int .i64 i∧i≤ls.length∧Vok va∧Vok vb∧OwnB g1 g2 p1 p2 (weakS r f) (strongS r f) va vb wr∧Pre wr∧J (S4 g1 g2 p1 p2) pre wr∧blowsOf ls r f=pre++blowsFrom (weakS r f) (strongS r f) (ls.drop i) i va vb∧W.heap.size≤wr.heap.size
structure JB (J:(Nat→Prop)→List Blow→World→Prop) (g1 g2 p1 p2 bx:Nat) (pre:List Blow) (a b:Stone) (va vb:Int) (Pre:World→Prop) (x:Layer) (W:World) (w:World):Prop where
 j:J (fun k=>S4 g1 g2 p1 p2 k∨k=bx) pre w
 o:OwnB g1 g2 p1 p2 a b va vb w
 p:Pre w
 x:Blk w bx 127 #[x.thick,x.dens]
 z:W.heap.size≤w.heap.size
theorem OwnB.kpN {g1 g2 p1 p2:Nat} {a b:Stone} {va vb:Int} {w w':World} (h:OwnB g1 g2 p1 p2 a b va vb w) (k:Kp w.heap.size none w w'):OwnB g1 g2 p1 p2 a b va vb w':=⟨h.f1.kpN k,h.f2.kpN k,h.b1.kpN k,h.b2.kpN k,h.ne⟩
theorem OwnB.same {g1 g2 p1 p2:Nat} {a b:Stone} {va vb:Int} {w w':World} (h:OwnB g1 g2 p1 p2 a b va vb w) (k:∀ k,S4 g1 g2 p1 p2 k→w'.heap[k]?=w.heap[k]?):OwnB g1 g2 p1 p2 a b va vb w':=
 ⟨h.f1.same (k _ (.inl rfl)),h.f2.same (k _ (.inr (.inl rfl))),h.b1.same (k _ (.inr (.inr (.inl rfl)))),h.b2.same (k _ (.inr (.inr (.inr rfl)))),h.ne⟩
section
variable {J:(Nat→Prop)→List Blow→World→Prop} {g1 g2 p1 p2 bx:Nat} {pre:List Blow} {a b:Stone} {va vb:Int} {x:Layer} {W w w':World} {A:Option Addr} {cap:Nat} {ls:List Layer} {r:Rock} {f:Fall} {bk bf bl M X:Nat}
theorem JB.kpN (h:JB J g1 g2 p1 p2 bx pre a b va vb (PreB A cap ls r f bk bf bl) x W w) (hJ:Abide J) (lo:LowB A ls.length bk bf bl M X) (hM:M≤W.heap.size) (k:Kp w.heap.size none w w'):JB J g1 g2 p1 p2 bx pre a b va vb (PreB A cap ls r f bk bf bl) x W w':=
 ⟨hJ.keepN h.j k,h.o.kpN k,h.p.kp lo (Nat.le_trans hM h.z) k (fun _ e=>by cases e),h.x.kpN k,Nat.le_trans h.z k.size⟩
theorem JB.yield (h:JB J g1 g2 p1 p2 bx pre a b va vb (PreB A cap ls r f bk bf bl) x W w) (lo:LowB A ls.length bk bf bl M X) {pre':List Blow} (hj:J (fun k=>S4 g1 g2 p1 p2 k∨k=bx) pre' w') (k:KeptY (fun k=>S4 g1 g2 p1 p2 k∨k=bx) M X w w'):JB J g1 g2 p1 p2 bx pre' a b va vb (PreB A cap ls r f bk bf bl) x W w':=
 ⟨hj,h.o.same fun i hi=>k.same i (.inl (.inl hi)),h.p.same lo (fun i hi=>k.same i (.inr hi)) k.size,h.x.same (k.same _ (.inl (.inr rfl))),Nat.le_trans h.z k.size⟩
end
theorem blowsFrom_cons (a b:Stone) (x:Layer) (xs:List Layer) (i:Nat) (va vb:Int):blowsFrom a b (x::xs) i va vb =
 (if burstsAt x.dens vb (heldBy a) then [blowAt a b i va vb] else [])++(if burstsAt x.dens va (heldBy b) then [] else blowsFrom a b xs (i+1) (slowedOf a x va) (slowedOf b x vb)):=rfl
theorem blows_seq (A:Option Addr) (cap:Nat) (ls:List Layer) (r:Rock) (f:Fall) (bk bf bl M X:Nat) (lo:LowB A ls.length bk bf bl M X) (hair:AirOk ls) (hrock:RockOk r f) :
  SeqY Tryz.prog 160 #[.pointer (some ⟨bk,0,none⟩),.pointer (some ⟨bf,0,none⟩),.pointer (some ⟨bl,0,none⟩)] encB1 (blowsOf ls r f) M X (PreB A cap ls r f bk bf bl):=by
 intro l J W hJ hY h0 hP hM;change Calls Tryz.prog 160 #[.func (.yield l) #[] #[],.pointer (some ⟨bk,0,none⟩),.pointer (some ⟨bf,0,none⟩),.pointer (some ⟨bl,0,none⟩)] W (EndY J (blowsOf ls r f));have hkf:bk≠bf:=hP.k.ne_of hP.f (by decide);have ha:=Lib.hid (weak_ok hrock);have hb:=Lib.hid (strong_ok hrock);have hair':=Lib.hid hair;have hY':=Lib.hid hY;have hrock':=Lib.hid hrock;clear hY hair hrock;go_enter Tryz.func160,Tryz.ntmps160
 go_wp2_with fail
 refine wp_region_inv (Γ:=GB) [none,none,none,none,none,some 8,some 9,none,none,none,some 0,some 1,some 2,some 3,some 4,some 5,some 6,some 7] [[],[],[0,1],[0,1,2],[],[],[0,1,2,3,4,5],[0,1,2,3,4,5,6],[],[],[0,1,2,3,4,5,6,7,8,9],[0,1,2,3,4,5,6,7,8,9,10]] [[1,4,5,8,9],[0,4,5,8,9],[0,1,4,5,8,9],[0,1,2,4,5,8,9],[0,1,2,3,5,8,9],[0,1,2,3,4,8,9],[0,1,2,3,4,5,8,9],[0,1,2,3,4,5,6,8,9],[0,1,2,3,4,5,6,7,9],[0,1,2,3,4,5,6,7,8],[0,1,2,3,4,5,6,7,8,9],[0,1,2,3,4,5,6,7,8,9,10]] (fun γ=>[.agg #[r.size.lo,r.size.hi,r.dens.lo,r.dens.hi,r.strong.lo,r.strong.hi,r.spin.lo,r.spin.hi,r.shape.lo,r.shape.hi,.bool r.pile],.agg #[f.speed.lo,f.speed.hi,f.slope.lo,f.slope.hi],.agg #[(weakS r f).size,(weakS r f).dens,(weakS r f).strong,(weakS r f).spin,(weakS r f).shape,.bool (weakS r f).pile,(weakS r f).speed,(weakS r f).slope],.pointer (some ⟨γ.g1,0,none⟩),.agg #[r.size.lo,r.size.hi,r.dens.lo,r.dens.hi,r.strong.lo,r.strong.hi,r.spin.lo,r.spin.hi,r.shape.lo,r.shape.hi,.bool r.pile],.agg #[f.speed.lo,f.speed.hi,f.slope.lo,f.slope.hi],.agg #[(strongS r f).size,(strongS r f).dens,(strongS r f).strong,(strongS r f).spin,(strongS r f).shape,.bool (strongS r f).pile,(strongS r f).speed,(strongS r f).slope],.pointer (some ⟨γ.g2,0,none⟩),.pointer (some ⟨γ.p1,0,none⟩),.pointer (some ⟨γ.p2,0,none⟩),undef,undef]) (fun γ=>[none,none,none,none,none,some (.pointer (some ⟨γ.p1,0,none⟩)),some (.pointer (some ⟨γ.p2,0,none⟩)),none,none,none,some (.agg #[r.size.lo,r.size.hi,r.dens.lo,r.dens.hi,r.strong.lo,r.strong.hi,r.spin.lo,r.spin.hi,r.shape.lo,r.shape.hi,.bool r.pile]),some (.agg #[f.speed.lo,f.speed.hi,f.slope.lo,f.slope.hi]),some (.agg #[(weakS r f).size,(weakS r f).dens,(weakS r f).strong,(weakS r f).spin,(weakS r f).shape,.bool (weakS r f).pile,(weakS r f).speed,(weakS r f).slope]),some (.pointer (some ⟨γ.g1,0,none⟩)),some (.agg #[r.size.lo,r.size.hi,r.dens.lo,r.dens.hi,r.strong.lo,r.strong.hi,r.spin.lo,r.spin.hi,r.shape.lo,r.shape.hi,.bool r.pile]),some (.agg #[f.speed.lo,f.speed.hi,f.slope.lo,f.slope.hi]),some (.agg #[(strongS r f).size,(strongS r f).dens,(strongS r f).strong,(strongS r f).spin,(strongS r f).shape,.bool (strongS r f).pile,(strongS r f).speed,(strongS r f).slope]),some (.pointer (some ⟨γ.g2,0,none⟩))]) ?A0_1 (fun n D γ w=>J (fun k=>W.heap.size≤k∧k<w.heap.size) [] w∧PreB A cap ls r f bk bf bl w∧Kp W.heap.size none W w∧γ.p1≠γ.p2∧γ.p1<w.heap.size∧γ.p2<w.heap.size) (fun k γ w=>match k with|3=>FB W γ.g1 (weakS r f) (f.speed.lo * f.speed.lo) w|7=>FB2 W γ.g1 γ.g2 (strongS r f) (f.speed.hi * f.speed.hi) w|8=>PB W γ.p1 w|9=>PB W γ.p2 w|10=>PG γ.p1 γ.g1 w|11=>PG γ.p2 γ.g2 w|_=>True) ⟨0,0,bk,bf⟩ (by kernel_rfl) (fun _=>rfl) ?hA0_1 (by kernel_rfl) ?hB00_1 ?hop0_1 ?hend0_1
 case hA0_1=>intro γ;dsimp only[fullV];rfl
 case hB00_1=>
  refine⟨hJ.less _ _ _ _ (hJ.keepN h0 ((Kp.refl _ none W).drew)) (fun k hk=>absurd hk.1 (by have:=hk.2;change k<W.heap.size at this;omega)),hP.same lo (fun _ _=>rfl) (Nat.le_refl _),(Kp.refl _ none W).drew,hkf,hP.k.lt,hP.f.lt⟩
 case hop0_1=>
  intro hA;refine⟨?_,?_,?_,?_,?_,?_,?_,?_,?_,?_,?_,?_,trivial⟩
  ·
   refine oKv hA (h:=?_);intro n D γ w hB hU K hK;try dsimp only at hB
   try dsimp only
   have c1:=fun i=>hB.2.1.k.cell i;have c2:=fun i=>hB.2.1.f.cell i;clear hB hU;go_step;exact hK _ rfl
  ·
   refine oKv hA (h:=?_);intro n D γ w hB hU K hK;try dsimp only at hB
   try dsimp only
   have c1:=fun i=>hB.2.1.k.cell i;have c2:=fun i=>hB.2.1.f.cell i;clear hB hU;go_step;exact hK _ rfl
  ·
   refine opOk_l hA (fun _=>rfl) ?_;intro n D γ w hn hD hB hU K hK;try dsimp only at hB
   clear hU;replace hn:n<12:=hn;try dsimp only
   obtain⟨hJJ,hPP,hKK,hn1,hn2,hn3⟩:=hB;go_step;refine mK (blast_weakest_any r f _) fun w5 k5=>?_;have s3:FB W γ.g1 (weakS r f) (f.speed.lo * f.speed.lo) w→FB W γ.g1 (weakS r f) (f.speed.lo * f.speed.lo) w5:=fun h=>h.kpN k5;have s7:FB2 W γ.g1 γ.g2 (strongS r f) (f.speed.hi * f.speed.hi) w→FB2 W γ.g1 γ.g2 (strongS r f) (f.speed.hi * f.speed.hi) w5:=fun h=>h.kpN k5;have s8:PB W γ.p1 w→PB W γ.p1 w5:=fun h=>h.kpN k5;have s9:PB W γ.p2 w→PB W γ.p2 w5:=fun h=>h.kpN k5;have s10:PG γ.p1 γ.g1 w→PG γ.p1 γ.g1 w5:=fun h=>h.kpN k5;have s11:PG γ.p2 γ.g2 w→PG γ.p2 γ.g2 w5:=fun h=>h.kpN k5;have hKz:=hKK.size;have hkz:=k5.size;replace hJJ:J (fun k=>W.heap.size≤k∧k<w5.heap.size) [] w5:=hJ.less _ _ _ _ (hJ.step _ _ _ _ _ hJJ k5 (fun _ e=>by cases e)) (fun k hk=>by omega);replace hPP:=hPP.kp lo oM k5 (fun _ e=>by cases e);replace hKK:=hKK.thenN k5 (Nat.le_refl _);refine hK _ _ γ rfl ⟨hJJ,hPP,hKK,hn1,by omega,by omega⟩ trivial ?_;exact dA
  ·
   refine opOk_l hA (fun _=>rfl) ?_;intro n D γ w hn hD hB hU K hK;try dsimp only at hB
   clear hU;replace hn:n<12:=hn;try dsimp only
   obtain⟨hJJ,hPP,hKK,hn1,hn2,hn3⟩:=hB;go_step;refine(blast_drop_any (weakS r f) ha.out.speed _).mono ?_;rintro e w5 ⟨g,rfl,hg,hgB,k5⟩;have s3:FB W γ.g1 (weakS r f) (f.speed.lo * f.speed.lo) w→FB W γ.g1 (weakS r f) (f.speed.lo * f.speed.lo) w5:=fun h=>h.kpN k5;have s7:FB2 W γ.g1 γ.g2 (strongS r f) (f.speed.hi * f.speed.hi) w→FB2 W γ.g1 γ.g2 (strongS r f) (f.speed.hi * f.speed.hi) w5:=fun h=>h.kpN k5;have s8:PB W γ.p1 w→PB W γ.p1 w5:=fun h=>h.kpN k5;have s9:PB W γ.p2 w→PB W γ.p2 w5:=fun h=>h.kpN k5;have s10:PG γ.p1 γ.g1 w→PG γ.p1 γ.g1 w5:=fun h=>h.kpN k5;have s11:PG γ.p2 γ.g2 w→PG γ.p2 γ.g2 w5:=fun h=>h.kpN k5;have hKz:=hKK.size;have hkz:=k5.size;replace hJJ:J (fun k=>W.heap.size≤k∧k<w5.heap.size) [] w5:=hJ.less _ _ _ _ (hJ.step _ _ _ _ _ hJJ k5 (fun _ e=>by cases e)) (fun k hk=>by omega);replace hPP:=hPP.kp lo oM k5 (fun _ e=>by cases e);replace hKK:=hKK.thenN k5 (Nat.le_refl _);refine hK _ _ { γ with g1:=g } rfl ⟨hJJ,hPP,hKK,hn1,by show γ.p1<_;omega,by show γ.p2<_;omega⟩ ⟨hgB,show W.heap.size≤g by omega⟩ ?_;exact dA
  ·
   refine oKv hA (h:=?_);intro n D γ w hB hU K hK;try dsimp only at hB
   try dsimp only
   have c1:=fun i=>hB.2.1.k.cell i;have c2:=fun i=>hB.2.1.f.cell i;clear hB hU;go_step;exact hK _ rfl
  ·
   refine oKv hA (h:=?_);intro n D γ w hB hU K hK;try dsimp only at hB
   try dsimp only
   have c1:=fun i=>hB.2.1.k.cell i;have c2:=fun i=>hB.2.1.f.cell i;clear hB hU;go_step;exact hK _ rfl
  ·
   refine opOk_l hA (fun _=>rfl) ?_;intro n D γ w hn hD hB hU K hK;try dsimp only at hB
   replace hU:(FB W γ.g1 (weakS r f) (f.speed.lo * f.speed.lo) w):=hU.2.2.2.1;replace hn:n<12:=hn;try dsimp only
   obtain⟨hJJ,hPP,hKK,hn1,hn2,hn3⟩:=hB;go_step;refine mK (blast_strongest_any r f _) fun w5 k5=>?_;have s3:FB W γ.g1 (weakS r f) (f.speed.lo * f.speed.lo) w→FB W γ.g1 (weakS r f) (f.speed.lo * f.speed.lo) w5:=fun h=>h.kpN k5;have s7:FB2 W γ.g1 γ.g2 (strongS r f) (f.speed.hi * f.speed.hi) w→FB2 W γ.g1 γ.g2 (strongS r f) (f.speed.hi * f.speed.hi) w5:=fun h=>h.kpN k5;have s8:PB W γ.p1 w→PB W γ.p1 w5:=fun h=>h.kpN k5;have s9:PB W γ.p2 w→PB W γ.p2 w5:=fun h=>h.kpN k5;have s10:PG γ.p1 γ.g1 w→PG γ.p1 γ.g1 w5:=fun h=>h.kpN k5;have s11:PG γ.p2 γ.g2 w→PG γ.p2 γ.g2 w5:=fun h=>h.kpN k5;have hKz:=hKK.size;have hkz:=k5.size;replace hJJ:J (fun k=>W.heap.size≤k∧k<w5.heap.size) [] w5:=hJ.less _ _ _ _ (hJ.step _ _ _ _ _ hJJ k5 (fun _ e=>by cases e)) (fun k hk=>by omega);replace hPP:=hPP.kp lo oM k5 (fun _ e=>by cases e);replace hKK:=hKK.thenN k5 (Nat.le_refl _);refine hK _ _ γ rfl ⟨hJJ,hPP,hKK,hn1,by omega,by omega⟩ trivial ?_;exact dA
  ·
   refine opOk_l hA (fun _=>rfl) ?_;intro n D γ w hn hD hB hU K hK;try dsimp only at hB
   replace hU:(FB W γ.g1 (weakS r f) (f.speed.lo * f.speed.lo) w):=hU.2.2.2.1;replace hn:n<12:=hn;try dsimp only
   obtain⟨hJJ,hPP,hKK,hn1,hn2,hn3⟩:=hB;go_step;have hg1:=hU.1.lt;refine(blast_drop_any (strongS r f) hb.out.speed _).mono ?_;rintro e w5 ⟨g,rfl,hg,hgB,k5⟩;have s3:FB W γ.g1 (weakS r f) (f.speed.lo * f.speed.lo) w→FB W γ.g1 (weakS r f) (f.speed.lo * f.speed.lo) w5:=fun h=>h.kpN k5;have s7:FB2 W γ.g1 γ.g2 (strongS r f) (f.speed.hi * f.speed.hi) w→FB2 W γ.g1 γ.g2 (strongS r f) (f.speed.hi * f.speed.hi) w5:=fun h=>h.kpN k5;have s8:PB W γ.p1 w→PB W γ.p1 w5:=fun h=>h.kpN k5;have s9:PB W γ.p2 w→PB W γ.p2 w5:=fun h=>h.kpN k5;have s10:PG γ.p1 γ.g1 w→PG γ.p1 γ.g1 w5:=fun h=>h.kpN k5;have s11:PG γ.p2 γ.g2 w→PG γ.p2 γ.g2 w5:=fun h=>h.kpN k5;have hKz:=hKK.size;have hkz:=k5.size;replace hJJ:J (fun k=>W.heap.size≤k∧k<w5.heap.size) [] w5:=hJ.less _ _ _ _ (hJ.step _ _ _ _ _ hJJ k5 (fun _ e=>by cases e)) (fun k hk=>by omega);replace hPP:=hPP.kp lo oM k5 (fun _ e=>by cases e);replace hKK:=hKK.thenN k5 (Nat.le_refl _);refine hK _ _ { γ with g2:=g } rfl ⟨hJJ,hPP,hKK,hn1,by show γ.p1<_;omega,by show γ.p2<_;omega⟩ ⟨⟨hgB,show W.heap.size≤g by omega⟩,show γ.g1<g by omega⟩ ?_;exact dA
  ·
   refine opOk_l hA (fun _=>rfl) ?_;intro n D γ w hn hD hB hU K hK;try dsimp only at hB
   clear hU;replace hn:n<12:=hn;try dsimp only
   obtain⟨hJJ,hPP,hKK,hn1,hn2,hn3⟩:=hB;go_step;obtain⟨w5,hw5⟩:∃ w5,w5=w.alloc (.cells #[.pointer none] 132):=⟨_,rfl⟩;have k5:Kp w.heap.size none w w5:=hw5 ▸ (Kp.refl w.heap.size none w).alloc (Nat.le_refl _) _;have hz5:w5.heap.size=w.heap.size+1:=by rw[hw5];simp
   have hBn:Blk w5 w.heap.size 132 #[.pointer none]:=hw5 ▸ Blk.new _ _ _;rw[← hw5];have s3:FB W γ.g1 (weakS r f) (f.speed.lo * f.speed.lo) w→FB W γ.g1 (weakS r f) (f.speed.lo * f.speed.lo) w5:=fun h=>h.kpN k5;have s7:FB2 W γ.g1 γ.g2 (strongS r f) (f.speed.hi * f.speed.hi) w→FB2 W γ.g1 γ.g2 (strongS r f) (f.speed.hi * f.speed.hi) w5:=fun h=>h.kpN k5;have s8:PB W γ.p1 w→PB W γ.p1 w5:=fun h=>h.kpN k5;have s9:PB W γ.p2 w→PB W γ.p2 w5:=fun h=>h.kpN k5;have s10:PG γ.p1 γ.g1 w→PG γ.p1 γ.g1 w5:=fun h=>h.kpN k5;have s11:PG γ.p2 γ.g2 w→PG γ.p2 γ.g2 w5:=fun h=>h.kpN k5;have hKz:=hKK.size;have hkz:=k5.size;replace hJJ:J (fun k=>W.heap.size≤k∧k<w5.heap.size) [] w5:=hJ.less _ _ _ _ (hJ.step _ _ _ _ _ hJJ k5 (fun _ e=>by cases e)) (fun k hk=>by omega);replace hPP:=hPP.kp lo oM k5 (fun _ e=>by cases e);replace hKK:=hKK.thenN k5 (Nat.le_refl _);refine hK _ _ { γ with p1:=w.heap.size } rfl ⟨hJJ,hPP,hKK,by show w.heap.size≠γ.p2;omega,by show w.heap.size<_;omega,by show γ.p2<_;omega⟩ ⟨show W.heap.size≤w.heap.size by omega,_,hBn⟩ ?_;exact dA
  ·
   refine opOk_l hA (fun _=>rfl) ?_;intro n D γ w hn hD hB hU K hK;try dsimp only at hB
   clear hU;replace hn:n<12:=hn;try dsimp only
   obtain⟨hJJ,hPP,hKK,hn1,hn2,hn3⟩:=hB;go_step;obtain⟨w5,hw5⟩:∃ w5,w5=w.alloc (.cells #[.pointer none] 132):=⟨_,rfl⟩;have k5:Kp w.heap.size none w w5:=hw5 ▸ (Kp.refl w.heap.size none w).alloc (Nat.le_refl _) _;have hz5:w5.heap.size=w.heap.size+1:=by rw[hw5];simp
   have hBn:Blk w5 w.heap.size 132 #[.pointer none]:=hw5 ▸ Blk.new _ _ _;rw[← hw5];have s3:FB W γ.g1 (weakS r f) (f.speed.lo * f.speed.lo) w→FB W γ.g1 (weakS r f) (f.speed.lo * f.speed.lo) w5:=fun h=>h.kpN k5;have s7:FB2 W γ.g1 γ.g2 (strongS r f) (f.speed.hi * f.speed.hi) w→FB2 W γ.g1 γ.g2 (strongS r f) (f.speed.hi * f.speed.hi) w5:=fun h=>h.kpN k5;have s8:PB W γ.p1 w→PB W γ.p1 w5:=fun h=>h.kpN k5;have s9:PB W γ.p2 w→PB W γ.p2 w5:=fun h=>h.kpN k5;have s10:PG γ.p1 γ.g1 w→PG γ.p1 γ.g1 w5:=fun h=>h.kpN k5;have s11:PG γ.p2 γ.g2 w→PG γ.p2 γ.g2 w5:=fun h=>h.kpN k5;have hKz:=hKK.size;have hkz:=k5.size;replace hJJ:J (fun k=>W.heap.size≤k∧k<w5.heap.size) [] w5:=hJ.less _ _ _ _ (hJ.step _ _ _ _ _ hJJ k5 (fun _ e=>by cases e)) (fun k hk=>by omega);replace hPP:=hPP.kp lo oM k5 (fun _ e=>by cases e);replace hKK:=hKK.thenN k5 (Nat.le_refl _);refine hK _ _ { γ with p2:=w.heap.size } rfl ⟨hJJ,hPP,hKK,by show γ.p1≠w.heap.size;omega,by show γ.p1<_;omega,by show w.heap.size<_;omega⟩ ⟨show W.heap.size≤w.heap.size by omega,_,hBn⟩ ?_;exact dA
  ·
   refine opOk_l hA (fun _=>rfl) ?_;intro n D γ w hn hD hB hU K hK;try dsimp only at hB
   replace hU:(FB W γ.g1 (weakS r f) (f.speed.lo * f.speed.lo) w)∧(FB2 W γ.g1 γ.g2 (strongS r f) (f.speed.hi * f.speed.hi) w)∧(PB W γ.p1 w)∧(PB W γ.p2 w):=⟨hU.2.2.2.1,hU.2.2.2.2.2.2.2.1,hU.2.2.2.2.2.2.2.2.1,hU.2.2.2.2.2.2.2.2.2.1⟩;replace hn:n<12:=hn;try dsimp only
   obtain⟨hJJ,hPP,hKK,hn1,hn2,hn3⟩:=hB;obtain⟨⟨hf1,hg1⟩,⟨⟨hf2,hg2⟩,-⟩,⟨hz1,v1,hb1⟩,hz2,v2,hb2⟩:=hU;have cP:=hb1.cell;have fP:=hb1.frozen;go_step;obtain⟨w5,hw5⟩:∃ w5,w5=w.setCell ⟨γ.p1,0,none⟩ (.pointer (some ⟨γ.g1,0,none⟩)):=⟨_,rfl⟩;have k5:Kp w.heap.size (some γ.p1) w w5:=hw5 ▸ (Kp.refl w.heap.size (some γ.p1) w).setRow rfl _;have hz5:w5.heap.size=w.heap.size:=by rw[hw5];simp[World.setCell]
   have hBn:Blk w5 γ.p1 132 #[.pointer (some ⟨γ.g1,0,none⟩)]:=hw5 ▸ hb1.set_ 0 (.pointer (some ⟨γ.g1,0,none⟩));rw[← hw5];have e1:=hf1.ne_of hb1 (by decide);have e2:=hf2.ne_of hb1 (by decide);have hKz:=hKK.size;have s3:FB W γ.g1 (weakS r f) (f.speed.lo * f.speed.lo) w→FB W γ.g1 (weakS r f) (f.speed.lo * f.speed.lo) w5:=fun h=>⟨h.1.kp k5 h.1.lt (sne e1),h.2⟩;have s7:FB2 W γ.g1 γ.g2 (strongS r f) (f.speed.hi * f.speed.hi) w→FB2 W γ.g1 γ.g2 (strongS r f) (f.speed.hi * f.speed.hi) w5:=fun h=>⟨⟨h.1.1.kp k5 h.1.1.lt (sne e2),h.1.2⟩,h.2⟩;have s8:PB W γ.p1 w→PB W γ.p1 w5:=fun h=>⟨h.1,_,hBn⟩;have s9:PB W γ.p2 w→PB W γ.p2 w5:=fun h=>⟨h.1,h.2.imp fun _ h=>h.kp k5 h.lt (sne (Ne.symm hn1))⟩;replace hJJ:J (fun k=>W.heap.size≤k∧k<w5.heap.size) [] w5:=by rw[hz5];exact hJ.keep hJJ k5 (fun r e=>by injection e with e;subst e;exact⟨hz1,hn2⟩)
   replace hPP:=hPP.kp lo oM k5 (fun r e=>by injection e with e;omega);replace hKK:=hKK.thenOwn k5 (Nat.le_refl _) hz1;refine hK _ _ γ rfl ⟨hJJ,hPP,hKK,hn1,by omega,by omega⟩ hBn ?_;exact dA
  ·
   refine opOk_l hA (fun _=>rfl) ?_;intro n D γ w hn hD hB hU K hK;try dsimp only at hB
   replace hU:(FB W γ.g1 (weakS r f) (f.speed.lo * f.speed.lo) w)∧(FB2 W γ.g1 γ.g2 (strongS r f) (f.speed.hi * f.speed.hi) w)∧(PB W γ.p1 w)∧(PB W γ.p2 w)∧(PG γ.p1 γ.g1 w):=⟨hU.2.2.2.1,hU.2.2.2.2.2.2.2.1,hU.2.2.2.2.2.2.2.2.1,hU.2.2.2.2.2.2.2.2.2.1,hU.2.2.2.2.2.2.2.2.2.2.1⟩;replace hn:n<12:=hn;try dsimp only
   obtain⟨hJJ,hPP,hKK,hn1,hn2,hn3⟩:=hB;obtain⟨⟨hf1,hg1⟩,⟨⟨hf2,hg2⟩,-⟩,⟨hz1,v1,hb1⟩,⟨hz2,v2,hb2⟩,hgg⟩:=hU;have cP:=hb2.cell;have fP:=hb2.frozen;go_step;obtain⟨w5,hw5⟩:∃ w5,w5=w.setCell ⟨γ.p2,0,none⟩ (.pointer (some ⟨γ.g2,0,none⟩)):=⟨_,rfl⟩;have k5:Kp w.heap.size (some γ.p2) w w5:=hw5 ▸ (Kp.refl w.heap.size (some γ.p2) w).setRow rfl _;have hz5:w5.heap.size=w.heap.size:=by rw[hw5];simp[World.setCell]
   have hBn:Blk w5 γ.p2 132 #[.pointer (some ⟨γ.g2,0,none⟩)]:=hw5 ▸ hb2.set_ 0 (.pointer (some ⟨γ.g2,0,none⟩));rw[← hw5];have e1:=hf1.ne_of hb2 (by decide);have e2:=hf2.ne_of hb2 (by decide);have hKz:=hKK.size;have s3:FB W γ.g1 (weakS r f) (f.speed.lo * f.speed.lo) w→FB W γ.g1 (weakS r f) (f.speed.lo * f.speed.lo) w5:=fun h=>⟨h.1.kp k5 h.1.lt (sne e1),h.2⟩;have s7:FB2 W γ.g1 γ.g2 (strongS r f) (f.speed.hi * f.speed.hi) w→FB2 W γ.g1 γ.g2 (strongS r f) (f.speed.hi * f.speed.hi) w5:=fun h=>⟨⟨h.1.1.kp k5 h.1.1.lt (sne e2),h.1.2⟩,h.2⟩;have s8:PB W γ.p1 w→PB W γ.p1 w5:=fun h=>⟨h.1,h.2.imp fun _ h=>h.kp k5 h.lt (sne hn1)⟩;have s9:PB W γ.p2 w→PB W γ.p2 w5:=fun h=>⟨h.1,_,hBn⟩;have s10:PG γ.p1 γ.g1 w→PG γ.p1 γ.g1 w5:=fun h=>Blk.kp h k5 (Blk.lt h) (sne hn1);replace hJJ:J (fun k=>W.heap.size≤k∧k<w5.heap.size) [] w5:=by rw[hz5];exact hJ.keep hJJ k5 (fun r e=>by injection e with e;subst e;exact⟨hz2,hn3⟩)
   replace hPP:=hPP.kp lo oM k5 (fun r e=>by injection e with e;omega);replace hKK:=hKK.thenOwn k5 (Nat.le_refl _) hz2;refine hK _ _ γ rfl ⟨hJJ,hPP,hKK,hn1,by omega,by omega⟩ hBn ?_;exact dA
 case hend0_1=>
  intro n D γ w hn hD hB hF;replace hF:=fun k (hk:k<12)=>hF k hk;replace hF:=(⟨hF 3 (by decide),hF 7 (by decide),hF 8 (by decide),hF 9 (by decide),hF 10 (by decide),hF 11 (by decide)⟩:_∧_∧_∧_∧_∧_);try dsimp only at hB
  try dsimp only at hF
  replace hn:n≤12:=hn;try dsimp only
  obtain⟨hJJ,hPP,hKK,hn1,hn2,hn3⟩:=hB;obtain⟨⟨hf1,hg1⟩,⟨⟨hf2,hg2⟩,hg12⟩,⟨hz1,-⟩,⟨hz2,-⟩,hp1,hp2⟩:=hF;obtain⟨g1,g2,p1,p2⟩:=γ
  have hJ4:J (S4 g1 g2 p1 p2) [] w:=hJ.less _ _ _ _ hJJ fun k hk=>by
   rcases hk with rfl|rfl|rfl|rfl
   · exact⟨hg1,hf1.lt⟩
   · exact⟨hg2,hf2.lt⟩
   · exact⟨hz1,hn2⟩
   · exact⟨hz2,hn3⟩
  have hO:OwnB g1 g2 p1 p2 (weakS r f) (strongS r f) (f.speed.lo * f.speed.lo) (f.speed.hi * f.speed.hi) w:=⟨hf1,hf2,hp1,hp2,Nat.ne_of_lt hg12⟩;have hsz:=hKK.size;have hgM:M≤g1∧M≤g2:=⟨Nat.le_trans hM hg1,Nat.le_trans hM hg2⟩;replace hn1:=Lib.hid hn1;dsimp only at *;clear hJJ hf1 hf2 hp1 hp2 hKK hn2 hn3;have cl:=fun i=>hPP.l.cell i;go_wp2_with fail
  clear cl;go_loopw [21] (fun v wr=>LoopB J ls r f g1 g2 p1 p2 (PreB A cap ls r f bk bf bl) W v wr) (fun v _=>ls.length-(intOf v).toNat)
  case atStart=>exact⟨0,_,_,[],rfl,Nat.zero_le _,vok_sq ha.out,vok_sq hb.out,hO,hPP,hJ4,rfl,hsz⟩
  case round=>
   clear hO hPP hJ4 hsz;obtain⟨i,va,vb,pre,rfl,hi,hva,hvb,OO,PP,JJ,hx,hsz⟩:=hrel;by_cases h7:i<ls.length
   ·
    obtain⟨b,o,hAe,hlt,-,hc⟩:=PP.rd.at_ oM;have c0:wr.cell? ⟨b,o+i * 2,none⟩=some (.int .i64 ls[i].thick):=hc i h7 0 _ rfl;have c1:wr.cell? ⟨b,o+i * 2+1,none⟩=some (.int .i64 ls[i].dens):=hc i h7 1 _ rfl;have hi':(i:Int)<(ls.length:Int):=by omega
    have hlen:(ls.length:Int)≤32:=by have:=hair'.out.1;omega
    have hxo:=Lib.hid (hair'.out.2 i h7);rw[List.drop_eq_getElem_cons h7,blowsFrom_cons] at hx;generalize ls[i]=x at c0 c1 hxo hx;clear hc;subst hAe;have cl:=fun i=>PP.l.cell i;replace h7:=Lib.hid h7;replace hx:=Lib.hid hx;replace hva:=Lib.hid hva;replace hvb:=Lib.hid hvb;have K9:=(Kp.refl wr.heap.size none wr).alloc (Nat.le_refl _) (.cells #[x.thick,x.dens] 127);have hz9:(wr.alloc (.cells #[x.thick,x.dens] 127)).heap.size=wr.heap.size+1:=by simp
    have X9:=Blk.new wr 127 #[x.thick,x.dens];go_wp2_with fail
    clear cl c0 c1 hlt;obtain⟨bx,hbx⟩:∃ bx,bx=wr.heap.size:=⟨_,rfl⟩;rw[← hbx] at X9 ⊢
    have JB0:JB J g1 g2 p1 p2 bx pre (weakS r f) (strongS r f) va vb (PreB (some ⟨b,o,none⟩) cap ls r f bk bf bl) x W (wr.alloc (.cells #[x.thick,x.dens] 127)):=
     ⟨hJ.less _ _ _ _ (hJ.step _ _ _ _ _ JJ K9 (fun _ e=>by cases e)) (fun k hk=>by
      rcases hk with hk|hk
      · exact .inl hk
      · exact .inr oM),OO.kpN K9,PP.kp lo oM K9 (fun _ e=>by cases e),X9,by omega⟩
    clear OO PP JJ K9 X9 hsz hz9 hbx;generalize wr.alloc (.cells #[x.thick,x.dens] 127)=w8 at *;cases hbu:burstsAt x.dens vb (heldBy (weakS r f))
    case true=>
     replace hbu:=Lib.hid hbu;refine wp_region_inv (Γ:=Unit) [none,none,none,none,none,none,none,none,none,none,none,none,none,none,none,none,none,none,none,none,none,none,none,none,none,none,some 0,some 1,some 2,some 3,some 4,some 5,some 6,some 7,some 8,some 9,some 10,some 11,some 12,some 13,some 14,some 15] [[],[],[],[2],[2,3],[2,3,4],[2,3,4,5],[0,1,2,3,4,5,6],[0,1,2,3,4,5,6,7],[0,1,2,3,4,5,6,7,8],[0,1,2,3,4,5,6,7,8],[0,1,2,3,4,5,6,7,8],[0,1,2,3,4,5,6,7,8,10,11],[0,1,2,3,4,5,6,7,8,9,10,11,12],[0,1,2,3,4,5,6,7,8,9,10,11,12,13],[0,1,2,3,4,5,6,7,8,9,10,11,12,13,14]] [[1,2,3,4,5,6],[0,2,3,4,5,6],[0,1],[0,1,2],[0,1,2,3],[0,1,2,3,4],[0,1,2,3,4,5],[0,1,2,3,4,5,6],[0,1,2,3,4,5,6,7],[0,1,2,3,4,5,6,7,8,10,11,12],[0,1,2,3,4,5,6,7,8,9,11],[0,1,2,3,4,5,6,7,8,9,10],[0,1,2,3,4,5,6,7,8,9,10,11],[0,1,2,3,4,5,6,7,8,9,10,11,12],[0,1,2,3,4,5,6,7,8,9,10,11,12,13],[0,1,2,3,4,5,6,7,8,9,10,11,12,13,14]] (fun γ=>[.pointer (some ⟨g2,0,none⟩),.agg #[x.thick,x.dens],.pointer (some ⟨g1,0,none⟩),.pointer (some ⟨g1,0,none⟩),.pointer (some ⟨g1,0,none⟩),.agg #[(weakS r f).size,(weakS r f).dens,(weakS r f).strong,(weakS r f).spin,(weakS r f).shape,.bool (weakS r f).pile,(weakS r f).speed,(weakS r f).slope],.int .i64 (holdOf (weakS r f).strong (weakS r f).spin (weakS r f).pile),.bool true,.bool true,.func (.yield l) #[] #[],.func (.func 163) #[] #[.pointer (some ⟨p1,0,none⟩),.pointer (some ⟨p2,0,none⟩)],.int .i64 i,.agg #[(blowAt (weakS r f) (strongS r f) i va vb).layer,(blowAt (weakS r f) (strongS r f) i va vb).lo,(blowAt (weakS r f) (strongS r f) i va vb).hi],.bool true,.bool false,.bool false]) (fun γ=>[none,none,none,none,none,none,none,none,none,none,none,none,none,none,none,none,none,none,none,none,none,none,none,none,none,none,some (.pointer (some ⟨g2,0,none⟩)),some (.agg #[x.thick,x.dens]),some (.pointer (some ⟨g1,0,none⟩)),some (.pointer (some ⟨g1,0,none⟩)),some (.pointer (some ⟨g1,0,none⟩)),some (.agg #[(weakS r f).size,(weakS r f).dens,(weakS r f).strong,(weakS r f).spin,(weakS r f).shape,.bool (weakS r f).pile,(weakS r f).speed,(weakS r f).slope]),some (.int .i64 (holdOf (weakS r f).strong (weakS r f).spin (weakS r f).pile)),some (.bool true),some (.bool true),some (.func (.yield l) #[] #[]),some (.func (.func 163) #[] #[.pointer (some ⟨p1,0,none⟩),.pointer (some ⟨p2,0,none⟩)]),some (.int .i64 i),some (.agg #[(blowAt (weakS r f) (strongS r f) i va vb).layer,(blowAt (weakS r f) (strongS r f) i va vb).lo,(blowAt (weakS r f) (strongS r f) i va vb).hi]),some (.bool true),some (.bool false),some (.bool false)]) ?A5_2 (fun n D γ w=>JB J g1 g2 p1 p2 bx (if D 13=true then pre++[blowAt (weakS r f) (strongS r f) i va vb] else pre) (weakS r f) (strongS r f) va vb (PreB (some ⟨b,o,none⟩) cap ls r f bk bf bl) x W w) (fun k γ w=>True) () (by kernel_rfl) (fun _=>rfl) ?hA5_2 (by kernel_rfl) ?hB05_2 ?hop5_2 ?hend5_2
     case hA5_2=>intro γ;dsimp only[fullV];rfl
     case hB05_2=>
      exact⟨hJ.keepN JB0.j ((Kp.refl _ none _).drew),JB0.o.kpN ((Kp.refl _ none _).drew),JB0.p.kp lo (Nat.le_trans hM JB0.z) ((Kp.refl _ none _).drew) (fun _ e=>by cases e),JB0.x.drew,JB0.z⟩
     case hop5_2=>
      intro hA;refine⟨?_,?_,?_,oKv hA,oKv hA,?_,?_,?_,oKv hA,oKv hA,oKv hA,oKv hA,?_,?_,oKv hA,oKv hA,trivial⟩
      ·
       refine oKv hA (h:=?_);intro n D γ w hB hU K hK;try dsimp only at hB
       try dsimp only
       have d1:=fun i=>hB.o.b1.cell i;have d2:=fun i=>hB.o.b2.cell i;have d3:=fun i=>hB.o.f1.cell i;have d4:=fun i=>hB.x.cell i;unfold fallCells at d3;clear hB hU;go_step;exact hK _ rfl
      ·
       refine oKv hA (h:=?_);intro n D γ w hB hU K hK;try dsimp only at hB
       try dsimp only
       have d1:=fun i=>hB.o.b1.cell i;have d2:=fun i=>hB.o.b2.cell i;have d3:=fun i=>hB.o.f1.cell i;have d4:=fun i=>hB.x.cell i;unfold fallCells at d3;clear hB hU;go_step;exact hK _ rfl
      ·
       refine oKv hA (h:=?_);intro n D γ w hB hU K hK;try dsimp only at hB
       try dsimp only
       have d1:=fun i=>hB.o.b1.cell i;have d2:=fun i=>hB.o.b2.cell i;have d3:=fun i=>hB.o.f1.cell i;have d4:=fun i=>hB.x.cell i;unfold fallCells at d3;clear hB hU;go_step;exact hK _ rfl
      ·
       refine oKv hA (h:=?_);intro n D γ w hB hU K hK;try dsimp only at hB
       try dsimp only
       have d1:=fun i=>hB.o.b1.cell i;have d2:=fun i=>hB.o.b2.cell i;have d3:=fun i=>hB.o.f1.cell i;have d4:=fun i=>hB.x.cell i;unfold fallCells at d3;clear hB hU;go_step;exact hK _ rfl
      ·
       refine opOk_l hA (fun _=>rfl) ?_;intro n D γ w hn hD hB hU K hK;try dsimp only at hB
       clear hU;replace hn:n<16:=hn;try dsimp only
       go_step;refine mK (blast_hold_any (weakS r f) ha.out _) fun w5 k5=>?_;refine hK _ _ γ rfl (hB.kpN hJ lo hM k5) trivial ?_;exact dA
      ·
       refine opOk_l hA (fun _=>rfl) ?_;intro n D γ w hn hD hB hU K hK;try dsimp only at hB
       clear hU;replace hn:n<16:=hn;try dsimp only
       go_step;refine mK (blast_bursts_any g2 (strongS r f) vb x _ _ hB.o.f2 (step_ok hb.out hxo.out hvb.out).p) fun w5 k5=>?_;rw[show burstsAt x.dens vb (holdOf (weakS r f).strong (weakS r f).spin (weakS r f).pile)=true from hbu.out];refine hK _ _ γ rfl (hB.kpN hJ lo hM k5) trivial ?_;exact dA
      ·
       refine opOk_l hA (fun _=>rfl) ?_;intro n D γ w hn hD hB hU K hK;try dsimp only at hB
       clear hU;replace hn:n<16:=hn;try dsimp only
       go_step;refine mK (blast_blow_any i p1 p2 g1 g2 (weakS r f) (strongS r f) va vb _ hB.o.b1 hB.o.b2 hB.o.f1 hB.o.f2 ha.out hb.out hva.out hvb.out) fun w5 k5=>?_;refine hK _ _ γ rfl (hB.kpN hJ lo hM k5) trivial ?_;exact dA
      ·
       refine opOk_y hA (fun _=>rfl) ?_;intro n D γ w hn hD hB hU K hK;try dsimp only at hB
       clear hU;replace hn:n<16:=hn;try dsimp only
       rw[if_neg (by rw[show D 13=false from hD];decide)] at hB;refine⟨l,encB1 (blowAt (weakS r f) (strongS r f) i va vb),by simp[go_sem,encB1],(hY'.out _ pre _ w hB.j (by rw[hx.out];simp[hbu.out])).mono ?_⟩;rintro e w5 ⟨rfl,hj,k5⟩;refine⟨_,rfl,?_⟩;refine hK _ _ γ rfl (hB.yield lo hj k5) trivial ?_;exact dA
     case hend5_2=>
      intro n D γ w hn hD hB hF;replace hF:=fun k (hk:k<16)=>hF k hk;try dsimp only at hB
      try dsimp only at hF
      replace hn:n≤16:=hn;try dsimp only
      rw[if_pos (hD 13 (by decide))] at hB;have JB1:=hB;clear hB JB0 hF hD hn;go_wp2_with fail
      cases hbl:burstsAt x.dens va (heldBy (strongS r f))
      case true=>
       have hxe:blowsOf ls r f=(pre++[blowAt (weakS r f) (strongS r f) i va vb]):=by rw[hx.out];simp[hbu.out,hbl]
       replace hxe:=Lib.hid hxe;replace hbl:=Lib.hid hbl;refine wp_region_inv (Γ:=Unit) [none,none,none,none,none,none,none,none,none,none,none,none,none,none,none,none,none,none,none,none,none,none,none,none,none,none,none,none,none,none,none,none,none,none,none,none,none,none,none,none,none,none,some 0,some 1,some 2,some 3,some 4,some 5,some 6,some 7] [[],[],[],[2],[2,3],[2,3,4],[2,3,4,5],[0,1,2,3,4,5,6]] [[1,2,3,4,5,6],[0,2,3,4,5,6],[0,1],[0,1,2],[0,1,2,3],[0,1,2,3,4],[0,1,2,3,4,5],[0,1,2,3,4,5,6]] (fun γ=>[.pointer (some ⟨g1,0,none⟩),.agg #[x.thick,x.dens],.pointer (some ⟨g2,0,none⟩),.pointer (some ⟨g2,0,none⟩),.pointer (some ⟨g2,0,none⟩),.agg #[(strongS r f).size,(strongS r f).dens,(strongS r f).strong,(strongS r f).spin,(strongS r f).shape,.bool (strongS r f).pile,(strongS r f).speed,(strongS r f).slope],.int .i64 (holdOf (strongS r f).strong (strongS r f).spin (strongS r f).pile),.bool true]) (fun γ=>[none,none,none,none,none,none,none,none,none,none,none,none,none,none,none,none,none,none,none,none,none,none,none,none,none,none,none,none,none,none,none,none,none,none,none,none,none,none,none,none,none,none,some (.pointer (some ⟨g1,0,none⟩)),some (.agg #[x.thick,x.dens]),some (.pointer (some ⟨g2,0,none⟩)),some (.pointer (some ⟨g2,0,none⟩)),some (.pointer (some ⟨g2,0,none⟩)),some (.agg #[(strongS r f).size,(strongS r f).dens,(strongS r f).strong,(strongS r f).spin,(strongS r f).shape,.bool (strongS r f).pile,(strongS r f).speed,(strongS r f).slope]),some (.int .i64 (holdOf (strongS r f).strong (strongS r f).spin (strongS r f).pile)),some (.bool true)]) ?A6_3 (fun n D γ w=>JB J g1 g2 p1 p2 bx (pre++[blowAt (weakS r f) (strongS r f) i va vb]) (weakS r f) (strongS r f) va vb (PreB (some ⟨b,o,none⟩) cap ls r f bk bf bl) x W w) (fun k γ w=>True) () (by kernel_rfl) (fun _=>rfl) ?hA6_3 (by kernel_rfl) ?hB06_3 ?hop6_3 ?hend6_3
       case hA6_3=>intro γ;dsimp only[fullV];rfl
       case hB06_3=>
        exact⟨hJ.keepN JB1.j ((Kp.refl _ none _).drew),JB1.o.kpN ((Kp.refl _ none _).drew),JB1.p.kp lo (Nat.le_trans hM JB1.z) ((Kp.refl _ none _).drew) (fun _ e=>by cases e),JB1.x.drew,JB1.z⟩
       case hop6_3=>
        intro hA;refine⟨?_,?_,?_,oKv hA,oKv hA,?_,?_,?_,trivial⟩
        ·
         refine oKv hA (h:=?_);intro n D γ w hB hU K hK;try dsimp only at hB
         try dsimp only
         have d1:=fun i=>hB.o.b1.cell i;have d2:=fun i=>hB.o.b2.cell i;have d3:=fun i=>hB.o.f2.cell i;have d4:=fun i=>hB.x.cell i;unfold fallCells at d3;clear hB hU;go_step;exact hK _ rfl
        ·
         refine oKv hA (h:=?_);intro n D γ w hB hU K hK;try dsimp only at hB
         try dsimp only
         have d1:=fun i=>hB.o.b1.cell i;have d2:=fun i=>hB.o.b2.cell i;have d3:=fun i=>hB.o.f2.cell i;have d4:=fun i=>hB.x.cell i;unfold fallCells at d3;clear hB hU;go_step;exact hK _ rfl
        ·
         refine oKv hA (h:=?_);intro n D γ w hB hU K hK;try dsimp only at hB
         try dsimp only
         have d1:=fun i=>hB.o.b1.cell i;have d2:=fun i=>hB.o.b2.cell i;have d3:=fun i=>hB.o.f2.cell i;have d4:=fun i=>hB.x.cell i;unfold fallCells at d3;clear hB hU;go_step;exact hK _ rfl
        ·
         refine oKv hA (h:=?_);intro n D γ w hB hU K hK;try dsimp only at hB
         try dsimp only
         have d1:=fun i=>hB.o.b1.cell i;have d2:=fun i=>hB.o.b2.cell i;have d3:=fun i=>hB.o.f2.cell i;have d4:=fun i=>hB.x.cell i;unfold fallCells at d3;clear hB hU;go_step;exact hK _ rfl
        ·
         refine opOk_l hA (fun _=>rfl) ?_;intro n D γ w hn hD hB hU K hK;try dsimp only at hB
         clear hU;replace hn:n<8:=hn;try dsimp only
         go_step;refine mK (blast_hold_any (strongS r f) hb.out _) fun w5 k5=>?_;refine hK _ _ γ rfl (hB.kpN hJ lo hM k5) trivial ?_;exact dA
        ·
         refine opOk_l hA (fun _=>rfl) ?_;intro n D γ w hn hD hB hU K hK;try dsimp only at hB
         clear hU;replace hn:n<8:=hn;try dsimp only
         go_step;refine mK (blast_bursts_any g1 (weakS r f) va x _ _ hB.o.f1 (step_ok ha.out hxo.out hva.out).p) fun w5 k5=>?_;rw[show burstsAt x.dens va (holdOf (strongS r f).strong (strongS r f).spin (strongS r f).pile)=true from hbl.out];refine hK _ _ γ rfl (hB.kpN hJ lo hM k5) trivial ?_;exact dA
       case hend6_3=>
        intro n D γ w hn hD hB hF;replace hF:=fun k (hk:k<8)=>hF k hk;try dsimp only at hB
        try dsimp only at hF
        replace hn:n≤8:=hn;try dsimp only
        clear JB1;have hjj:=hJ.less _ (fun _=>False) _ _ hB.j (fun _ h=>h.elim);rw[← hxe.out] at hjj;go_wp2
        exact bodyPost_end (v:=.tuple #[]) (by simp[results,Tryz.results160,go_sem]) rfl ⟨⟨_,rfl⟩,hjj⟩
      case false=>
       have hxe:blowsOf ls r f=(pre++[blowAt (weakS r f) (strongS r f) i va vb])++blowsFrom (weakS r f) (strongS r f) (ls.drop (i+1)) (i+1) (slowedOf (weakS r f) x va) (slowedOf (strongS r f) x vb):=by rw[hx.out];simp[hbu.out,hbl]
       replace hxe:=Lib.hid hxe;replace hbl:=Lib.hid hbl;refine wp_region_inv (Γ:=Unit) [none,none,none,none,none,none,none,none,none,none,none,none,none,none,none,none,none,none,none,none,none,none,none,none,none,none,none,none,none,none,none,none,none,none,none,none,none,none,none,none,none,none,some 0,some 1,some 2,some 3,some 4,some 5,some 6,some 7] [[],[],[],[2],[2,3],[2,3,4],[2,3,4,5],[0,1,2,3,4,5,6]] [[1,2,3,4,5,6],[0,2,3,4,5,6],[0,1],[0,1,2],[0,1,2,3],[0,1,2,3,4],[0,1,2,3,4,5],[0,1,2,3,4,5,6]] (fun γ=>[.pointer (some ⟨g1,0,none⟩),.agg #[x.thick,x.dens],.pointer (some ⟨g2,0,none⟩),.pointer (some ⟨g2,0,none⟩),.pointer (some ⟨g2,0,none⟩),.agg #[(strongS r f).size,(strongS r f).dens,(strongS r f).strong,(strongS r f).spin,(strongS r f).shape,.bool (strongS r f).pile,(strongS r f).speed,(strongS r f).slope],.int .i64 (holdOf (strongS r f).strong (strongS r f).spin (strongS r f).pile),.bool false]) (fun γ=>[none,none,none,none,none,none,none,none,none,none,none,none,none,none,none,none,none,none,none,none,none,none,none,none,none,none,none,none,none,none,none,none,none,none,none,none,none,none,none,none,none,none,some (.pointer (some ⟨g1,0,none⟩)),some (.agg #[x.thick,x.dens]),some (.pointer (some ⟨g2,0,none⟩)),some (.pointer (some ⟨g2,0,none⟩)),some (.pointer (some ⟨g2,0,none⟩)),some (.agg #[(strongS r f).size,(strongS r f).dens,(strongS r f).strong,(strongS r f).spin,(strongS r f).shape,.bool (strongS r f).pile,(strongS r f).speed,(strongS r f).slope]),some (.int .i64 (holdOf (strongS r f).strong (strongS r f).spin (strongS r f).pile)),some (.bool false)]) ?A6_4 (fun n D γ w=>JB J g1 g2 p1 p2 bx (pre++[blowAt (weakS r f) (strongS r f) i va vb]) (weakS r f) (strongS r f) va vb (PreB (some ⟨b,o,none⟩) cap ls r f bk bf bl) x W w) (fun k γ w=>True) () (by kernel_rfl) (fun _=>rfl) ?hA6_4 (by kernel_rfl) ?hB06_4 ?hop6_4 ?hend6_4
       case hA6_4=>intro γ;dsimp only[fullV];rfl
       case hB06_4=>
        exact⟨hJ.keepN JB1.j ((Kp.refl _ none _).drew),JB1.o.kpN ((Kp.refl _ none _).drew),JB1.p.kp lo (Nat.le_trans hM JB1.z) ((Kp.refl _ none _).drew) (fun _ e=>by cases e),JB1.x.drew,JB1.z⟩
       case hop6_4=>
        intro hA;refine⟨?_,?_,?_,oKv hA,oKv hA,?_,?_,?_,trivial⟩
        ·
         refine oKv hA (h:=?_);intro n D γ w hB hU K hK;try dsimp only at hB
         try dsimp only
         have d1:=fun i=>hB.o.b1.cell i;have d2:=fun i=>hB.o.b2.cell i;have d3:=fun i=>hB.o.f2.cell i;have d4:=fun i=>hB.x.cell i;unfold fallCells at d3;clear hB hU;go_step;exact hK _ rfl
        ·
         refine oKv hA (h:=?_);intro n D γ w hB hU K hK;try dsimp only at hB
         try dsimp only
         have d1:=fun i=>hB.o.b1.cell i;have d2:=fun i=>hB.o.b2.cell i;have d3:=fun i=>hB.o.f2.cell i;have d4:=fun i=>hB.x.cell i;unfold fallCells at d3;clear hB hU;go_step;exact hK _ rfl
        ·
         refine oKv hA (h:=?_);intro n D γ w hB hU K hK;try dsimp only at hB
         try dsimp only
         have d1:=fun i=>hB.o.b1.cell i;have d2:=fun i=>hB.o.b2.cell i;have d3:=fun i=>hB.o.f2.cell i;have d4:=fun i=>hB.x.cell i;unfold fallCells at d3;clear hB hU;go_step;exact hK _ rfl
        ·
         refine oKv hA (h:=?_);intro n D γ w hB hU K hK;try dsimp only at hB
         try dsimp only
         have d1:=fun i=>hB.o.b1.cell i;have d2:=fun i=>hB.o.b2.cell i;have d3:=fun i=>hB.o.f2.cell i;have d4:=fun i=>hB.x.cell i;unfold fallCells at d3;clear hB hU;go_step;exact hK _ rfl
        ·
         refine opOk_l hA (fun _=>rfl) ?_;intro n D γ w hn hD hB hU K hK;try dsimp only at hB
         clear hU;replace hn:n<8:=hn;try dsimp only
         go_step;refine mK (blast_hold_any (strongS r f) hb.out _) fun w5 k5=>?_;refine hK _ _ γ rfl (hB.kpN hJ lo hM k5) trivial ?_;exact dA
        ·
         refine opOk_l hA (fun _=>rfl) ?_;intro n D γ w hn hD hB hU K hK;try dsimp only at hB
         clear hU;replace hn:n<8:=hn;try dsimp only
         go_step;refine mK (blast_bursts_any g1 (weakS r f) va x _ _ hB.o.f1 (step_ok ha.out hxo.out hva.out).p) fun w5 k5=>?_;rw[show burstsAt x.dens va (holdOf (strongS r f).strong (strongS r f).spin (strongS r f).pile)=false from hbl.out];refine hK _ _ γ rfl (hB.kpN hJ lo hM k5) trivial ?_;exact dA
       case hend6_4=>
        intro n D γ w hn hD hB hF;replace hF:=fun k (hk:k<8)=>hF k hk;try dsimp only at hB
        try dsimp only at hF
        replace hn:n≤8:=hn;try dsimp only
        clear JB1;have d1:=fun i=>hB.o.b1.cell i;have d4:=fun i=>hB.x.cell i;go_wp2_with fail
        refine(blast_slow_any g1 (weakS r f) va x _ hB.o.f1 ha.out hxo.out hva.out).mono ?_;rintro e w5 ⟨rfl,hf5,k5⟩;have hv5:Vok (slowedOf (weakS r f) x va):=slowed_bd (step_ok ha.out hxo.out hva.out) hva.out;replace hv5:=Lib.hid hv5
        have JB5:JB J g1 g2 p1 p2 bx (pre++[blowAt (weakS r f) (strongS r f) i va vb]) (weakS r f) (strongS r f) (slowedOf (weakS r f) x va) vb (PreB (some ⟨b,o,none⟩) cap ls r f bk bf bl) x W w5:=
         ⟨hJ.keep hB.j k5 (fun r e=>by injection e with e;exact .inl (.inl e.symm)),⟨hf5,hB.o.f2.kp k5 hB.o.f2.lt (sne (Ne.symm hB.o.ne)),hB.o.b1.kp k5 hB.o.b1.lt (sne (Ne.symm (hB.o.f1.ne_of hB.o.b1 (by decide)))),hB.o.b2.kp k5 hB.o.b2.lt (sne (Ne.symm (hB.o.f1.ne_of hB.o.b2 (by decide)))),hB.o.ne⟩,
          hB.p.kp lo (Nat.le_trans hM hB.z) k5 (fun r e=>by injection e with e;subst e;exact hgM.1),hB.x.kp k5 hB.x.lt (sne (Ne.symm (hB.o.f1.ne_of hB.x (by decide)))),Nat.le_trans hB.z k5.size⟩
        clear hB d1 d4 k5 hf5;have d2:=fun i=>JB5.o.b2.cell i;have d4:=fun i=>JB5.x.cell i;go_wp2_with fail
        refine(blast_slow_any g2 (strongS r f) vb x _ JB5.o.f2 hb.out hxo.out hvb.out).mono ?_;rintro e w6 ⟨rfl,hf6,k6⟩;have hv6:Vok (slowedOf (strongS r f) x vb):=slowed_bd (step_ok hb.out hxo.out hvb.out) hvb.out;replace hv6:=Lib.hid hv6
        have OO6:OwnB g1 g2 p1 p2 (weakS r f) (strongS r f) (slowedOf (weakS r f) x va) (slowedOf (strongS r f) x vb) w6:=
         ⟨JB5.o.f1.kp k6 JB5.o.f1.lt (sne JB5.o.ne),hf6,JB5.o.b1.kp k6 JB5.o.b1.lt (sne (Ne.symm (JB5.o.f2.ne_of JB5.o.b1 (by decide)))),JB5.o.b2.kp k6 JB5.o.b2.lt (sne (Ne.symm (JB5.o.f2.ne_of JB5.o.b2 (by decide)))),JB5.o.ne⟩
        have PP6:=JB5.p.kp lo (Nat.le_trans hM JB5.z) k6 (fun r e=>by injection e with e;subst e;exact hgM.2);have JJ6:J (S4 g1 g2 p1 p2) (pre++[blowAt (weakS r f) (strongS r f) i va vb]) w6:=hJ.less _ _ _ _ (hJ.keep JB5.j k6 (fun r e=>by injection e with e;exact .inl (.inr (.inl e.symm)))) fun _ h=>.inl h;have hz6:W.heap.size≤w6.heap.size:=Nat.le_trans JB5.z k6.size;clear JB5 d2 d4 k6 hf6;replace PP6:=Lib.hid PP6;replace OO6:=Lib.hid OO6;go_wp2
        go_roundw
        case rel=>exact⟨i+1,_,_,_,rfl,h7.out,hv5.out,hv6.out,OO6.out,PP6.out,JJ6,hxe.out,hz6⟩
        case measure=>have:=h7.out;simp[intOf];omega
    case false=>
     replace hbu:=Lib.hid hbu;refine wp_region_inv (Γ:=Unit) [none,none,none,none,none,none,none,none,none,none,none,none,none,none,none,none,none,none,none,none,none,none,none,none,none,none,some 0,some 1,some 2,some 3,some 4,some 5,some 6,some 7,some 8,some 9,some 10,some 11,some 12,some 13,some 14,some 15] [[],[],[],[2],[2,3],[2,3,4],[2,3,4,5],[0,1,2,3,4,5,6],[0,1,2,3,4,5,6,7],[0,1,2,3,4,5,6,7,8],[0,1,2,3,4,5,6,7,8],[0,1,2,3,4,5,6,7,8],[0,1,2,3,4,5,6,7,8,10,11],[0,1,2,3,4,5,6,7,8,9,10,11,12],[0,1,2,3,4,5,6,7,8,9,10,11,12,13],[0,1,2,3,4,5,6,7,8,9,10,11,12,13,14]] [[1,2,3,4,5,6],[0,2,3,4,5,6],[0,1],[0,1,2],[0,1,2,3],[0,1,2,3,4],[0,1,2,3,4,5],[0,1,2,3,4,5,6],[0,1,2,3,4,5,6,7],[0,1,2,3,4,5,6,7,8,10,11,12],[0,1,2,3,4,5,6,7,8,9,11],[0,1,2,3,4,5,6,7,8,9,10],[0,1,2,3,4,5,6,7,8,9,10,11],[0,1,2,3,4,5,6,7,8,9,10,11,12],[0,1,2,3,4,5,6,7,8,9,10,11,12,13],[0,1,2,3,4,5,6,7,8,9,10,11,12,13,14]] (fun γ=>[.pointer (some ⟨g2,0,none⟩),.agg #[x.thick,x.dens],.pointer (some ⟨g1,0,none⟩),.pointer (some ⟨g1,0,none⟩),.pointer (some ⟨g1,0,none⟩),.agg #[(weakS r f).size,(weakS r f).dens,(weakS r f).strong,(weakS r f).spin,(weakS r f).shape,.bool (weakS r f).pile,(weakS r f).speed,(weakS r f).slope],.int .i64 (holdOf (weakS r f).strong (weakS r f).spin (weakS r f).pile),.bool false,.bool false,undef,undef,undef,undef,undef,undef,.bool false]) (fun γ=>[none,none,none,none,none,none,none,none,none,none,none,none,none,none,none,none,none,none,none,none,none,none,none,none,none,none,some (.pointer (some ⟨g2,0,none⟩)),some (.agg #[x.thick,x.dens]),some (.pointer (some ⟨g1,0,none⟩)),some (.pointer (some ⟨g1,0,none⟩)),some (.pointer (some ⟨g1,0,none⟩)),some (.agg #[(weakS r f).size,(weakS r f).dens,(weakS r f).strong,(weakS r f).spin,(weakS r f).shape,.bool (weakS r f).pile,(weakS r f).speed,(weakS r f).slope]),some (.int .i64 (holdOf (weakS r f).strong (weakS r f).spin (weakS r f).pile)),some (.bool false),some (.bool false),some (undef),some (undef),some (undef),some (undef),some (undef),some (undef),some (.bool false)]) ?A5_5 (fun n D γ w=>JB J g1 g2 p1 p2 bx pre (weakS r f) (strongS r f) va vb (PreB (some ⟨b,o,none⟩) cap ls r f bk bf bl) x W w) (fun k γ w=>True) () (by kernel_rfl) (fun _=>rfl) ?hA5_5 (by kernel_rfl) ?hB05_5 ?hop5_5 ?hend5_5
     case hA5_5=>intro γ;dsimp only[fullV];rfl
     case hB05_5=>
      exact⟨hJ.keepN JB0.j ((Kp.refl _ none _).drew),JB0.o.kpN ((Kp.refl _ none _).drew),JB0.p.kp lo (Nat.le_trans hM JB0.z) ((Kp.refl _ none _).drew) (fun _ e=>by cases e),JB0.x.drew,JB0.z⟩
     case hop5_5=>
      intro hA;refine⟨?_,?_,?_,oKv hA,oKv hA,?_,?_,?_,oKv hA,?_,?_,?_,?_,?_,?_,oKv hA,trivial⟩
      ·
       refine oKv hA (h:=?_);intro n D γ w hB hU K hK;try dsimp only at hB
       try dsimp only
       have d1:=fun i=>hB.o.b1.cell i;have d2:=fun i=>hB.o.b2.cell i;have d3:=fun i=>hB.o.f1.cell i;have d4:=fun i=>hB.x.cell i;unfold fallCells at d3;clear hB hU;go_step;exact hK _ rfl
      ·
       refine oKv hA (h:=?_);intro n D γ w hB hU K hK;try dsimp only at hB
       try dsimp only
       have d1:=fun i=>hB.o.b1.cell i;have d2:=fun i=>hB.o.b2.cell i;have d3:=fun i=>hB.o.f1.cell i;have d4:=fun i=>hB.x.cell i;unfold fallCells at d3;clear hB hU;go_step;exact hK _ rfl
      ·
       refine oKv hA (h:=?_);intro n D γ w hB hU K hK;try dsimp only at hB
       try dsimp only
       have d1:=fun i=>hB.o.b1.cell i;have d2:=fun i=>hB.o.b2.cell i;have d3:=fun i=>hB.o.f1.cell i;have d4:=fun i=>hB.x.cell i;unfold fallCells at d3;clear hB hU;go_step;exact hK _ rfl
      ·
       refine oKv hA (h:=?_);intro n D γ w hB hU K hK;try dsimp only at hB
       try dsimp only
       have d1:=fun i=>hB.o.b1.cell i;have d2:=fun i=>hB.o.b2.cell i;have d3:=fun i=>hB.o.f1.cell i;have d4:=fun i=>hB.x.cell i;unfold fallCells at d3;clear hB hU;go_step;exact hK _ rfl
      ·
       refine opOk_l hA (fun _=>rfl) ?_;intro n D γ w hn hD hB hU K hK;try dsimp only at hB
       clear hU;replace hn:n<16:=hn;try dsimp only
       go_step;refine mK (blast_hold_any (weakS r f) ha.out _) fun w5 k5=>?_;refine hK _ _ γ rfl (hB.kpN hJ lo hM k5) trivial ?_;exact dA
      ·
       refine opOk_l hA (fun _=>rfl) ?_;intro n D γ w hn hD hB hU K hK;try dsimp only at hB
       clear hU;replace hn:n<16:=hn;try dsimp only
       go_step;refine mK (blast_bursts_any g2 (strongS r f) vb x _ _ hB.o.f2 (step_ok hb.out hxo.out hvb.out).p) fun w5 k5=>?_;rw[show burstsAt x.dens vb (holdOf (weakS r f).strong (weakS r f).spin (weakS r f).pile)=false from hbu.out];refine hK _ _ γ rfl (hB.kpN hJ lo hM k5) trivial ?_;exact dA
      ·
       refine opOk_s hA (fun _=>rfl) (fun _=>rfl) (fun _ _=>trivial) ?_
       ·
        intro n D γ w hn h;replace hn:n<16:=hn;try dsimp only at h
        exact h
      ·
       refine opOk_s hA (fun _=>rfl) (fun _=>rfl) (fun _ _=>trivial) ?_
       ·
        intro n D γ w hn h;replace hn:n<16:=hn;try dsimp only at h
        exact h
      ·
       refine opOk_s hA (fun _=>rfl) (fun _=>rfl) (fun _ _=>trivial) ?_
       ·
        intro n D γ w hn h;replace hn:n<16:=hn;try dsimp only at h
        exact h
      ·
       refine opOk_s hA (fun _=>rfl) (fun _=>rfl) (fun _ _=>trivial) ?_
       ·
        intro n D γ w hn h;replace hn:n<16:=hn;try dsimp only at h
        exact h
      ·
       refine opOk_s hA (fun _=>rfl) (fun _=>rfl) (fun _ _=>trivial) ?_
       ·
        intro n D γ w hn h;replace hn:n<16:=hn;try dsimp only at h
        exact h
      ·
       refine opOk_s hA (fun _=>rfl) (fun _=>rfl) (fun _ _=>trivial) ?_
       ·
        intro n D γ w hn h;replace hn:n<16:=hn;try dsimp only at h
        exact h
     case hend5_5=>
      intro n D γ w hn hD hB hF;replace hF:=fun k (hk:k<16)=>hF k hk;try dsimp only at hB
      try dsimp only at hF
      replace hn:n≤16:=hn;try dsimp only
      have JB1:=hB;clear hB JB0 hF hD hn;go_wp2_with fail
      cases hbl:burstsAt x.dens va (heldBy (strongS r f))
      case true=>
       have hxe:blowsOf ls r f=pre:=by rw[hx.out];simp[hbu.out,hbl]
       replace hxe:=Lib.hid hxe;replace hbl:=Lib.hid hbl;refine wp_region_inv (Γ:=Unit) [none,none,none,none,none,none,none,none,none,none,none,none,none,none,none,none,none,none,none,none,none,none,none,none,none,none,none,none,none,none,none,none,none,none,none,none,none,none,none,none,none,none,some 0,some 1,some 2,some 3,some 4,some 5,some 6,some 7] [[],[],[],[2],[2,3],[2,3,4],[2,3,4,5],[0,1,2,3,4,5,6]] [[1,2,3,4,5,6],[0,2,3,4,5,6],[0,1],[0,1,2],[0,1,2,3],[0,1,2,3,4],[0,1,2,3,4,5],[0,1,2,3,4,5,6]] (fun γ=>[.pointer (some ⟨g1,0,none⟩),.agg #[x.thick,x.dens],.pointer (some ⟨g2,0,none⟩),.pointer (some ⟨g2,0,none⟩),.pointer (some ⟨g2,0,none⟩),.agg #[(strongS r f).size,(strongS r f).dens,(strongS r f).strong,(strongS r f).spin,(strongS r f).shape,.bool (strongS r f).pile,(strongS r f).speed,(strongS r f).slope],.int .i64 (holdOf (strongS r f).strong (strongS r f).spin (strongS r f).pile),.bool true]) (fun γ=>[none,none,none,none,none,none,none,none,none,none,none,none,none,none,none,none,none,none,none,none,none,none,none,none,none,none,none,none,none,none,none,none,none,none,none,none,none,none,none,none,none,none,some (.pointer (some ⟨g1,0,none⟩)),some (.agg #[x.thick,x.dens]),some (.pointer (some ⟨g2,0,none⟩)),some (.pointer (some ⟨g2,0,none⟩)),some (.pointer (some ⟨g2,0,none⟩)),some (.agg #[(strongS r f).size,(strongS r f).dens,(strongS r f).strong,(strongS r f).spin,(strongS r f).shape,.bool (strongS r f).pile,(strongS r f).speed,(strongS r f).slope]),some (.int .i64 (holdOf (strongS r f).strong (strongS r f).spin (strongS r f).pile)),some (.bool true)]) ?A6_6 (fun n D γ w=>JB J g1 g2 p1 p2 bx pre (weakS r f) (strongS r f) va vb (PreB (some ⟨b,o,none⟩) cap ls r f bk bf bl) x W w) (fun k γ w=>True) () (by kernel_rfl) (fun _=>rfl) ?hA6_6 (by kernel_rfl) ?hB06_6 ?hop6_6 ?hend6_6
       case hA6_6=>intro γ;dsimp only[fullV];rfl
       case hB06_6=>
        exact⟨hJ.keepN JB1.j ((Kp.refl _ none _).drew),JB1.o.kpN ((Kp.refl _ none _).drew),JB1.p.kp lo (Nat.le_trans hM JB1.z) ((Kp.refl _ none _).drew) (fun _ e=>by cases e),JB1.x.drew,JB1.z⟩
       case hop6_6=>
        intro hA;refine⟨?_,?_,?_,oKv hA,oKv hA,?_,?_,?_,trivial⟩
        ·
         refine oKv hA (h:=?_);intro n D γ w hB hU K hK;try dsimp only at hB
         try dsimp only
         have d1:=fun i=>hB.o.b1.cell i;have d2:=fun i=>hB.o.b2.cell i;have d3:=fun i=>hB.o.f2.cell i;have d4:=fun i=>hB.x.cell i;unfold fallCells at d3;clear hB hU;go_step;exact hK _ rfl
        ·
         refine oKv hA (h:=?_);intro n D γ w hB hU K hK;try dsimp only at hB
         try dsimp only
         have d1:=fun i=>hB.o.b1.cell i;have d2:=fun i=>hB.o.b2.cell i;have d3:=fun i=>hB.o.f2.cell i;have d4:=fun i=>hB.x.cell i;unfold fallCells at d3;clear hB hU;go_step;exact hK _ rfl
        ·
         refine oKv hA (h:=?_);intro n D γ w hB hU K hK;try dsimp only at hB
         try dsimp only
         have d1:=fun i=>hB.o.b1.cell i;have d2:=fun i=>hB.o.b2.cell i;have d3:=fun i=>hB.o.f2.cell i;have d4:=fun i=>hB.x.cell i;unfold fallCells at d3;clear hB hU;go_step;exact hK _ rfl
        ·
         refine oKv hA (h:=?_);intro n D γ w hB hU K hK;try dsimp only at hB
         try dsimp only
         have d1:=fun i=>hB.o.b1.cell i;have d2:=fun i=>hB.o.b2.cell i;have d3:=fun i=>hB.o.f2.cell i;have d4:=fun i=>hB.x.cell i;unfold fallCells at d3;clear hB hU;go_step;exact hK _ rfl
        ·
         refine opOk_l hA (fun _=>rfl) ?_;intro n D γ w hn hD hB hU K hK;try dsimp only at hB
         clear hU;replace hn:n<8:=hn;try dsimp only
         go_step;refine mK (blast_hold_any (strongS r f) hb.out _) fun w5 k5=>?_;refine hK _ _ γ rfl (hB.kpN hJ lo hM k5) trivial ?_;exact dA
        ·
         refine opOk_l hA (fun _=>rfl) ?_;intro n D γ w hn hD hB hU K hK;try dsimp only at hB
         clear hU;replace hn:n<8:=hn;try dsimp only
         go_step;refine mK (blast_bursts_any g1 (weakS r f) va x _ _ hB.o.f1 (step_ok ha.out hxo.out hva.out).p) fun w5 k5=>?_;rw[show burstsAt x.dens va (holdOf (strongS r f).strong (strongS r f).spin (strongS r f).pile)=true from hbl.out];refine hK _ _ γ rfl (hB.kpN hJ lo hM k5) trivial ?_;exact dA
       case hend6_6=>
        intro n D γ w hn hD hB hF;replace hF:=fun k (hk:k<8)=>hF k hk;try dsimp only at hB
        try dsimp only at hF
        replace hn:n≤8:=hn;try dsimp only
        clear JB1;have hjj:=hJ.less _ (fun _=>False) _ _ hB.j (fun _ h=>h.elim);rw[← hxe.out] at hjj;go_wp2
        exact bodyPost_end (v:=.tuple #[]) (by simp[results,Tryz.results160,go_sem]) rfl ⟨⟨_,rfl⟩,hjj⟩
      case false=>
       have hxe:blowsOf ls r f=pre++blowsFrom (weakS r f) (strongS r f) (ls.drop (i+1)) (i+1) (slowedOf (weakS r f) x va) (slowedOf (strongS r f) x vb):=by rw[hx.out];simp[hbu.out,hbl]
       replace hxe:=Lib.hid hxe;replace hbl:=Lib.hid hbl;refine wp_region_inv (Γ:=Unit) [none,none,none,none,none,none,none,none,none,none,none,none,none,none,none,none,none,none,none,none,none,none,none,none,none,none,none,none,none,none,none,none,none,none,none,none,none,none,none,none,none,none,some 0,some 1,some 2,some 3,some 4,some 5,some 6,some 7] [[],[],[],[2],[2,3],[2,3,4],[2,3,4,5],[0,1,2,3,4,5,6]] [[1,2,3,4,5,6],[0,2,3,4,5,6],[0,1],[0,1,2],[0,1,2,3],[0,1,2,3,4],[0,1,2,3,4,5],[0,1,2,3,4,5,6]] (fun γ=>[.pointer (some ⟨g1,0,none⟩),.agg #[x.thick,x.dens],.pointer (some ⟨g2,0,none⟩),.pointer (some ⟨g2,0,none⟩),.pointer (some ⟨g2,0,none⟩),.agg #[(strongS r f).size,(strongS r f).dens,(strongS r f).strong,(strongS r f).spin,(strongS r f).shape,.bool (strongS r f).pile,(strongS r f).speed,(strongS r f).slope],.int .i64 (holdOf (strongS r f).strong (strongS r f).spin (strongS r f).pile),.bool false]) (fun γ=>[none,none,none,none,none,none,none,none,none,none,none,none,none,none,none,none,none,none,none,none,none,none,none,none,none,none,none,none,none,none,none,none,none,none,none,none,none,none,none,none,none,none,some (.pointer (some ⟨g1,0,none⟩)),some (.agg #[x.thick,x.dens]),some (.pointer (some ⟨g2,0,none⟩)),some (.pointer (some ⟨g2,0,none⟩)),some (.pointer (some ⟨g2,0,none⟩)),some (.agg #[(strongS r f).size,(strongS r f).dens,(strongS r f).strong,(strongS r f).spin,(strongS r f).shape,.bool (strongS r f).pile,(strongS r f).speed,(strongS r f).slope]),some (.int .i64 (holdOf (strongS r f).strong (strongS r f).spin (strongS r f).pile)),some (.bool false)]) ?A6_7 (fun n D γ w=>JB J g1 g2 p1 p2 bx pre (weakS r f) (strongS r f) va vb (PreB (some ⟨b,o,none⟩) cap ls r f bk bf bl) x W w) (fun k γ w=>True) () (by kernel_rfl) (fun _=>rfl) ?hA6_7 (by kernel_rfl) ?hB06_7 ?hop6_7 ?hend6_7
       case hA6_7=>intro γ;dsimp only[fullV];rfl
       case hB06_7=>
        exact⟨hJ.keepN JB1.j ((Kp.refl _ none _).drew),JB1.o.kpN ((Kp.refl _ none _).drew),JB1.p.kp lo (Nat.le_trans hM JB1.z) ((Kp.refl _ none _).drew) (fun _ e=>by cases e),JB1.x.drew,JB1.z⟩
       case hop6_7=>
        intro hA;refine⟨?_,?_,?_,oKv hA,oKv hA,?_,?_,?_,trivial⟩
        ·
         refine oKv hA (h:=?_);intro n D γ w hB hU K hK;try dsimp only at hB
         try dsimp only
         have d1:=fun i=>hB.o.b1.cell i;have d2:=fun i=>hB.o.b2.cell i;have d3:=fun i=>hB.o.f2.cell i;have d4:=fun i=>hB.x.cell i;unfold fallCells at d3;clear hB hU;go_step;exact hK _ rfl
        ·
         refine oKv hA (h:=?_);intro n D γ w hB hU K hK;try dsimp only at hB
         try dsimp only
         have d1:=fun i=>hB.o.b1.cell i;have d2:=fun i=>hB.o.b2.cell i;have d3:=fun i=>hB.o.f2.cell i;have d4:=fun i=>hB.x.cell i;unfold fallCells at d3;clear hB hU;go_step;exact hK _ rfl
        ·
         refine oKv hA (h:=?_);intro n D γ w hB hU K hK;try dsimp only at hB
         try dsimp only
         have d1:=fun i=>hB.o.b1.cell i;have d2:=fun i=>hB.o.b2.cell i;have d3:=fun i=>hB.o.f2.cell i;have d4:=fun i=>hB.x.cell i;unfold fallCells at d3;clear hB hU;go_step;exact hK _ rfl
        ·
         refine oKv hA (h:=?_);intro n D γ w hB hU K hK;try dsimp only at hB
         try dsimp only
         have d1:=fun i=>hB.o.b1.cell i;have d2:=fun i=>hB.o.b2.cell i;have d3:=fun i=>hB.o.f2.cell i;have d4:=fun i=>hB.x.cell i;unfold fallCells at d3;clear hB hU;go_step;exact hK _ rfl
        ·
         refine opOk_l hA (fun _=>rfl) ?_;intro n D γ w hn hD hB hU K hK;try dsimp only at hB
         clear hU;replace hn:n<8:=hn;try dsimp only
         go_step;refine mK (blast_hold_any (strongS r f) hb.out _) fun w5 k5=>?_;refine hK _ _ γ rfl (hB.kpN hJ lo hM k5) trivial ?_;exact dA
        ·
         refine opOk_l hA (fun _=>rfl) ?_;intro n D γ w hn hD hB hU K hK;try dsimp only at hB
         clear hU;replace hn:n<8:=hn;try dsimp only
         go_step;refine mK (blast_bursts_any g1 (weakS r f) va x _ _ hB.o.f1 (step_ok ha.out hxo.out hva.out).p) fun w5 k5=>?_;rw[show burstsAt x.dens va (holdOf (strongS r f).strong (strongS r f).spin (strongS r f).pile)=false from hbl.out];refine hK _ _ γ rfl (hB.kpN hJ lo hM k5) trivial ?_;exact dA
       case hend6_7=>
        intro n D γ w hn hD hB hF;replace hF:=fun k (hk:k<8)=>hF k hk;try dsimp only at hB
        try dsimp only at hF
        replace hn:n≤8:=hn;try dsimp only
        clear JB1;have d1:=fun i=>hB.o.b1.cell i;have d4:=fun i=>hB.x.cell i;go_wp2_with fail
        refine(blast_slow_any g1 (weakS r f) va x _ hB.o.f1 ha.out hxo.out hva.out).mono ?_;rintro e w5 ⟨rfl,hf5,k5⟩;have hv5:Vok (slowedOf (weakS r f) x va):=slowed_bd (step_ok ha.out hxo.out hva.out) hva.out;replace hv5:=Lib.hid hv5
        have JB5:JB J g1 g2 p1 p2 bx pre (weakS r f) (strongS r f) (slowedOf (weakS r f) x va) vb (PreB (some ⟨b,o,none⟩) cap ls r f bk bf bl) x W w5:=
         ⟨hJ.keep hB.j k5 (fun r e=>by injection e with e;exact .inl (.inl e.symm)),⟨hf5,hB.o.f2.kp k5 hB.o.f2.lt (sne (Ne.symm hB.o.ne)),hB.o.b1.kp k5 hB.o.b1.lt (sne (Ne.symm (hB.o.f1.ne_of hB.o.b1 (by decide)))),hB.o.b2.kp k5 hB.o.b2.lt (sne (Ne.symm (hB.o.f1.ne_of hB.o.b2 (by decide)))),hB.o.ne⟩,
          hB.p.kp lo (Nat.le_trans hM hB.z) k5 (fun r e=>by injection e with e;subst e;exact hgM.1),hB.x.kp k5 hB.x.lt (sne (Ne.symm (hB.o.f1.ne_of hB.x (by decide)))),Nat.le_trans hB.z k5.size⟩
        clear hB d1 d4 k5 hf5;have d2:=fun i=>JB5.o.b2.cell i;have d4:=fun i=>JB5.x.cell i;go_wp2_with fail
        refine(blast_slow_any g2 (strongS r f) vb x _ JB5.o.f2 hb.out hxo.out hvb.out).mono ?_;rintro e w6 ⟨rfl,hf6,k6⟩;have hv6:Vok (slowedOf (strongS r f) x vb):=slowed_bd (step_ok hb.out hxo.out hvb.out) hvb.out;replace hv6:=Lib.hid hv6
        have OO6:OwnB g1 g2 p1 p2 (weakS r f) (strongS r f) (slowedOf (weakS r f) x va) (slowedOf (strongS r f) x vb) w6:=
         ⟨JB5.o.f1.kp k6 JB5.o.f1.lt (sne JB5.o.ne),hf6,JB5.o.b1.kp k6 JB5.o.b1.lt (sne (Ne.symm (JB5.o.f2.ne_of JB5.o.b1 (by decide)))),JB5.o.b2.kp k6 JB5.o.b2.lt (sne (Ne.symm (JB5.o.f2.ne_of JB5.o.b2 (by decide)))),JB5.o.ne⟩
        have PP6:=JB5.p.kp lo (Nat.le_trans hM JB5.z) k6 (fun r e=>by injection e with e;subst e;exact hgM.2);have JJ6:J (S4 g1 g2 p1 p2) pre w6:=hJ.less _ _ _ _ (hJ.keep JB5.j k6 (fun r e=>by injection e with e;exact .inl (.inr (.inl e.symm)))) fun _ h=>.inl h;have hz6:W.heap.size≤w6.heap.size:=Nat.le_trans JB5.z k6.size;clear JB5 d2 d4 k6 hf6;replace PP6:=Lib.hid PP6;replace OO6:=Lib.hid OO6;go_wp2
        go_roundw
        case rel=>exact⟨i+1,_,_,_,rfl,h7.out,hv5.out,hv6.out,OO6.out,PP6.out,JJ6,hxe.out,hz6⟩
        case measure=>have:=h7.out;simp[intOf];omega
   ·
    have he:i=ls.length:=by omega
    subst he;have hni:¬ (ls.length:Int)<(ls.length:Int):=by omega
    rw[List.drop_length] at hx;replace hx:blowsOf ls r f=pre++[blowAt (weakS r f) (strongS r f) ls.length va vb]:=hx;replace hx:=Lib.hid hx;replace hva:=Lib.hid hva;replace hvb:=Lib.hid hvb;clear hi h7;have BB0:J (S4 g1 g2 p1 p2) pre wr∧OwnB g1 g2 p1 p2 (weakS r f) (strongS r f) va vb wr∧PreB A cap ls r f bk bf bl wr∧W.heap.size≤wr.heap.size:=⟨JJ,OO,PP,hsz⟩;clear JJ OO PP hsz;go_upto_region 10 with(fail)
    refine wp_region_inv0 (Γ:=Unit) [none,none,none,none,none,none,none,none,none,none,none,none,none,none,none,none,none,none,none,none,none,none,none,none,none,none,none,none,none,none,none,none,none,none,none,none,none,none,none,none,none,none,none,none,none,none,none,none,none,none,none,none,none,none,none,none,none,some 0,some 1,some 2,some 3,some 4,some 5] [[],[],[],[2],[1,2,3],[0,1,2,3,4]] [[1,2,3,4],[0,2,3],[0,1],[0,1,2],[0,1,2,3],[0,1,2,3,4]] (fun γ=>[.func (.yield l) #[] #[],.func (.func 163) #[] #[.pointer (some ⟨p1,0,none⟩),.pointer (some ⟨p2,0,none⟩)],.slice A ls.length cap,.int .i64 ls.length,.agg #[(blowAt (weakS r f) (strongS r f) ls.length va vb).layer,(blowAt (weakS r f) (strongS r f) ls.length va vb).lo,(blowAt (weakS r f) (strongS r f) ls.length va vb).hi],.bool true]) (fun γ=>[none,none,none,none,none,none,none,none,none,none,none,none,none,none,none,none,none,none,none,none,none,none,none,none,none,none,none,none,none,none,none,none,none,none,none,none,none,none,none,none,none,none,none,none,none,none,none,none,none,none,none,none,none,none,none,none,none,some (.func (.yield l) #[] #[]),some (.func (.func 163) #[] #[.pointer (some ⟨p1,0,none⟩),.pointer (some ⟨p2,0,none⟩)]),some (.slice A ls.length cap),some (.int .i64 ls.length),some (.agg #[(blowAt (weakS r f) (strongS r f) ls.length va vb).layer,(blowAt (weakS r f) (strongS r f) ls.length va vb).lo,(blowAt (weakS r f) (strongS r f) ls.length va vb).hi]),some (.bool true)]) ?A10_8 (fun n D γ w=>J (S4 g1 g2 p1 p2) (if D 5=true then pre++[blowAt (weakS r f) (strongS r f) ls.length va vb] else pre) w∧OwnB g1 g2 p1 p2 (weakS r f) (strongS r f) va vb w∧PreB A cap ls r f bk bf bl w∧W.heap.size≤w.heap.size) (fun k γ w=>True) () (fun _=>rfl) ?hA10_8 (by kernel_rfl) ?hB010_8 ?hop10_8 ?hend10_8
    case hA10_8=>intro γ;dsimp only[fullV];rfl
    case hB010_8=>
     exact BB0
    case hop10_8=>
     intro hA;refine⟨oKv hA,oKv hA,?_,oKv hA,?_,?_,trivial⟩
     ·
      refine oKv hA (h:=?_);intro n D γ w hB hU K hK;try dsimp only at hB
      try dsimp only
      have d1:=fun i=>hB.2.2.1.l.cell i;clear hB hU;go_step;exact hK _ rfl
     ·
      refine opOk_l hA (fun _=>rfl) ?_;intro n D γ w hn hD hB hU K hK;try dsimp only at hB
      clear hU;replace hn:n<6:=hn;try dsimp only
      go_step;refine mK (blast_blow_any ls.length p1 p2 g1 g2 (weakS r f) (strongS r f) va vb _ hB.2.1.b1 hB.2.1.b2 hB.2.1.f1 hB.2.1.f2 ha.out hb.out hva.out hvb.out) fun w5 k5=>?_;refine hK _ _ γ rfl ⟨hJ.keepN hB.1 k5,hB.2.1.kpN k5,hB.2.2.1.kp lo (Nat.le_trans hM hB.2.2.2) k5 (fun _ e=>by cases e),Nat.le_trans hB.2.2.2 k5.size⟩ trivial ?_;exact dA
     ·
      refine opOk_y hA (fun _=>rfl) ?_;intro n D γ w hn hD hB hU K hK;try dsimp only at hB
      clear hU;replace hn:n<6:=hn;try dsimp only
      rw[if_neg (by rw[show D 5=false from hD];decide)] at hB;refine⟨l,encB1 (blowAt (weakS r f) (strongS r f) ls.length va vb),by simp[go_sem,encB1],(hY'.out _ pre _ w hB.1 (by rw[hx.out];simp)).mono ?_⟩;rintro e w5 ⟨rfl,hj,k5⟩;refine⟨_,rfl,?_⟩;refine hK _ _ γ rfl ⟨hj,hB.2.1.same fun i hi=>k5.same i (.inl hi),hB.2.2.1.same lo (fun i hi=>k5.same i (.inr hi)) k5.size,Nat.le_trans hB.2.2.2 k5.size⟩ trivial ?_;exact dA
    case hend10_8=>
     intro n D γ w hn hD hB hF;replace hF:=fun k (hk:k<6)=>hF k hk;try dsimp only at hB
     try dsimp only at hF
     replace hn:n≤6:=hn;try dsimp only
     rw[if_pos (hD 5 (by decide))] at hB;have hjj:=hJ.less _ (fun _=>False) _ _ hB.1 (fun _ h=>h.elim);rw[← hx.out] at hjj;clear hD hB hF hn BB0;go_wp2
     exact bodyPost_end (v:=.tuple #[]) (by simp[results,Tryz.results160,go_sem]) rfl ⟨⟨_,rfl⟩,hjj⟩
end Go.Proofs.YtdhiappifnflpaaGreatDoor.Bl
