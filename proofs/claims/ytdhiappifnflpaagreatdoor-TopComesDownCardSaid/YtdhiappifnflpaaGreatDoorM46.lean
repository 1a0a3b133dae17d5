/- Equal lists of blows. What the statements on rocks and lands of numbers begin with: calls whose arguments are right. A block that is written whole, cell by cell. Things that are made one after the other lie apart; a reading beside a cell that is written. Which stones are of a rock. The statement on stones of a rock: its walk. -/
import Derived.Test.YtdhiappifnflpaaGreatDoorBBlow3
import Derived.Test.YtdhiappifnflpaaGreatDoorM45
import Derived.Test.YtdhiappifnflpaaGreatDoorM01
import Derived.Test.YtdhiappifnflpaaGreatDoorM03
import Derived.Test.YtdhiappifnflpaaGreatDoorM40
namespace Go.Proofs.YtdhiappifnflpaaGreatDoor.Bl
open Go.RowKit
def SamePost (xs ys:List Blow) (w:World) (e:Ending) (w':World):Prop:=(∃ b,e=.returned (.bool b)∧(b=true↔xs=ys))∧Kp w.heap.size none w w'
def SameAt (xs ys:List Blow) (w:World) (v:Value) (wr:World):Prop:=∃ i:Nat,v=.int .i64 i∧i≤xs.length∧(∀ j (hj:j<xs.length) (hk:j<ys.length),j<i→xs[j]=ys[j])∧Kp w.heap.size none w wr
theorem rock_all {r:Rock} {f:Fall} (h:RockOk r f):RockAll r f:=by
 obtain⟨⟨r1,r2,r3⟩,⟨s1,s2,s3⟩,⟨t1,t2,t3⟩,⟨n1,n2,n3⟩,⟨h1,h2,h3⟩,⟨v1,v2,v3⟩,⟨l1,l2,l3⟩⟩:=h;intro i hi;unfold rockErr;rcases i with _|_|_|_|_|_|_|i
 all_goals first|omega|skip
 all_goals
  simp only[rockSpan,bLo,bHi];rw[if_neg oM,if_neg oM]
theorem air_made {ls:List Layer} (h6:ls.length≤6) (h:∀ x∈ls,LayerOk x):AirOk ls:=⟨by omega,fun i hi=>by
 obtain⟨h1,h2,h3,h4⟩:=h ls[i] (List.getElem_mem hi);exact⟨⟨h1,by omega⟩,h3,h4⟩⟩
theorem air_lay {ls:List Layer} (h:AirOk ls):∀ x∈ls,LayOk x:=fun x hx=>by
 obtain⟨i,hi,rfl⟩:=List.getElem_of_mem hx;exact h.2 i hi
theorem air_chk {ls:List Layer} (h:AirOk ls):AirChk ls 0:=.inl ⟨rfl,h⟩
theorem grades_chkM {gs:List Grade} (h:GradesOk gs):GradesChk gs 0:=by
 refine .inr (.inr ⟨h.ne,h.le,.inl ⟨rfl,fun i hi=>?_⟩⟩);have h1:=h.rng gs[i] (List.getElem_mem hi);unfold gradeErr;rw[if_neg (fun k=>k ⟨(btw_true _ _ _).2 ⟨h1.1,h1.2.1⟩,(btw_true _ _ _).2 h1.2.2⟩),if_neg];rintro k;rcases Nat.eq_zero_or_pos i with h0|h0
 ·
  subst h0;simp only[Nat.lt_irrefl,dif_neg,not_false_eq_true] at k;omega
 ·
  rw[dif_pos h0,dif_pos h0] at k;have:=List.pairwise_iff_getElem.1 h.inc (i-1) i oM hi oM;omega
theorem tollIs_made {ls:List Layer} {gs:List Grade} {ps:List Int} {bs:List Bool} {r:Rock} {f:Fall} {fr fi:Nat} {lo hi wo n:Int} (h:TollIs ls gs ps bs r f fr fi lo hi wo n) (ha:AirOk ls) (hr:RockOk r f) (hg:GradesOk gs) (hl:LandOk ps bs.length) (h1:fr≤fi) (h2:fi<ps.length) :
  lo=(tollOf (harmsOf ls.length gs ps bs) (blowsOf ls r f) fr fi).lo∧hi=(tollOf (harmsOf ls.length gs ps bs) (blowsOf ls r f) fr fi).hi∧wo=(tollOf (harmsOf ls.length gs ps bs) (blowsOf ls r f) fr fi).wo∧n=0:=by
 have hgk:GroundChk gs ps bs.length 0:=.inr ⟨grades_chkM hg,.inl ⟨rfl,hl⟩⟩;rcases h with⟨h0,_,h⟩|⟨_,h0,_,h⟩|⟨_,_,⟨h3,_,_⟩|⟨h3,⟨h4,_,_⟩|⟨h4,h5,h6⟩⟩⟩
 ·
  exfalso
  rcases h with⟨_,_,h7,_⟩|⟨_,_,h|⟨_,h⟩⟩
  · exact h0 h7
  · exact h0 (airChk_one h (.inl ⟨rfl,ha⟩))
  · exact h0 (rockChk_one h (.inl ⟨rfl,rock_all hr⟩))
 · exact absurd (groundChk_one h hgk) h0
 · omega
 · omega
 ·
  rw[Int.toNat_natCast,Int.toNat_natCast] at h5;exact⟨h5.1,h5.2.1,h5.2.2,h6⟩
theorem toll_made (Aa:Option Addr) (ca:Nat) (ls:List Layer) (Ag:Option Addr) (cg:Nat) (gs:List Grade) (A A':Option Addr) (c c':Nat) (ps:List Int) (bs:List Bool) (r:Rock) (f:Fall) (fr fi:Nat) (w:World)
  (hl:Rd none w 2 encLayer Aa ls.length ls) (hg:Rd none w 2 encGrade Ag gs.length gs) (h:Rd none w 1 encI A ps.length ps) (hb:Rd none w 1 encB A' bs.length bs) (hc:ps.length≤c) (hbnd:Bnd w)
  (ha:AirOk ls) (hr:RockOk r f) (hgo:GradesOk gs) (hok:LandOk ps bs.length) (h1:fr≤fi) (h2:fi<ps.length) :
  Calls Tryz.prog 24 #[.slice Aa ls.length ca,.slice Ag gs.length cg,.agg #[.slice A ps.length c,.slice A' bs.length c'],.agg #[r.size.lo,r.size.hi,r.dens.lo,r.dens.hi,r.strong.lo,r.strong.hi,r.spin.lo,r.spin.hi,r.shape.lo,r.shape.hi,.bool r.pile],.agg #[f.speed.lo,f.speed.hi,f.slope.lo,f.slope.hi],fr,fi] w
   fun e w'=>e=.returned (.tuple #[.agg #[(tollOf (harmsOf ls.length gs ps bs) (blowsOf ls r f) fr fi).lo,(tollOf (harmsOf ls.length gs ps bs) (blowsOf ls r f) fr fi).hi],(0:Int)])∧Kp w.heap.size none w w':=
 (blast_Toll_any Aa ca ls Ag cg gs A A' c c' ps bs r f fr fi w hl hg h hb hc hbnd).mono fun e w' ⟨⟨lo,hi,wo,n,h3,h4⟩,h5⟩=>by
  obtain⟨rfl,rfl,_,rfl⟩:=tollIs_made h4 ha hr hgo hok h1 h2;exact⟨h3,h5⟩
theorem harms_made (Aa:Option Addr) (ca:Nat) (ls:List Layer) (Ag:Option Addr) (cg:Nat) (gs:List Grade) (A A':Option Addr) (c c':Nat) (ps:List Int) (bs:List Bool) (layer en:Int) (a:Nat) (w:World)
  (hl:Rd none w 2 encLayer Aa ls.length ls) (hg:Rd none w 2 encGrade Ag gs.length gs) (h:Rd none w 1 encI A ps.length ps) (hb:Rd none w 1 encB A' bs.length bs) (hc:ps.length≤c)
  (ha:AirOk ls) (hgo:GradesOk gs) (hok:LandOk ps bs.length) (h1:0≤layer∧layer≤ls.length) (h2:a<ps.length) :
  Calls Tryz.prog 23 #[.slice Aa ls.length ca,.slice Ag gs.length cg,.agg #[.slice A ps.length c,.slice A' bs.length c'],layer,en,a] w
   fun e w'=>e=.returned (.tuple #[(harmsOf ls.length gs ps bs layer en a),(0:Int)])∧Kp w.heap.size none w w':=
 (blast_Harms_any Aa ca ls Ag cg gs A A' c c' ps bs layer en a w hl hg h hb hc).mono fun e w' ⟨⟨v,n,h3,h4⟩,h5⟩=>by
  have hgk:GroundChk gs ps bs.length 0:=.inr ⟨grades_chkM hgo,.inl ⟨rfl,hok⟩⟩;obtain⟨rfl,rfl⟩:=harmsIs_one h4 (.inr (.inr ⟨air_chk ha,hgk,.inr ⟨h1,.inr ⟨⟨by omega,by omega⟩,rfl,rfl⟩⟩⟩));rw[Int.toNat_natCast] at h3;exact⟨h3,h5⟩
theorem toll_good {ls:List Layer} {gs:List Grade} {ps:List Int} {bs:List Bool} {r:Rock} {f:Fall} {fr fi:Nat} (ha:AirOk ls) (hr:RockOk r f) (hok:LandOk ps bs.length) (h1:fr≤fi) (h2:fi<ps.length) :
  Good (harmsOf ls.length gs ps bs) (fun a x=>(fr≤a∧a≤fi)∧x∈blowsOf ls r f) (tollOf (harmsOf ls.length gs ps bs) (blowsOf ls r f) fr fi):=
 (tollOf_good h1 (blowsOf_some (air_lay ha) hr) fun a _ h4 x _=>⟨harmsOf_nonneg hok oM,harmsOf_nonneg hok oM⟩).1
theorem land_made {ps:List Int} {bs:List Bool} (hbl:bs.length=ps.length) (hp1:1≤ps.length) (hp16:ps.length≤16) (hpp:∀ p∈ps,0≤p∧p≤1998):LandOk ps bs.length:=
 ⟨hp1,by omega,hbl,fun x hx=>⟨(hpp x hx).1,by have:=(hpp x hx).2;omega⟩⟩
def fillAt (w:World) (b:Nat):Nat→List Value→World
 | _,[]=>w
 | j,v::vs=>fillAt (w.setCell ⟨b,j,none⟩ v) b (j+1) vs
theorem _root_.Go.Proofs.YtdhiappifnflpaaGreatDoor.Blk.fillFar {w:World} {g b:Nat} {t:TypeId} {cs:Array Value} (h:Blk w g t cs) (hne:g≠b):∀ (vs:List Value) (j:Nat),Blk (fillAt w b j vs) g t cs
 | [],_=>h
 | v::vs,j=>Blk.fillFar (h.far (p:=⟨b,j,none⟩) hne v) hne vs (j+1)
theorem _root_.Go.Proofs.YtdhiappifnflpaaGreatDoor.Kp.fill {B b:Nat} {row:Option Nat} {w w':World} (h:Kp B row w w') (hb:B≤b):∀ (vs:List Value) (j:Nat),Kp B row w (fillAt w' b j vs)
 | [],_=>h
 | v::vs,j=>Kp.fill (h.setNew (p:=⟨b,j,none⟩) hb v) hb vs (j+1)
theorem _root_.Go.Proofs.YtdhiappifnflpaaGreatDoor.Rd.fill {α:Type} {b sz n:Nat} {w:World} {enc:α→List Value} {A:Option Addr} {xs:List α} (h:Rd (some b) w sz enc A n xs):∀ (vs:List Value) (j:Nat),Rd (some b) (fillAt w b j vs) sz enc A n xs
 | [],_=>h
 | v::vs,j=>Rd.fill (h.setCell (p:=⟨b,j,none⟩) rfl v) vs (j+1)
structure Sep (S:Nat→Nat→Prop) (w:World):Prop where
 lt:∀ j b,S j b→b<w.heap.size
 ap:∀ j k b,j≠k→S j b→S k b→False
theorem Sep.step {S S':Nat→Nat→Prop} {w w':World} (h:Sep S w) (i:Nat) (hw:w.heap.size≤w'.heap.size) (hS:∀ j,j≠i→∀ b,S' j b→S j b) (hi:∀ b,S' i b→w.heap.size≤b∧b<w'.heap.size):Sep S' w':=by
 refine⟨fun j b hb=>?_,fun j k b hjk hj hk=>?_⟩
 ·
  by_cases hji:j=i
  · subst hji;exact(hi b hb).2
  · exact Nat.lt_of_lt_of_le (h.lt j b (hS j hji b hb)) hw
 ·
  by_cases hji:j=i
  ·
   subst hji;have h1:=(hi b hj).1;have h2:=h.lt k b (hS k (Ne.symm hjk) b hk);omega
  ·
   by_cases hki:k=i
   ·
    subst hki;have h1:=(hi b hk).1;have h2:=h.lt j b (hS j hji b hj);omega
   · exact h.ap j k b hjk (hS j hji b hj) (hS k hki b hk)
theorem Sep.grow {S:Nat→Nat→Prop} {w w':World} (h:Sep S w) (hw:w.heap.size≤w'.heap.size):Sep S w':=⟨fun j b hb=>Nat.lt_of_lt_of_le (h.lt j b hb) hw,h.ap⟩
theorem _root_.Go.Proofs.YtdhiappifnflpaaGreatDoor.Rd.setOther {α:Type} {row:Option Nat} {w:World} {sz n:Nat} {enc:α→List Value} {A:Option Addr} {xs:List α} (h:Rd row w sz enc A n xs) {p:Addr} (hne:∀ ad,A=some ad→0<n→ad.block≠p.block) (u:Value):Rd row (w.setCell p u) sz enc A n xs:=by
 refine⟨h.1,fun hn=>?_⟩;obtain⟨b,o,e,hb,hr,hc⟩:=h.2 hn;have k:=(Kp.refl w.heap.size (some p.block) w).setRow (p:=p) rfl u;exact⟨b,o,e,Nat.lt_of_lt_of_le hb k.size,hr,fun i hi j v hv=>(k.cell b _ hb (sne (hne _ e hn))).trans (hc i hi j v hv)⟩
theorem fill_size (b:Nat):∀ (vs:List Value) (j:Nat) (w:World),(fillAt w b j vs).heap.size=w.heap.size
 | [],_,_=>rfl
 | v::vs,j,w=>by
  unfold fillAt;rw[fill_size b vs];simp
theorem _root_.Go.Proofs.YtdhiappifnflpaaGreatDoor.Rd.fillOther {α:Type} {row:Option Nat} {sz n b:Nat} {enc:α→List Value} {A:Option Addr} {xs:List α} (hne:∀ ad,A=some ad→0<n→ad.block≠b):∀ (vs:List Value) (j:Nat) (w:World),Rd row w sz enc A n xs→Rd row (fillAt w b j vs) sz enc A n xs
 | [],_,_,h=>h
 | v::vs,j,w,h=>Rd.fillOther hne vs (j+1) _ (h.setOther (p:=⟨b,j,none⟩) hne v)
theorem _root_.Go.Proofs.YtdhiappifnflpaaGreatDoor.RingAt.fill {g b:Nat} {nums:List Int} {k:Nat} (hb:g<b):∀ (vs:List Value) (j:Nat) (w:World),RingAt w g nums k→RingAt (fillAt w b j vs) g nums k
 | [],_,_,h=>h
 | v::vs,j,w,h=>RingAt.fill hb vs (j+1) _ (RingAt.big h (p:=⟨b,j,none⟩) hb v)
theorem Sep.fill {S:Nat→Nat→Prop} {w:World} (h:Sep S w) (b j:Nat) (vs:List Value):Sep S (fillAt w b j vs):=h.grow (by rw[fill_size];exact Nat.le_refl _)
structure M10 where
 A1:Option Addr
 c1:Nat
 l2:List Layer
 A2:Option Addr
 c2:Nat
 gs2:List Grade
 A3:Option Addr
 c3:Nat
 ps2:List Int
 A4:Option Addr
 c4:Nat
 bs2:List Bool
 s:Stone
 b8:Nat
 m8:Bool
 b9:Nat
 m9:Bool
def S10 (γ:M10) (j b:Nat):Prop:=match j with
 | 0=>∃ ad,γ.A1=some ad∧ad.block=b∧0<γ.l2.length
 | 1=>∃ ad,γ.A2=some ad∧ad.block=b∧0<γ.gs2.length
 | 2=>(∃ ad,γ.A3=some ad∧ad.block=b∧0<γ.ps2.length)∨∃ ad,γ.A4=some ad∧ad.block=b∧0<γ.bs2.length
 | 3=>γ.m8=true∧b=γ.b8
 | 4=>γ.m9=true∧b=γ.b9
 | _=>False
def X1 (γ:M10) (g:Nat) (w:World):Prop:=Rd (some g) w 2 encLayer γ.A1 γ.l2.length γ.l2∧γ.l2.length≤6∧∀ x∈γ.l2,LayerOk x
def X3 (γ:M10) (g:Nat) (w:World):Prop:=Rd (some g) w 2 encGrade γ.A2 γ.gs2.length γ.gs2∧GradesOk γ.gs2
def X5 (γ:M10) (g:Nat) (w:World):Prop:=Rd (some g) w 1 encI γ.A3 γ.ps2.length γ.ps2∧Rd (some g) w 1 encB γ.A4 γ.bs2.length γ.bs2∧1≤γ.ps2.length∧γ.ps2.length≤16∧γ.ps2.length≤γ.c3∧LandOk γ.ps2 γ.bs2.length
def X10 (γ:M10) (B:Nat) (w:World):Prop:=γ.m8=true∧B≤γ.b8∧∃ v v',Blk w γ.b8 65 #[v,v']
def X11 (γ:M10) (B:Nat) (w:World):Prop:=γ.m9=true∧B≤γ.b9∧∃ x0 x1 x2 x3 x4 x5 x6 x7,Blk w γ.b9 76 #[x0,x1,x2,x3,x4,x5,x6,x7]
def X14 (γ:M10) (w:World):Prop:=Blk w γ.b8 65 #[.slice γ.A3 γ.ps2.length γ.c3,.slice γ.A4 γ.bs2.length γ.c4]
def X15 (γ:M10) (w:World):Prop:=Blk w γ.b9 76 #[γ.s.size,γ.s.dens,γ.s.strong,γ.s.spin,γ.s.shape,.bool γ.s.pile,γ.s.speed,γ.s.slope]
structure BB10 (r:Rock) (f:Fall) (nums:List Int) (g b1 B:Nat) (W:World) (γ:M10) (n:Nat) (w:World):Prop where
 ring:∃ k,k≤200+100 * n∧RingAt w g nums k
 r:Blk w b1 70 #[r.size.lo,r.size.hi,r.dens.lo,r.dens.hi,r.strong.lo,r.strong.hi,r.spin.lo,r.spin.hi,r.shape.lo,r.shape.hi,.bool r.pile]
 f:Blk w (b1+1) 72 #[f.speed.lo,f.speed.hi,f.slope.lo,f.slope.hi]
 k:Kp W.heap.size none W w
 sep:Sep (S10 γ) w
 g:W.heap.size≤g∧g<b1∧b1+1<B∧B≤w.heap.size
section
variable {r:Rock} {f:Fall} {nums:List Int} {g b1 B n:Nat} {W w w':World} {γ γ':M10}
theorem X1.kp (h:X1 γ g w) (k:Kp w.heap.size (some g) w w'):X1 γ g w':=⟨h.1.kp k,h.2⟩
theorem X3.kp (h:X3 γ g w) (k:Kp w.heap.size (some g) w w'):X3 γ g w':=⟨h.1.kp k,h.2⟩
theorem X5.kp (h:X5 γ g w) (k:Kp w.heap.size (some g) w w'):X5 γ g w':=⟨h.1.kp k,h.2.1.kp k,h.2.2⟩
theorem X10.kp (h:X10 γ B w) (k:Kp w.heap.size (some g) w w') (hg:g<B):X10 γ B w':=⟨h.1,h.2.1,h.2.2.imp fun _ q=>q.imp fun _ q=>q.kp k q.lt (sne (by have:=h.2.1;omega))⟩
theorem X11.kp (h:X11 γ B w) (k:Kp w.heap.size (some g) w w') (hg:g<B):X11 γ B w':=by
 obtain⟨h1,h2,x0,x1,x2,x3,x4,x5,x6,x7,h3⟩:=h;exact⟨h1,h2,x0,x1,x2,x3,x4,x5,x6,x7,h3.kq k⟩
theorem BB10.mono (h:BB10 r f nums g b1 B W γ n w):BB10 r f nums g b1 B W γ (n+1) w:=by
 obtain⟨⟨k,hk,hr⟩,h1,h2,h3,h4,h5⟩:=h;exact⟨⟨k,by omega,hr⟩,h1,h2,h3,h4,h5⟩
theorem BB10.kpN (h:BB10 r f nums g b1 B W γ n w) (k:Kp w.heap.size none w w') (hs:Sep (S10 γ') w'):BB10 r f nums g b1 B W γ' (n+1) w':=by
 obtain⟨⟨q,hq,hr⟩,h1,h2,h3,h4,h5⟩:=h;exact⟨⟨q,by omega,hr.kpN k⟩,h1.kpN k,h2.kpN k,h3.thenN k (Nat.le_refl _),hs,h5.1,h5.2.1,h5.2.2.1,Nat.le_trans h5.2.2.2 k.size⟩
theorem X1.fill (h:X1 γ g w) (hs:Sep (S10 γ) w) {b k:Nat} (hk:k≠0) (hb:S10 γ k b) (vs:List Value):X1 γ g (fillAt w b 0 vs):=
 ⟨h.1.fillOther (fun ad e hn he=>hs.ap 0 k b (Ne.symm hk) ⟨ad,e,he,hn⟩ hb) vs 0 w,h.2⟩
theorem X3.fill (h:X3 γ g w) (hs:Sep (S10 γ) w) {b k:Nat} (hk:k≠1) (hb:S10 γ k b) (vs:List Value):X3 γ g (fillAt w b 0 vs):=
 ⟨h.1.fillOther (fun ad e hn he=>hs.ap 1 k b (Ne.symm hk) ⟨ad,e,he,hn⟩ hb) vs 0 w,h.2⟩
theorem X5.fill (h:X5 γ g w) (hs:Sep (S10 γ) w) {b k:Nat} (hk:k≠2) (hb:S10 γ k b) (vs:List Value):X5 γ g (fillAt w b 0 vs):=
 ⟨h.1.fillOther (fun ad e hn he=>hs.ap 2 k b (Ne.symm hk) (.inl ⟨ad,e,he,hn⟩) hb) vs 0 w,h.2.1.fillOther (fun ad e hn he=>hs.ap 2 k b (Ne.symm hk) (.inr ⟨ad,e,he,hn⟩) hb) vs 0 w,h.2.2⟩
theorem BB10.fill (h:BB10 r f nums g b1 B W γ n w) {b:Nat} (hb:B≤b) (vs:List Value):BB10 r f nums g b1 B W γ (n+1) (fillAt w b 0 vs):=by
 obtain⟨⟨q,hq,hr⟩,h1,h2,h3,h4,h5⟩:=h;exact⟨⟨q,by omega,RingAt.fill oM vs 0 w hr⟩,h1.fillFar oM vs 0,h2.fillFar oM vs 0,h3.fill oM vs 0,h4.fill b 0 vs,h5.1,h5.2.1,h5.2.2.1,by rw[fill_size];exact h5.2.2.2⟩
end
theorem ends_made (A:Option Addr) (cap:Nat) (ls:List Layer) (s:Stone) (w:World) (h:Rd none w 2 encLayer A ls.length ls) (hb:Bnd w) (ha:AirOk ls) (hs:StoneOk s) :
  Calls Tryz.prog 22 #[.slice A ls.length cap,.agg #[s.size,s.dens,s.strong,s.spin,s.shape,.bool s.pile,s.speed,s.slope]] w fun e w'=>e=.returned (.tuple #[.int .i64 (endsOf ls s).1,.int .i64 (endsOf ls s).2,(0:Int)])∧Kp w.heap.size none w w':=
 (blast_Ends_any A cap ls s w h hb).mono fun e w' ⟨⟨n,x,y,h1,h2⟩,h3⟩=>by
  refine⟨?_,h3⟩;rcases h2 with⟨_,_,rfl,rfl,rfl⟩|⟨h4,_⟩
  · exact h1
  · exact absurd ⟨ha,hs⟩ h4
def hit (L E:Int) (x:Blow):Bool:=decide (x.layer=L)&&(decide (x.lo≤E)&&decide (E≤x.hi))
def EncI (L E:Int) (bl:List Blow) (w0:World) (v15 v16:Value) (wr:World):Prop:=
 ∃ j:Nat,v16=.int .i64 j∧j≤bl.length∧v15=.bool ((bl.take j).any (hit L E))∧Kp w0.heap.size none w0 wr
def EncO (fr fi:Nat) (w0:World) (v20:Value) (wr:World):Prop:=∃ a:Nat,v20=.int .i64 a∧fr≤a∧a≤fi+1∧Kp w0.heap.size none w0 wr
end Go.Proofs.YtdhiappifnflpaaGreatDoor.Bl
