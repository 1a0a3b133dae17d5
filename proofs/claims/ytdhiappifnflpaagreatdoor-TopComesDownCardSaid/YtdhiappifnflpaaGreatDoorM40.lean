/- Which rocks are valid, which stones are of a rock. The blows of a rock: what they are; the weakest and the strongest stone; the closure that makes a blow. Plain laws on blows: a stone between two others; a rock inside another one. -/
import Derived.Test.YtdhiappifnflpaaGreatDoorM37
import Derived.Test.YtdhiappifnflpaaGreatDoorM39
set_option maxRecDepth 100000
set_option maxHeartbeats 1000000
namespace Go.Proofs.YtdhiappifnflpaaGreatDoor.Bl
open Go.RowKit
def rockSpan (r:Rock) (f:Fall):Nat→Span
 | 0=>r.size|1=>r.dens|2=>r.strong|3=>r.spin|4=>r.shape|5=>f.speed|_=>f.slope
def arr14 (f:Nat→Span):Array Value:=#[(f 0).lo,(f 0).hi,(f 1).lo,(f 1).hi,(f 2).lo,(f 2).hi,(f 3).lo,(f 3).hi,(f 4).lo,(f 4).hi,(f 5).lo,(f 5).hi,(f 6).lo,(f 6).hi]
theorem index7s (f:Nat→Span) (i:Nat) (hi:i<7) (w:World):(Instr.index 189 (.agg (arr14 f)) (.int .i64 (i:Int))).run Tryz.prog w=.ok (.agg #[(f i).lo,(f i).hi]) w:=by
 rcases i with _|_|_|_|_|_|_|i
 all_goals first|omega|kernel_rfl
def rockErr (r:Rock) (f:Fall) (i:Nat):Option Int:=
 if (rockSpan r f i).hi<(rockSpan r f i).lo then some 11 else if (rockSpan r f i).lo<bLo i∨bHi i<(rockSpan r f i).hi then some 2 else none
def RockAll (r:Rock) (f:Fall):Prop:=∀ i,i<7→rockErr r f i=none
def RockChk (r:Rock) (f:Fall) (n:Int):Prop:=(n=0∧RockAll r f)∨∃ i,i<7∧rockErr r f i=some n∧∀ j,j<i→rockErr r f j=none
theorem rockErr_val {r:Rock} {f:Fall} {i:Nat} {n:Int} (h:rockErr r f i=some n):n≠0:=by
 unfold rockErr at h;split at h
 · injection h with h;omega
 ·
  split at h
  · injection h with h;omega
  · cases h
theorem rockChk_one {r:Rock} {f:Fall} {n m:Int} (h:RockChk r f n) (k:RockChk r f m):n=m:=by
 rcases h with⟨rfl,h⟩|⟨i,hi,hn,h⟩<;>rcases k with⟨rfl,k⟩|⟨j,hj,km,k⟩
 · rfl
 · rw[h j hj] at km;cases km
 · rw[k i hi] at hn;cases hn
 ·
  rcases Nat.lt_trichotomy i j with hij|hij|hij
  · rw[k i hij] at hn;cases hn
  · subst hij;rw[hn] at km;injection km
  · rw[h j hij] at km;cases km
theorem blast_spans_any (r:Rock) (f:Fall) (w:World) :
  Calls Tryz.prog 159 #[.agg #[r.size.lo,r.size.hi,r.dens.lo,r.dens.hi,r.strong.lo,r.strong.hi,r.spin.lo,r.spin.hi,r.shape.lo,r.shape.hi,.bool r.pile],.agg #[f.speed.lo,f.speed.hi,f.slope.lo,f.slope.hi]] w fun e w'=>e=.returned (.agg (arr14 (rockSpan r f)))∧Kp w.heap.size none w w':=by
 have K:=(((Kp.refl w.heap.size none w).alloc (Nat.le_refl _) (.cells #[r.size.lo,r.size.hi,r.dens.lo,r.dens.hi,r.strong.lo,r.strong.hi,r.spin.lo,r.spin.hi,r.shape.lo,r.shape.hi,.bool r.pile] 70)).alloc (by simp) (.cells #[f.speed.lo,f.speed.hi,f.slope.lo,f.slope.hi] 72)).alloc (by simp<;>omega) (.cells (arr14 (rockSpan r f)) 189);go_enter Tryz.func159,Tryz.ntmps159
 go_wp2
 exact bodyPost_ret (v:=.agg (arr14 (rockSpan r f))) (by simp[results,Tryz.results159,go_sem,arr14,rockSpan]) rfl ⟨rfl,K⟩
def RockAt (r:Rock) (f:Fall) (w:World) (v:Value) (wr:World):Prop:=∃ i:Nat,v=.int .i64 i∧i≤7∧(∀ j,j<i→rockErr r f j=none)∧Kp w.heap.size none w wr
theorem blast_CheckRock_any (r:Rock) (f:Fall) (w:World) (hb:Bnd w) :
  Calls Tryz.prog 142 #[.agg #[r.size.lo,r.size.hi,r.dens.lo,r.dens.hi,r.strong.lo,r.strong.hi,r.spin.lo,r.spin.hi,r.shape.lo,r.shape.hi,.bool r.pile],.agg #[f.speed.lo,f.speed.hi,f.slope.lo,f.slope.hi]] w fun e w'=>(∃ n,e=.returned (.int .i64 n)∧RockChk r f n)∧Kp w.heap.size none w w':=by
 have K0:=((Kp.refl w.heap.size none w).alloc (Nat.le_refl _) (.cells #[r.size.lo,r.size.hi,r.dens.lo,r.dens.hi,r.strong.lo,r.strong.hi,r.spin.lo,r.spin.hi,r.shape.lo,r.shape.hi,.bool r.pile] 70)).alloc (by simp) (.cells #[f.speed.lo,f.speed.hi,f.slope.lo,f.slope.hi] 72);go_enter Tryz.func142,Tryz.ntmps142
 go_wp2_with fail
 refine mK (blast_spans_any r f _) fun w1 k1=>?_;have K1:=K0.then_ k1 (by simp<;>omega);clear k1 K0;go_wp2_with fail
 go_loopw [10] (fun v wr=>RockAt r f w v wr) (fun v _=>7-(intOf v).toNat)
 case atStart=>exact⟨0,rfl,by omega,fun j hj=>absurd hj oM,K1⟩
 case round=>
  obtain⟨i,rfl,hi,hj,KK⟩:=hrel;by_cases h7:i<7
  ·
   have ha:=index7s (rockSpan r f) i h7;obtain⟨hl,hh⟩:=(hb.kpN KK).2 i h7;have hB0:0<wr.heap.size:=(hb.kpN KK).1
   have hst:rockErr r f i=none→∀ j,j<i+1→rockErr r f j=none:=fun h j hj'=>by
    rcases Nat.lt_or_ge j i with h1|h1
    · exact hj j h1
    · rw[show j=i from by omega];exact h
   have hbad:∀ n,rockErr r f i=some n→RockChk r f n:=fun n h=>.inr ⟨i,h7,h,hj⟩;have hre:rockErr r f i=if (rockSpan r f i).hi<(rockSpan r f i).lo then some 11 else if (rockSpan r f i).lo<bLo i∨bHi i<(rockSpan r f i).hi then some 2 else none:=rfl;generalize rockErr r f i=re at hst hbad hre;generalize arr14 (rockSpan r f)=cs at ha;generalize rockSpan r f i=sp at ha hre;generalize bLo i=lo at hl hre;generalize bHi i=hi2 at hh hre;obtain⟨a,b⟩:=sp;simp only at ha hre;have B1:=Blk.new wr 29 #[a,b];have K2:=KK.alloc KK.size (.cells #[a,b] 29);have hl2:=(World.cell?_alloc_lt wr (.cells #[a,b] 29) ⟨0,i * 2,none⟩ hB0).trans hl;have hh2:=(World.cell?_alloc_lt wr (.cells #[a,b] 29) ⟨0,i * 2+1,none⟩ hB0).trans hh;replace hst:=Lib.hid hst;replace hbad:=Lib.hid hbad;have hb:=Lib.hid hb;have h7':(i:Int)<7:=by omega
   have hi0:(0:Int)≤(i:Int):=by omega
   clear hi hj hl hh;replace h7:=Lib.hid h7;by_cases h1:b<a
   ·
    have hno:=Lib.hid (hbad.out 11 (by rw[hre,if_pos h1]));clear hre;go_wp2
    exact bodyPost_ret (v:=.int .i64 11) (by simp[results,Tryz.results142,go_sem]) rfl ⟨⟨11,rfl,hno.out⟩,K2⟩
   ·
    rw[if_neg h1] at hre;have c1:=B1.cell;by_cases h2:a<lo
    ·
     have hno:=Lib.hid (hbad.out 2 (by rw[hre,if_pos (.inl h2)]));have d2:(a<lo)=True:=eq_true h2;clear hre;go_wp2_with fail
     obtain⟨S,hS⟩:∃ S:Nat→World→Prop,S=fun _ w'=>Blk w' wr.heap.size 29 #[a,b]∧w'.cell? ⟨0,i * 2,none⟩=some (.int .i64 lo)∧w'.cell? ⟨0,i * 2+1,none⟩=some (.int .i64 hi2):=⟨_,rfl⟩;have hS0:∀ w',S 0 w'↔(Blk w' wr.heap.size 29 #[a,b]∧w'.cell? ⟨0,i * 2,none⟩=some (.int .i64 lo)∧w'.cell? ⟨0,i * 2+1,none⟩=some (.int .i64 hi2)):=fun w'=>by rw[hS]
     clear hS;have cx:=fun (x:Ev (S 0)) i=>((hS0 _).1 x.h).1.cell i;have cy:=fun (x:Ev (S 0))=>((hS0 _).1 x.h).2.1;have cz:=fun (x:Ev (S 0))=>((hS0 _).1 x.h).2.2;clear c1;have hevT:=ev_true;refine wro S [(0,0),(1,1),(2,0),(3,0),(4,0),(5,1),(6,0),(7,0),(8,0),(9,1),(10,0),(11,0),(12,0),(13,1),(14,0),(15,0),(16,0)] [] ((hS0 _).2 ⟨B1,hl2,hh2⟩) ?_;intro _hev;refine oY ?_;iterate 7 (refine oZ ?_)
     refine oY ?_;refine wpOrd_nil ?_;clear hevT _hev;clear cx cy cz hS0 S;go_wp2
     exact bodyPost_ret (v:=.int .i64 2) (by simp[results,Tryz.results142,go_sem]) rfl ⟨⟨2,rfl,hno.out⟩,K2.drew⟩
    ·
     by_cases h3:hi2<b
     ·
      have hno:=Lib.hid (hbad.out 2 (by rw[hre,if_pos (.inr h3)]));have d2:(a<lo)=False:=eq_false h2;have d3:(hi2<b)=True:=eq_true h3;clear hre;go_wp2_with fail
      obtain⟨S,hS⟩:∃ S:Nat→World→Prop,S=fun _ w'=>Blk w' wr.heap.size 29 #[a,b]∧w'.cell? ⟨0,i * 2,none⟩=some (.int .i64 lo)∧w'.cell? ⟨0,i * 2+1,none⟩=some (.int .i64 hi2):=⟨_,rfl⟩;have hS0:∀ w',S 0 w'↔(Blk w' wr.heap.size 29 #[a,b]∧w'.cell? ⟨0,i * 2,none⟩=some (.int .i64 lo)∧w'.cell? ⟨0,i * 2+1,none⟩=some (.int .i64 hi2)):=fun w'=>by rw[hS]
      clear hS;have cx:=fun (x:Ev (S 0)) i=>((hS0 _).1 x.h).1.cell i;have cy:=fun (x:Ev (S 0))=>((hS0 _).1 x.h).2.1;have cz:=fun (x:Ev (S 0))=>((hS0 _).1 x.h).2.2;clear c1;have hevT:=ev_true;refine wro S [(0,0),(1,1),(2,0),(3,0),(4,0),(5,1),(6,0),(7,0),(8,0),(9,1),(10,0),(11,0),(12,0),(13,1),(14,0),(15,0),(16,0)] [] ((hS0 _).2 ⟨B1,hl2,hh2⟩) ?_;intro _hev;refine oX ?_;refine wpOrd_nil ?_;clear hevT _hev;clear cx cy cz hS0 S;go_wp2
      exact bodyPost_ret (v:=.int .i64 2) (by simp[results,Tryz.results142,go_sem]) rfl ⟨⟨2,rfl,hno.out⟩,K2.drew⟩
     ·
      have hok:=Lib.hid (hst.out (by rw[hre,if_neg (fun k=>k.elim h2 h3)]));have d2:(a<lo)=False:=eq_false h2;have d3:(hi2<b)=False:=eq_false h3;clear hre;go_wp2_with fail
      obtain⟨S,hS⟩:∃ S:Nat→World→Prop,S=fun _ w'=>Blk w' wr.heap.size 29 #[a,b]∧w'.cell? ⟨0,i * 2,none⟩=some (.int .i64 lo)∧w'.cell? ⟨0,i * 2+1,none⟩=some (.int .i64 hi2):=⟨_,rfl⟩;have hS0:∀ w',S 0 w'↔(Blk w' wr.heap.size 29 #[a,b]∧w'.cell? ⟨0,i * 2,none⟩=some (.int .i64 lo)∧w'.cell? ⟨0,i * 2+1,none⟩=some (.int .i64 hi2)):=fun w'=>by rw[hS]
      clear hS;have cx:=fun (x:Ev (S 0)) i=>((hS0 _).1 x.h).1.cell i;have cy:=fun (x:Ev (S 0))=>((hS0 _).1 x.h).2.1;have cz:=fun (x:Ev (S 0))=>((hS0 _).1 x.h).2.2;clear c1;have hevT:=ev_true;refine wro S [(0,0),(1,1),(2,0),(3,0),(4,0),(5,1),(6,0),(7,0),(8,0),(9,1),(10,0),(11,0),(12,0),(13,1),(14,0),(15,0),(16,0)] [] ((hS0 _).2 ⟨B1,hl2,hh2⟩) ?_;intro _hev;refine oX ?_;refine wpOrd_nil ?_;clear hevT _hev;clear cx cy cz hS0 S;go_wp2
      go_roundw
      case rel=>exact⟨i+1,rfl,h7.out,hok.out,K2.drew⟩
      case measure=>have:=h7.out;simp[intOf];omega
  ·
   have he:i=7:=by omega
   subst he;have hok:=Lib.hid hj;clear hj hi h7;go_wp2
   exact bodyPost_ret (v:=.int .i64 0) (by simp[results,Tryz.results142,go_sem]) rfl ⟨⟨0,rfl,.inl ⟨rfl,hok.out⟩⟩,KK⟩
def OfAll (s:Stone) (r:Rock) (f:Fall):Prop:=StoneOk s∧RockAll r f∧s.pile=r.pile∧∀ i,i<7→(rockSpan r f i).lo≤stoneNum s i∧stoneNum s i≤(rockSpan r f i).hi
def OfAt (s:Stone) (r:Rock) (f:Fall) (w:World) (b:Nat) (v:Value) (wr:World):Prop:=∃ i:Nat,v=.int .i64 i∧i≤7∧(∀ j,j<i→(rockSpan r f j).lo≤stoneNum s j∧stoneNum s j≤(rockSpan r f j).hi) ∧
 Blk wr b 189 (arr14 (rockSpan r f))∧Kp w.heap.size none w wr
structure Blow where
 layer:Int
 lo:Int
 hi:Int
def encBlow (b:Blow):List Value:=[.int .i64 b.layer,.int .i64 b.lo,.int .i64 b.hi]
def weakS (r:Rock) (f:Fall):Stone:=⟨r.size.lo,r.dens.lo,r.strong.lo,r.spin.hi,r.shape.hi,r.pile,f.speed.lo,f.slope.lo⟩
def strongS (r:Rock) (f:Fall):Stone:=⟨r.size.hi,r.dens.hi,r.strong.hi,r.spin.lo,r.shape.lo,r.pile,f.speed.hi,f.slope.hi⟩
def heldBy (s:Stone):Int:=holdOf s.strong s.spin s.pile
def blowAt (a b:Stone) (i:Nat) (va vb:Int):Blow:=⟨i,massOf a.size a.dens * va,massOf b.size b.dens * vb⟩
def blowsFrom (a b:Stone):List Layer→Nat→Int→Int→List Blow
 | [],i,va,vb=>[blowAt a b i va vb]
 | x::xs,i,va,vb=>(if burstsAt x.dens vb (heldBy a) then [blowAt a b i va vb] else [])++(if burstsAt x.dens va (heldBy b) then [] else blowsFrom a b xs (i+1) (slowedOf a x va) (slowedOf b x vb))
def blowsOf (ls:List Layer) (r:Rock) (f:Fall):List Blow:=blowsFrom (weakS r f) (strongS r f) ls 0 (f.speed.lo * f.speed.lo) (f.speed.hi * f.speed.hi)
theorem rockErr_ok {r:Rock} {f:Fall} {i:Nat} (h:rockErr r f i=none):bLo i≤(rockSpan r f i).lo∧(rockSpan r f i).lo≤(rockSpan r f i).hi∧(rockSpan r f i).hi≤bHi i:=by
 unfold rockErr at h;split at h
 · cases h
 ·
  split at h
  · cases h
  · omega
theorem rockOk_of_all {r:Rock} {f:Fall} (h:RockAll r f):RockOk r f:=
 ⟨rockErr_ok (h 0 oM),rockErr_ok (h 1 oM),rockErr_ok (h 2 oM),rockErr_ok (h 3 oM),rockErr_ok (h 4 oM),rockErr_ok (h 5 oM),rockErr_ok (h 6 oM)⟩
theorem weak_ok {r:Rock} {f:Fall} (h:RockOk r f):StoneOk (weakS r f):=by
 obtain⟨⟨r1,r2,r3⟩,⟨s1,s2,s3⟩,⟨t1,t2,t3⟩,⟨n1,n2,n3⟩,⟨h1,h2,h3⟩,⟨v1,v2,v3⟩,⟨l1,l2,l3⟩⟩:=h;constructor<;>(simp only[weakS];omega)
theorem strong_ok {r:Rock} {f:Fall} (h:RockOk r f):StoneOk (strongS r f):=by
 obtain⟨⟨r1,r2,r3⟩,⟨s1,s2,s3⟩,⟨t1,t2,t3⟩,⟨n1,n2,n3⟩,⟨h1,h2,h3⟩,⟨v1,v2,v3⟩,⟨l1,l2,l3⟩⟩:=h;constructor<;>(simp only[strongS];omega)
theorem blast_weakest_any (r:Rock) (f:Fall) (w:World) :
  Calls Tryz.prog 161 #[.agg #[r.size.lo,r.size.hi,r.dens.lo,r.dens.hi,r.strong.lo,r.strong.hi,r.spin.lo,r.spin.hi,r.shape.lo,r.shape.hi,.bool r.pile],.agg #[f.speed.lo,f.speed.hi,f.slope.lo,f.slope.hi]] w fun e w'=>e=.returned (.agg #[(weakS r f).size,(weakS r f).dens,(weakS r f).strong,(weakS r f).spin,(weakS r f).shape,.bool (weakS r f).pile,(weakS r f).speed,(weakS r f).slope])∧Kp w.heap.size none w w':=by
 have K0:=(((Kp.refl w.heap.size none w).alloc (Nat.le_refl _) (.cells #[r.size.lo,r.size.hi,r.dens.lo,r.dens.hi,r.strong.lo,r.strong.hi,r.spin.lo,r.spin.hi,r.shape.lo,r.shape.hi,.bool r.pile] 70)).alloc (by simp) (.cells #[f.speed.lo,f.speed.hi,f.slope.lo,f.slope.hi] 72)).alloc (by simp;omega) (.cells #[(0:Int),(0:Int),(0:Int),(0:Int),(0:Int),.bool false,(0:Int),(0:Int)] 76);have RB:=((Blk.new w 70 #[r.size.lo,r.size.hi,r.dens.lo,r.dens.hi,r.strong.lo,r.strong.hi,r.spin.lo,r.spin.hi,r.shape.lo,r.shape.hi,.bool r.pile]).alloc (.cells #[f.speed.lo,f.speed.hi,f.slope.lo,f.slope.hi] 72)).alloc (.cells #[(0:Int),(0:Int),(0:Int),(0:Int),(0:Int),.bool false,(0:Int),(0:Int)] 76);have FB:=(Blk.newAt (w.alloc (.cells #[r.size.lo,r.size.hi,r.dens.lo,r.dens.hi,r.strong.lo,r.strong.hi,r.spin.lo,r.spin.hi,r.shape.lo,r.shape.hi,.bool r.pile] 70)) 72 #[f.speed.lo,f.speed.hi,f.slope.lo,f.slope.hi] (n:=w.heap.size+1) (by simp)).alloc (.cells #[(0:Int),(0:Int),(0:Int),(0:Int),(0:Int),.bool false,(0:Int),(0:Int)] 76);have SB:=Blk.newAt ((w.alloc (.cells #[r.size.lo,r.size.hi,r.dens.lo,r.dens.hi,r.strong.lo,r.strong.hi,r.spin.lo,r.spin.hi,r.shape.lo,r.shape.hi,.bool r.pile] 70)).alloc (.cells #[f.speed.lo,f.speed.hi,f.slope.lo,f.slope.hi] 72)) 76 #[(0:Int),(0:Int),(0:Int),(0:Int),(0:Int),.bool false,(0:Int),(0:Int)] (n:=w.heap.size+1+1) (by simp);go_enter Tryz.func161,Tryz.ntmps161
 go_wp2
 exact bodyPost_ret (v:=.agg #[(weakS r f).size,(weakS r f).dens,(weakS r f).strong,(weakS r f).spin,(weakS r f).shape,.bool (weakS r f).pile,(weakS r f).speed,(weakS r f).slope]) (by simp[results,Tryz.results161,go_sem,weakS]) rfl ⟨rfl,(((Kp.refl w.heap.size none w).alloc (Nat.le_refl _) _).alloc (by simp) _).alloc (by simp;omega) _⟩
theorem blast_strongest_any (r:Rock) (f:Fall) (w:World) :
  Calls Tryz.prog 162 #[.agg #[r.size.lo,r.size.hi,r.dens.lo,r.dens.hi,r.strong.lo,r.strong.hi,r.spin.lo,r.spin.hi,r.shape.lo,r.shape.hi,.bool r.pile],.agg #[f.speed.lo,f.speed.hi,f.slope.lo,f.slope.hi]] w fun e w'=>e=.returned (.agg #[(strongS r f).size,(strongS r f).dens,(strongS r f).strong,(strongS r f).spin,(strongS r f).shape,.bool (strongS r f).pile,(strongS r f).speed,(strongS r f).slope])∧Kp w.heap.size none w w':=by
 have K0:=(((Kp.refl w.heap.size none w).alloc (Nat.le_refl _) (.cells #[r.size.lo,r.size.hi,r.dens.lo,r.dens.hi,r.strong.lo,r.strong.hi,r.spin.lo,r.spin.hi,r.shape.lo,r.shape.hi,.bool r.pile] 70)).alloc (by simp) (.cells #[f.speed.lo,f.speed.hi,f.slope.lo,f.slope.hi] 72)).alloc (by simp;omega) (.cells #[(0:Int),(0:Int),(0:Int),(0:Int),(0:Int),.bool false,(0:Int),(0:Int)] 76);have RB:=((Blk.new w 70 #[r.size.lo,r.size.hi,r.dens.lo,r.dens.hi,r.strong.lo,r.strong.hi,r.spin.lo,r.spin.hi,r.shape.lo,r.shape.hi,.bool r.pile]).alloc (.cells #[f.speed.lo,f.speed.hi,f.slope.lo,f.slope.hi] 72)).alloc (.cells #[(0:Int),(0:Int),(0:Int),(0:Int),(0:Int),.bool false,(0:Int),(0:Int)] 76);have FB:=(Blk.newAt (w.alloc (.cells #[r.size.lo,r.size.hi,r.dens.lo,r.dens.hi,r.strong.lo,r.strong.hi,r.spin.lo,r.spin.hi,r.shape.lo,r.shape.hi,.bool r.pile] 70)) 72 #[f.speed.lo,f.speed.hi,f.slope.lo,f.slope.hi] (n:=w.heap.size+1) (by simp)).alloc (.cells #[(0:Int),(0:Int),(0:Int),(0:Int),(0:Int),.bool false,(0:Int),(0:Int)] 76);have SB:=Blk.newAt ((w.alloc (.cells #[r.size.lo,r.size.hi,r.dens.lo,r.dens.hi,r.strong.lo,r.strong.hi,r.spin.lo,r.spin.hi,r.shape.lo,r.shape.hi,.bool r.pile] 70)).alloc (.cells #[f.speed.lo,f.speed.hi,f.slope.lo,f.slope.hi] 72)) 76 #[(0:Int),(0:Int),(0:Int),(0:Int),(0:Int),.bool false,(0:Int),(0:Int)] (n:=w.heap.size+1+1) (by simp);go_enter Tryz.func162,Tryz.ntmps162
 go_wp2
 exact bodyPost_ret (v:=.agg #[(strongS r f).size,(strongS r f).dens,(strongS r f).strong,(strongS r f).spin,(strongS r f).shape,.bool (strongS r f).pile,(strongS r f).speed,(strongS r f).slope]) (by simp[results,Tryz.results162,go_sem,strongS]) rfl ⟨rfl,(((Kp.refl w.heap.size none w).alloc (Nat.le_refl _) _).alloc (by simp) _).alloc (by simp;omega) _⟩
theorem blast_blow_any (i:Nat) (p1 p2 g1 g2:Nat) (a b:Stone) (va vb:Int) (w:World) (P1:Blk w p1 132 #[.pointer (some ⟨g1,0,none⟩)]) (P2:Blk w p2 132 #[.pointer (some ⟨g2,0,none⟩)])
  (F1:Blk w g1 137 (fallCells a va)) (F2:Blk w g2 137 (fallCells b vb)) (ha:StoneOk a) (hb:StoneOk b) (hva:Vok va) (hvb:Vok vb) :
  Calls Tryz.prog 163 #[i,.pointer (some ⟨p1,0,none⟩),.pointer (some ⟨p2,0,none⟩)] w fun e w'=>e=.returned (.agg #[(blowAt a b i va vb).layer,(blowAt a b i va vb).lo,(blowAt a b i va vb).hi])∧Kp w.heap.size none w w':=by
 have K0:=(Kp.refl w.heap.size none w).alloc (Nat.le_refl _) (.cells #[(0:Int),(0:Int),(0:Int)] 199);have R0:=Blk.new w 199 #[(0:Int),(0:Int),(0:Int)];replace P1:=P1.alloc (.cells #[(0:Int),(0:Int),(0:Int)] 199);replace P2:=P2.alloc (.cells #[(0:Int),(0:Int),(0:Int)] 199);replace F1:=F1.alloc (.cells #[(0:Int),(0:Int),(0:Int)] 199);replace F2:=F2.alloc (.cells #[(0:Int),(0:Int),(0:Int)] 199);unfold fallCells at F1 F2;replace ha:=Lib.hid ha;replace hb:=Lib.hid hb;replace hva:=Lib.hid hva;replace hvb:=Lib.hid hvb;go_enter Tryz.func163,Tryz.ntmps163
 go_wp2_with fail
 generalize hw0:w.alloc (.cells #[(0:Int),(0:Int),(0:Int)] 199)=w0 at *;clear hw0;replace P1:=P1.drew;replace P2:=P2.drew;replace F1:=F1.drew;replace F2:=F2.drew;replace R0:=R0.drew;replace K0:=K0.drew;obtain⟨S,hS⟩:∃ S:Nat→World→Prop,S=fun n w'=>if n=0 then (Blk w' p1 132 #[.pointer (some ⟨g1,0,none⟩)]∧Blk w' p2 132 #[.pointer (some ⟨g2,0,none⟩)])∧Blk w' g1 137 #[a.size,a.dens,a.strong,a.spin,a.shape,.bool a.pile,a.speed,a.slope,va]∧Blk w' g2 137 #[b.size,b.dens,b.strong,b.spin,b.shape,.bool b.pile,b.speed,b.slope,vb] else True:=⟨_,rfl⟩;have hS0:∀ w',S 0 w'↔((Blk w' p1 132 #[.pointer (some ⟨g1,0,none⟩)]∧Blk w' p2 132 #[.pointer (some ⟨g2,0,none⟩)])∧Blk w' g1 137 #[a.size,a.dens,a.strong,a.spin,a.shape,.bool a.pile,a.speed,a.slope,va]∧Blk w' g2 137 #[b.size,b.dens,b.strong,b.spin,b.shape,.bool b.pile,b.speed,b.slope,vb]):=fun w'=>by rw[hS];exact Iff.rfl
 have hS1:∀ w',S 1 w'↔(True):=fun w'=>by rw[hS];exact Iff.rfl
 clear hS;have cA:=fun (x:Ev (S 0)) i=>((hS0 _).1 x.h).1.1.cell i;have cB:=fun (x:Ev (S 0)) i=>((hS0 _).1 x.h).1.2.cell i;have cC:=fun (x:Ev (S 0)) i=>((hS0 _).1 x.h).2.1.cell i;have cD:=fun (x:Ev (S 0)) i=>((hS0 _).1 x.h).2.2.cell i;have hevT:=ev_true;refine wro S [(0,0),(1,1),(2,0),(3,0),(4,1),(6,1),(7,0),(8,0),(9,1),(11,1),(12,0),(13,0),(14,1),(16,1),(17,0),(18,0),(19,1),(5,2),(10,0),(15,2),(20,0),(21,0),(22,0),(23,3)] [23] ((hS0 _).2 ⟨⟨P1,P2⟩,F1,F2⟩) ?_;intro _hev;refine oX ?_;refine oL ?_;intro K hK;go_step;refine mK (blast_mass_any a ha.out _) fun w9 k9=>?_;replace P1:=P1.kpN k9;replace P2:=P2.kpN k9;replace F1:=F1.kpN k9;replace F2:=F2.kpN k9;replace R0:=R0.kpN k9;replace K0:=K0.tN k9;refine hK _ _ ((hS0 _).2 ⟨⟨P1,P2⟩,F1,F2⟩) ?_;clear hK K k9;refine oX ?_;refine oL ?_;intro K hK;go_step;refine mK (blast_mass_any b hb.out _) fun w9 k9=>?_;replace P1:=P1.kpN k9;replace P2:=P2.kpN k9;replace F1:=F1.kpN k9;replace F2:=F2.kpN k9;replace R0:=R0.kpN k9;replace K0:=K0.tN k9;refine hK _ _ ((hS0 _).2 ⟨⟨P1,P2⟩,F1,F2⟩) ?_;clear hK K k9;refine oX ?_;refine oA ?_;intro K hK;have cR:=R0.cell;have fR:=R0.frozen;have e1:=energy_in ha.out hva.out;have e2:=energy_in hb.out hvb.out;go_step;rw[wrap64_of e1.1 oM,wrap64_of e2.1 oM];refine hK _ _ ((hS1 _).2 trivial) ?_;clear hK K e1 e2;change wpOrd _ _ _ _ _ 1 _ _;refine wpOrd_nil ?_;clear hevT _hev;clear cA cB cC cD hS0 hS1 S;have R9:=((R0.set_ 0 (.int .i64 i)).set_ 1 (.int .i64 (massOf a.size a.dens * va))).set_ 2 (.int .i64 (massOf b.size b.dens * vb));have K9:=((K0.setNew (p:=⟨w.heap.size,0,none⟩) (Nat.le_refl _) (.int .i64 i)).setNew (p:=⟨w.heap.size,1,none⟩) (Nat.le_refl _) (.int .i64 (massOf a.size a.dens * va))).setNew (p:=⟨w.heap.size,2,none⟩) (Nat.le_refl _) (.int .i64 (massOf b.size b.dens * vb));simp only[sbt,sc0,scs] at R9;have c9:=R9.cell;go_wp2
 exact bodyPost_ret (v:=.agg #[i,.int .i64 (massOf a.size a.dens * va),.int .i64 (massOf b.size b.dens * vb)]) (by simp[results,Tryz.results163,go_sem,c9]) rfl ⟨rfl,K9⟩
structure StLe (s t:Stone):Prop where
 size:s.size≤t.size
 dens:s.dens≤t.dens
 shape:t.shape≤s.shape
 slope:s.slope≤t.slope
 held:heldBy s≤heldBy t
theorem StLe.refl (s:Stone):StLe s s:=⟨Int.le_refl _,Int.le_refl _,Int.le_refl _,Int.le_refl _,Int.le_refl _⟩
theorem StLe.trans {s t u:Stone} (h:StLe s t) (k:StLe t u):StLe s u:=⟨Int.le_trans h.size k.size,Int.le_trans h.dens k.dens,Int.le_trans k.shape h.shape,Int.le_trans h.slope k.slope,Int.le_trans h.held k.held⟩
theorem ediv_anti {n d d':Int} (hn:0≤n) (hd:0<d) (h:d≤d'):n / d'≤n / d:=by
 rw[Int.le_ediv_iff_mul_le hd];have h0:0≤n / d':=Int.ediv_nonneg hn oM;have h1:n / d' * d≤n / d' * d':=Int.mul_le_mul_of_nonneg_left h h0;have h2:n / d' * d'≤n:=Int.ediv_mul_le n oM;omega
theorem way_anti {t p q:Int} (ht:1≤t) (hp:0<p) (h:p≤q):wayOf t q≤wayOf t p:=by
 unfold wayOf
 have e:∀ m:Int,0<m→(t * 1000+m-1) / m=(t * 1000-1) / m+1:=fun m hm=>by
  rw[show t * 1000+m-1=(t * 1000-1)+1 * m by omega,Int.add_mul_ediv_right _ _ oM]
 rw[e q oM,e p hp];have:=ediv_anti (n:=t * 1000-1) oM hp h;omega
theorem slowed_less {s t:Stone} (hs:StoneOk s) (ht:StoneOk t) (h:StLe s t) {x:Layer} (hx:LayOk x) {v:Int} (hv:0≤v):slowedOf s x v≤slowedOf t x v:=by
 unfold slowedOf lessOf;have w1:wayOf x.thick t.slope≤wayOf x.thick s.slope:=way_anti hx.1.1 (by have:=hs.slope;omega) h.slope;have w0:=way_nonneg ht hx.1.1;have w2:wayOf x.thick t.slope * t.shape≤wayOf x.thick s.slope * s.shape:=Int.mul_le_mul w1 h.shape (by have:=ht.shape;omega) oM;have p0:0≤x.dens * v:=Int.mul_nonneg hx.2.1 hv;have n1:x.dens * v * (wayOf x.thick t.slope * t.shape)≤x.dens * v * (wayOf x.thick s.slope * s.shape):=Int.mul_le_mul_of_nonneg_left w2 p0;have n0:0≤x.dens * v * (wayOf x.thick t.slope * t.shape):=Int.mul_nonneg p0 (Int.mul_nonneg w0 (by have:=ht.shape;omega));have d1:s.dens * s.size≤t.dens * t.size:=Int.mul_le_mul h.dens h.size (by have:=hs.size;omega) (by have:=ht.dens;omega);have e1:=Int.ediv_le_ediv (den_pos ht) n1;have e2:=ediv_anti (n:=x.dens * v * (wayOf x.thick s.slope * s.shape)) (Int.le_trans n0 n1) (den_pos hs) (show s.dens * s.size * 1000≤t.dens * t.size * 1000 by omega);have e3:=Int.le_trans e1 e2;omega
theorem slowed_le {s t:Stone} (hs:StoneOk s) (ht:StoneOk t) (h:StLe s t) {x:Layer} (hx:LayOk x) {v v':Int} (hv:0≤v) (hvv:v≤v'):slowedOf s x v≤slowedOf t x v':=
 Int.le_trans (slowed_mono hs hx hv hvv) (slowed_less hs ht h hx oM)
theorem mass_le {s t:Stone} (hs:StoneOk s) (ht:StoneOk t) (h:StLe s t):0≤massOf s.size s.dens∧massOf s.size s.dens≤massOf t.size t.dens:=by
 refine⟨(mass_val hs.size hs.dens).2.1,?_⟩;unfold massOf;have h0:=hs.size;have h1:=hs.dens;have h3:s.size * s.size≤t.size * t.size:=Int.mul_le_mul h.size h.size oM (by have:=ht.size;omega);have p3:0≤s.size * s.size:=Int.mul_nonneg oM oM;have h4:s.size * s.size * s.size≤t.size * t.size * t.size:=Int.mul_le_mul h3 h.size oM oM;have p4:0≤s.size * s.size * s.size:=Int.mul_nonneg p3 oM;exact Int.ediv_le_ediv oM (Int.mul_le_mul h4 h.dens oM oM)
theorem energy_le {s t:Stone} (hs:StoneOk s) (ht:StoneOk t) (h:StLe s t) {v v':Int} (hv:0≤v) (hvv:v≤v'):massOf s.size s.dens * v≤massOf t.size t.dens * v':=by
 obtain⟨m0,m1⟩:=mass_le hs ht h;exact Int.mul_le_mul m1 hvv hv oM
theorem blows_enclose {a s b:Stone} (ha:StoneOk a) (hs:StoneOk s) (hb:StoneOk b) (h1:StLe a s) (h2:StLe s b):∀ (ls:List Layer) (i:Nat) (va v vb:Int),(∀ x∈ls,LayOk x)→0≤va→va≤v→v≤vb →
  ∃ bl∈blowsFrom a b ls i va vb,bl.layer=((i+(fallFrom s ls v).1:Nat):Int)∧bl.lo≤massOf s.size s.dens * (fallFrom s ls v).2∧massOf s.size s.dens * (fallFrom s ls v).2≤bl.hi
 | [],i,va,v,vb,_,h0,hv,hvb=>⟨blowAt a b i va vb,by simp[blowsFrom],by simp[blowAt,fallFrom],energy_le (v':=v) ha hs h1 h0 hv,energy_le (v:=v) hs hb h2 (Int.le_trans h0 hv) hvb⟩
 | x::xs,i,va,v,vb,hl,h0,hv,hvb=>by
  have hx:=hl x List.mem_cons_self;cases hbu:burstsAt x.dens v (holdOf s.strong s.spin s.pile)
  ·
   have hna:burstsAt x.dens va (heldBy b)=false:=by
    rw[Bool.eq_false_iff];intro k;have:=bursts_mono hx.2.1 hv h2.held k;unfold heldBy at this;rw[this] at hbu;cases hbu
   obtain⟨bl,hm,hbl,hlo,hhi⟩:=blows_enclose ha hs hb h1 h2 xs (i+1) (slowedOf a x va) (slowedOf s x v) (slowedOf b x vb) (fun y hy=>hl y (List.mem_cons_of_mem _ hy)) (slowed_nonneg _ _ _) (slowed_le ha hs h1 hx h0 hv) (slowed_le hs hb h2 hx oM hvb);rw[fall_go hbu];refine⟨bl,?_,?_,hlo,hhi⟩
   ·
    unfold blowsFrom;rw[hna];simp only[Bool.false_eq_true,if_false];exact List.mem_append_right _ hm
   ·
    rw[hbl];congr 1
    omega
  ·
   have hyb:burstsAt x.dens vb (heldBy a)=true:=bursts_mono hx.2.1 hvb h1.held hbu;rw[fall_burst hbu];refine⟨blowAt a b i va vb,?_,by simp[blowAt],energy_le ha hs h1 h0 hv,energy_le hs hb h2 oM hvb⟩;unfold blowsFrom;rw[hyb];simp
theorem blows_some {a b:Stone} (ha:StoneOk a) (hb:StoneOk b) (h:StLe a b) {ls:List Layer} {i:Nat} {va vb:Int} (hl:∀ x∈ls,LayOk x) (h0:0≤va) (hv:va≤vb):0<(blowsFrom a b ls i va vb).length:=by
 obtain⟨bl,hm,_⟩:=blows_enclose ha ha hb (StLe.refl a) h ls i va va vb hl h0 (Int.le_refl _) hv;exact List.length_pos_of_mem hm
theorem blows_from (a b:Stone):∀ (ls:List Layer) (i:Nat) (va vb:Int),∀ bl∈blowsFrom a b ls i va vb,(i:Int)≤bl.layer∧bl.layer≤((i+ls.length:Nat):Int)
 | [],i,va,vb,bl,hm=>by
  simp only[blowsFrom,List.mem_singleton] at hm;subst hm;simp[blowAt]
 | x::xs,i,va,vb,bl,hm=>by
  unfold blowsFrom at hm;rcases List.mem_append.1 hm with hm|hm
  ·
   split at hm
   ·
    simp only[List.mem_singleton] at hm;subst hm;simp only[blowAt];omega
   · simp at hm
  ·
   split at hm
   · simp at hm
   ·
    have:=blows_from a b xs (i+1) _ _ bl hm;simp only[List.length_cons];omega
theorem hold_between {a b n m:Int} (p:Bool) (h:a≤b) (ha:0≤a) (hn:n≤m) (hm:m≤1000):holdOf a m p≤holdOf b n p:=by
 unfold holdOf;split
 · exact Int.ediv_le_ediv oM (Int.mul_le_mul h oM oM oM)
 · exact h
theorem weak_le {s:Stone} {r:Rock} {f:Fall} (hr:RockOk r f) (h:StoneIn s r f):StLe (weakS r f) s:=by
 have hok:=weak_ok hr;obtain⟨h1,h2,h3,h4,h5,h6,h7,h8⟩:=h;refine⟨h1.1,h2.1,h5.2,h8.1,?_⟩
 show holdOf r.strong.lo r.spin.hi r.pile≤holdOf s.strong s.spin s.pile
 rw[h6];exact hold_between r.pile h3.1 hok.strong.1 h4.2 hok.spin.2
theorem strong_le {s:Stone} {r:Rock} {f:Fall} (hr:RockOk r f) (h:StoneIn s r f) (hs:StoneOk s):StLe s (strongS r f):=by
 have hok:=strong_ok hr;obtain⟨h1,h2,h3,h4,h5,h6,h7,h8⟩:=h;refine⟨h1.2,h2.2,h5.1,h8.2,?_⟩
 show holdOf s.strong s.spin s.pile≤holdOf r.strong.hi r.spin.lo r.pile
 rw[h6];exact hold_between r.pile h3.2 hs.strong.1 h4.1 hs.spin.2
theorem weak_strong {r:Rock} {f:Fall} (hr:RockOk r f):StLe (weakS r f) (strongS r f):=by
 have h1:=weak_ok hr;have h2:=strong_ok hr;obtain⟨⟨r1,r2,r3⟩,⟨s1,s2,s3⟩,⟨t1,t2,t3⟩,⟨n1,n2,n3⟩,⟨k1,k2,k3⟩,⟨v1,v2,v3⟩,⟨l1,l2,l3⟩⟩:=hr;exact⟨r2,s2,k2,l2,hold_between (a:=r.strong.lo) (b:=r.strong.hi) (n:=r.spin.lo) (m:=r.spin.hi) r.pile t2 t1 n2 n3⟩
theorem speed_le {r:Rock} {f:Fall} (hr:RockOk r f):0≤f.speed.lo * f.speed.lo∧f.speed.lo * f.speed.lo≤f.speed.hi * f.speed.hi:=by
 have h1:=(weak_ok hr).speed;obtain⟨_,_,_,_,_,⟨v1,v2,v3⟩,_⟩:=hr;simp only[weakS] at h1;exact⟨Int.mul_nonneg oM oM,sq_mono oM v2⟩
theorem blowsOf_some {ls:List Layer} {r:Rock} {f:Fall} (hl:∀ x∈ls,LayOk x) (hr:RockOk r f):0<(blowsOf ls r f).length:=
 blows_some (weak_ok hr) (strong_ok hr) (weak_strong hr) hl (speed_le hr).1 (speed_le hr).2
theorem blowsOf_enclose {ls:List Layer} {r:Rock} {f:Fall} {s:Stone} (hl:∀ x∈ls,LayOk x) (hr:RockOk r f) (h:StoneIn s r f) (hs:StoneOk s) :
  ∃ bl∈blowsOf ls r f,bl.layer=((endsOf ls s).1:Int)∧bl.lo≤(endsOf ls s).2∧(endsOf ls s).2≤bl.hi:=by
 have hv:=(weak_ok hr).speed;simp only[weakS] at hv
 obtain⟨bl,hm,h1,h2,h3⟩:=blows_enclose (weak_ok hr) hs (strong_ok hr) (weak_le hr h) (strong_le hr h hs) ls 0 (f.speed.lo * f.speed.lo) (s.speed * s.speed) (f.speed.hi * f.speed.hi) hl (speed_le hr).1
  (sq_mono oM h.speed.1) (sq_mono (by have:=hs.speed;omega) h.speed.2)
 rw[Nat.zero_add] at h1;exact⟨bl,hm,h1,h2,h3⟩
end Go.Proofs.YtdhiappifnflpaaGreatDoor.Bl
