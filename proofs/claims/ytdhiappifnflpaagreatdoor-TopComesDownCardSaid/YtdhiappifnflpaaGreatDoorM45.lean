/- The toll of a stretch: the walk. Toll and Worst. -/
import Derived.Test.YtdhiappifnflpaaGreatDoorM41
import Derived.Test.YtdhiappifnflpaaGreatDoorBBlow3
set_option maxRecDepth 100000
set_option maxHeartbeats 4000000
namespace Go.Proofs.YtdhiappifnflpaaGreatDoor.Bl
open Go.RowKit
def TollIs (ls:List Layer) (gs:List Grade) (ps:List Int) (bs:List Bool) (r:Rock) (f:Fall) (fr fi lo hi wo n:Int):Prop:=
 (n≠0∧(lo=0∧hi=0∧wo=0)∧BlowsChk ls r f [] n) ∨
 (BlowsChk ls r f (blowsOf ls r f) 0∧n≠0∧(lo=0∧hi=0∧wo=0)∧GroundChk gs ps bs.length n) ∨
 (BlowsChk ls r f (blowsOf ls r f) 0∧GroundChk gs ps bs.length 0 ∧
  ((¬ (0≤fr∧fr<ps.length∧0≤fi∧fi<ps.length)∧(lo=0∧hi=0∧wo=0)∧n=7) ∨
   ((0≤fr∧fr<ps.length∧0≤fi∧fi<ps.length)∧((fi<fr∧(lo=0∧hi=0∧wo=0)∧n=11) ∨
    (fr≤fi∧(lo=(tollOf (harmsOf ls.length gs ps bs) (blowsOf ls r f) fr.toNat fi.toNat).lo∧hi=(tollOf (harmsOf ls.length gs ps bs) (blowsOf ls r f) fr.toNat fi.toNat).hi∧wo=(tollOf (harmsOf ls.length gs ps bs) (blowsOf ls r f) fr.toNat fi.toNat).wo)∧n=0)))))
theorem blows_zero {ls:List Layer} {r:Rock} {f:Fall} {bl:List Blow} (h:BlowsChk ls r f bl 0):AirOk ls∧RockAll r f∧bl=blowsOf ls r f:=by
 rcases h with⟨h1,h2,_,h3⟩|⟨h0,_⟩
 · exact⟨h1,h2,h3⟩
 · exact absurd rfl h0
theorem blows_err {ls:List Layer} {r:Rock} {f:Fall} {bl:List Blow} {n:Int} (hn:n≠0) (h:BlowsChk ls r f bl n):bl=[]:=by
 rcases h with⟨_,_,h0,_⟩|⟨_,h1,_⟩
 · exact absurd h0 hn
 · exact h1
section
variable {α:Type} {row:Option Nat} {w:World} {sz n:Nat} {enc:α→List Value} {A:Option Addr} {xs:List α}
theorem _root_.Go.Proofs.YtdhiappifnflpaaGreatDoor.Rd.under (h:Rd row w sz enc A n xs) (o:Obj):Rd (some w.heap.size) (w.alloc o) sz enc A n xs:=by
 refine⟨h.1,fun hn=>?_⟩;obtain⟨b,o',e,hb,hr,hc⟩:=(h.alloc o).2 hn;obtain⟨b2,o2,e2,hb2,_,_⟩:=h.2 hn;rw[e] at e2;injection e2 with e2
 injection e2 with e3 e4
 subst e3;exact⟨b,o',e,hb,oN,hc⟩
end
def TolR (H:Int→Int→Nat→Int) (bl:List Blow) (fr fi bt:Nat) (w0:World) (v22 v23:Value) (wr:World):Prop:=
 ∃ (a:Nat) (s:TS),v23=.int .i64 a∧fr≤a∧a≤fi+1∧v22=.int .i64 s.wo∧tollOf H bl fr fi=tRun H bl (fi+1-a) a s∧Blk wr bt 29 #[s.lo,s.hi]∧Kp w0.heap.size (some bt) w0 wr
def TolI (H:Int→Int→Nat→Int) (bl:List Blow) (fr fi bt a:Nat) (w1:World) (v22 v87:Value) (wr:World):Prop:=
 ∃ (j:Nat) (s:TS),v87=.int .i64 j∧j≤bl.length∧v22=.int .i64 s.wo∧tollOf H bl fr fi=tRun H bl (fi+1-(a+1)) (a+1) (tCell H a (bl.drop j) s)∧Blk wr bt 29 #[s.lo,s.hi]∧Kp w1.heap.size (some bt) w1 wr
theorem blast_stretch_any (Aa:Option Addr) (ca:Nat) (ls:List Layer) (Ag:Option Addr) (cg:Nat) (gs:List Grade) (A A':Option Addr) (c c':Nat) (ps:List Int) (bs:List Bool) (r:Rock) (f:Fall) (fr fi:Int) (w:World)
  (hl:Rd none w 2 encLayer Aa ls.length ls) (hg:Rd none w 2 encGrade Ag gs.length gs) (h:Rd none w 1 encI A ps.length ps) (hb:Rd none w 1 encB A' bs.length bs) (hc:ps.length≤c) (hbnd:Bnd w) :
  Calls Tryz.prog 68 #[.slice Aa ls.length ca,.slice Ag gs.length cg,.agg #[.slice A ps.length c,.slice A' bs.length c'],.agg #[r.size.lo,r.size.hi,r.dens.lo,r.dens.hi,r.strong.lo,r.strong.hi,r.spin.lo,r.spin.hi,r.shape.lo,r.shape.hi,.bool r.pile],.agg #[f.speed.lo,f.speed.hi,f.slope.lo,f.slope.hi],fr,fi] w
   fun e w'=>(∃ lo hi wo n,e=.returned (.tuple #[.agg #[.int .i64 lo,.int .i64 hi],.int .i64 wo,.int .i64 n])∧TollIs ls gs ps bs r f fr fi lo hi wo n)∧Kp w.heap.size none w w':=by
 obtain⟨N,hN⟩:∃ N,N=w.heap.size:=⟨_,rfl⟩;have K0:=((((Kp.refl w.heap.size none w).alloc (Nat.le_refl _) (.cells #[.slice A ps.length c,.slice A' bs.length c'] 65)).alloc (by simp) (.cells #[r.size.lo,r.size.hi,r.dens.lo,r.dens.hi,r.strong.lo,r.strong.hi,r.spin.lo,r.spin.hi,r.shape.lo,r.shape.hi,.bool r.pile] 70)).alloc (by simp;omega) (.cells #[f.speed.lo,f.speed.hi,f.slope.lo,f.slope.hi] 72)).alloc (by simp;omega) (.cells #[(0:Int),(0:Int)] 29);have LB:=(((Blk.newAt w 65 #[.slice A ps.length c,.slice A' bs.length c'] hN).alloc (.cells #[r.size.lo,r.size.hi,r.dens.lo,r.dens.hi,r.strong.lo,r.strong.hi,r.spin.lo,r.spin.hi,r.shape.lo,r.shape.hi,.bool r.pile] 70)).alloc (.cells #[f.speed.lo,f.speed.hi,f.slope.lo,f.slope.hi] 72)).alloc (.cells #[(0:Int),(0:Int)] 29);have RB:=((Blk.newAt (w.alloc (.cells #[.slice A ps.length c,.slice A' bs.length c'] 65)) 70 #[r.size.lo,r.size.hi,r.dens.lo,r.dens.hi,r.strong.lo,r.strong.hi,r.spin.lo,r.spin.hi,r.shape.lo,r.shape.hi,.bool r.pile] (n:=N+1) (by simp[hN])).alloc (.cells #[f.speed.lo,f.speed.hi,f.slope.lo,f.slope.hi] 72)).alloc (.cells #[(0:Int),(0:Int)] 29);have FB:=(Blk.newAt ((w.alloc (.cells #[.slice A ps.length c,.slice A' bs.length c'] 65)).alloc (.cells #[r.size.lo,r.size.hi,r.dens.lo,r.dens.hi,r.strong.lo,r.strong.hi,r.spin.lo,r.spin.hi,r.shape.lo,r.shape.hi,.bool r.pile] 70)) 72 #[f.speed.lo,f.speed.hi,f.slope.lo,f.slope.hi] (n:=N+1+1) (by simp[hN])).alloc (.cells #[(0:Int),(0:Int)] 29);have TB:=Blk.newAt (((w.alloc (.cells #[.slice A ps.length c,.slice A' bs.length c'] 65)).alloc (.cells #[r.size.lo,r.size.hi,r.dens.lo,r.dens.hi,r.strong.lo,r.strong.hi,r.spin.lo,r.spin.hi,r.shape.lo,r.shape.hi,.bool r.pile] 70)).alloc (.cells #[f.speed.lo,f.speed.hi,f.slope.lo,f.slope.hi] 72)) 29 #[(0:Int),(0:Int)] (n:=N+1+1+1) (by simp[hN]);go_enter Tryz.func68,Tryz.ntmps68
 go_wp2_with fail
 rw[← hN] at K0 ⊢;generalize (((w.alloc (.cells #[.slice A ps.length c,.slice A' bs.length c'] 65)).alloc (.cells #[r.size.lo,r.size.hi,r.dens.lo,r.dens.hi,r.strong.lo,r.strong.hi,r.spin.lo,r.spin.hi,r.shape.lo,r.shape.hi,.bool r.pile] 70)).alloc (.cells #[f.speed.lo,f.speed.hi,f.slope.lo,f.slope.hi] 72)).alloc (.cells #[(0:Int),(0:Int)] 29)=w0 at *;subst hN;refine(blast_Blows_any Aa ca ls r f _ (hl.kpN K0) (hbnd.kpN K0)).mono ?_;rintro e w1 ⟨⟨A9,c9,bl,n,rfl,hRb,hn⟩,k1⟩;have K1:=K0.tN k1;replace LB:=LB.kpN k1;replace TB:=TB.kpN k1;clear k1 K0 RB FB hl hbnd;have cT:=TB.cell;have fT:=TB.frozen;by_cases hn0:n=0
 case neg=>
  have hbl:=blows_err hn0 hn;have hx:=Lib.hid (show TollIs ls gs ps bs r f fr fi 0 0 0 n from .inl ⟨hn0,⟨rfl,rfl,rfl⟩,hbl ▸ hn⟩);clear hn hg h hb LB hbl hRb;go_wp2
  exact bodyPost_ret (v:=.tuple #[.agg #[(0:Int),(0:Int)],(0:Int),.int .i64 n]) (by simp[results,Tryz.results68,go_sem,cT]) rfl ⟨⟨0,0,0,n,rfl,hx.out⟩,(K1.setNew (p:=⟨w.heap.size+1+1+1,0,none⟩) (show w.heap.size≤w.heap.size+1+1+1 by omega) _).setNew (p:=⟨w.heap.size+1+1+1,1,none⟩) (show w.heap.size≤w.heap.size+1+1+1 by omega) _⟩
 subst hn0;obtain⟨hair,hrock,hbl⟩:=blows_zero hn;have hll:=hair.1;rw[hbl] at hn
 have hlay:∀ x∈bl,0≤x.layer∧x.layer≤(ls.length:Int):=fun x hx=>by
  have:=blows_from (weakS r f) (strongS r f) ls 0 _ _ x (hbl ▸ hx);omega
 have hblen:bl.length≤33:=by
  have:=blowsFrom_len (weakS r f) (strongS r f) ls 0 (f.speed.lo * f.speed.lo) (f.speed.hi * f.speed.hi);rw[hbl];unfold blowsOf;omega
 replace hn:=Lib.hid hn;replace hair:=Lib.hid hair;replace hrock:=Lib.hid hrock;replace hlay:=Lib.hid hlay;replace hbl:=Lib.hid hbl;have cL:=LB.cell;go_wp2_with fail
 refine(blast_ground_any Ag cg gs A A' c bs.length c' ps _ (hg.kpN K1) (h.kpN K1)).mono ?_;rintro e w2 ⟨⟨n,rfl,hgk⟩,k2⟩;have K2:=K1.tN k2;replace LB:=LB.kpN k2;replace TB:=TB.kpN k2;replace hRb:=hRb.kpN k2;clear k2 K1 cT fT cL;have cT:=TB.cell;have fT:=TB.frozen;have K1:=K2;by_cases hn0:n=0
 case neg=>
  have hx:=Lib.hid (show TollIs ls gs ps bs r f fr fi 0 0 0 n from .inr (.inl ⟨hn.out,hn0,⟨rfl,rfl,rfl⟩,hgk⟩));clear hgk hg h hb LB hRb;go_wp2
  exact bodyPost_ret (v:=.tuple #[.agg #[(0:Int),(0:Int)],(0:Int),.int .i64 n]) (by simp[results,Tryz.results68,go_sem,cT]) rfl ⟨⟨0,0,0,n,rfl,hx.out⟩,(K1.setNew (p:=⟨w.heap.size+1+1+1,0,none⟩) (show w.heap.size≤w.heap.size+1+1+1 by omega) _).setNew (p:=⟨w.heap.size+1+1+1,1,none⟩) (show w.heap.size≤w.heap.size+1+1+1 by omega) _⟩
 subst hn0;replace hgk:=Lib.hid hgk;have hok:=Lib.hid (ground_ok hgk.out);have hpl:=hok.out.2.l4;have cL:=LB.cell;by_cases hf:0≤fr∧fr<(ps.length:Int)∧0≤fi∧fi<(ps.length:Int)
 case neg=>
  have hx:=Lib.hid (show TollIs ls gs ps bs r f fr fi 0 0 0 7 from .inr (.inr ⟨hn.out,hgk.out,.inl ⟨hf,⟨rfl,rfl,rfl⟩,rfl⟩⟩));clear hg h hb hRb;by_cases q1:fr<0
  ·
   clear hf;go_wp2
   exact bodyPost_ret (v:=.tuple #[.agg #[(0:Int),(0:Int)],(0:Int),(7:Int)]) (by simp[results,Tryz.results68,go_sem,cT]) rfl ⟨⟨0,0,0,7,rfl,hx.out⟩,(K1.setNew (p:=⟨w.heap.size+1+1+1,0,none⟩) (show w.heap.size≤w.heap.size+1+1+1 by omega) _).setNew (p:=⟨w.heap.size+1+1+1,1,none⟩) (show w.heap.size≤w.heap.size+1+1+1 by omega) _⟩
  by_cases q2:(ps.length:Int)≤fr
  ·
   clear hf;go_wp2
   exact bodyPost_ret (v:=.tuple #[.agg #[(0:Int),(0:Int)],(0:Int),(7:Int)]) (by simp[results,Tryz.results68,go_sem,cT]) rfl ⟨⟨0,0,0,7,rfl,hx.out⟩,(K1.setNew (p:=⟨w.heap.size+1+1+1,0,none⟩) (show w.heap.size≤w.heap.size+1+1+1 by omega) _).setNew (p:=⟨w.heap.size+1+1+1,1,none⟩) (show w.heap.size≤w.heap.size+1+1+1 by omega) _⟩
  by_cases q3:fi<0
  ·
   clear hf;go_wp2
   exact bodyPost_ret (v:=.tuple #[.agg #[(0:Int),(0:Int)],(0:Int),(7:Int)]) (by simp[results,Tryz.results68,go_sem,cT]) rfl ⟨⟨0,0,0,7,rfl,hx.out⟩,(K1.setNew (p:=⟨w.heap.size+1+1+1,0,none⟩) (show w.heap.size≤w.heap.size+1+1+1 by omega) _).setNew (p:=⟨w.heap.size+1+1+1,1,none⟩) (show w.heap.size≤w.heap.size+1+1+1 by omega) _⟩
  have q4:(ps.length:Int)≤fi:=by omega
  clear hf;go_wp2
  exact bodyPost_ret (v:=.tuple #[.agg #[(0:Int),(0:Int)],(0:Int),(7:Int)]) (by simp[results,Tryz.results68,go_sem,cT]) rfl ⟨⟨0,0,0,7,rfl,hx.out⟩,(K1.setNew (p:=⟨w.heap.size+1+1+1,0,none⟩) (show w.heap.size≤w.heap.size+1+1+1 by omega) _).setNew (p:=⟨w.heap.size+1+1+1,1,none⟩) (show w.heap.size≤w.heap.size+1+1+1 by omega) _⟩
 obtain⟨f1,f2,f3,f4⟩:=hf;have q1:¬ fr<0:=by omega
 have q2:¬ (ps.length:Int)≤fr:=by omega
 have q3:¬ fi<0:=by omega
 have q4:¬ (ps.length:Int)≤fi:=by omega
 by_cases q5:fi<fr
 ·
  have hx:=Lib.hid (show TollIs ls gs ps bs r f fr fi 0 0 0 11 from .inr (.inr ⟨hn.out,hgk.out,.inr ⟨⟨f1,f2,f3,f4⟩,.inl ⟨q5,⟨rfl,rfl,rfl⟩,rfl⟩⟩⟩));clear hg h hb hRb;go_wp2
  exact bodyPost_ret (v:=.tuple #[.agg #[(0:Int),(0:Int)],(0:Int),(11:Int)]) (by simp[results,Tryz.results68,go_sem,cT]) rfl ⟨⟨0,0,0,11,rfl,hx.out⟩,(K1.setNew (p:=⟨w.heap.size+1+1+1,0,none⟩) (show w.heap.size≤w.heap.size+1+1+1 by omega) _).setNew (p:=⟨w.heap.size+1+1+1,1,none⟩) (show w.heap.size≤w.heap.size+1+1+1 by omega) _⟩
 obtain⟨fr,rfl⟩:=Int.eq_ofNat_of_zero_le f1;obtain⟨fi,rfl⟩:=Int.eq_ofNat_of_zero_le f3
 have hx:∀ s:TS,tollOf (harmsOf ls.length gs ps bs) bl fr fi=s→TollIs ls gs ps bs r f fr fi s.lo s.hi s.wo 0:=fun s hs=>by
  subst hs;rw[hbl.out];exact .inr (.inr ⟨hn.out,hgk.out,.inr ⟨⟨f1,f2,f3,f4⟩,.inr ⟨by omega,⟨by rw[Int.toNat_natCast,Int.toNat_natCast],by rw[Int.toNat_natCast,Int.toNat_natCast],by rw[Int.toNat_natCast,Int.toNat_natCast]⟩,rfl⟩⟩⟩)
 replace hx:=Lib.hid hx;have hg2:=(hg.kpN K2).under (.cells #[.int .i64 (-1),.int .i64 (-1)] 29);have h2:=(h.kpN K2).under (.cells #[.int .i64 (-1),.int .i64 (-1)] 29);have hb2:=(hb.kpN K2).under (.cells #[.int .i64 (-1),.int .i64 (-1)] 29);have hRb2:=hRb.under (.cells #[.int .i64 (-1),.int .i64 (-1)] 29);have hLlt:=LB.lt;have hTlt:=TB.lt;replace LB:=LB.alloc (.cells #[.int .i64 (-1),.int .i64 (-1)] 29);replace TB:=TB.alloc (.cells #[.int .i64 (-1),.int .i64 (-1)] 29);have SB:=Blk.new w2 29 #[.int .i64 (-1),.int .i64 (-1)];replace K2:=K2.alloc K2.size (.cells #[.int .i64 (-1),.int .i64 (-1)] 29);clear hg h hb hRb K1;go_wp2_with fail
 obtain⟨bt,hbt⟩:∃ bt,bt=w2.heap.size:=⟨_,rfl⟩;rw[← hbt] at hg2 h2 hb2 hRb2 SB ⊢;have hbt3:w.heap.size+1+1+1<bt:=by omega
 generalize w2.alloc (.cells #[.int .i64 (-1),.int .i64 (-1)] 29)=w3 at *;clear hbt cT fT cL hLlt hTlt;have hfrfi:fr≤fi:=by omega
 have hfip:fi<ps.length:=by omega
 go_loopw [22,23] (fun v22 v23 wr=>TolR (harmsOf ls.length gs ps bs) bl fr fi bt w3 v22 v23 wr) (fun _ v _=>fi+1-(intOf v).toNat)
 case atStart=>exact⟨fr,⟨-1,-1,fr⟩,rfl,Nat.le_refl _,by omega,rfl,rfl,SB,Kp.refl _ _ _⟩
 case round=>
  obtain⟨a,s,rfl,ha1,ha2,rfl,htol,SA,KK⟩:=hrel;replace htol:=Lib.hid htol;have LA:=LB.kq KK;have TA:=TB.kq KK;have cL:=LA.cell;have cT:=TA.cell;have fT:=TA.frozen;by_cases h7:a≤fi
  ·
   have h7':(a:Int)≤(fi:Int):=by omega
   have hal:a<ps.length:=by omega
   have habl:a<bs.length:=by rw[hok.out.2.m];exact hal
   have hg3:=hg2.kp KK;have h3:=h2.kp KK;have hb3:=hb2.kp KK;have hRb3:=hRb2.kp KK;obtain⟨F,hF⟩:∃ F,groundFn bs a=.func (.func F) #[] #[]:=⟨_,rfl⟩;have hap:=fun en ab (w:World) h1 h2 h3 hab=>place_harms_any Ag cg gs A A' c c' ps bs a ab en w h1 h2 h3 hok.out.1 hok.out.2 hc hal hab;rw[hF] at hap;replace hap:=Lib.hid hap;clear hg2 h2 hb2 hRb2 LB TB SB;go_wp2_with fail
   refine mK (blast_of_any A A' c c' ps.length bs a _ hb3.free habl) fun w4 k4=>?_;rw[hF];have hbtl:=SA.lt;replace SA:=SA.kpN k4;replace LA:=LA.kpN k4;replace TA:=TA.kpN k4;replace hg3:=hg3.kpN k4;replace h3:=h3.kpN k4;replace hb3:=hb3.kpN k4;replace hRb3:=hRb3.kpN k4;replace KK:=KK.tN k4;clear k4 cL cT fT;have PA:=Blk.new w4 141 #[.slice A ps.length c,.slice A' bs.length c',a,.func (.func F) #[] #[]];have kp5:=(Kp.refl w4.heap.size none w4).alloc (Nat.le_refl _) (.cells #[.slice A ps.length c,.slice A' bs.length c',a,.func (.func F) #[] #[]] 141);have hbp:bt<w4.heap.size:=SA.lt;replace SA:=SA.kpN kp5;replace LA:=LA.kpN kp5;replace TA:=TA.kpN kp5;replace hg3:=hg3.kpN kp5;replace h3:=h3.kpN kp5;replace hb3:=hb3.kpN kp5;replace hRb3:=hRb3.kpN kp5;replace KK:=KK.tN kp5;clear kp5;go_wp2_with fail
   obtain⟨bp,hbpe⟩:∃ bp,bp=w4.heap.size:=⟨_,rfl⟩;rw[← hbpe] at PA hbp ⊢;generalize w4.alloc (.cells #[.slice A ps.length c,.slice A' bs.length c',a,.func (.func F) #[] #[]] 141)=w5 at *;clear hbpe;go_loopw [22,87] (fun v22 v87 wx=>TolI (harmsOf ls.length gs ps bs) bl fr fi bt a w5 v22 v87 wx) (fun _ v _=>bl.length-(intOf v).toNat)
   case atStart=>exact⟨0,s,rfl,by omega,rfl,by rw[htol.out,tRun_succ _ _ _ _ h7];rfl,SA,Kp.refl _ _ _⟩
   case round=>
    clear SA htol;obtain⟨j,s,rfl,hj,rfl,htol,SA,KI⟩:=hrel;by_cases h8:j<bl.length
    ·
     obtain⟨b,o,rfl,hbl2,-,hcc⟩:=(hRb3.kp KI).at_ oM;have c0:wr.cell? ⟨b,o+j * 3,none⟩=some (.int .i64 bl[j].layer):=hcc j h8 0 _ rfl;have c1:wr.cell? ⟨b,o+j * 3+1,none⟩=some (.int .i64 bl[j].lo):=hcc j h8 1 _ rfl;have c2:wr.cell? ⟨b,o+j * 3+2,none⟩=some (.int .i64 bl[j].hi):=hcc j h8 2 _ rfl;rw[List.drop_eq_getElem_cons h8,tCell_cons] at htol;have hxl:=hlay.out bl[j] (List.getElem_mem h8);generalize bl[j]=x at c0 c1 c2 htol hxl;obtain⟨x1,x2,x3⟩:=x;dsimp only at c0 c1 c2 htol hxl;obtain⟨hxl0,hxl1⟩:=hxl;obtain⟨ab,hab⟩:∃ ab:Nat,(ls.length:Int)-x1=ab:=⟨((ls.length:Int)-x1).toNat,by omega⟩;have hab32:ab≤32:=by omega
     have e1:∀ en,placeHarm gs ps bs a ab en=harmsOf ls.length gs ps bs x1 en a:=fun en=>by rw[← placeHarm_of hxl1,hab,Int.toNat_natCast]
     obtain⟨L,hL⟩:∃ L,L=harmsOf ls.length gs ps bs x1 x2 a:=⟨_,rfl⟩;obtain⟨U,hU⟩:∃ U,U=harmsOf ls.length gs ps bs x1 x3 a:=⟨_,rfl⟩;rw[← hL,← hU] at htol;have eL:=(e1 x2).trans hL.symm;have eU:=(e1 x3).trans hU.symm;clear hL hU e1;replace eL:=Lib.hid eL;replace eU:=Lib.hid eU;replace htol:=Lib.hid htol;have hg4:=hg3.kp KI;have h4:=h3.kp KI;have hb4:=hb3.kp KI;have PA4:=PA.kq KI;have h8':(j:Int)<(bl.length:Int):=by omega
     have k6:=(Kp.refl wr.heap.size none wr).alloc (Nat.le_refl _) (.cells #[x1,x2,x3] 199);have BX:=Blk.new wr 199 #[x1,x2,x3];have hbxl:wr.heap.size<(wr.alloc (.cells #[x1,x2,x3] 199)).heap.size:=BX.lt;have hbb:=PA4.lt;replace PA4:=PA4.kpN k6;replace hg4:=(hg4.kpN k6).free;replace h4:=(h4.kpN k6).free;replace hb4:=(hb4.kpN k6).free;replace SA:=SA.kpN k6;have KI6:=KI.tN k6;have cX:=BX.cell;clear k6 hcc hbl2 hRb3 hg3 h3 hb3;go_wp2_with fail
     clear c0 c1 c2 cX hbxl;obtain⟨bx,hbx⟩:∃ bx,bx=wr.heap.size:=⟨_,rfl⟩;rw[← hbx] at BX ⊢;generalize wr.alloc (.cells #[x1,x2,x3] 199)=w6 at *;clear hbx hbb;replace PA4:=PA4.drew;replace BX:=BX.drew;replace SA:=SA.drew;replace hg4:=hg4.drew;replace h4:=h4.drew;replace hb4:=hb4.drew;replace KI6:=KI6.drew;obtain⟨S,hS⟩:∃ S:Nat→World→Prop,S=fun _ w'=>Blk w' bp 141 #[.slice A ps.length c,.slice A' bs.length c',a,.func (.func F) #[] #[]]∧Blk w' bx 199 #[x1,x2,x3]:=⟨_,rfl⟩;have hS0:∀ w',S 0 w'↔(Blk w' bp 141 #[.slice A ps.length c,.slice A' bs.length c',a,.func (.func F) #[] #[]]∧Blk w' bx 199 #[x1,x2,x3]):=fun w'=>by rw[hS]
     clear hS;have cA:=fun (q:Ev (S 0)) i=>((hS0 _).1 q.h).1.cell i;have cB:=fun (q:Ev (S 0)) i=>((hS0 _).1 q.h).2.cell i;have hevT:=ev_true;refine wro S [(0,1),(1,0),(2,0),(3,0),(4,0),(5,1),(7,1),(8,0),(9,0),(10,0),(11,0),(12,1),(6,2),(13,2),(14,0),(15,0)] [] ((hS0 _).2 ⟨PA4,BX⟩) ?_;intro _hev;refine oX ?_;refine oL ?_;intro K hK;go_step;refine mK (hap.out x2 ab _ hg4 h4 hb4 hab32) fun w7 k7=>?_;rw[eL.out];replace PA4:=PA4.kpN k7;replace BX:=BX.kpN k7;replace SA:=SA.kpN k7;replace hg4:=hg4.kpN k7;replace h4:=h4.kpN k7;replace hb4:=hb4.kpN k7;replace KI6:=KI6.thenN k7 (Nat.le_refl _);refine hK _ _ ((hS0 _).2 ⟨PA4,BX⟩) ?_;clear hK K k7;refine oL ?_;intro K hK;go_step;refine mK (hap.out x3 ab _ hg4 h4 hb4 hab32) fun w7 k7=>?_;rw[eU.out];replace PA4:=PA4.kpN k7;replace BX:=BX.kpN k7;replace SA:=SA.kpN k7;replace KI6:=KI6.thenN k7 (Nat.le_refl _);refine hK _ _ ((hS0 _).2 ⟨PA4,BX⟩) ?_;clear hK K k7;refine oX ?_;refine wpOrd_nil ?_;clear hevT _hev;clear cA cB hS0 S BX PA4 hg4 h4 hb4;have cS:=SA.cell;have fS:=SA.frozen;by_cases p1:s.lo<0
     ·
      by_cases p3:s.hi<U
      ·
       have hst:tStep a L U s=⟨L,U,a⟩:=by
        unfold tStep;rw[(if_pos (.inl p1)),(if_pos p3),(if_pos p3)]
       have ht2:=htol.out;rw[hst] at ht2;replace ht2:=Lib.hid ht2;clear htol hst;go_wp2
       go_roundw
       case rel=>exact⟨j+1,⟨L,U,a⟩,rfl,by omega,rfl,ht2.out,(SA.set_ 0 (.int .i64 L)).set_ 1 (.int .i64 U),(KI6.setRow (p:=⟨bt,0,none⟩) rfl (.int .i64 L)).setRow (p:=⟨bt,1,none⟩) rfl (.int .i64 U)⟩
       case measure=>simp[intOf];omega
      ·
       have hst:tStep a L U s=⟨L,s.hi,s.wo⟩:=by
        unfold tStep;rw[(if_pos (.inl p1)),(if_neg p3),(if_neg p3)]
       have ht2:=htol.out;rw[hst] at ht2;replace ht2:=Lib.hid ht2;clear htol hst;go_wp2
       go_roundw
       case rel=>exact⟨j+1,⟨L,s.hi,s.wo⟩,rfl,by omega,rfl,ht2.out,SA.set_ 0 (.int .i64 L),KI6.setRow (p:=⟨bt,0,none⟩) rfl (.int .i64 L)⟩
       case measure=>simp[intOf];omega
     ·
      by_cases p2:L<s.lo
      ·
       by_cases p3:s.hi<U
       ·
        have hst:tStep a L U s=⟨L,U,a⟩:=by
         unfold tStep;rw[(if_pos (.inr p2)),(if_pos p3),(if_pos p3)]
        have ht2:=htol.out;rw[hst] at ht2;replace ht2:=Lib.hid ht2;clear htol hst;go_wp2
        go_roundw
        case rel=>exact⟨j+1,⟨L,U,a⟩,rfl,by omega,rfl,ht2.out,(SA.set_ 0 (.int .i64 L)).set_ 1 (.int .i64 U),(KI6.setRow (p:=⟨bt,0,none⟩) rfl (.int .i64 L)).setRow (p:=⟨bt,1,none⟩) rfl (.int .i64 U)⟩
        case measure=>simp[intOf];omega
       ·
        have hst:tStep a L U s=⟨L,s.hi,s.wo⟩:=by
         unfold tStep;rw[(if_pos (.inr p2)),(if_neg p3),(if_neg p3)]
        have ht2:=htol.out;rw[hst] at ht2;replace ht2:=Lib.hid ht2;clear htol hst;go_wp2
        go_roundw
        case rel=>exact⟨j+1,⟨L,s.hi,s.wo⟩,rfl,by omega,rfl,ht2.out,SA.set_ 0 (.int .i64 L),KI6.setRow (p:=⟨bt,0,none⟩) rfl (.int .i64 L)⟩
        case measure=>simp[intOf];omega
      ·
       by_cases p3:s.hi<U
       ·
        have hst:tStep a L U s=⟨s.lo,U,a⟩:=by
         unfold tStep;rw[(if_neg (fun h=>h.elim p1 p2)),(if_pos p3),(if_pos p3)]
        have ht2:=htol.out;rw[hst] at ht2;replace ht2:=Lib.hid ht2;clear htol hst;go_wp2
        go_roundw
        case rel=>exact⟨j+1,⟨s.lo,U,a⟩,rfl,by omega,rfl,ht2.out,SA.set_ 1 (.int .i64 U),KI6.setRow (p:=⟨bt,1,none⟩) rfl (.int .i64 U)⟩
        case measure=>simp[intOf];omega
       ·
        have hst:tStep a L U s=⟨s.lo,s.hi,s.wo⟩:=by
         unfold tStep;rw[(if_neg (fun h=>h.elim p1 p2)),(if_neg p3),(if_neg p3)]
        have ht2:=htol.out;rw[hst] at ht2;replace ht2:=Lib.hid ht2;clear htol hst;go_wp2
        go_roundw
        case rel=>exact⟨j+1,⟨s.lo,s.hi,s.wo⟩,rfl,by omega,rfl,ht2.out,SA,KI6⟩
        case measure=>simp[intOf];omega
    ·
     obtain rfl:j=bl.length:=by omega
     have h8':¬ (bl.length:Int)<(bl.length:Int):=by omega
     rw[List.drop_length] at htol;replace htol:=Lib.hid htol;have KW:=KK.then_ KI (Nat.le_refl _);clear h8;go_wp2
     go_roundw
     case rel=>exact⟨a+1,s,rfl,by omega,by omega,rfl,htol.out,SA,KW⟩
     case measure=>simp[intOf];omega
  ·
   have h7':¬ (a:Int)≤(fi:Int):=by omega
   obtain rfl:a=fi+1:=by omega
   have hfin:=hx.out s (by rw[htol.out,Nat.sub_self];rfl);replace hfin:=Lib.hid hfin;have cS:=SA.cell;have KE:=((K2.thenOwn KK (Nat.le_refl _) (show w.heap.size≤bt by omega)).setNew (p:=⟨w.heap.size+1+1+1,0,none⟩) (show w.heap.size≤w.heap.size+1+1+1 by omega) (.int .i64 s.lo)).setNew (p:=⟨w.heap.size+1+1+1,1,none⟩) (show w.heap.size≤w.heap.size+1+1+1 by omega) (.int .i64 s.hi);go_wp2
   exact bodyPost_ret (v:=.tuple #[.agg #[s.lo,s.hi],s.wo,(0:Int)]) (by simp[results,Tryz.results68,go_sem,cT]) rfl ⟨⟨s.lo,s.hi,s.wo,0,rfl,hfin.out⟩,KE⟩
theorem blast_Toll_any (Aa:Option Addr) (ca:Nat) (ls:List Layer) (Ag:Option Addr) (cg:Nat) (gs:List Grade) (A A':Option Addr) (c c':Nat) (ps:List Int) (bs:List Bool) (r:Rock) (f:Fall) (fr fi:Int) (w:World)
  (hl:Rd none w 2 encLayer Aa ls.length ls) (hg:Rd none w 2 encGrade Ag gs.length gs) (h:Rd none w 1 encI A ps.length ps) (hb:Rd none w 1 encB A' bs.length bs) (hc:ps.length≤c) (hbnd:Bnd w) :
  Calls Tryz.prog 24 #[.slice Aa ls.length ca,.slice Ag gs.length cg,.agg #[.slice A ps.length c,.slice A' bs.length c'],.agg #[r.size.lo,r.size.hi,r.dens.lo,r.dens.hi,r.strong.lo,r.strong.hi,r.spin.lo,r.spin.hi,r.shape.lo,r.shape.hi,.bool r.pile],.agg #[f.speed.lo,f.speed.hi,f.slope.lo,f.slope.hi],fr,fi] w
   fun e w'=>(∃ lo hi wo n,e=.returned (.tuple #[.agg #[.int .i64 lo,.int .i64 hi],.int .i64 n])∧TollIs ls gs ps bs r f fr fi lo hi wo n)∧Kp w.heap.size none w w':=by
 obtain⟨N,hN⟩:∃ N,N=w.heap.size:=⟨_,rfl⟩;have K0:=(((((Kp.refl w.heap.size none w).alloc (Nat.le_refl _) (.cells #[.slice A ps.length c,.slice A' bs.length c'] 65)).alloc (by simp) (.cells #[r.size.lo,r.size.hi,r.dens.lo,r.dens.hi,r.strong.lo,r.strong.hi,r.spin.lo,r.spin.hi,r.shape.lo,r.shape.hi,.bool r.pile] 70)).alloc (by simp;omega) (.cells #[f.speed.lo,f.speed.hi,f.slope.lo,f.slope.hi] 72)).alloc (by simp;omega) (.cells #[(0:Int),(0:Int)] 29));have LB:=((((Blk.newAt w 65 #[.slice A ps.length c,.slice A' bs.length c'] hN).alloc (.cells #[r.size.lo,r.size.hi,r.dens.lo,r.dens.hi,r.strong.lo,r.strong.hi,r.spin.lo,r.spin.hi,r.shape.lo,r.shape.hi,.bool r.pile] 70)).alloc (.cells #[f.speed.lo,f.speed.hi,f.slope.lo,f.slope.hi] 72)).alloc (.cells #[(0:Int),(0:Int)] 29));have RB:=(((Blk.newAt (w.alloc (.cells #[.slice A ps.length c,.slice A' bs.length c'] 65)) 70 #[r.size.lo,r.size.hi,r.dens.lo,r.dens.hi,r.strong.lo,r.strong.hi,r.spin.lo,r.spin.hi,r.shape.lo,r.shape.hi,.bool r.pile] (n:=N+1) (by simp[hN])).alloc (.cells #[f.speed.lo,f.speed.hi,f.slope.lo,f.slope.hi] 72)).alloc (.cells #[(0:Int),(0:Int)] 29));have FB:=((Blk.newAt ((w.alloc (.cells #[.slice A ps.length c,.slice A' bs.length c'] 65)).alloc (.cells #[r.size.lo,r.size.hi,r.dens.lo,r.dens.hi,r.strong.lo,r.strong.hi,r.spin.lo,r.spin.hi,r.shape.lo,r.shape.hi,.bool r.pile] 70)) 72 #[f.speed.lo,f.speed.hi,f.slope.lo,f.slope.hi] (n:=N+1+1) (by simp[hN])).alloc (.cells #[(0:Int),(0:Int)] 29));have TB:=(Blk.newAt (((w.alloc (.cells #[.slice A ps.length c,.slice A' bs.length c'] 65)).alloc (.cells #[r.size.lo,r.size.hi,r.dens.lo,r.dens.hi,r.strong.lo,r.strong.hi,r.spin.lo,r.spin.hi,r.shape.lo,r.shape.hi,.bool r.pile] 70)).alloc (.cells #[f.speed.lo,f.speed.hi,f.slope.lo,f.slope.hi] 72)) 29 #[(0:Int),(0:Int)] (n:=N+1+1+1) (by simp[hN]));have cL:=LB.cell;have cR:=RB.cell;have cF:=FB.cell;go_enter Tryz.func24,Tryz.ntmps24
 go_wp2_with fail
 rw[← hN] at K0 ⊢;generalize ((((w.alloc (.cells #[.slice A ps.length c,.slice A' bs.length c'] 65)).alloc (.cells #[r.size.lo,r.size.hi,r.dens.lo,r.dens.hi,r.strong.lo,r.strong.hi,r.spin.lo,r.spin.hi,r.shape.lo,r.shape.hi,.bool r.pile] 70)).alloc (.cells #[f.speed.lo,f.speed.hi,f.slope.lo,f.slope.hi] 72)).alloc (.cells #[(0:Int),(0:Int)] 29))=w0 at *;subst hN;refine(blast_stretch_any Aa ca ls Ag cg gs A A' c c' ps bs r f fr fi _ (hl.kpN K0) (hg.kpN K0) (h.kpN K0) (hb.kpN K0) hc (hbnd.kpN K0)).mono ?_;rintro e w1 ⟨⟨lo,hi,wo,n,rfl,ht⟩,k1⟩;have K1:=K0.tN k1;replace TB:=TB.kpN k1;clear k1 K0 LB RB FB hl hg h hb cL cR cF;replace ht:=Lib.hid ht;have SB:=Blk.new w1 29 #[.int .i64 lo,.int .i64 hi];replace TB:=TB.alloc (.cells #[.int .i64 lo,.int .i64 hi] 29);replace K1:=K1.alloc K1.size (.cells #[.int .i64 lo,.int .i64 hi] 29);have cS:=SB.cell;have cT:=TB.cell;have fT:=TB.frozen;have hne:w.heap.size+1+1+1<(w1.alloc (.cells #[.int .i64 lo,.int .i64 hi] 29)).heap.size:=TB.lt;have KE:=(K1.setNew (p:=⟨w.heap.size+1+1+1,0,none⟩) (show w.heap.size≤w.heap.size+1+1+1 by omega) (.int .i64 lo)).setNew (p:=⟨w.heap.size+1+1+1,1,none⟩) (show w.heap.size≤w.heap.size+1+1+1 by omega) (.int .i64 hi);go_wp2
 exact bodyPost_ret (v:=.tuple #[.agg #[.int .i64 lo,.int .i64 hi],.int .i64 n]) (by simp[results,Tryz.results24,go_sem,cT]) rfl ⟨⟨lo,hi,wo,n,rfl,ht.out⟩,KE⟩
end Go.Proofs.YtdhiappifnflpaaGreatDoor.Bl
