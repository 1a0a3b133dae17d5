/- How far a blow reaches; which lands are valid; whom a blow harms. Whom a blow and a wave harm. Plain laws: more reach, more energy. Plain laws: stronger, faster, thicker. -/
import Derived.Test.YtdhiappifnflpaaGreatDoorM38
set_option maxRecDepth 100000
set_option maxHeartbeats 1000000
namespace Go.Proofs.YtdhiappifnflpaaGreatDoor.Bl
open Go.RowKit
theorem gradesChk_one {gs:List Grade} {n m:Int} (h:GradesChk gs n) (k:GradesChk gs m):n=m:=by
 rcases h with⟨h1,rfl⟩|⟨h1,rfl⟩|⟨h1,h2,h⟩<;>rcases k with⟨k1,rfl⟩|⟨k1,rfl⟩|⟨k1,k2,k⟩<;>first|rfl|(exfalso;omega)|skip
 rcases h with⟨rfl,h⟩|⟨i,hi,hn,h⟩<;>rcases k with⟨rfl,k⟩|⟨j,hj,km,k⟩
 · rfl
 · rw[h j hj] at km;cases km
 · rw[k i hi] at hn;cases hn
 ·
  rcases Nat.lt_trichotomy i j with hij|hij|hij
  · rw[k i hi hij] at hn;cases hn
  · subst hij;rw[hn] at km;injection km
  · rw[h j hj hij] at km;cases km
def reachOf (en:Int):List Grade→Int→Int
 | [],far=>far
 | g::gs,far=>if en<g.energy then far else reachOf en gs g.reach
theorem reach_cons (en:Int) (g:Grade) (gs:List Grade) (far:Int):reachOf en (g::gs) far=if en<g.energy then far else reachOf en gs g.reach:=rfl
def ReachAt (gs:List Grade) (en:Int) (w:World) (vf vi:Value) (wr:World):Prop:=
 ∃ (i:Nat) (far:Int),vi=.int .i64 i∧i≤gs.length∧vf=.int .i64 far∧reachOf en gs 0=reachOf en (gs.drop i) far∧Kp w.heap.size none w wr
theorem blast_reach_any (A:Option Addr) (cap:Nat) (gs:List Grade) (en:Int) (w:World) (h:Rd none w 2 encGrade A gs.length gs) (hl:gs.length≤32) :
  Calls Tryz.prog 114 #[.slice A gs.length cap,en] w fun e w'=>e=.returned (.int .i64 (reachOf en gs 0))∧Kp w.heap.size none w w':=by
 go_enter Tryz.func114,Tryz.ntmps114
 go_wp2_with fail
 go_loopw [5,10] (fun vf v wr=>ReachAt gs en w vf v wr) (fun _ v _=>gs.length-(intOf v).toNat)
 case atStart=>exact⟨0,0,rfl,by omega,rfl,rfl,Kp.refl _ _ _⟩
 case round=>
  obtain⟨i,far,rfl,hi,rfl,hf,KK⟩:=hrel;by_cases h7:i<gs.length
  ·
   obtain⟨b,o,rfl,hbl,-,hc⟩:=(h.kpN KK).at_ oM;have c0:wr.cell? ⟨b,o+i * 2,none⟩=some (.int .i64 gs[i].energy):=hc i h7 0 _ rfl;have c1:wr.cell? ⟨b,o+i * 2+1,none⟩=some (.int .i64 gs[i].reach):=hc i h7 1 _ rfl;have hi':(i:Int)<(gs.length:Int):=by omega
   have hlen:(gs.length:Int)≤32:=by omega
   rw[List.drop_eq_getElem_cons h7] at hf;rw[reach_cons] at hf;generalize gs[i]=x at c0 c1 hf;have K1:Kp w.heap.size none w (wr.alloc (.cells #[x.energy,x.reach] 129)):=KK.alloc KK.size _;clear hc hbl hi;replace h7:=Lib.hid h7;replace h:=Lib.hid h;by_cases hb:en<x.energy
   ·
    have hf2:reachOf en gs 0=far:=by
     rw[if_pos hb] at hf;exact hf
    replace hf2:=Lib.hid hf2;clear hf;go_wp2
    exact bodyPost_ret (v:=.int .i64 far) (by simp[results,Tryz.results114,go_sem]) rfl ⟨by rw[hf2.out],K1⟩
   ·
    have hf2:reachOf en gs 0=reachOf en (gs.drop (i+1)) x.reach:=by
     rw[if_neg hb] at hf;exact hf
    replace hf2:=Lib.hid hf2;clear hf;go_wp2
    go_roundw
    case rel=>exact⟨i+1,x.reach,rfl,h7.out,rfl,hf2.out,K1⟩
    case measure=>have:=h7.out;simp[intOf];omega
  ·
   have he:i=gs.length:=by omega
   have hi':¬ (i:Int)<(gs.length:Int):=by omega
   rw[he,List.drop_length] at hf;have hf2:reachOf en gs 0=far:=hf;replace hf2:=Lib.hid hf2;clear hf h hi h7;go_wp2
   exact bodyPost_ret (v:=.int .i64 far) (by simp[results,Tryz.results114,go_sem]) rfl ⟨by rw[hf2.out],KK⟩
structure LandOk (ps:List Int) (m:Nat):Prop where
 l1:1≤ps.length
 l4:ps.length≤400
 m:m=ps.length
 p:∀ x∈ps,0≤x∧x≤4294967296
def LandChk (ps:List Int) (m:Nat) (n:Int):Prop:=
 (n=0∧LandOk ps m)∨(ps.length=0∧n=6)∨(400<ps.length∧n=8)∨(1≤ps.length∧ps.length≤400∧((m≠ps.length∧n=3)∨(m=ps.length∧¬ LandOk ps m∧n=2)))
theorem landChk_one {ps:List Int} {m:Nat} {n k:Int} (h:LandChk ps m n) (g:LandChk ps m k):n=k:=by
 rcases h with⟨rfl,h⟩|⟨h1,rfl⟩|⟨h1,rfl⟩|⟨h1,h2,⟨h3,rfl⟩|⟨h3,h4,rfl⟩⟩<;>rcases g with⟨rfl,g⟩|⟨g1,rfl⟩|⟨g1,rfl⟩|⟨g1,g2,⟨g3,rfl⟩|⟨g3,g4,rfl⟩⟩ <;>
  first|rfl|(exfalso;first|omega|(have:=h.l1;omega)|(have:=h.l4;omega)|(have:=g.l1;omega)|(have:=g.l4;omega)|exact absurd h.m g3|exact absurd g.m h3|exact h4 g|exact g4 h)
def LandAt (ps:List Int) (w:World) (v:Value) (wr:World):Prop:=∃ i:Nat,v=.int .i64 i∧i≤ps.length∧(∀ j (hj:j<ps.length),j<i→0≤ps[j]∧ps[j]≤4294967296)∧Kp w.heap.size none w wr
theorem blast_CheckLand_any (A A':Option Addr) (c m c':Nat) (ps:List Int) (w:World) (h:Rd none w 1 encI A ps.length ps) :
  Calls Tryz.prog 111 #[.agg #[.slice A ps.length c,.slice A' m c']] w fun e w'=>(∃ n,e=.returned (.int .i64 n)∧LandChk ps m n)∧Kp w.heap.size none w w':=by
 have K0:=(Kp.refl w.heap.size none w).alloc (Nat.le_refl _) (.cells #[.slice A ps.length c,.slice A' m c'] 65);have B0:=Blk.new w 65 #[.slice A ps.length c,.slice A' m c'];go_enter Tryz.func111,Tryz.ntmps111
 rcases Nat.eq_zero_or_pos ps.length with h0|h0
 ·
  have hc:LandChk ps m 6:=.inr (.inl ⟨h0,rfl⟩);replace hc:=Lib.hid hc;have h0':(ps.length:Int)=0:=by omega
  rw[h0] at K0;clear h B0;go_wp2
  exact bodyPost_ret (by simp[results,Tryz.results111,go_sem]) rfl ⟨⟨6,rfl,hc.out⟩,K0⟩
 have h0':¬ (ps.length:Int)=0:=by omega
 rcases Nat.lt_or_ge 400 ps.length with hl|hl
 ·
  have hl':(400:Int)<(ps.length:Int):=by omega
  have hc:LandChk ps m 8:=.inr (.inr (.inl ⟨hl,rfl⟩));replace hc:=Lib.hid hc;clear h hl B0;go_wp2
  exact bodyPost_ret (by simp[results,Tryz.results111,go_sem]) rfl ⟨⟨8,rfl,hc.out⟩,K0⟩
 have hl':¬ (400:Int)<(ps.length:Int):=by omega
 by_cases hm:m=ps.length
 ·
  subst hm;go_wp2_with fail
  go_loopw [24] (fun v wr=>LandAt ps w v wr) (fun v _=>ps.length-(intOf v).toNat)
  case atStart=>exact⟨0,rfl,by omega,fun j _ hj=>absurd hj oM,K0⟩
  case round=>
   obtain⟨i,rfl,hi,hj,KK⟩:=hrel;by_cases h7:i<ps.length
   ·
    obtain⟨b,o,rfl,hbl,-,hc⟩:=(h.kpN KK).at_ oM;have c0:wr.cell? ⟨b,o+i,none⟩=some (.int .i64 ps[i]):=Rd.cell1 (fun _=>rfl) hc i h7;have hi':(i:Int)<(ps.length:Int):=by omega
    have hlen:(ps.length:Int)≤400:=by omega
    have hst:(0≤ps[i]∧ps[i]≤4294967296)→∀ j (hj:j<ps.length),j<i+1→0≤ps[j]∧ps[j]≤4294967296:=fun h j hjl hj'=>by
     rcases Nat.lt_or_ge j i with h1|h1
     · exact hj j hjl h1
     ·
      have:j=i:=by omega
      subst this;exact h
    have hbad:¬ (0≤ps[i]∧ps[i]≤4294967296)→LandChk ps ps.length 2:=fun h=>.inr (.inr (.inr ⟨h0,hl,.inr ⟨rfl,fun k=>h (k.p _ (List.getElem_mem h7)),rfl⟩⟩));generalize ps[i]=x at c0 hst hbad;replace hst:=Lib.hid hst;replace hbad:=Lib.hid hbad;replace h:=Lib.hid h;clear hj hc hbl hl hi h0;replace h7:=Lib.hid h7;go_wp2_with fail
    refine mK (blast_within_any _ _ _ _) fun w2 k2=>?_;have K2:=KK.then_ k2 (Nat.le_refl _);clear k2;cases hb1:btw x 0 4294967296
    ·
     have hno:=Lib.hid (hbad.out (fun k=>by rw[(btw_true _ _ _).2 k] at hb1;cases hb1));go_wp2
     exact bodyPost_ret (by simp[results,Tryz.results111,go_sem]) rfl ⟨⟨2,rfl,hno.out⟩,K2⟩
    ·
     have hok:=Lib.hid (hst.out ((btw_true _ _ _).1 hb1));go_wp2
     go_roundw
     case rel=>exact⟨i+1,rfl,h7.out,hok.out,K2⟩
     case measure=>have:=h7.out;simp[intOf];omega
   ·
    have he:i=ps.length:=by omega
    have hok:LandChk ps ps.length 0:=.inl ⟨rfl,h0,hl,rfl,fun x hx=>by
     obtain⟨j,hjl,rfl⟩:=List.getElem_of_mem hx;exact hj j hjl oM⟩
    replace hok:=Lib.hid hok;have hi':¬ (i:Int)<(ps.length:Int):=by omega
    clear hj hi h7 hl h;go_wp2
    exact bodyPost_ret (by simp[results,Tryz.results111,go_sem]) rfl ⟨⟨0,rfl,hok.out⟩,KK⟩
 ·
  have hm':¬ (m:Int)=(ps.length:Int):=by omega
  have hc:LandChk ps m 3:=.inr (.inr (.inr ⟨h0,hl,.inl ⟨hm,rfl⟩⟩));replace hc:=Lib.hid hc;clear h hl B0 hm;go_wp2
  exact bodyPost_ret (by simp[results,Tryz.results111,go_sem]) rfl ⟨⟨3,rfl,hc.out⟩,K0⟩
def There (ps:List Int) (m:Nat) (a r:Int):Prop:=LandOk ps m∧0≤a∧a<ps.length∧0≤r
def runUp (bs:List Bool):Nat→Nat→Nat
 | 0,e=>e
 | F+1,e=>if bs[e]?=some true∧e+1<bs.length then runUp bs F (e+1) else e
def runDown (bs:List Bool):Nat→Nat→Nat
 | 0,e=>e
 | F+1,e=>if bs[e]?=some true∧1≤e then runDown bs F (e-1) else e
theorem runUp_le (bs:List Bool):∀ F e,e<bs.length→e≤runUp bs F e∧runUp bs F e<bs.length
 | 0,e,h=>⟨Nat.le_refl _,h⟩
 | F+1,e,h=>by
  unfold runUp;split
  ·
   rename_i hh;have:=runUp_le bs F (e+1) hh.2;omega
  · exact⟨Nat.le_refl _,h⟩
theorem runDown_le (bs:List Bool):∀ F e,runDown bs F e≤e
 | 0,e=>Nat.le_refl _
 | F+1,e=>by
  unfold runDown;split
  ·
   have:=runDown_le bs F (e-1);omega
  · exact Nat.le_refl _
theorem runUp_stop (bs:List Bool) (F e:Nat) (h:¬ (bs[e]?=some true∧e+1<bs.length)):runUp bs F e=e:=by
 cases F
 · rfl
 · unfold runUp;rw[if_neg h]
theorem runDown_stop (bs:List Bool) (F e:Nat) (h:¬ (bs[e]?=some true∧1≤e)):runDown bs F e=e:=by
 cases F
 · rfl
 · unfold runDown;rw[if_neg h]
theorem runUp_go (bs:List Bool) (F e:Nat) (hF:0<F) (h:bs[e]?=some true∧e+1<bs.length):runUp bs F e=runUp bs (F-1) (e+1):=by
 obtain⟨F,rfl⟩:∃ G,F=G+1:=⟨F-1,by omega⟩;conv=>lhs;unfold runUp
 rw[if_pos h];rfl
theorem runDown_go (bs:List Bool) (F e:Nat) (hF:0<F) (h:bs[e]?=some true∧1≤e):runDown bs F e=runDown bs (F-1) (e-1):=by
 obtain⟨F,rfl⟩:∃ G,F=G+1:=⟨F-1,by omega⟩;conv=>lhs;unfold runDown
 rw[if_pos h];rfl
def RunRel (run:Nat→Nat→Nat) (a F:Nat) (L:Nat) (W:World) (ve vn:Value) (wr:World):Prop:=
 ∃ e n:Nat,ve=.int .i64 e∧vn=.int .i64 n∧n≤F∧e<L∧run F a=run (F-n) e∧Kp W.heap.size none W wr
theorem blast_runUp_any (A A':Option Addr) (c c' m:Nat) (bs:List Bool) (a F pa pf pl:Nat) (w:World) (h:Rd none w 1 encB A' bs.length bs)
  (ba:Blk w pa 3 #[a]) (bf:Blk w pf 3 #[F]) (bl:Blk w pl 65 #[.slice A m c,.slice A' bs.length c']) (ha:a<bs.length) (hF:F≤400) (hl:bs.length≤400) :
  Calls Tryz.prog 141 #[(1:Int),.pointer (some ⟨pa,0,none⟩),.pointer (some ⟨pf,0,none⟩),.pointer (some ⟨pl,0,none⟩)] w fun e w'=>e=.returned (.int .i64 (runUp bs F a:Nat))∧Kp w.heap.size none w w':=by
 have ca:=ba.cell 0;go_enter Tryz.func141,Tryz.ntmps141
 go_wp2_with fail
 go_loopw [6,7] (fun ve vn wr=>RunRel (runUp bs) a F bs.length w ve vn wr) (fun _ vn _=>F-(intOf vn).toNat)
 case atStart=>exact⟨a,0,rfl,rfl,by omega,ha,rfl,Kp.refl _ _ _⟩
 case round=>
  obtain⟨e,n,rfl,rfl,hn,he,hr,KK⟩:=hrel;have cf:=(bf.kpN KK).cell 0;have cl:=fun i=>(bl.kpN KK).cell i;have g4:(F:Int)≤400:=by omega
  by_cases hnF:n<F
  ·
   obtain⟨b,o,rfl,hbl,-,hc⟩:=(h.kpN KK).at_ oM;have c0:wr.cell? ⟨b,o+e,none⟩=some (.bool bs[e]):=Rd.cell1 (fun _=>rfl) hc e he;have g1:(n:Int)<(F:Int):=by omega
   have g2:(e:Int)<(bs.length:Int):=by omega
   have g3:(bs.length:Int)≤400:=by omega
   have hq:bs[e]?=some bs[e]:=List.getElem?_eq_getElem he;clear hc hbl;replace h:=Lib.hid h;generalize bs[e]=q at c0 hq;cases q
   ·
    have hst:=Lib.hid (show runUp bs F a=e by rw[hr];exact runUp_stop bs _ _ (fun k=>by rw[hq] at k;cases k.1));clear hq hr;go_wp2
    exact bodyPost_ret (v:=.int .i64 e) (by simp[results,Tryz.results141,go_sem]) rfl ⟨by rw[hst.out],KK⟩
   ·
    replace hq:=Lib.hid hq;replace hr:=Lib.hid hr;go_wp2_with fail
    refine(blast_within_any _ _ _ _).mono ?_;rintro x w2 ⟨rfl,k2⟩;have K2:=KK.then_ k2 (Nat.le_refl _);clear k2;by_cases hcm:e+1<bs.length
    ·
     have hbt:btw ((e:Int)+1) 0 ((bs.length:Int)-1)=true:=(btw_true _ _ _).2 oM;have hst:=Lib.hid (show runUp bs F a=runUp bs (F-(n+1)) (e+1) by rw[hr.out,runUp_go bs _ _ oM ⟨hq.out,hcm⟩];congr 1);have hci:=Lib.hid (show ((e:Int)+1)=((e+1:Nat):Int) by omega);clear hq hr;rw[hbt];dsimp only;go_wp2
     go_roundw
     case rel=>exact⟨e+1,n+1,by first|rfl|rw[hci.out],rfl,by omega,by omega,hst.out,K2⟩
     case measure=>simp[intOf];omega
    ·
     have hbt:btw ((e:Int)+1) 0 ((bs.length:Int)-1)=false:=by
      rw[Bool.eq_false_iff];intro k;have:=(btw_true _ _ _).1 k;omega
     have hst:=Lib.hid (show runUp bs F a=e by rw[hr.out];exact runUp_stop bs _ _ (fun k=>hcm k.2));clear hq hr;rw[hbt];dsimp only;go_wp2
     exact bodyPost_ret (v:=.int .i64 e) (by simp[results,Tryz.results141,go_sem]) rfl ⟨by rw[hst.out],K2⟩
  ·
   have hst:=Lib.hid (show runUp bs F a=e by rw[hr,show F-n=0 from by omega];rfl);have g1:¬ (n:Int)<(F:Int):=by omega
   clear hr h;go_wp2
   exact bodyPost_ret (v:=.int .i64 e) (by simp[results,Tryz.results141,go_sem]) rfl ⟨by rw[hst.out],KK⟩
theorem blast_runDown_any (A A':Option Addr) (c c' m:Nat) (bs:List Bool) (a F pa pf pl:Nat) (w:World) (h:Rd none w 1 encB A' bs.length bs)
  (ba:Blk w pa 3 #[a]) (bf:Blk w pf 3 #[F]) (bl:Blk w pl 65 #[.slice A m c,.slice A' bs.length c']) (ha:a<bs.length) (hF:F≤400) (hl:bs.length≤400) :
  Calls Tryz.prog 141 #[.int .i64 (-1),.pointer (some ⟨pa,0,none⟩),.pointer (some ⟨pf,0,none⟩),.pointer (some ⟨pl,0,none⟩)] w fun e w'=>e=.returned (.int .i64 (runDown bs F a:Nat))∧Kp w.heap.size none w w':=by
 have ca:=ba.cell 0;go_enter Tryz.func141,Tryz.ntmps141
 go_wp2_with fail
 go_loopw [6,7] (fun ve vn wr=>RunRel (runDown bs) a F bs.length w ve vn wr) (fun _ vn _=>F-(intOf vn).toNat)
 case atStart=>exact⟨a,0,rfl,rfl,by omega,ha,rfl,Kp.refl _ _ _⟩
 case round=>
  obtain⟨e,n,rfl,rfl,hn,he,hr,KK⟩:=hrel;have cf:=(bf.kpN KK).cell 0;have cl:=fun i=>(bl.kpN KK).cell i;have g4:(F:Int)≤400:=by omega
  by_cases hnF:n<F
  ·
   obtain⟨b,o,rfl,hbl,-,hc⟩:=(h.kpN KK).at_ oM;have c0:wr.cell? ⟨b,o+e,none⟩=some (.bool bs[e]):=Rd.cell1 (fun _=>rfl) hc e he;have g1:(n:Int)<(F:Int):=by omega
   have g2:(e:Int)<(bs.length:Int):=by omega
   have g3:(bs.length:Int)≤400:=by omega
   have hq:bs[e]?=some bs[e]:=List.getElem?_eq_getElem he;clear hc hbl;replace h:=Lib.hid h;generalize bs[e]=q at c0 hq;cases q
   ·
    have hst:=Lib.hid (show runDown bs F a=e by rw[hr];exact runDown_stop bs _ _ (fun k=>by rw[hq] at k;cases k.1));clear hq hr;go_wp2
    exact bodyPost_ret (v:=.int .i64 e) (by simp[results,Tryz.results141,go_sem]) rfl ⟨by rw[hst.out],KK⟩
   ·
    replace hq:=Lib.hid hq;replace hr:=Lib.hid hr;go_wp2_with fail
    refine(blast_within_any _ _ _ _).mono ?_;rintro x w2 ⟨rfl,k2⟩;have K2:=KK.then_ k2 (Nat.le_refl _);clear k2;by_cases hcm:1≤e
    ·
     have hbt:btw ((e:Int)+-1) 0 ((bs.length:Int)-1)=true:=(btw_true _ _ _).2 oM;have hst:=Lib.hid (show runDown bs F a=runDown bs (F-(n+1)) (e-1) by rw[hr.out,runDown_go bs _ _ oM ⟨hq.out,hcm⟩];congr 1);have hci:=Lib.hid (show ((e:Int)+-1)=((e-1:Nat):Int) by omega);clear hq hr;rw[hbt];dsimp only;go_wp2
     go_roundw
     case rel=>exact⟨e-1,n+1,by first|rfl|rw[hci.out],rfl,by omega,by omega,hst.out,K2⟩
     case measure=>simp[intOf];omega
    ·
     have hbt:btw ((e:Int)+-1) 0 ((bs.length:Int)-1)=false:=by
      rw[Bool.eq_false_iff];intro k;have:=(btw_true _ _ _).1 k;omega
     have hst:=Lib.hid (show runDown bs F a=e by rw[hr.out];exact runDown_stop bs _ _ (fun k=>hcm k.2));clear hq hr;rw[hbt];dsimp only;go_wp2
     exact bodyPost_ret (v:=.int .i64 e) (by simp[results,Tryz.results141,go_sem]) rfl ⟨by rw[hst.out],K2⟩
  ·
   have hst:=Lib.hid (show runDown bs F a=e by rw[hr,show F-n=0 from by omega];rfl);have g1:¬ (n:Int)<(F:Int):=by omega
   clear hr h;go_wp2
   exact bodyPost_ret (v:=.int .i64 e) (by simp[results,Tryz.results141,go_sem]) rfl ⟨by rw[hst.out],KK⟩
def waveOf (ps:List Int) (bs:List Bool) (a F:Nat):Int:=peopleOf ps (runDown bs F a) (runUp bs F a)
theorem blast_wave_any (A A':Option Addr) (c c':Nat) (ps:List Int) (bs:List Bool) (a:Nat) (r:Int) (w:World) (h:Rd none w 1 encI A ps.length ps) (hb:Rd none w 1 encB A' bs.length bs) (hok:LandOk ps bs.length) (hc:ps.length≤c)
  (ha:a<ps.length) (hr:0≤r) :
  Calls Tryz.prog 113 #[.agg #[.slice A ps.length c,.slice A' bs.length c'],a,r] w fun e w'=>e=.returned (.int .i64 (waveOf ps bs a (min r 400).toNat))∧Kp w.heap.size none w w':=by
 obtain⟨F,hF⟩:∃ F:Nat,F=(min r 400).toNat:=⟨_,rfl⟩;have hFi:min r 400=(F:Int):=by omega
 have hF4:F≤400:=by omega
 have L0:=Blk.new w 65 #[.slice A ps.length c,.slice A' bs.length c'];have K0:=(Kp.refl w.heap.size none w).alloc (Nat.le_refl _) (.cells #[.slice A ps.length c,.slice A' bs.length c'] 65);generalize hw0:w.alloc (.cells #[.slice A ps.length c,.slice A' bs.length c'] 65)=w0 at L0 K0;have z0:w0.heap.size=w.heap.size+1:=by rw[← hw0];simp
 have L1:=L0.alloc (.cells #[a] 3);have A1:=Blk.newAt w0 3 #[a] z0.symm;have K1:=K0.alloc oM (.cells #[a] 3);generalize hw1:w0.alloc (.cells #[a] 3)=w1 at L1 A1 K1;have z1:w1.heap.size=w.heap.size+2:=by rw[← hw1];simp[z0]
 have L2:=L1.alloc (.cells #[F] 3);have A2:=A1.alloc (.cells #[F] 3);have F2:=Blk.newAt w1 3 #[F] z1.symm;have K2:=K1.alloc oM (.cells #[F] 3);rw[← hF];replace h:=Lib.hid h;replace hb:=Lib.hid hb;replace hok:=Lib.hid hok;replace hF:=Lib.hid hF;go_enter Tryz.func113,Tryz.ntmps113
 go_wp2_with fail
 clear hw0 hw1 K0 K1 L0 L1 A1;generalize w1.alloc (.cells #[F] 3)=w2 at *;obtain⟨S,hS⟩:∃ S:Nat→World→Prop,S=fun _ w'=>Blk w' w.heap.size 65 #[.slice A ps.length c,.slice A' bs.length c']:=⟨_,rfl⟩;have hS0:∀ w',S 0 w'↔(Blk w' w.heap.size 65 #[.slice A ps.length c,.slice A' bs.length c']):=fun w'=>by rw[hS]
 clear hS;have cx:=fun (x:Ev (S 0)) i=>((hS0 _).1 x.h).cell i;have hal:a<bs.length:=by rw[hok.out.m];exact ha
 have hbl:bs.length≤400:=by rw[hok.out.m];exact hok.out.l4
 replace L2:=L2.drew;replace A2:=A2.drew;replace F2:=F2.drew;replace K2:=K2.drew;have h2:=Lib.hid (h.out.kpN K2);have hb2:=Lib.hid (hb.out.kpN K2);have hevT:=ev_true;refine wro S [(0,1),(1,0),(3,0),(2,2),(4,2),(5,2),(6,0)] [] ((hS0 _).2 L2) ?_;intro _hev;refine oX ?_;refine oL ?_;intro K hK;go_step;refine mK (blast_runDown_any A A' c c' ps.length bs a F _ _ _ _ hb2.out A2 F2 L2 hal hF4 hbl) fun w3 k3=>?_;have L3:=L2.kp k3 L2.lt (by simp);have A3:=A2.kp k3 A2.lt (by simp);have F3:=F2.kp k3 F2.lt (by simp);have K3:=K2.then_ k3 (by simp);have h3:=Lib.hid (h2.out.kpN k3);have hb3:=Lib.hid (hb2.out.kpN k3);refine hK _ _ ((hS0 _).2 L3) ?_;clear hK K k3 L2 A2 F2 K2 h2 hb2;refine oL ?_;intro K hK;go_step;refine mK (blast_runUp_any A A' c c' ps.length bs a F _ _ _ _ hb3.out A3 F3 L3 hal hF4 hbl) fun w4 k4=>?_;have L4:=L3.kp k4 L3.lt (by simp);have K4:=K3.then_ k4 (by simp);have h4:=Lib.hid (h3.out.kpN k4);refine hK _ _ ((hS0 _).2 L4) ?_;clear hK K k4 L3 A3 F3 K3 h3 hb3;refine oL ?_;intro K hK;go_step;have u1:=runUp_le bs F a hal;have u2:=runDown_le bs F a;refine mK (blast_people_any A A' c bs.length c' ps (runDown bs F a) (runUp bs F a) _ h4.out hok.out.l4 hc hok.out.p oM (by rw[← hok.out.m];exact u1.2)) fun w5 k5=>?_;have L5:=L4.kp k5 L4.lt (by simp);have K5:=K4.then_ k5 (by simp);refine hK _ _ ((hS0 _).2 L5) ?_;clear hK K k5 L4 K4 h4;refine oX ?_;refine wpOrd_nil ?_;clear hevT _hev;go_wp2
 exact bodyPost_ret (by simp[results,Tryz.results113,go_sem];rfl) rfl ⟨rfl,K5⟩
def NonNeg (ps:List Int):Prop:=∀ x∈ps,0≤x∧x≤4294967296
theorem take_mono {ps:List Int} (h:NonNeg ps):∀ {i j:Nat},i≤j→(ps.take i).sum≤(ps.take j).sum:=by
 have step:∀ i,(ps.take i).sum≤(ps.take (i+1)).sum:=by
  intro i;rcases Nat.lt_or_ge i ps.length with hi|hi
  ·
   rw[sum_take_succ ps i hi];have:=h ps[i] (List.getElem_mem hi);omega
  ·
   rw[List.take_of_length_le hi,List.take_of_length_le oM];exact Int.le_refl _
 intro i j hij;induction j with
 | zero=>rw[Nat.le_zero.1 hij];exact Int.le_refl _
 | succ j ih=>
  rcases Nat.lt_or_ge i (j+1) with hlt|hge
  · exact Int.le_trans (ih oM) (step j)
  · rw[show i=j+1 by omega];exact Int.le_refl _
theorem people_eq (ps:List Int) {f t:Nat} (h:f≤t+1):peopleOf ps f t=(ps.take (t+1)).sum-(ps.take f).sum:=by
 have e:ps.take (t+1)=ps.take f++(ps.drop f).take (t+1-f):=by
  rw[← List.take_add,show f+(t+1-f)=t+1 by omega]
 unfold peopleOf;rw[e,List.sum_append];omega
theorem people_mono {ps:List Int} (h:NonNeg ps) {f t f' t':Nat} (hf:f'≤f) (ht:t≤t') (hft:f≤t+1):peopleOf ps f t≤peopleOf ps f' t':=by
 rw[people_eq ps hft,people_eq ps oM];have h1:=take_mono h hf;have h2:=take_mono h (show t+1≤t'+1 by omega);omega
theorem people_nonneg {ps:List Int} (h:NonNeg ps) {f t:Nat} (hft:f≤t+1):0≤peopleOf ps f t:=by
 rw[people_eq ps hft];have:=take_mono h hft;omega
theorem people_one {ps:List Int} {a:Nat} (ha:a<ps.length):peopleOf ps a a=ps[a]:=by
 rw[people_eq ps oM,sum_take_succ ps a ha];omega
theorem harm_own {ps:List Int} (h:NonNeg ps) {a:Nat} (ha:a<ps.length) (F:Nat):ps[a]≤harmOf ps a F:=by
 rw[← people_one ha];exact people_mono h oM oM oM
theorem harm_mono {ps:List Int} (h:NonNeg ps) {a:Nat} (ha:a<ps.length) {F G:Nat} (hFG:F≤G):harmOf ps a F≤harmOf ps a G:=
 people_mono h oM oM oM
theorem runUp_mono (bs:List Bool):∀ F G e,F≤G→e<bs.length→runUp bs F e≤runUp bs G e
 | 0,G,e,_,h=>(runUp_le bs G e h).1
 | F+1,0,e,h,_=>absurd h oM
 | F+1,G+1,e,hFG,h=>by
  unfold runUp;split
  ·
   rename_i hh;exact runUp_mono bs F G (e+1) oM hh.2
  · exact Nat.le_refl _
theorem runDown_mono (bs:List Bool):∀ F G e,F≤G→runDown bs G e≤runDown bs F e
 | 0,G,e,_=>runDown_le bs G e
 | F+1,0,e,h=>absurd h oM
 | F+1,G+1,e,hFG=>by
  unfold runDown;split
  · exact runDown_mono bs F G (e-1) oM
  · exact Nat.le_refl _
theorem wave_mono {ps:List Int} (h:NonNeg ps) {bs:List Bool} (hl:bs.length=ps.length) {a:Nat} (ha:a<ps.length) {F G:Nat} (hFG:F≤G):waveOf ps bs a F≤waveOf ps bs a G:=by
 have h1:=runUp_mono bs F G a hFG oM;have h2:=runDown_mono bs F G a hFG;have h3:=runUp_le bs F a oM;have h4:=runDown_le bs F a;exact people_mono h h2 h1 oM
theorem wave_nonneg {ps:List Int} (h:NonNeg ps) {bs:List Bool} (hl:bs.length=ps.length) {a:Nat} (ha:a<ps.length) (F:Nat):0≤waveOf ps bs a F:=by
 have h1:=runUp_le bs F a oM;have h2:=runDown_le bs F a;exact people_nonneg h oM
theorem reach_ge (en:Int):∀ (gs:List Grade) (far:Int),(∀ g∈gs,far≤g.reach)→(gs.Pairwise fun a b=>a.energy<b.energy∧a.reach≤b.reach)→far≤reachOf en gs far
 | [],far,_,_=>Int.le_refl _
 | g::gs,far,h,hp=>by
  rw[reach_cons];split
  · exact Int.le_refl _
  ·
   have h1:=h g (List.mem_cons_self);rw[List.pairwise_cons] at hp;exact Int.le_trans h1 (reach_ge en gs g.reach (fun x hx=>(hp.1 x hx).2) hp.2)
theorem reach_mono {en en':Int} (he:en≤en'):∀ (gs:List Grade) (far:Int),(∀ g∈gs,far≤g.reach)→(gs.Pairwise fun a b=>a.energy<b.energy∧a.reach≤b.reach)→reachOf en gs far≤reachOf en' gs far
 | [],far,_,_=>Int.le_refl _
 | g::gs,far,h,hp=>by
  rw[reach_cons,reach_cons];have hp':=List.pairwise_cons.1 hp;split
  ·
   split
   · exact Int.le_refl _
   · exact Int.le_trans (h g (List.mem_cons_self)) (reach_ge en' gs g.reach (fun x hx=>(hp'.1 x hx).2) hp'.2)
  ·
   rename_i h1;rw[if_neg oM];exact reach_mono he gs g.reach (fun x hx=>(hp'.1 x hx).2) hp'.2
theorem off_mono {A D v v':Int} (_:0≤A) (hD:0<D) (hv:0≤v) (h:v≤v'):max 0 (v-A * v / D)≤max 0 (v'-A * v' / D):=by
 rcases Int.lt_or_le A D with hAD|hAD
 ·
  have h1:A * v'≤A * v+(v'-v) * D:=by
   have e:A * v'=A * v+A * (v'-v):=by rw[Int.mul_sub];omega
   have:A * (v'-v)≤D * (v'-v):=Int.mul_le_mul_of_nonneg_right oM oM;rw[e,Int.mul_comm (v'-v) D];omega
  have h2:A * v' / D≤A * v / D+(v'-v):=by
   have h3:=Int.ediv_le_ediv hD h1;rwa [Int.add_mul_ediv_right _ _ oM] at h3
  omega
 ·
  have h1:v * D≤A * v:=by
   rw[Int.mul_comm v D];exact Int.mul_le_mul_of_nonneg_right hAD hv
  have h2:v≤A * v / D:=by
   have h3:=Int.ediv_le_ediv hD h1;rwa [Int.mul_ediv_cancel _ oM] at h3
  omega
theorem less_eq (s:Stone) (x:Layer) (v:Int):lessOf s x v=x.dens * (wayOf x.thick s.slope * s.shape) * v / (s.dens * s.size * 1000):=by
 unfold lessOf;rw[Int.mul_assoc,Int.mul_comm v,← Int.mul_assoc]
theorem way_nonneg {s:Stone} (hs:StoneOk s) {t:Int} (ht:1≤t):0≤wayOf t s.slope:=by
 have:=hs.slope;exact Int.ediv_nonneg oM oM
theorem den_pos {s:Stone} (hs:StoneOk s):0<s.dens * s.size * 1000:=by
 have h1:=hs.dens;have h2:=hs.size;have:=Int.mul_le_mul h1.1 h2.1 oM (by omega:0≤s.dens);omega
theorem slowed_mono {s:Stone} (hs:StoneOk s) {x:Layer} (hx:LayOk x) {v v':Int} (hv:0≤v) (h:v≤v'):slowedOf s x v≤slowedOf s x v':=by
 unfold slowedOf;rw[less_eq,less_eq];have h1:=way_nonneg hs hx.1.1;have h2:0≤s.shape:=by have:=hs.shape;omega
 exact off_mono (Int.mul_nonneg hx.2.1 (Int.mul_nonneg h1 h2)) (den_pos hs) hv h
theorem slowed_nonneg (s:Stone) (x:Layer) (v:Int):0≤slowedOf s x v:=by unfold slowedOf;omega
theorem bursts_mono {d v v' held held':Int} (hd:0≤d) (hv:v≤v') (hh:held'≤held) (h:burstsAt d v held=true):burstsAt d v' held'=true:=by
 unfold burstsAt at h ⊢;simp only[Bool.and_eq_true,decide_eq_true_eq] at h ⊢;have:=Int.mul_le_mul_of_nonneg_left hv hd;omega
structure Alike (s t:Stone):Prop where
 size:t.size=s.size
 dens:t.dens=s.dens
 shape:t.shape=s.shape
 slope:t.slope=s.slope
def Thicker:List Layer→List Layer→Prop
 | [],[]=>True
 | x::xs,y::ys=>y.dens=x.dens∧x.thick≤y.thick∧Thicker xs ys
 | _,_=>False
theorem sq_mono {a b:Int} (h0:0≤a) (h:a≤b):a * a≤b * b:=Int.mul_le_mul h h h0 oM
end Go.Proofs.YtdhiappifnflpaaGreatDoor.Bl
