/- Passages: the walks of meet, second part: Hit, asked. Passages: the passages of a box, one by one. Passages: the iterator over the passages of a box. -/
import Derived.Test.YtdhiappifnflpaaGreatXa
import Derived.Test.YtdhiappifnflpaaGreatM34
import Derived.Test.YtdhiappifnflpaaGreatM22
set_option maxRecDepth 100000
set_option maxHeartbeats 8000000
namespace Go.Proofs.YtdhiappifnflpaaGreat
open Go.RowKit
theorem meet_rounded_any (n:Int) (h:0≤n∧n≤12) (w:World):Calls Tryz.prog 55 #[n] w fun e w'=>e=.returned (.bool true)∧Kp w.heap.size none w w':=by
 have h1:¬ n<0:=by omega
 have h2:¬ 12<n:=by omega
 go_enter Tryz.func55,Tryz.ntmps55
 go_wp2
 go_ret
 exact⟨by simp[h.1,h.2],Kp.refl _ _ _⟩
theorem meet_asked_any (A:Option Addr) (c:Nat) (W:Wd) (d:Dr) (t n:Int) (w:World) (hW:W.ok) (hA:WdAt none w A W) (hd:d.ok) (ht:0≤t∧t≤1000000) (hn:1≤n∧n≤400) :
  Calls Tryz.prog 44 #[.agg #[.slice A W.bs.length c,W.home],d,t,n] w fun e w'=>e=.returned (.int .i64 0)∧Kp w.heap.size none w w':=by
 have cw:=fun w h=>sky_CheckWorld_any A c W w hW h;have cd:=fun w=>force_CheckDrift_any d hd w;have ct:=fun w=>meet_within_any t 0 (1073741824-n) w;rw[btw_t oM oM] at ct;have n1:¬ n<1:=by omega
 have n2:¬ 400<n:=by omega
 have e1:wrap64 (1073741824-n)=1073741824-n:=by unfold wrap64;omega
 clear hW hd ht hn;obtain⟨w1,hw1,D,F,K,hz⟩:=box2 w 27 #[.slice A W.bs.length c,W.home] 31 d;go_enter Tryz.func44,Tryz.ntmps44
 go_wp2_with fail
 rw[← hw1];clear hw1;refine mK (cw _ (hA.kpN K)) fun w2 k=>?_;replace D:=D.kpN k;replace F:=F.kpN k;replace K:=K.thenN k oM;have hzk:=k.size;clear k;have cD:=D.cell;have fD:=D.frozen;have cF:=F.cell;have fF:=F.frozen;go_wp2_with fail
 refine mK (cd _) fun w3 k=>?_;clear cD fD cF fF;replace D:=D.kpN k;replace F:=F.kpN k;replace K:=K.thenN k oM;have hzk:=k.size;clear k;have cD:=D.cell;have fD:=D.frozen;have cF:=F.cell;have fF:=F.frozen;go_wp2_with fail
 refine mK (ct _) fun w4 k=>?_;clear cD fD cF fF;replace D:=D.kpN k;replace F:=F.kpN k;replace K:=K.thenN k oM;have hzk:=k.size;clear k;go_wp2
 go_ret
 exact⟨rfl,K⟩
theorem Rd.sts {w:World} {A:Option Addr} {l:List St} (h:Rd none w 4 encSt A l.length l) {i:Nat} (hi:i<l.length) {b o:Nat} (hA:A=some ⟨b,o,none⟩) :
  w.cell? ⟨b,o+i * 4,none⟩=some (.int .i64 l[i].x)∧w.cell? ⟨b,o+i * 4+1,none⟩=some (.int .i64 l[i].y)∧w.cell? ⟨b,o+i * 4+2,none⟩=some (.int .i64 l[i].u)∧w.cell? ⟨b,o+i * 4+3,none⟩=some (.int .i64 l[i].v):=by
 subst hA;obtain⟨b',o',e,hb,-,hc⟩:=h.at_ oM;simp only[Option.some.injEq,Addr.mk.injEq] at e;obtain⟨rfl,rfl,-⟩:=e;refine⟨?_,?_,?_,?_⟩
 · have:=hc i hi 0 _ rfl;rwa [Nat.add_zero] at this
 · have:=hc i hi 1 _ rfl;rwa [← Nat.add_assoc] at this
 · have:=hc i hi 2 _ rfl;rwa [← Nat.add_assoc] at this
 · have:=hc i hi 3 _ rfl;rwa [← Nat.add_assoc] at this
def HitV (W:Wd) (t:Int) (l:List St) (v:Int):Prop:=(v=-1∧¬ HitsW W t l)∨∃ i:Nat,v=i∧i+1<l.length∧hitW W (t+i) (nth l i) (nth l (i+1))
def NoHit (W:Wd) (t:Int) (l:List St) (k:Nat):Prop:=∀ i:Nat,i+1<l.length→i+1<k→¬ hitW W (t+i) (nth l i) (nth l (i+1))
def HtAt (W:Wd) (t:Int) (l:List St) (A:Option Addr) (c:Nat) (w:World) (v:Value) (wr:World):Prop:=
 ∃ i:Nat,v=.int .i64 i∧1≤i∧(i≤l.length∨i=1)∧NoHit W t l i∧Blk wr w.heap.size 27 #[.slice A W.bs.length c,W.home]∧Kp w.heap.size none w wr
theorem meet_Hit_any (A:Option Addr) (c:Nat) (W:Wd) (t:Int) (B:Option Addr) (m:Nat) (l:List St) (w:World) (hW:W.ok) (hA:WdAt none w A W) (ht:0≤t∧t≤1000000) (hr:Rd none w 4 encSt B l.length l) (hl:l.length≤1000) (hok:∀ s∈l,okSt s=true) :
  Calls Tryz.prog 17 #[.agg #[.slice A W.bs.length c,W.home],t,.slice B l.length m] w fun e w'=>(∃ v:Int,e=.returned (.int .i64 v)∧HitV W t l v)∧Kp w.heap.size none w w':=by
 have cw:=fun w h=>sky_CheckWorld_any A c W w hW h;have cr:=fun w h=>meet_radius_any A c W w hW h;have n1:¬ t<0:=by omega
 obtain⟨w1,hw1,D,K,hz⟩:=box1 w 27 #[.slice A W.bs.length c,W.home];go_enter Tryz.func17,Tryz.ntmps17
 go_wp2_with fail
 rw[← hw1];clear hw1;refine mK (cw _ (hA.kpN K)) fun w2 k=>?_;replace D:=D.kpN k;replace K:=K.thenN k oM;have hzk:=k.size;clear k;clear cw;have cD:=D.cell;have fD:=D.frozen;go_wp2_with fail
 clear cD fD;clear n1;go_loopw [7] (fun v wr=>HtAt W t l A c w v wr) (fun v _=>(l.length:Int).toNat-(intOf v).toNat)
 case atStart=>exact⟨1,rfl,Nat.le_refl _,.inr rfl,fun i _ h=>by omega,D,K⟩
 case round=>
  obtain⟨i,rfl,h1,hi,hN,D1,K1⟩:=hrel;clear D K hzk;have D:=D1;have K:=K1;clear D1 K1;have hz0:=K.size;by_cases h:i<l.length
  ·
   obtain⟨b,o,rfl,hb,-,-⟩:=hr.at_ oM;obtain⟨k,hk⟩:∃ k,Hid (i=k+1):=⟨i-1,Lib.hid oM⟩;have hkl:k<l.length:=by have:=hk.out;omega
   obtain⟨c00,c01,c02,c03⟩:=hr.sts h rfl;obtain⟨c10,c11,c12,c13⟩:=hr.sts hkl rfl;have hii:(i:Int)<(l.length:Int):=by omega
   have hi0:(0:Int)≤(i:Int):=by omega
   have hkk:(k:Int)<(l.length:Int):=by omega
   have hk0:(0:Int)≤(k:Int):=by omega
   have g0:wrap64 ((i:Int)-1)=(k:Int):=by have:=hk.out;unfold wrap64;omega
   have g1:wrap64 (t+(i:Int))=t+(i:Int):=by have:=hk.out;unfold wrap64;omega
   have g2:wrap64 (t+(i:Int)-1)=t+(k:Int):=by have:=hk.out;unfold wrap64;omega
   have g3:(i:Int)-1=(k:Int):=by have:=hk.out;omega
   have g4:t+(i:Int)-1=t+(k:Int):=by have:=hk.out;omega
   have hm:(l.length:Int).toNat-((i+1:Nat):Int).toNat<(l.length:Int).toNat-(i:Int).toNat:=by omega
   replace hm:=Lib.hid hm;have hrb:=hW.rad_bd;have cc:=fun w hA=>meet_Within_any A c W (t+(k:Int)) l[k] l[i] W.rad w hW hA (by have:=hk.out;omega) (hok _ (List.getElem_mem hkl)) (hok _ (List.getElem_mem h)) oM oM
   have hst:∀ r,r=decide (comesP (relP W (t+(k:Int)) l[k]) (relP W (t+(k:Int)+1) l[i]) W.rad)→(r=true→HitV W t l k)∧(r=false→NoHit W t l (i+1)):=by
    have e:=hk.out;subst e;intro r hr'
    have ex:hitW W (t+(k:Int)) (nth l k) (nth l (k+1))↔r=true:=by
     rw[hr',nth_eq hkl,nth_eq h];unfold hitW;simp
    refine⟨fun q=>.inr ⟨k,rfl,h,ex.2 q⟩,fun q j hj hjk=>?_⟩;by_cases e:j=k
    · subst e;rw[ex,q];simp
    · exact hN j hj oM
   obtain⟨r,hr9⟩:∃ q9,Hid (q9=decide (comesP (relP W (t+(k:Int)) l[k]) (relP W (t+(k:Int)+1) l[i]) W.rad)):=⟨_,Lib.hid rfl⟩;rw[← hr9.out] at cc;replace hst:=Lib.hid (hst r hr9.out);obtain⟨p,hp⟩:∃ q9,Hid (q9=l[k]):=⟨_,Lib.hid rfl⟩;rw[← hp.out] at cc c10 c11 c12 c13;obtain⟨s,hs⟩:∃ q9,Hid (q9=l[i]):=⟨_,Lib.hid rfl⟩;rw[← hs.out] at cc c00 c01 c02 c03;obtain⟨rd,hrd⟩:∃ q9,Hid (q9=W.rad):=⟨_,Lib.hid rfl⟩;rw[← hrd.out] at cc cr;replace hN:=Lib.hid hN;replace hi:=Lib.hid hi;replace hok:=Lib.hid hok;clear hrb hr9 hp hs hrd;replace h:=Lib.hid h;replace h1:=Lib.hid h1;go_wp2_with fail
   obtain⟨S,hS0,hS1⟩:=cls_of2 (P:=fun w'=>Blk w' _ _ _∧Kp _ _ _ w') wr ⟨D,K⟩;try dsimp only at hS0
   have cD:=fun (x:Ev (S 0)) i=>((hS0 _).1 x.h).1.cell i;have c00:=fun (x:Ev (S 0))=>((((hS0 _).1 x.h).2).cell _ _ hb oW).trans c00;have c01:=fun (x:Ev (S 0))=>((((hS0 _).1 x.h).2).cell _ _ hb oW).trans c01;have c02:=fun (x:Ev (S 0))=>((((hS0 _).1 x.h).2).cell _ _ hb oW).trans c02;have c03:=fun (x:Ev (S 0))=>((((hS0 _).1 x.h).2).cell _ _ hb oW).trans c03;have c10:=fun (x:Ev (S 0))=>((((hS0 _).1 x.h).2).cell _ _ hb oW).trans c10;have c11:=fun (x:Ev (S 0))=>((((hS0 _).1 x.h).2).cell _ _ hb oW).trans c11;have c12:=fun (x:Ev (S 0))=>((((hS0 _).1 x.h).2).cell _ _ hb oW).trans c12;have c13:=fun (x:Ev (S 0))=>((((hS0 _).1 x.h).2).cell _ _ hb oW).trans c13;replace D:=D.drew;replace K:=K.drew;have hevT:=ev_true;refine wro S [(0,1),(1,0),(2,0),(3,0),(4,0),(5,0),(6,0),(7,0),(8,0),(9,1),(10,0),(11,0),(12,0),(13,1),(14,1),(15,2),(16,2)] [] ((hS0 _).2 ⟨D,K⟩) ?_;intro _hev;refine oX ?_;refine oL ?_;intro Kc hKc;generalize wr.drew=wd9 at *;go_step;refine mK (cr _ (hA.kpN K)) fun w3 k=>?_;replace D:=D.kpN k;replace K:=K.tN k;clear k;refine hKc _ _ ((hS0 _).2 ⟨D,K⟩) ?_;clear hKc Kc;refine oL ?_;intro Kc hKc;go_step;refine mK (cc _ (hA.kpN K)) fun w4 k=>?_;replace D:=D.kpN k;replace K:=K.tN k;clear k;refine hKc _ _ ((hS0 _).2 ⟨D,K⟩) ?_;clear hKc Kc;refine wpOrd_nil ?_;clear hevT _hev;clear c00 c01 c02 c03 c10 c11 c12 c13;clear cD hS0 hS1 S;cases r
   ·
    go_wp2
    go_roundw
    case rel=>exact⟨i+1,by congr 1,by omega,.inl h.out,hst.out.2 (by simp),D,K⟩
    case measure=>exact hm.out
   ·
    go_wp2
    go_ret
    exact⟨⟨_,rfl,hst.out.1 (by simp)⟩,K⟩
  ·
   have hno:Hid (HitV W t l (-1)):=Lib.hid (.inl ⟨rfl,fun ⟨j,hj,hh⟩=>hN j hj oM hh⟩);clear hr hA hN hok;have hii:¬ (i:Int)<(l.length:Int):=by omega
   have cD:=D.cell;have fD:=D.frozen;go_wp2_with fail
   clear cD fD;go_ret
   exact⟨⟨_,rfl,hno.out⟩,K⟩
end Go.Proofs.YtdhiappifnflpaaGreat
namespace Go.Proofs.YtdhiappifnflpaaGreat
open Go.RowKit
attribute [local go_sem] Oper.semAt_some
structure Ps where
 i:Int
 a:Ar
 b:Ar
 lost:Bool
def Ps.clear (p:Ps) (r:Int):Bool:=!p.lost&&clearA p.a p.b r
def Ps.sure (p:Ps) (r:Int):Bool:=!p.lost&&hitsA p.a p.b r
structure Ps.sm (p:Ps):Prop where
 a:p.a.bd 134217728
 b:p.b.bd 134217728
def passL (W:Wd) (d:Dr):Nat→Nat→Int→Bx→List Ps
 | 0,_,_,_=>[]
 | n+1,i,t,b=>match stepW W d (t+i) b with
  | none=>[⟨i,zeroA,zeroA,true⟩]
  | some nx=>⟨i,relA W (t+i) b,relA W (t+i+1) nx,false⟩::passL W d n (i+1) t nx
def stepF (r:Int) (k:Fk) (p:Ps):Fk:=match k with
 | .miss=>if p.clear r then .miss else if p.sure r then .hit else .open
 | .open=>if p.sure r then .hit else .open
 | .hit=>.hit
theorem foldF_hit (r:Int):∀ l:List Ps,l.foldl (stepF r) .hit=.hit
 | []=>rfl
 | p::l=>by rw[List.foldl_cons];exact foldF_hit r l
theorem passL_fate (W:Wd) (d:Dr):∀ (n i:Nat) (t:Int) (b:Bx) (o:Bool),(passL W d n i t b).foldl (stepF W.rad) (if o then .open else .miss)=fateB (stepW W d) (clearW W) (sureW W) o n (t+i) b
 | 0,i,t,b,o=>by cases o<;>rfl
 | n+1,i,t,b,o=>by
  unfold passL fateB;cases hs:stepW W d (t+i) b with
  | none=>cases o<;>simp[stepF,Ps.clear,Ps.sure]
  | some nx=>
   have ih:=fun o=>passL_fate W d n (i+1) t nx o;have e:t+((i+1:Nat):Int)=t+(i:Int)+1:=by push_cast;omega
   rw[e] at ih;have hc:(⟨i,relA W (t+i) b,relA W (t+i+1) nx,false⟩:Ps).clear W.rad=clearW W (t+i) b nx:=by simp[Ps.clear,clearW]
   have hu:(⟨i,relA W (t+i) b,relA W (t+i+1) nx,false⟩:Ps).sure W.rad=sureW W (t+i) b nx:=by simp[Ps.sure,sureW]
   simp only[List.foldl_cons];cases o
   ·
    simp only[Bool.false_eq_true,if_false,stepF,hc,hu,Bool.false_or];cases h1:clearW W (t+i) b nx
    ·
     cases h2:sureW W (t+i) b nx
     · have:=ih true;simpa using this
     · simp[foldF_hit]
    · have:=ih false;simpa using this
   ·
    simp only[if_true,stepF,hu,Bool.true_or,Bool.true_and];cases h2:sureW W (t+i) b nx
    · have:=ih true;simpa using this
    · simp[foldF_hit]
theorem passL_none {W:Wd} {d:Dr} {n:Nat} {i:Nat} {t:Int} {b:Bx} (h:stepW W d (t+i) b=none):passL W d (n+1) i t b=[⟨i,zeroA,zeroA,true⟩]:=by
 rw[passL,h]
theorem passL_some {W:Wd} {d:Dr} {n:Nat} {i:Nat} {t:Int} {b nx:Bx} (h:stepW W d (t+i) b=some nx):passL W d (n+1) i t b=⟨i,relA W (t+i) b,relA W (t+i+1) nx,false⟩::passL W d n (i+1) t nx:=by
 rw[passL,h]
theorem passL_sm {W:Wd} {d:Dr} (hW:W.ok):∀ (n i:Nat) (t:Int) (b:Bx),okBx b=true→∀ p∈passL W d n i t b,p.sm
 | 0,_,_,_,_,p,h=>by simp[passL] at h
 | n+1,i,t,b,hb,p,h=>by
  cases hs:stepW W d (t+i) b with
  | none=>
   rw[passL_none hs] at h;simp only[List.mem_cons,List.not_mem_nil,or_false] at h;subst h;constructor<;>(unfold Ar.bd Sp.bd zeroA;simp)
  | some nx=>
   rw[passL_some hs] at h;have hn:=stepW_ok hs;simp only[List.mem_cons] at h;rcases h with rfl|h
   · exact⟨(relA_bd hW hb).mono oM,(relA_bd hW hn).mono oM⟩
   · exact passL_sm hW n (i+1) t nx hn p h
def HdPs (p:Ps) (v:Array Value) (_:World):Prop:=v=#[.agg #[p.i,p.a.x.lo,p.a.x.hi,p.a.y.lo,p.a.y.hi,p.b.x.lo,p.b.x.hi,p.b.y.lo,p.b.y.hi,.bool p.lost]]
theorem Blk.sto4_1 {w:World} {r:Nat} {T:TypeId} {cs:Array Value} (h:Blk w r T cs) (x0 x1 x2 x3:Value):∃ w',w'=((((w.setCell ⟨r,1,none⟩ x0).setCell ⟨r,1+1,none⟩ x1).setCell ⟨r,1+2,none⟩ x2).setCell ⟨r,1+3,none⟩ x3)∧Blk w' r T ((((cs.setIfInBounds 1 x0).setIfInBounds (1+1) x1).setIfInBounds (1+2) x2).setIfInBounds (1+3) x3)∧Kp w.heap.size (some r) w w'∧w'.heap.size=w.heap.size:=
 ⟨_,rfl,(((h.set_ _ x0).set_ _ x1).set_ _ x2).set_ _ x3,((((Kp.refl _ (some r) w).setRow (p:=⟨r,_,none⟩) rfl _).setRow (p:=⟨r,_,none⟩) rfl _).setRow (p:=⟨r,_,none⟩) rfl _).setRow (p:=⟨r,_,none⟩) rfl _,by simp[World.setCell]⟩
theorem Blk.sto4_5 {w:World} {r:Nat} {T:TypeId} {cs:Array Value} (h:Blk w r T cs) (x0 x1 x2 x3:Value):∃ w',w'=((((w.setCell ⟨r,5,none⟩ x0).setCell ⟨r,5+1,none⟩ x1).setCell ⟨r,5+2,none⟩ x2).setCell ⟨r,5+3,none⟩ x3)∧Blk w' r T ((((cs.setIfInBounds 5 x0).setIfInBounds (5+1) x1).setIfInBounds (5+2) x2).setIfInBounds (5+3) x3)∧Kp w.heap.size (some r) w w'∧w'.heap.size=w.heap.size:=
 ⟨_,rfl,(((h.set_ _ x0).set_ _ x1).set_ _ x2).set_ _ x3,((((Kp.refl _ (some r) w).setRow (p:=⟨r,_,none⟩) rfl _).setRow (p:=⟨r,_,none⟩) rfl _).setRow (p:=⟨r,_,none⟩) rfl _).setRow (p:=⟨r,_,none⟩) rfl _,by simp[World.setCell]⟩
theorem meet_passages_any (A:Option Addr) (c:Nat) (W:Wd) (d:Dr) (t:Int) (b:Bx) (n:Int) (w:World) :
  Calls Tryz.prog 95 #[.agg #[.slice A W.bs.length c,W.home],d,t,b,n] w fun e w'=>e=.returned (.func (.func 145) #[] #[.pointer (some ⟨w.heap.size+4,0,none⟩),.pointer (some ⟨w.heap.size+2,0,none⟩),.pointer (some ⟨w.heap.size,0,none⟩),.pointer (some ⟨w.heap.size+1,0,none⟩),.pointer (some ⟨w.heap.size+3,0,none⟩)]) ∧
   Blk w' w.heap.size 27 #[.slice A W.bs.length c,W.home]∧Blk w' (w.heap.size+1) 31 d∧Blk w' (w.heap.size+2) 2 #[t]∧Blk w' (w.heap.size+3) 33 b∧Blk w' (w.heap.size+4) 3 #[n]∧w'.heap.size=w.heap.size+5∧Kp w.heap.size none w w':=by
 obtain⟨w1,hw1,D,F,T,B,N,K,hz⟩:=box5 w 27 #[.slice A W.bs.length c,W.home] 31 d 2 #[t] 33 b 3 #[n];go_enter Tryz.func95,Tryz.ntmps95
 go_wp2_with fail
 rw[← hw1];exact bodyPost_ret (by simp[results,Tryz.results95,go_sem]) rfl ⟨rfl,D,F,T,B,N,hz,K⟩
end Go.Proofs.YtdhiappifnflpaaGreat
namespace Go.Proofs.YtdhiappifnflpaaGreat
open Go.RowKit
attribute [local go_sem] Oper.semAt_some
def PsAt (W:Wd) (d:Dr) (n:Nat) (t:Int) (L:List Ps) (w0:World) (x bb:Nat) (J:(Nat→Prop)→List Ps→World→Prop) (v:Value) (wr:World):Prop:=
 ∃ (i:Nat) (b:Bx) (pre:List Ps),v=.int .i64 i∧i≤n∧okBx b=true∧L=pre++passL W d (n-i) i t b∧J (fun k=>k=bb) pre wr∧Blk wr bb 33 b∧Kz w0.heap.size (fun k=>k=x∨k=bb) w0 wr
theorem AbideZ.row {β:Type} {J:(Nat→Prop)→β→World→Prop} (h:AbideZ J) {bb:Nat} {s:β} {W W':World} (hj:J (fun k=>k=bb) s W) (hk:Kp W.heap.size (some bb) W W'):J (fun k=>k=bb) s W':=h.keep hj hk (fun r e=>by injection e with e;exact e.symm)
theorem passages_seq (wb w0:World) (A:Option Addr) (c:Nat) (W:Wd) (d:Dr) (t:Int) (b0:Bx) (n:Nat) (nb tb ab db bb x:Nat) (hW:W.ok) (hd:d.ok) (ht:0≤t∧t≤900000) (hn:n≤400) (hb0:okBx b0=true)
  (hA:WdAt none wb A W) (hwb:Kp wb.heap.size none wb w0) (hx:wb.heap.size≤x) (hbb:wb.heap.size≤bb) (hxl:x<w0.heap.size)
  (bN:Blk w0 nb 3 #[n]) (bT:Blk w0 tb 2 #[t]) (bA:Blk w0 ab 27 #[.slice A W.bs.length c,W.home]) (bD:Blk w0 db 31 d) (bB:Blk w0 bb 33 b0)
  (nx:nb≠x∧tb≠x∧ab≠x∧db≠x∧bb≠x) (nbb:nb≠bb∧tb≠bb∧ab≠bb∧db≠bb) :
  SeqZ Tryz.prog 145 #[.pointer (some ⟨nb,0,none⟩),.pointer (some ⟨tb,0,none⟩),.pointer (some ⟨ab,0,none⟩),.pointer (some ⟨db,0,none⟩),.pointer (some ⟨bb,0,none⟩)] HdPs (passL W d n 0 t b0) (fun k=>k=bb) (fun k=>k=x) w0.heap.size (fun w'=>Kz w0.heap.size (fun k=>k=x) w0 w'):=by
 intro l J Jx W0 hl hJ hJx hY h0 hP;change Calls Tryz.prog 145 #[.func (.yield l) #[] #[],.pointer (some ⟨nb,0,none⟩),.pointer (some ⟨tb,0,none⟩),.pointer (some ⟨ab,0,none⟩),.pointer (some ⟨db,0,none⟩),.pointer (some ⟨bb,0,none⟩)] W0 (fun e W'=>(∃ v,e=.returned v)∧(J (fun k=>k=bb) (passL W d n 0 t b0) W'∨∃ pre,Jx (fun k=>k=bb) pre W'));obtain⟨n1,n2,n3,n4,n5⟩:=nx;obtain⟨m1,m2,m3,m4⟩:=nbb;replace hY:=Lib.hid hY;obtain⟨L,hL⟩:∃ q9,Hid (q9=passL W d n 0 t b0):=⟨_,Lib.hid rfl⟩;rw[← hL.out] at hY ⊢;have kb0:∀ W',Kz w0.heap.size (fun k=>k=x∨k=bb) w0 W'→Kp wb.heap.size none wb W':=fun W' h=>hwb.trans ((h.less hwb.size (fun q hq e=>by omega):Kz wb.heap.size (fun _=>False) w0 W').kpN);have hP2:Kz w0.heap.size (fun k=>k=x∨k=bb) w0 W0:=hP.less (Nat.le_refl _) (fun _ _ e=>.inl e);have bB0:=bB.kz hP bB.lt n5;have cN:=fun i=>(bN.kz hP bN.lt n1).cell i;refine(callsIn_wide (n:=0)).1 (callsIn_of_wp Tryz.func145 rfl trivial ?_ rfl);simp only[Tryz.ntmps145,List.size_toArray,List.length_cons,List.length_nil,Nat.reduceAdd,Nat.reduceSub,Array.replicate_succ,Array.replicate_zero,List.push_toArray,List.append_toArray,List.nil_append,List.cons_append];gi_wp2_with fail
 clear cN;gi_loopw [13] (fun v wr=>PsAt W d n t L w0 x bb J v wr) (fun v _=>(n:Int).toNat-(intOf v).toNat)
 case atStart=>exact⟨0,b0,[],rfl,Nat.zero_le _,hb0,by rw[hL.out];rfl,h0,bB0,hP2⟩
 case round=>
  clear h0 hP hP2 bB0 bB hb0;obtain⟨i,b,pre,rfl,hi,hb,hLe,hj,bB,hkz⟩:=hrel;by_cases h:i<n
  ·
   have hii:(i:Int)<(n:Int):=by omega
   have hm:(n:Int).toNat-(((i+1:Nat):Int)).toNat<(n:Int).toNat-((i:Int)).toNat:=by omega
   replace hm:=Lib.hid hm;have cs:=fun w hA=>orbit_Step_any A c W d (t+i) b w hW hA hd oM hb;have ca:=fun b t w hb ht hA=>meet_area_any A c W t b w hW hA ht hb;have aT:=bT.kz hkz bT.lt oM;have aA:=bA.kz hkz bA.lt oM;have aD:=bD.kz hkz bD.lt oM;have cT:=aT.cell;have cA:=aA.cell;have cD:=aD.cell;have cB:=bB.cell;have hni:=Lib.hid (show n-i=(n-(i+1))+1 by omega);have hkw:=hkz.size;have hwbw:=hwb.size;have e1:wrap64 (t+(i:Int))=t+(i:Int):=by unfold wrap64;omega
   have e2:wrap64 (t+(i:Int)+1)=t+(i:Int)+1:=by unfold wrap64;omega
   gi_wp2_with fail
   clear e1 e2;refine⟨trivial,rfl,(callsIn_wide.2 (cs _ (hA.kpN (kb0 _ hkz)))).mono ?_⟩;rintro e9 w2 ⟨rfl,k2⟩;clear cT cA cD cB cs;have hbl:=bB.lt;have hT2:=aT.lt;have hA2:=aA.lt;cases hs:stepW W d (t+i) b with
   | none=>
    unfold stepV;have hxs:L=pre++(⟨i,zeroA,zeroA,true⟩:Ps)::[]:=by rw[hLe,hni.out,passL_none hs]
    have N:=Blk.new w2 33 #[(0:Int),(0:Int),(0:Int),(0:Int),(0:Int),(0:Int),(0:Int),(0:Int)];have k3:=Kp.new2 w2 (.cells #[(0:Int),(0:Int),(0:Int),(0:Int),(0:Int),(0:Int),(0:Int),(0:Int)] 33) (.cells #[i,(0:Int),(0:Int),(0:Int),(0:Int),(0:Int),(0:Int),(0:Int),(0:Int),.bool true] 182);have hj3:=hJ.keepN (hJ.keepN hj k2) k3;have P:=Blk.newAt (w2.alloc (.cells #[(0:Int),(0:Int),(0:Int),(0:Int),(0:Int),(0:Int),(0:Int),(0:Int)] 33)) 182 #[i,(0:Int),(0:Int),(0:Int),(0:Int),(0:Int),(0:Int),(0:Int),(0:Int),.bool true] (n:=w2.heap.size+1) (by simp);have hw2:=k2.size;obtain⟨fn,tmps,assign,body,hy,hR⟩:=hY.out (fun k=>k=bb) pre ⟨i,zeroA,zeroA,true⟩ [] _ _ hxs hj3 rfl;simp only[zeroA] at hy;have hL3:Hid (pre++[(⟨i,zeroA,zeroA,true⟩:Ps)]=L):=Lib.hid hxs.symm;clear hxs hj hj3 hLe hs aT aA aD bB k2 k3 hkz;gi_wp2
    refine⟨rfl,hR.mono ?_⟩;rintro e W5 (⟨rfl,hJ5,hk5⟩|⟨rfl,hJx5,-⟩)
    ·
     rw[hL3.out] at hJ5;have P5:=P.kz hk5 P.lt oM;have cP:=P5.cell;gi_wp2
     refine bodyPost_ret (results_none rfl _ _ _) rfl ⟨⟨_,rfl⟩,.inl hJ5⟩
    ·
     gi_wp2
     refine bodyPost_ret (results_none rfl _ _ _) rfl ⟨⟨_,rfl⟩,.inr ⟨_,hJx5⟩⟩
   | some nx=>
    unfold stepV;have hnx:=stepW_ok hs;obtain⟨ra,hra⟩:∃ q9,Hid (q9=relA W (t+i) b):=⟨_,Lib.hid rfl⟩;obtain⟨rb,hrb⟩:∃ q9,Hid (q9=relA W (t+i+1) nx):=⟨_,Lib.hid rfl⟩;have hxs:Hid (L=pre++(⟨i,ra,rb,false⟩:Ps)::passL W d (n-(i+1)) (i+1) t nx):=Lib.hid (by rw[hLe,hni.out,passL_some hs,hra.out,hrb.out]);have c1:=fun w hA=>ca b (t+i) w hb oM hA;have c2:=fun w hA=>ca nx (t+i+1) w hnx oM hA;rw[← hra.out] at c1;rw[← hrb.out] at c2;have N:=Blk.new w2 33 nx;have P:=Blk.newAt (w2.alloc (.cells nx 33)) 182 #[i,(0:Int),(0:Int),(0:Int),(0:Int),(0:Int),(0:Int),(0:Int),(0:Int),.bool false] (n:=w2.heap.size+1) (by simp);replace N:=N.alloc (.cells #[i,(0:Int),(0:Int),(0:Int),(0:Int),(0:Int),(0:Int),(0:Int),(0:Int),.bool false] 182);have k3:=Kp.new2 w2 (.cells nx 33) (.cells #[i,(0:Int),(0:Int),(0:Int),(0:Int),(0:Int),(0:Int),(0:Int),(0:Int),.bool false] 182);have D:=(aA.kpN k2).kpN k3;have B:=(bB.kpN k2).kpN k3;have K:=k3;have hw2:=k2.size;have hkz2:=hkz.thenN k2 hkw;have hA2:=hA.kpN (kb0 _ hkz2);have hj2:=hJ.keepN hj k2;have hL9:Hid (L=(pre++[(⟨i,ra,rb,false⟩:Ps)])++passL W d (n-(i+1)) ((i+1:Nat)) t nx):=Lib.hid (by rw[hxs.out];simp);clear hLe hs aT aD bB aA k2 k3 ca hra hrb hni hkz hj;have e2:wrap64 (t+(i:Int)+1)=t+(i:Int)+1:=by unfold wrap64;omega
    gi_wp2_with fail
    refine wpIn_wide.2 ?_;generalize (w2.alloc (.cells nx 33)).alloc (.cells #[i,(0:Int),(0:Int),(0:Int),(0:Int),(0:Int),(0:Int),(0:Int),(0:Int),.bool false] 182)=w5 at *;obtain⟨S,hS0,hS1⟩:=cls_of2 (P:=fun w'=>Blk w' _ _ _∧Blk w' _ _ _∧Blk w' _ _ _∧Kp _ _ _ w') w5 ⟨D,B,N,K⟩;try dsimp only at hS0
    have cD:=fun (x:Ev (S 0)) i=>((hS0 _).1 x.h).1.cell i;have cB:=fun (x:Ev (S 0)) i=>((hS0 _).1 x.h).2.1.cell i;have cN:=fun (x:Ev (S 0)) i=>((hS0 _).1 x.h).2.2.1.cell i;replace D:=D.drew;replace B:=B.drew;replace N:=N.drew;replace K:=K.drew;replace P:=P.drew;have hevT:=ev_true;refine wro S [(0,1),(1,0),(2,1),(4,1),(5,0),(6,0),(7,1),(3,2),(9,0),(8,2),(10,2),(11,0),(12,2)] [] ((hS0 _).2 ⟨D,B,N,K⟩) ?_;intro _hev;refine oX ?_;refine oL ?_;intro Kc hKc;generalize w5.drew=wd9 at *;go_step;refine mK (c1 _ (hA2.kpN K)) fun w6 k=>?_;replace D:=D.kpN k;replace B:=B.kpN k;replace N:=N.kpN k;replace P:=P.kpN k;replace K:=K.tN k;clear k;refine hKc _ _ ((hS0 _).2 ⟨D,B,N,K⟩) ?_;clear hKc Kc;refine oX ?_;refine oL ?_;intro Kc hKc;go_step;refine mK (c2 _ (hA2.kpN K)) fun w7 k=>?_;replace D:=D.kpN k;replace B:=B.kpN k;replace N:=N.kpN k;replace P:=P.kpN k;replace K:=K.tN k;clear k;refine hKc _ _ ((hS0 _).2 ⟨D,B,N,K⟩) ?_;clear hKc Kc;refine oL ?_;intro Kc hKc;have cS9:=P.cell;have fS9:=P.frozen;go_step;obtain⟨w8,hwn,RB9,kst,hzst⟩:=P.sto4_1 (.int .i64 ra.x.lo) (.int .i64 ra.x.hi) (.int .i64 ra.y.lo) (.int .i64 ra.y.hi);rw[← hwn];clear hwn cS9 fS9;replace D:=D.kq kst;replace B:=B.kq kst;replace N:=N.kq kst;replace K:=K.thenOwn kst (Nat.le_refl _) oM;replace P:=RB9;clear RB9 kst hzst;simp only[sbt,sc0,scs] at P;refine hKc _ _ ((hS0 _).2 ⟨D,B,N,K⟩) ?_;clear hKc Kc;refine oX ?_;refine oL ?_;intro Kc hKc;have cS9:=P.cell;have fS9:=P.frozen;go_step;obtain⟨w10,hwn,RB9,kst,hzst⟩:=P.sto4_5 (.int .i64 rb.x.lo) (.int .i64 rb.x.hi) (.int .i64 rb.y.lo) (.int .i64 rb.y.hi);rw[← hwn];clear hwn cS9 fS9;replace D:=D.kq kst;replace B:=B.kq kst;replace N:=N.kq kst;replace K:=K.thenOwn kst (Nat.le_refl _) oM;replace P:=RB9;clear RB9 kst hzst;simp only[sbt,sc0,scs] at P;refine hKc _ _ ((hS0 _).2 ⟨D,B,N,K⟩) ?_;clear hKc Kc;refine wpOrd_nil ?_;clear hevT _hev;clear cD cB cN hS0 hS1 S;clear D c1 c2;have hj5:=hJ.keepN hj2 K;have hkz5:=hkz2.thenN K oM;obtain⟨fn,tmps,assign,body,hy,hR⟩:=hY.out (fun k=>k=bb) pre ⟨i,ra,rb,false⟩ _ #[.agg #[.int .i64 (⟨i,ra,rb,false⟩:Ps).i,.int .i64 (⟨i,ra,rb,false⟩:Ps).a.x.lo,.int .i64 (⟨i,ra,rb,false⟩:Ps).a.x.hi,.int .i64 (⟨i,ra,rb,false⟩:Ps).a.y.lo,.int .i64 (⟨i,ra,rb,false⟩:Ps).a.y.hi,.int .i64 (⟨i,ra,rb,false⟩:Ps).b.x.lo,.int .i64 (⟨i,ra,rb,false⟩:Ps).b.x.hi,.int .i64 (⟨i,ra,rb,false⟩:Ps).b.y.lo,.int .i64 (⟨i,ra,rb,false⟩:Ps).b.y.hi,.bool (⟨i,ra,rb,false⟩:Ps).lost]] w10 hxs.out hj5 rfl;dsimp only at hy;have cP:=P.cell;have hNl:=N.lt;have hw10:=K.size;clear hj5 hj2 hkz2 hA2 K;gi_wp2
    refine⟨rfl,hR.mono ?_⟩;rintro e (W5) (⟨rfl,hJ5,hk5⟩|⟨rfl,hJx5,-⟩)
    ·
     have P5:=P.kz hk5 P.lt oM;have N5:=N.kz hk5 N.lt oM;have B5:=B.kz hk5 B.lt oM;have hkz6:=hkz5.trans (hk5.less oM (fun _ _ e=>.inl e));clear cP hk5 hkz5 P N B e2;have cP:=P5.cell;have cN:=N5.cell;have cB:=B5.cell;have fB:=B5.frozen;obtain⟨W6,hwn,R9,kst,hzst⟩:=B5.st8 (.int .i64 nx.x.lo) (.int .i64 nx.x.hi) (.int .i64 nx.y.lo) (.int .i64 nx.y.hi) (.int .i64 nx.u.lo) (.int .i64 nx.u.hi) (.int .i64 nx.v.lo) (.int .i64 nx.v.hi);simp only[sbt,sc0,scs] at R9;have hj6:=hJ.row hJ5 kst;have hkz7:=hkz6.then_ kst hkz6.size (fun r e _=>by injection e with e;exact .inr e.symm);clear hJ5 hkz6 kst hzst B5;replace h:=Lib.hid h;gi_wp2
     rw[← hwn];go_roundw
     case rel=>exact⟨i+1,nx,_,by congr 1,h.out,hnx,hL9.out,hj6,R9,hkz7⟩
     case measure=>exact hm.out
    ·
     gi_wp2
     refine bodyPost_ret (results_none rfl _ _ _) rfl ⟨⟨_,rfl⟩,.inr ⟨_,hJx5⟩⟩
  ·
   obtain rfl:i=n:=by omega
   have hn9:¬ (i:Int)<(i:Int):=by omega
   rw[Nat.sub_self,show passL W d 0 i t b=[] from rfl,List.append_nil] at hLe;subst hLe;gi_wp2
   go_end0
   exact⟨⟨_,rfl⟩,.inl hj⟩
end Go.Proofs.YtdhiappifnflpaaGreat
