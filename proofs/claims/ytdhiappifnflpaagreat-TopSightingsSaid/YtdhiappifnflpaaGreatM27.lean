/- Skies in memory: the walks of sky, second part: Check, station, catalog. Skies in memory: the walks of sky, third part: station, catalog, Where. Skies in memory: the walks of sky, fourth part: Where, lookOf. -/
import Derived.Test.YtdhiappifnflpaaGreatM20
import Derived.Test.YtdhiappifnflpaaGreatM16
import Derived.Test.YtdhiappifnflpaaGreatM23
set_option maxRecDepth 100000
set_option maxHeartbeats 2000000
namespace Go.Proofs.YtdhiappifnflpaaGreat
open Go.RowKit
def SkyAt (row:Option Nat) (w:World) (A B C:Option Addr) (S:Sky):Prop:=WdAt row w A S.W∧Rd row w 3 encStn B S.st.length S.st∧Rd row w 3 encCat C S.ct.length S.ct
section
variable {row:Option Nat} {w w':World} {A B C:Option Addr} {S:Sky}
theorem SkyAt.kp (h:SkyAt row w A B C S) (k:Kp w.heap.size row w w'):SkyAt row w' A B C S:=⟨h.1.kp k,h.2.1.kp k,h.2.2.kp k⟩
theorem SkyAt.kpN (h:SkyAt row w A B C S) (k:Kp w.heap.size none w w'):SkyAt row w' A B C S:=⟨h.1.kpN k,h.2.1.kpN k,h.2.2.kpN k⟩
theorem SkyAt.free (h:SkyAt row w A B C S):SkyAt none w A B C S:=⟨h.1.free,h.2.1.free,h.2.2.free⟩
theorem SkyAt.drew (h:SkyAt row w A B C S):SkyAt row w.drew A B C S:=h
end
theorem Asc.at_:∀ {k:Int} {l:List Int},Asc k l→∀ i (h:i<l.length),(k::l)[i]'(by simp;omega)<l[i]
 | k,m::r,h,0,_=>h.1
 | k,m::r,h,i+1,hi=>by simpa using Asc.at_ h.2 i (by simpa using hi)
def lastI (l:List Int) (i:Nat):Int:=(0::l).getD i 0
theorem lastI_succ {l:List Int} {i:Nat} (h:i<l.length):lastI l (i+1)=l[i]:=by
 unfold lastI;simp[List.getD_eq_getElem?_getD,List.getElem?_eq_getElem h]
theorem lastI_lt {l:List Int} (h:Asc 0 l) {i:Nat} (hi:i<l.length):lastI l i<l[i]:=by
 have:=h.at_ i hi
 have e:lastI l i=(0::l)[i]'(by simp;omega):=by
  unfold lastI;rw[List.getD_eq_getElem?_getD,List.getElem?_eq_getElem (by simp;omega),Option.getD_some]
 rw[e];exact this
theorem Rd.s3 {α:Type} {w:World} {enc:α→List Value} {A:Option Addr} {l:List α} {f g h:α→Int} (he:∀ x,enc x=[.int .i64 (f x),.int .i64 (g x),.int .i64 (h x)]) (r:Rd none w 3 enc A l.length l) {i:Nat} (hi:i<l.length):∃ b o,A=some ⟨b,o,none⟩∧b<w.heap.size ∧
  w.cell? ⟨b,o+i * 3,none⟩=some (.int .i64 (f l[i]))∧w.cell? ⟨b,o+i * 3+1,none⟩=some (.int .i64 (g l[i]))∧w.cell? ⟨b,o+i * 3+2,none⟩=some (.int .i64 (h l[i])):=by
 obtain⟨b,o,rfl,hb,-,hc⟩:=r.at_ oM;refine⟨b,o,rfl,hb,?_,?_,?_⟩
 · have:=hc i hi 0 _ (by rw[he];rfl);rwa [Nat.add_zero] at this
 · have:=hc i hi 1 _ (by rw[he];rfl);rwa [← Nat.add_assoc] at this
 · have:=hc i hi 2 _ (by rw[he];rfl);rwa [← Nat.add_assoc] at this
theorem Rd.stn {w:World} {A:Option Addr} {l:List Stn} (r:Rd none w 3 encStn A l.length l) {i:Nat} (hi:i<l.length):∃ b o,A=some ⟨b,o,none⟩∧b<w.heap.size ∧
 w.cell? ⟨b,o+i * 3,none⟩=some (.int .i64 l[i].id)∧w.cell? ⟨b,o+i * 3+1,none⟩=some (.int .i64 l[i].ox)∧w.cell? ⟨b,o+i * 3+2,none⟩=some (.int .i64 l[i].oy):=r.s3 (fun _=>rfl) hi
theorem Rd.cat {w:World} {A:Option Addr} {l:List Cat} (r:Rd none w 3 encCat A l.length l) {i:Nat} (hi:i<l.length):∃ b o,A=some ⟨b,o,none⟩∧b<w.heap.size ∧
 w.cell? ⟨b,o+i * 3,none⟩=some (.int .i64 l[i].ver)∧w.cell? ⟨b,o+i * 3+1,none⟩=some (.int .i64 l[i].lo)∧w.cell? ⟨b,o+i * 3+2,none⟩=some (.int .i64 l[i].hi):=r.s3 (fun _=>rfl) hi
def ChkAt (ids:List Int) (w:World) (T:TypeId) (cs:Array Value) (a b:Value) (wr:World):Prop:=∃ i:Nat,b=.int .i64 i∧i≤ids.length∧a=.int .i64 (lastI ids i)∧Blk wr w.heap.size T cs∧Kp w.heap.size none w wr
theorem sky_Check_any (A B C:Option Addr) (c e f:Nat) (S:Sky) (w:World) (hS:S.ok) (hA:SkyAt none w A B C S) :
  Calls Tryz.prog 35 #[.agg #[.slice A S.W.bs.length c,S.W.home,.slice B S.st.length e,.slice C S.ct.length f]] w fun e w'=>e=.returned (.int .i64 0)∧Kp w.heap.size none w w':=by
 have cw:=fun w h=>sky_CheckWorld_any A c S.W w hS.W h;have h1:=hS.s1;have h2:=hS.c1;have n1:¬ (16:Int)<(S.st.length:Int):=by omega
 have n2:¬ (8:Int)<(S.ct.length:Int):=by omega
 have ho:=hS.soff;have hb:=hS.cb;have a1:=fun i hi=>lastI_lt hS.sid (i:=i) hi;have a2:=fun i hi=>lastI_lt hS.cid (i:=i) hi;clear hS;obtain⟨w1,hw1,D,K,hz⟩:=box1 w 43 #[.slice A S.W.bs.length c,S.W.home,.slice B S.st.length e,.slice C S.ct.length f];go_enter Tryz.func35,Tryz.ntmps35
 go_wp2_with fail
 rw[← hw1];clear hw1;refine mK (cw _ (hA.1.kpN K)) fun w2 k=>?_;replace D:=D.kpN k;replace K:=K.thenN k oM;have hzk:=k.size;clear k;clear cw hzk;have cD:=D.cell;have fD:=D.frozen;go_wp2_with fail
 clear cD fD;go_loopw [4,22] (fun a b wr=>ChkAt (S.st.map (·.id)) w 43 #[.slice A S.W.bs.length c,S.W.home,.slice B S.st.length e,.slice C S.ct.length f] a b wr) (fun _ b _=>(S.st.length:Int).toNat-(intOf b).toNat)
 case atStart=>exact⟨0,rfl,Nat.zero_le _,rfl,D,K⟩
 case round=>
  obtain⟨i,rfl,hi,rfl,D1,K1⟩:=hrel;clear D K;have D:=D1;have K:=K1;clear D1 K1;rw[List.length_map] at hi;by_cases h:i<S.st.length
  ·
   obtain⟨b,o,rfl,hlt,c0,c1,c2⟩:=(hA.2.1.kpN K).stn h;have hii:(i:Int)<(S.st.length:Int):=by omega
   have hi0:(0:Int)≤(i:Int):=by omega
   have hm:(S.st.length:Int).toNat-((i+1:Nat):Int).toNat<(S.st.length:Int).toNat-(i:Int).toNat:=by omega
   replace hm:=Lib.hid hm;have hx:=ho _ (List.getElem_mem h);have hlt2:=a1 i (by rw[List.length_map];exact h);have hs:=Lib.hid (lastI_succ (l:=S.st.map (·.id)) (i:=i) (by rw[List.length_map];exact h));rw[List.getElem_map] at hlt2;have hs2:Hid (lastI (S.st.map (·.id)) (i+1)=S.st[i].id):=Lib.hid (by rw[hs.out,List.getElem_map]);clear hs;obtain⟨ls,hls⟩:∃ q9,Hid (q9=lastI (S.st.map (·.id)) i):=⟨_,Lib.hid rfl⟩;rw[← hls.out] at hlt2 ⊢;generalize S.st[i]=x at *;have hn:¬ x.id≤ls:=by omega
   have cn:=fun w=>sky_near_any ⟨x.ox,x.oy⟩ 1048576 oM w;rw[btw_t (by simp only;omega) (by simp only;omega),btw_t (by simp only;omega) (by simp only;omega)] at cn;clear ho hb a1 a2 hA hx hlt2 hls;replace h:=Lib.hid h;have k1:=Kp.new1 wr (.cells #[x.id,x.ox,x.oy] 146);have D1:=D.kpN k1;have K1:=K.tN k1;have cX:=fun i=>(Blk.new wr 146 #[x.id,x.ox,x.oy]).cell i;go_wp2_with fail
   refine mK (cn _) fun w3 k=>?_;have X3:=(Blk.new wr 146 #[x.id,x.ox,x.oy]).kpN k;replace D:=D1.kpN k;replace K:=K1.tN k;clear k k1 D1 K1 c0 c1 c2 cX;have cX:=X3.cell;go_wp2
   go_roundw
   case rel=>exact⟨i+1,by congr 1,by rw[List.length_map];exact h.out,by rw[hs2.out],D,K⟩
   case measure=>exact hm.out
  ·
   obtain rfl:i=S.st.length:=by omega
   clear ho a1;generalize lastI (S.st.map (·.id)) S.st.length=ls0;have cD:=D.cell;have fD:=D.frozen;go_wp2_with fail
   clear cD fD;go_loopw [4,46] (fun a b wr=>ChkAt (S.ct.map (·.ver)) w 43 #[.slice A S.W.bs.length c,S.W.home,.slice B S.st.length e,.slice C S.ct.length f] a b wr) (fun _ b _=>(S.ct.length:Int).toNat-(intOf b).toNat)
   case atStart=>exact⟨0,rfl,Nat.zero_le _,rfl,D,K⟩
   case round=>
    obtain⟨i,rfl,hi,rfl,D1,K1⟩:=hrel;clear D K;have D:=D1;have K:=K1;clear D1 K1;rw[List.length_map] at hi;by_cases h:i<S.ct.length
    ·
     obtain⟨b,o,rfl,hlt,c0,c1,c2⟩:=(hA.2.2.kpN K).cat h;have hii:(i:Int)<(S.ct.length:Int):=by omega
     have hi0:(0:Int)≤(i:Int):=by omega
     have hm:(S.ct.length:Int).toNat-((i+1:Nat):Int).toNat<(S.ct.length:Int).toNat-(i:Int).toNat:=by omega
     replace hm:=Lib.hid hm;have hx:=hb _ (List.getElem_mem h);have hlt2:=a2 i (by rw[List.length_map];exact h);have hs:=Lib.hid (lastI_succ (l:=S.ct.map (·.ver)) (i:=i) (by rw[List.length_map];exact h));rw[List.getElem_map] at hlt2;have hs2:Hid (lastI (S.ct.map (·.ver)) (i+1)=S.ct[i].ver):=Lib.hid (by rw[hs.out,List.getElem_map]);clear hs;obtain⟨ls,hls⟩:∃ q9,Hid (q9=lastI (S.ct.map (·.ver)) i):=⟨_,Lib.hid rfl⟩;rw[← hls.out] at hlt2 ⊢;generalize S.ct[i]=x at *;have hn:¬ x.ver≤ls:=by omega
     have m1:¬ x.lo < -500000:=by omega
     have m2:¬ x.hi<x.lo:=by omega
     have m3:¬ 500000<x.hi:=by omega
     clear hb a2 hA hx hlt2 hls;replace h:=Lib.hid h;have k1:=Kp.new1 wr (.cells #[x.ver,x.lo,x.hi] 148);have D1:=D.kpN k1;have K1:=K.tN k1;have cX:=fun i=>(Blk.new wr 148 #[x.ver,x.lo,x.hi]).cell i;clear k1 D K;replace D1:=Lib.hid D1;go_wp2
     go_roundw
     case rel=>exact⟨i+1,by congr 1,by rw[List.length_map];exact h.out,by rw[hs2.out],D1.out,K1⟩
     case measure=>exact hm.out
    ·
     obtain rfl:i=S.ct.length:=by omega
     clear hb a2;have cD:=D.cell;have fD:=D.frozen;go_wp2_with fail
     clear cD fD;go_ret
     exact⟨rfl,K⟩
def stationV:Option Stn→Array Value
 | some x=>#[.agg #[x.id,x.ox,x.oy],.bool true]
 | none=>#[.agg #[(0:Int),(0:Int),(0:Int)],.bool false]
theorem station1_pred (Bk:Nat) (n:Int) (xs:List Stn) (w:World) (hb:Blk w Bk 3 #[n]):PredK 164 #[.pointer (some ⟨Bk,0,none⟩)] oneStation (fun x=>decide (x.id=n)) xs w:=fun W x _ hk=>by
 have C:=hb.kpN hk;unfold oneStation;change Calls Tryz.prog 164 #[.agg #[x.id,x.ox,x.oy],.pointer (some ⟨Bk,0,none⟩)] W fun e w'=>e=.returned (.bool (decide (x.id=n)))∧Kp W.heap.size none W w';have hB:=C.lt;have C1:=C.alloc (.cells #[x.id,x.ox,x.oy] 146);have cC:=C1.cell;have hne:Bk≠W.heap.size:=by omega
 go_enter Tryz.func164,Tryz.ntmps164
 go_wp2
 go_ret
 exact⟨ret_bool (by rw[Bool.eq_iff_iff];simp),Kp.new1 _ _⟩
theorem sky_station_any (A B C:Option Addr) (c e f:Nat) (S:Sky) (n:Int) (w:World) (hl:S.st.length≤1000) (hA:SkyAt none w A B C S) :
  Calls Tryz.prog 125 #[.agg #[.slice A S.W.bs.length c,S.W.home,.slice B S.st.length e,.slice C S.ct.length f],n] w fun e w'=>e=.returned (.tuple (stationV (S.station n)))∧Kp w.heap.size none w w':=by
 have r:=hA.2.1;have sp:=idx_spec (fun x:Stn=>decide (x.id=n)) S.st 0;obtain⟨v,hv⟩:∃ q9,Hid (q9=S.station n):=⟨_,Lib.hid rfl⟩;rw[← hv.out];obtain⟨w1,hw1,D,N,R,K,hz⟩:=box3 w 43 #[.slice A S.W.bs.length c,S.W.home,.slice B S.st.length e,.slice C S.ct.length f] 3 #[n] 146 #[(0:Int),(0:Int),(0:Int)];have ci:=indexStation_any 164 #[.pointer (some ⟨w.heap.size+1,0,none⟩)] (fun x=>decide (x.id=n)) (enters_of Tryz.func164 (by kernel_rfl) rfl) B e S.st w1 (station1_pred (w.heap.size+1) n S.st w1 N) (r.kpN K) oM;have hvd:v=S.st.find? (fun x:Stn=>decide (x.id=n)):=hv.out;clear hv;generalize idxI (fun x:Stn=>decide (x.id=n)) S.st 0=ix at *;go_enter Tryz.func125,Tryz.ntmps125
 go_wp2_with fail
 rw[← hw1];clear hw1;refine ci.mono ?_;rintro e9 w2 ⟨rfl,k⟩;replace D:=D.kpN k;replace R:=R.kpN k;replace K:=K.tN k;clear k N ci;rcases sp with⟨rfl,e1⟩|⟨i,hi,rfl,e1,-,-⟩
 ·
  have hs:Hid (v=none):=Lib.hid (by rw[hvd,e1]);clear hvd e1 r hA hl;have cR:=R.cell;have fR:=R.frozen;go_wp2_with fail
  obtain⟨w3,hwn,P,kst,hzst⟩:=R.st3 (.int .i64 0) (.int .i64 0) (.int .i64 0);rw[← hwn];simp only[sbt,sc0,scs] at P;have K3:=K.thenOwn kst (Nat.le_refl _) oM;clear cR fR;have cR:=P.cell;exact bodyPost_ret (v:=.tuple (stationV none)) (by simp[results,Tryz.results125,go_sem,cR];rfl) rfl ⟨by rw[hs.out],K3⟩
 ·
  have hs:Hid (v=some S.st[i]):=Lib.hid (by rw[hvd,e1]);obtain⟨b,o,rfl,hlt,c0,c1,c2⟩:=(r.kpN K).stn hi;have hii:(i:Int)<(S.st.length:Int):=by omega
  have hi0:(0:Int)≤(i:Int):=by omega
  have hng:¬ (i:Int)<0:=by omega
  rw[Int.zero_add];generalize S.st[i]=x at *;clear hvd e1 r hA hl;have cD:=D.cell;have cR:=R.cell;have fR:=R.frozen;go_wp2_with fail
  obtain⟨w3,hwn,P,kst,hzst⟩:=R.st3 (.int .i64 x.id) (.int .i64 x.ox) (.int .i64 x.oy);rw[← hwn];simp only[sbt,sc0,scs] at P;have K3:=K.thenOwn kst (Nat.le_refl _) oM;clear cR fR cD;have cR:=P.cell;exact bodyPost_ret (v:=.tuple (stationV (some x))) (by simp[results,Tryz.results125,go_sem,cR];rfl) rfl ⟨by rw[hs.out],K3⟩
def catalogV:Option Cat→Array Value
 | some x=>#[.agg #[x.ver,x.lo,x.hi],.bool true]
 | none=>#[.agg #[(0:Int),(0:Int),(0:Int)],.bool false]
theorem catalog1_pred (Bk:Nat) (n:Int) (xs:List Cat) (w:World) (hb:Blk w Bk 3 #[n]):PredK 166 #[.pointer (some ⟨Bk,0,none⟩)] oneCatalog (fun x=>decide (x.ver=n)) xs w:=fun W x _ hk=>by
 have C:=hb.kpN hk;unfold oneCatalog;change Calls Tryz.prog 166 #[.agg #[x.ver,x.lo,x.hi],.pointer (some ⟨Bk,0,none⟩)] W fun e w'=>e=.returned (.bool (decide (x.ver=n)))∧Kp W.heap.size none W w';have hB:=C.lt;have C1:=C.alloc (.cells #[x.ver,x.lo,x.hi] 148);have cC:=C1.cell;have hne:Bk≠W.heap.size:=by omega
 go_enter Tryz.func166,Tryz.ntmps166
 go_wp2
 go_ret
 exact⟨ret_bool (by rw[Bool.eq_iff_iff];simp),Kp.new1 _ _⟩
theorem sky_catalog_any (A B C:Option Addr) (c e f:Nat) (S:Sky) (n:Int) (w:World) (hl:S.ct.length≤1000) (hA:SkyAt none w A B C S) :
  Calls Tryz.prog 126 #[.agg #[.slice A S.W.bs.length c,S.W.home,.slice B S.st.length e,.slice C S.ct.length f],n] w fun e w'=>e=.returned (.tuple (catalogV (S.catalog n)))∧Kp w.heap.size none w w':=by
 have r:=hA.2.2;have sp:=idx_spec (fun x:Cat=>decide (x.ver=n)) S.ct 0;obtain⟨v,hv⟩:∃ q9,Hid (q9=S.catalog n):=⟨_,Lib.hid rfl⟩;rw[← hv.out];obtain⟨w1,hw1,D,N,R,K,hz⟩:=box3 w 43 #[.slice A S.W.bs.length c,S.W.home,.slice B S.st.length e,.slice C S.ct.length f] 3 #[n] 148 #[(0:Int),(0:Int),(0:Int)];have ci:=indexCatalog_any 166 #[.pointer (some ⟨w.heap.size+1,0,none⟩)] (fun x=>decide (x.ver=n)) (enters_of Tryz.func166 (by kernel_rfl) rfl) C f S.ct w1 (catalog1_pred (w.heap.size+1) n S.ct w1 N) (r.kpN K) oM;have hvd:v=S.ct.find? (fun x:Cat=>decide (x.ver=n)):=hv.out;clear hv;generalize idxI (fun x:Cat=>decide (x.ver=n)) S.ct 0=ix at *;go_enter Tryz.func126,Tryz.ntmps126
 go_wp2_with fail
 rw[← hw1];clear hw1;refine ci.mono ?_;rintro e9 w2 ⟨rfl,k⟩;replace D:=D.kpN k;replace R:=R.kpN k;replace K:=K.tN k;clear k N ci;rcases sp with⟨rfl,e1⟩|⟨i,hi,rfl,e1,-,-⟩
 ·
  have hs:Hid (v=none):=Lib.hid (by rw[hvd,e1]);clear hvd e1 r hA hl;have cR:=R.cell;have fR:=R.frozen;go_wp2_with fail
  obtain⟨w3,hwn,P,kst,hzst⟩:=R.st3 (.int .i64 0) (.int .i64 0) (.int .i64 0);rw[← hwn];simp only[sbt,sc0,scs] at P;have K3:=K.thenOwn kst (Nat.le_refl _) oM;clear cR fR;have cR:=P.cell;exact bodyPost_ret (v:=.tuple (catalogV none)) (by simp[results,Tryz.results126,go_sem,cR];rfl) rfl ⟨by rw[hs.out],K3⟩
 ·
  have hs:Hid (v=some S.ct[i]):=Lib.hid (by rw[hvd,e1]);obtain⟨b,o,rfl,hlt,c0,c1,c2⟩:=(r.kpN K).cat hi;have hii:(i:Int)<(S.ct.length:Int):=by omega
  have hi0:(0:Int)≤(i:Int):=by omega
  have hng:¬ (i:Int)<0:=by omega
  rw[Int.zero_add];generalize S.ct[i]=x at *;clear hvd e1 r hA hl;have cD:=D.cell;have cR:=R.cell;have fR:=R.frozen;go_wp2_with fail
  obtain⟨w3,hwn,P,kst,hzst⟩:=R.st3 (.int .i64 x.ver) (.int .i64 x.lo) (.int .i64 x.hi);rw[← hwn];simp only[sbt,sc0,scs] at P;have K3:=K.thenOwn kst (Nat.le_refl _) oM;clear cR fR cD;have cR:=P.cell;exact bodyPost_ret (v:=.tuple (catalogV (some x))) (by simp[results,Tryz.results126,go_sem,cR];rfl) rfl ⟨by rw[hs.out],K3⟩
theorem Sky.station_mem {S:Sky} {n:Int} {x:Stn} (h:S.station n=some x):x∈S.st:=List.mem_of_find?_eq_some h
theorem Sky.catalog_mem {S:Sky} {n:Int} {x:Cat} (h:S.catalog n=some x):x∈S.ct:=List.mem_of_find?_eq_some h
theorem Wd.hb_eq {W:Wd} (h:W.home<W.bs.length):W.hb=W.bs[W.home]:=by
 unfold Wd.hb;rw[List.getD_eq_getElem?_getD,List.getElem?_eq_getElem h,Option.getD_some]
theorem sky_Where_any (A B C:Option Addr) (c e f:Nat) (S:Sky) (n t:Int) (x:Stn) (w:World) (hS:S.ok) (hA:SkyAt none w A B C S) (ht:0≤t∧t≤1073741824) (hx:S.station n=some x) :
  Calls Tryz.prog 127 #[.agg #[.slice A S.W.bs.length c,S.W.home,.slice B S.st.length e,.slice C S.ct.length f],n,t] w fun e9 w'=>e9=.returned (.tuple #[.agg #[.int .i64 ((S.W.hp t).x+x.ox),.int .i64 ((S.W.hp t).y+x.oy)],.bool true])∧Kp w.heap.size none w w':=by
 have ck:=fun w h=>sky_Check_any A B C c e f S w hS h;have ct:=fun w=>sky_within_any t 0 1073741824 w;rw[btw_t ht.1 ht.2] at ct;have cs:=fun w h=>sky_station_any A B C c e f S n w (by have:=hS.s1;omega) h;rw[hx] at cs;unfold stationV at cs;have xo:=hS.soff x (Sky.station_mem hx);have hp:=hS.W.hp t;have hh:=hS.W.home;have hbe:S.W.hp t=(S.W.bs[S.W.home]).at t:=by unfold Wd.hp;rw[Wd.hb_eq hh]
 have hbo:=hS.W.body _ (List.getElem_mem hh);have e1:wrap64 ((S.W.hp t).x+x.ox)=(S.W.hp t).x+x.ox:=by unfold wrap64;omega
 have e2:wrap64 ((S.W.hp t).y+x.oy)=(S.W.hp t).y+x.oy:=by unfold wrap64;omega
 obtain⟨hb0,hb0e⟩:∃ q9,Hid (q9=S.W.bs[S.W.home]'hh):=⟨_,Lib.hid rfl⟩;rw[← hb0e.out] at hbe hbo;have ca:=fun Bt cc w h=>track_at_any Bt cc hb0 t w hbo ht.1 h;rw[← hbe] at ca;generalize S.W.hp t=p at *;clear hbe hx hp xo ht hS hbo;obtain⟨w1,hw1,D,R,K,hz⟩:=box2 w 43 #[.slice A S.W.bs.length c,S.W.home,.slice B S.st.length e,.slice C S.ct.length f] 73 #[(0:Int),(0:Int)];go_enter Tryz.func127,Tryz.ntmps127
 go_wp2_with fail
 rw[← hw1];clear hw1;refine mK (ck _ (hA.kpN K)) fun w2 k=>?_;replace D:=D.kpN k;replace R:=R.kpN k;replace K:=K.thenN k oM;have hzk:=k.size;clear k;have cD:=D.cell;have fD:=D.frozen;have cR:=R.cell;have fR:=R.frozen;go_wp2_with fail
 refine mK (ct _) fun w3 k=>?_;clear cD fD cR fR;replace D:=D.kpN k;replace R:=R.kpN k;replace K:=K.thenN k oM;have hzk:=k.size;clear k;have cD:=D.cell;have fD:=D.frozen;have cR:=R.cell;have fR:=R.frozen;go_wp2_with fail
 refine mK (cs _ (hA.kpN K)) fun w4 k=>?_;clear cD fD cR fR;replace D:=D.kpN k;replace R:=R.kpN k;replace K:=K.thenN k oM;have hzk:=k.size;clear k;obtain⟨b,o,Bt,cc,hAe,hlt,d0,d1,d2,hr⟩:=hA.1.body S.W.home hh;rw[← hb0e.out] at d2 hr;have ca:=fun w=>ca Bt cc w;have d2':=(K.cell b _ hlt (by simp)).trans d2;have hr4:=hr.kpN K;have k1:=Kp.new1 w4 (.cells #[x.id,x.ox,x.oy] 146);have d2'':=(k1.cell b _ (Nat.lt_of_lt_of_le hlt K.size) (by simp)).trans d2';have hii:(S.W.home:Int)<(S.W.bs.length:Int):=by omega
 have hi0:(0:Int)≤(S.W.home:Int):=by omega
 have Z:=Blk.new w4 146 #[x.id,x.ox,x.oy];have D4:=D.kpN k1;have R4:=R.kpN k1;have K4:=K.tN k1;have cD:=D4.cell;subst hAe;clear ck ct cs d0 d1 d2 d2' hA;go_wp2_with fail
 refine(ca _ (hr4.kpN k1)).mono ?_;rintro e9 w5 ⟨rfl,k⟩;have Z5:=Z.kpN k;replace R:=R4.kpN k;replace K:=K4.tN k;clear k k1 Z D4 R4 K4 cD d2'' hr hr4;have cR:=R.cell;have fR:=R.frozen;have Z6:=Z5.alloc (.cells #[p.x,p.y] 73);have R6:=R.alloc (.cells #[p.x,p.y] 73);have K6:=K.alloc (by have:=K.size;omega) (.cells #[p.x,p.y] 73);clear cR fR;have cR:=R6.cell;have fR:=R6.frozen;have cZ:=Z6.cell;clear R K;go_wp2_with fail
 obtain⟨w7,hwn,P,kst,hzst⟩:=R6.st2 (.int .i64 (p.x+x.ox)) (.int .i64 (p.y+x.oy));rw[← hwn];simp only[sbt,sc0,scs] at P;have K7:=K6.thenOwn kst (Nat.le_refl _) oM;clear cR fR cZ;have cR:=P.cell;exact bodyPost_ret (v:=.tuple #[.agg #[.int .i64 (p.x+x.ox),.int .i64 (p.y+x.oy)],.bool true]) (by simp[results,Tryz.results127,go_sem,cR]) rfl ⟨rfl,K7⟩
end Go.Proofs.YtdhiappifnflpaaGreat
