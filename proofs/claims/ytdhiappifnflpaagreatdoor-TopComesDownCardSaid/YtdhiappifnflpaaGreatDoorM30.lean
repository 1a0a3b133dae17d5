/- Passages: the walks of span, second part: the corners of areas, one by one. Passages: the walks of span, third part: all, first. Passages: the walks of span, fourth part: first. -/
import Derived.Test.YtdhiappifnflpaaGreatDoorM28
import Derived.Test.YtdhiappifnflpaaGreatDoorM29
import Derived.RangeFuncLeaves
import Derived.RangeFuncBound
import Derived.RangeFuncCalls
import Derived.RangeFuncBox
import Derived.OwnWalkIn
import Derived.TacticsInMore
import Derived.LoopNIn
import Derived.LoopIn
import Derived.Shelf.Abstract
import Derived.Shelf.RegionOpen
set_option maxRecDepth 100000
set_option maxHeartbeats 4000000
namespace Go.Proofs.YtdhiappifnflpaaGreatDoor
open Go.RowKit
attribute [local go_sem] Oper.semAt_some
def toPt (p:Int × Int):Pt:=⟨p.1,p.2⟩
theorem pairs_crn (a:Ar):(pairsL a.x a.y).map toPt=a.crn:=rfl
theorem flat_split (ars:List Ar) (i:Nat) (h:i<ars.length):ars.flatMap Ar.crn=(ars.take i).flatMap Ar.crn++((pairsL ars[i].x ars[i].y).map toPt++(ars.drop (i+1)).flatMap Ar.crn)∧(ars.take (i+1)).flatMap Ar.crn=(ars.take i).flatMap Ar.crn++(pairsL ars[i].x ars[i].y).map toPt:=by
 constructor
 ·
  conv=>lhs;rw[(split_at ars i h).1]
  rw[List.flatMap_append,List.flatMap_cons,pairs_crn]
 · rw[List.take_succ_eq_append_getElem h,List.flatMap_append,List.flatMap_cons,List.flatMap_nil,List.append_nil,pairs_crn]
theorem yield_ne {P:Program} {l:Nat} {args:Array Value} {W:World} {R:Ending→World→Prop} {y:Nat} {T:TypeId} {cs:Array Value} (h:YieldAt Fence.wide 0 P l args W R) (hb:Blk W y T cs):y≠l:=by
 obtain⟨fn,tmps,assign,body,hy,-⟩:=h;rintro rfl;unfold Blk at hb;simp[Instr.yield,Instr.getLoop,getObj,Sem.run,Result.andThen,hb,go_sem] at hy
structure CrAt (ars:List Ar) (w0:World) (x yb l:Nat) (J:(Nat→Prop)→List Pt→World→Prop) (i:Nat) (T:Nat→Prop) (ds:List Nat) (wr:World):Prop where
 hi:i≤ars.length
 j:J T ((ars.take i).flatMap Ar.crn) wr
 kz:Kz w0.heap.size (fun k=>k=x) w0 wr
 y:Blk wr yb 204 #[.func (.yield l) #[] #[]]
 y0:w0.heap.size≤yb
 m:Marks ds wr
 dT:∀ D∈ds,T D
 dl:∀ D∈ds,l<D∧x<D
theorem scorners_seq (w0:World) (c:Nat) (B:Option Addr) (cap:Nat) (ars:List Ar) (x:Nat) (hasl:ars.length≤1000) (hr:Rd (some x) w0 4 encAr B ars.length ars) (hxl:x<w0.heap.size) (bC:Blk w0 c 221 #[.slice B ars.length cap]) (nC:c≠x) :
  SeqZ Tryz.prog 137 #[.pointer (some ⟨c,0,none⟩)] HdV (ars.flatMap Ar.crn) (fun _=>False) (fun k=>k=x) w0.heap.size (fun w'=>Kz w0.heap.size (fun k=>k=x) w0 w'):=by
 intro l J Jx W0 hl hJ hJx hY h0 hP;change Calls Tryz.prog 137 #[.func (.yield l) #[] #[],.pointer (some ⟨c,0,none⟩)] W0 (fun e W'=>(∃ v,e=.returned v)∧(J (fun _=>False) (ars.flatMap Ar.crn) W'∨∃ pre,Jx (fun _=>False) pre W'));replace hY:=Lib.hid hY;obtain⟨xs,hxs⟩:∃ q9,Hid (q9=ars.flatMap Ar.crn):=⟨_,Lib.hid rfl⟩;rw[← hxs.out] at hY ⊢;have C0:=(bC.kz hP bC.lt nC).alloc (.cells #[.func (.yield l) #[] #[]] 204);have Y0:=Blk.new W0 204 #[.func (.yield l) #[] #[]];have hP0:=hP.thenN (Kp.new1 W0 (.cells #[.func (.yield l) #[] #[]] 204)) hP.size;have hj0:=hJ.keepN h0 (Kp.new1 W0 (.cells #[.func (.yield l) #[] #[]] 204));have cC:=C0.cell;refine callsIn_wide.1 (callsIn_of_wp_marks (n:=0) (f:=137) (fn:=Tryz.f137) rfl rfl trivial ?_);simp only[Tryz.ntmps137,List.size_toArray,List.length_cons,List.length_nil,Nat.reduceAdd,Nat.reduceSub,Array.replicate_succ,Array.replicate_zero,List.push_toArray,List.append_toArray,List.nil_append,List.cons_append];gi_wp2_with fail
 obtain⟨yb,hyb⟩:∃ q9,q9=W0.heap.size:=⟨_,rfl⟩;have hy0:w0.heap.size≤yb:=by have:=hP.size;omega
 rw[← hyb] at Y0 ⊢;clear hyb cC C0 hP h0;refine wpIn_loop (fun a' w'=>∃ (i:Nat) (T:Nat→Prop) (ds:List Nat) (u4 u5 u6 u10 u11 u12 u13 u14 u15 u16 u17 u18 u19 u20 u21 u22 u23 u24 u25 u26:Value),a'={ tmps:=(.func (.yield l) #[] #[]::.pointer (some ⟨c,0,none⟩)::.pointer (some ⟨yb,0,none⟩)::undef::u4::u5::u6::.slice B ars.length cap::.int .i64 ars.length::.int .i64 i::u10::u11::u12::u13::u14::u15::u16::u17::u18::u19::u20::u21::u22::u23::u24::u25::u26::[]:List Value).toArray,defers:=ds.map mark }∧CrAt ars w0 x yb l J i T ds w') (fun a' _=>ars.length-(intOf (a'.tmps.getD 9 undef)).toNat) ?_ ?_
 · exact⟨0,fun _=>False,[],_,_,_,_,_,_,_,_,_,_,_,_,_,_,_,_,_,_,_,_,rfl,⟨Nat.zero_le _,hj0,hP0,Y0,hy0,⟨List.nodup_nil,by simp⟩,by simp,by simp⟩⟩
 ·
  clear hj0 hP0 Y0 hy0;rintro a' wr ⟨i,T,ds,u4,u5,u6,u10,u11,u12,u13,u14,u15,u16,u17,u18,u19,u20,u21,u22,u23,u24,u25,u26,rfl,HH⟩;by_cases h:i<ars.length
  ·
   have hkz:=HH.kz;have hrw:=hr.kp hkz.one;obtain⟨b,o,hB,hlt,hbx,hc⟩:=hrw.at_ oM;have c0:=hc i h 0 _ rfl;have c1:=hc i h 1 _ rfl;have c2:=hc i h 2 _ rfl;have c3:=hc i h 3 _ rfl;rw[Nat.add_zero] at c0;rw[← Nat.add_assoc] at c1 c2 c3;obtain⟨hx1,hx2⟩:=flat_split ars i h;rw[← hxs.out] at hx1;have hii:(i:Int)<(ars.length:Int):=by omega
   have hi0:(0:Int)≤(i:Int):=by omega
   have hwi:wrap64 ((i:Int)+1)=((i+1:Nat):Int):=by unfold wrap64;push_cast;omega
   obtain⟨hll,hynl⟩:l<wr.heap.size∧yb≠l:=by
    obtain⟨rest,e⟩:∃ rest,xs=(ars.take i).flatMap Ar.crn++(⟨ars[i].x.lo,ars[i].y.lo⟩:Pt)::rest:=⟨_,by rw[hx1];rfl⟩;exact⟨yield_lt (hY.out T _ _ _ _ wr e HH.j rfl),yield_ne (hY.out T _ _ _ _ wr e HH.j rfl) HH.y⟩
   obtain⟨a,ha⟩:∃ q9,Hid (q9=ars[i]):=⟨_,Lib.hid rfl⟩;rw[← ha.out] at hx1 hx2 c0 c1 c2 c3;clear ha hc hrw hr bC;obtain⟨tl,htl⟩:∃ q9,Hid (q9=(ars.drop (i+1)).flatMap Ar.crn):=⟨_,Lib.hid rfl⟩;rw[← htl.out] at hx1;obtain⟨hd9,hhd⟩:∃ q9,Hid (q9=(ars.take i).flatMap Ar.crn):=⟨_,Lib.hid rfl⟩;rw[← hhd.out] at hx1 hx2;replace hx1:=Lib.hid hx1;replace hx2:=Lib.hid hx2;replace h:=Lib.hid h;clear htl hxs;subst hB;have hj1:=hJ.keepN HH.j (Kp.new1 wr (.cells #[a.x.lo,a.x.hi,a.y.lo,a.y.hi] 53));rw[← hhd.out] at hj1;clear hhd;have Y1:=HH.y.alloc (.cells #[a.x.lo,a.x.hi,a.y.lo,a.y.hi] 53);gi_wp2_with fail
   refine⟨trivial,rfl,(callsIn_wide.2 (span_pairs_any a.x a.y _)).mono ?_⟩;rintro e9 w3 ⟨c',rfl,hc',C',k3⟩;replace hj1:=hJ.keepN hj1 k3;replace Y1:=Y1.kpN k3;have hz3:wr.heap.size+1≤w3.heap.size:=by have:=k3.size;simpa using this
   have K3:Kp wr.heap.size none wr w3:=(Kp.new1 wr (.cells #[a.x.lo,a.x.hi,a.y.lo,a.y.hi] 53)).trans (k3.mono (by simp));clear k3 c0 c1 c2 c3 hlt hbx;have hds:∀ D∈ds,D<wr.heap.size:=fun D hD=>(Array.getElem?_eq_some_iff.1 (HH.m.2 D hD)).1;have hxw:x<wr.heap.size:=by have:=hkz.size;omega
   gi_wp2_with fail
   refine wpIn_wide.2 (wp_rangeFunc_a (gf:=149) (lb:=#[.pointer (some ⟨c',0,none⟩)]) rfl (enters_of Tryz.func149 (by kernel_rfl) rfl) (pairs_seq c' a.x a.y (fun k=>k=x∨k=l) (by simp at hc';omega)) (Nat.zero_le _) (fun w' k=>C'.kpN k) (by rintro p v W rfl;rfl) (fun _ h=>h.elim) (fun k hk=>by omega)
    (InC (fun k=>k∈ds∨k=w3.heap.size∨k=w3.heap.size+1) J (fun pre=>hd9++pre.map toPt)) (InX (fun k=>k∈ds∨k=w3.heap.size∨k=w3.heap.size+1) Jx) (InC.abide hJ) (InX.abide hJx) (InC.put hJ (.inr (.inr rfl))) (fun c=>InX.put hJx (.inr (.inr rfl)) c) ⟨T,?h0,fun _ h=>h.elim,by simpa using hj1⟩ ?round ?done ?stop)
   case h0=>
    intro k hk hlt;rcases hk with hk|hk|hk
    · exact HH.dT k hk
    · omega
    · omega
   case round=>
    rintro l2 S pre p rest vals W K1 hps hC rfl hl2 hsz hkz2 hS hK;have hx3:∃ rest',xs=(hd9++pre.map toPt)++toPt p::rest':=⟨rest.map toPt++tl,by rw[hx1.out,hps];simp⟩;clear hps hC;have e0:(#[18,19].zip #[Value.int .i64 p.1,Value.int .i64 p.2]:Array (Nat × Value))=#[(18,.int .i64 p.1),(19,.int .i64 p.2)]:=by simp
    rw[e0];clear e0;simp only[List.foldl_toArray',List.foldl_cons,List.foldl_nil,sbt,sc0,scs];gi_wp2
    refine hK _ _ (Kp.refl _ _ _) (fun W2 kr hsz2 hrec hC2=>?_);clear hK K1;obtain⟨T2,g1,g2,hj2⟩:=hC2;have hyl:=Y1.lt;have hy0:=HH.y0;have Y2:=(Y1.kz hkz2 hyl (by rintro ((e|e)|e);exact absurd e oM;exact hynl e;exact e)).kp kr (by have:=hkz2.size;omega) oN;obtain⟨rest',hx3⟩:=hx3;obtain⟨fn,tmps,assign,body,hy,hR⟩:=hY.out T2 (hd9++pre.map toPt) (toPt p) rest' #[.agg #[.int .i64 p.1,.int .i64 p.2]] W2 hx3 hj2 rfl
    have hRs:∀ k,(k∈ds∨k=w3.heap.size∨k=w3.heap.size+1)→k<W2.heap.size:=fun k hk=>by
     rcases hk with hk|hk|hk
     · have:=hds k hk;omega
     · omega
     · omega
    have hap:hd9++pre.map toPt++[toPt p]=hd9++(pre++[p]).map toPt:=by simp
    rw[hap] at hR;clear hap hx3 hj2 hkz2 hsz hrec hl2;have cY:=Y2.cell;gi_wp2
    refine⟨rfl,hR.mono ?_⟩;rintro e9 W4 (⟨rfl,hJ4,hk4⟩|⟨rfl,hJx4,hk4⟩)
    ·
     gi_wp2
     exact⟨hk4.less (Nat.le_refl _) (fun _ _ e=>.inl e),T2,fun k hk _=>g1 k hk (hRs k hk),g2,hJ4⟩
    ·
     gi_wp2
     exact⟨hk4.less (Nat.le_refl _) (fun _ _ e=>e),rfl,T2,_,fun k hk _=>g1 k hk (hRs k hk),g2,hJx4⟩
   case done=>
    intro W hC hkz2 hD hsz;obtain⟨T2,g1,-,hj2⟩:=hC
    have hmk:Marks (w3.heap.size::ds) W:=⟨List.nodup_cons.2 ⟨fun hm=>by have:=hds _ hm;omega,HH.m.1⟩,fun D hm=>by
     rcases List.mem_cons.1 hm with rfl|hm
     · exact hD
     ·
      have h1:=hds D hm;have h2:=HH.dl D hm;exact(hkz2.block D oM (by rintro ((e|e)|e);exact absurd e oM;exact absurd e oM;exact e)).trans ((K3.block D h1 (by simp)).trans (HH.m.2 D hm))⟩
    have hdT:∀ D∈w3.heap.size::ds,T2 D:=fun D hm=>by
     rcases List.mem_cons.1 hm with rfl|hm
     · exact g1 _ (.inr (.inl rfl)) oM
     · exact g1 _ (.inl hm) (by have:=hds D hm;omega)
    have hyl:=Y1.lt;have hy0:=HH.y0;have hkw:=hkz.size
    have HC:CrAt ars w0 x yb l J (i+1) T2 (w3.heap.size::ds) W:=⟨h.out,by rw[hx2.out];exact hj2,
     (hkz.trans (Kz.ofN (K3.mono hkw))).trans (hkz2.less oM (fun k hk e=>by rcases e with(e|e)|e;exact e;omega;exact e.elim)),
     Y1.kz hkz2 hyl (by rintro ((e|e)|e);exact absurd e oM;exact hynl e;exact e),hy0,hmk,hdT,fun D hm=>by
      rcases List.mem_cons.1 hm with rfl|hm
      · omega
      · exact HH.dl D hm⟩
    have hm9:Hid (ars.length-((i+1:Nat):Int).toNat<ars.length-((i:Nat):Int).toNat):=Lib.hid (by have:=h.out;omega);clear hmk hdT hj2 hkz2 hD hsz hj1 Y1 HH hkz K3 hds C' hx1 hx2;replace HC:=Lib.hid HC;dsimp only;gi_wp2
    exact⟨⟨i+1,T2,w3.heap.size::ds,⟨by simp,rfl⟩,HC.out⟩,hm9.out⟩
   case stop=>
    rintro cc pre W ⟨rfl,T2,p,g1,-,hjx⟩ hkz2 hD hsz
    have hmk:Marks (w3.heap.size::ds) W:=⟨List.nodup_cons.2 ⟨fun hm=>by have:=hds _ hm;omega,HH.m.1⟩,fun D hm=>by
     rcases List.mem_cons.1 hm with rfl|hm
     · exact hD
     ·
      have h1:=hds D hm;have h2:=HH.dl D hm;exact(hkz2.block D oM (by rintro ((e|e)|e);exact absurd e oM;exact absurd e oM;exact e)).trans ((K3.block D h1 (by simp)).trans (HH.m.2 D hm))⟩
    have hdT:∀ D∈w3.heap.size::ds,T2 D:=fun D hm=>by
     rcases List.mem_cons.1 hm with rfl|hm
     · exact g1 _ (.inr (.inl rfl)) oM
     · exact g1 _ (.inl hm) (by have:=hds D hm;omega)
    clear hkz2 hD hsz hj1 Y1 HH hkz K3 hds C' hx1 hx2;gi_wp2
    exact leaves_marks (v:=.tuple #[]) (fun W=>Jx T2 p W) (fun w _=>results_none rfl _ _ _) (w3.heap.size::ds) _ hmk (fun W D hD hj=>J_put hJx _ (hdT D hD) hj) (fun W hj=>⟨⟨_,rfl⟩,.inr ⟨p,hJx.less _ _ _ _ hj fun _ h=>h.elim⟩⟩) hjx
  ·
   obtain rfl:i=ars.length:=by have:=HH.hi;omega
   have hj:=HH.j;rw[List.take_length,← hxs.out] at hj;gi_wp2
   exact leaves_marks (v:=.tuple #[]) (fun W=>J T xs W) (fun w _=>results_none rfl _ _ _) ds _ HH.m (fun W D hD hj=>J_put hJ _ (HH.dT D hD) hj) (fun W hj=>⟨⟨_,rfl⟩,.inl (hJ.less _ _ _ _ hj fun _ h=>h.elim)⟩) hj
end Go.Proofs.YtdhiappifnflpaaGreatDoor
namespace Go.Proofs.YtdhiappifnflpaaGreatDoor
open Go.RowKit
attribute [local go_sem] Oper.semAt_some
theorem span_corners_any (B:Option Addr) (n c:Nat) (w:World) :
  Calls Tryz.prog 103 #[.slice B n c] w fun e w'=>e=.returned (.func (.func 137) #[] #[.pointer (some ⟨w.heap.size,0,none⟩)])∧Blk w' w.heap.size 221 #[.slice B n c]∧w'.heap.size=w.heap.size+1∧Kp w.heap.size none w w':=by
 have A:=Blk.new w 221 #[.slice B n c];go_enter Tryz.func103,Tryz.ntmps103
 go_wp2_with fail
 exact bodyPost_ret (by simp[results,Tryz.results103,go_sem]) rfl ⟨rfl,A,by simp,Kp.new1 _ _⟩
theorem Rd.off {α:Type} {w:World} {sz n x:Nat} {enc:α→List Value} {A:Option Addr} {xs:List α} (h:Rd none w sz enc A n xs) (hA:∀ ad,A=some ad→ad.block≠x):Rd (some x) w sz enc A n xs:=by
 refine⟨h.1,fun hn=>?_⟩;obtain⟨b,o,rfl,hb,-,h5⟩:=h.2 hn;exact⟨b,o,rfl,hb,sne (hA _ rfl),h5⟩
theorem seq_two (w0:World) (c b:Nat) (a a2:Ar) (x:Nat) (hxl:x<w0.heap.size) (B:Blk w0 b 53 ((a:Array Value)++#[.int .i64 a2.x.lo,.int .i64 a2.x.hi,.int .i64 a2.y.lo,.int .i64 a2.y.hi])) (hb:b≠x) (bC:Blk w0 c 221 #[.slice (some ⟨b,0,none⟩) 2 2]) (nC:c≠x) :
  SeqZ Tryz.prog 137 #[.pointer (some ⟨c,0,none⟩)] HdV (crn2 a a2) (fun _=>False) (fun k=>k=x) w0.heap.size (fun w'=>Kz w0.heap.size (fun k=>k=x) w0 w'):=by
 have:=scorners_seq w0 c (some ⟨b,0,none⟩) 2 [a,a2] x (by simp) ((rd_ar2 B).off fun ad e=>by injection e with e;rw[← e];exact hb) hxl bC nC;have e:[a,a2].flatMap Ar.crn=crn2 a a2:=by simp[crn2]
 rwa [e] at this
theorem crn_bd {a:Ar} {M:Int} (h:a.bd M):∀ p∈a.crn,-M≤p.x∧p.x≤M∧-M≤p.y∧p.y≤M:=by
 unfold Ar.bd Sp.bd at h;intro p hp;simp only[Ar.crn,List.mem_cons,List.not_mem_nil,or_false] at hp;rcases hp with rfl|rfl|rfl|rfl<;>simp only<;>omega
end Go.Proofs.YtdhiappifnflpaaGreatDoor
namespace Go.Proofs.YtdhiappifnflpaaGreatDoor
open Go.RowKit
attribute [local go_sem] Oper.semAt_some
theorem crn2_bd {a b:Ar} {M:Int} (ha:a.bd M) (hb:b.bd M):∀ p∈crn2 a b,-M≤p.x∧p.x≤M∧-M≤p.y∧p.y≤M:=by
 intro p hp;unfold crn2 at hp;rcases List.mem_append.1 hp with h|h
 · exact crn_bd ha p h
 · exact crn_bd hb p h
theorem span_first_any (p0:Pt) (a b:Ar) (w:World) (hp0:Sm p0) (ha:a.bd 1073741824) (hb:b.bd 1073741824) :
  Calls Tryz.prog 104 #[.agg #[p0.x,p0.y],a,b] w fun e w'=>e=.returned (.bool (firstP (crn2 a b) p0))∧Kp w.heap.size none w w':=by
 obtain⟨rr,hrr⟩:∃ q9,Hid (q9=firstP (crn2 a b) p0):=⟨_,Lib.hid rfl⟩;rw[← hrr.out];obtain⟨L,hL⟩:∃ q9,Hid (q9=crn2 a b):=⟨_,Lib.hid rfl⟩;have hcb:=crn2_bd ha hb;rw[← hL.out] at hcb;obtain⟨f,hf⟩:∃ f:Pt→Bool,Hid (f=fun q=>decide (0≤crs p0 q)):=⟨_,Lib.hid rfl⟩;have hfr:Hid (rr=L.all f):=Lib.hid (by rw[hrr.out,hf.out,hL.out];rfl);obtain⟨G9,hG9⟩:∃ G:Prop,Hid (G=(L.all f=false)):=⟨_,Lib.hid rfl⟩;replace hcb:=Lib.hid hcb;clear hrr ha hb;obtain⟨w1,hw1,P,A,B,R,K,hz⟩:=box4 w 45 #[p0.x,p0.y] 53 a 53 b 4 #[.bool false];refine calls_of_wp_m Tryz.func104 rfl ?_;simp only[Tryz.ntmps104,List.size_toArray,List.length_cons,List.length_nil,Nat.reduceAdd,Nat.reduceSub,Array.replicate_succ,Array.replicate_zero,List.push_toArray,List.append_toArray,List.nil_append,List.cons_append];go_wp2_with fail
 rw[← hw1];clear hw1 A B;change Calls _ _ _ (w1.alloc (.cells #[a.x.lo,a.x.hi,a.y.lo,a.y.hi,b.x.lo,b.x.hi,b.y.lo,b.y.hi] 53)) _;have Z:=Blk.newAt w1 53 #[a.x.lo,a.x.hi,a.y.lo,a.y.hi,b.x.lo,b.x.hi,b.y.lo,b.y.hi] (n:=w.heap.size+4) oM;have k1:=Kp.new1 w1 (.cells #[a.x.lo,a.x.hi,a.y.lo,a.y.hi,b.x.lo,b.x.hi,b.y.lo,b.y.hi] 53);replace P:=P.kpN k1;replace R:=R.kpN k1;replace K:=K.thenN k1 oM;have hz2:(w1.alloc (.cells #[a.x.lo,a.x.hi,a.y.lo,a.y.hi,b.x.lo,b.x.hi,b.y.lo,b.y.hi] 53)).heap.size=w.heap.size+5:=by simp;omega
 clear k1 hz;generalize w1.alloc (.cells #[a.x.lo,a.x.hi,a.y.lo,a.y.hi,b.x.lo,b.x.hi,b.y.lo,b.y.hi] 53)=w2 at *;refine(span_corners_any (some ⟨w.heap.size+4,0,none⟩) 2 2 _).mono ?_;rintro e w4 ⟨rfl,C,hz4,k⟩;replace P:=P.kpN k;replace Z:=Z.kpN k;replace R:=R.kpN k;replace K:=K.thenN k oM;rw[hz2] at C hz4 ⊢;clear k hz2;go_wp2_with fail
 have hR:=R.lt;have hseq:=seq_two w4 (w.heap.size+5) (w.heap.size+4) a b (w.heap.size+3) hR Z oM C oM;rw[← hL.out] at hseq
 refine wp_rangeFunc_z (gf:=137) (lb:=#[.pointer (some ⟨w.heap.size+5,0,none⟩)]) rfl (enters_of Tryz.func137 (by kernel_rfl) rfl) hseq (Nat.le_refl _) (fun w' k=>Kz.ofN k) (by rintro p v W rfl;rfl) (fun _ h=>h.elim) (fun k hk=>by rw[hk];exact hR)
  (AllB f (w.heap.size+3)) (StopB false G9 (w.heap.size+3)) (AllB.abide f _) (StopB.abide _ _ _) (AllB.put _ _ _) (fun c=>StopB.put _ _ _ c _) ⟨rfl,R,id⟩ ?round ?done ?stop
 case round=>
  rintro l S9 pre p rest vals W K1 hxs hC rfl hl hsz hkz hS hK;have hl1:w4.heap.size<l:=by omega
  have hl2:l<W.heap.size:=by omega
  clear hl;have hp:=hcb.out p (by rw[hxs];simp);have hno:f p=false→G9:=fun e=>by rw[hG9.out,hxs];simp[e]
  have hyes:f p=true→(pre++[p]).all f=true:=fun e=>by have:pre.all f=true:=hC.1;simp[this,e]
  have cc:=fun w=>span_Cross_any p0 p hp0 hp w;have hfe:f p=true∨f p=false:=by cases f p<;>simp
  have hft:crs p0 p<0→G9:=fun h=>hno (by rw[hf.out];simpa using h);have hff:¬ crs p0 p<0→(pre++[p]).all f=true:=fun h=>hyes (by rw[hf.out];simpa using h);replace hft:=Lib.hid hft;replace hff:=Lib.hid hff;clear hxs hC hS hp hno hyes hfe;have e0:(#[12].zip #[Value.agg #[p.x,p.y]]:Array (Nat × Value))=#[(12,.agg #[p.x,p.y])]:=by simp
  rw[e0];clear e0;simp only[List.foldl_toArray',List.foldl_cons,List.foldl_nil,sbt,sc0,scs];gi_wp2_with fail
  refine hK _ _ (Kp.new1 _ _) (fun W3 kr hsz3 hrec hC3=>?_);have hzz:=hkz.size;have X3:=(Blk.new W 45 #[p.x,p.y]).kp kr (by simp) oN;have P3:=((P.kz hkz P.lt (by rintro (e|e);exact absurd e oM;exact e)).kpN (Kp.new1 W (.cells #[p.x,p.y] 45))).kp kr (by have:=P.lt;simp;omega) (sne (by have:=P.lt;omega));obtain⟨hpre,R3,hSx⟩:=hC3;clear hK K1 hrec hkz hsz C K P Z R hseq;obtain⟨y3,hy3⟩:∃ q9,q9=W.heap.size:=⟨_,rfl⟩;rw[← hy3] at X3 ⊢;clear hy3 kr hsz3;have cX:=X3.cell;have cP:=P3.cell;gi_wp2_with fail
  refine⟨trivial,rfl,(CallsIn.inRound _ (callsIn_wide.2 (cc _))).mono ?_⟩;rintro e W4 ⟨⟨n,rfl,hn⟩,k4⟩;replace R3:=R3.kpN k4;clear cX cP X3 P3 cc;have cR:=R3.cell;have fR:=R3.frozen;by_cases hlt:n<0
  ·
   have hg:=Lib.hid (hft.out (hn.1 hlt));clear hn;gi_wp2
   obtain⟨W6,hwn,R9,kst,hzst⟩:=R3.st1 (.bool false);rw[← hwn];exact⟨(Kz.ofN k4).then_ kst k4.size (fun r e _=>by injection e with e;exact e.symm),rfl,hg.out,R9,hSx⟩
  ·
   have hg:=Lib.hid (hff.out (by first|exact(fun h=>hlt (hn.2 h))|(rcases Int.lt_or_le (crs p0 p) 0 with h|h;exact absurd (hn.2 h) hlt;exact h)));clear hn;gi_wp2
   exact⟨Kz.ofN k4,hg.out,R3,hSx⟩
 case done=>
  intro W hC hkz hD hsz;obtain⟨hall,R2,-⟩:=hC;have hr2:Hid (rr=true):=Lib.hid (by rw[hfr.out];exact hall);have cR:=R2.cell;have fR:=R2.frozen;have K2:=K.trans (hkz.under (N:=w.heap.size) (by have:=K.size;omega) oM);have hKs:=K.size;clear hkz hall hfr C R K P Z hseq;replace hD:=Lib.hid hD;dsimp only;go_wp2_with fail
  obtain⟨W5,hwn,R5,kst,hzst⟩:=R2.st1 (.bool true);rw[← hwn];have D5:W5.heap[w4.heap.size]?=some (.deferred (some [])):=(kst.block _ oM oN).trans hD.out;have K5:=K2.thenOwn kst oM oM;have R6:=R5.put_ (.deferred none) D5 rfl;clear hwn cR fR;have cR:=R6.cell;simp only[List.setIfInBounds_toArray,List.set_cons_zero] at cR;exact postM_mark (v:=.bool true) rfl D5 (by simp[results,Tryz.results104,go_sem,cR]) ⟨by rw[hr2.out],mark_kp K5 oM⟩
 case stop=>
  rintro c pre W ⟨rfl,hall,R2,-⟩ hkz hD hsz;have hr2:Hid (rr=false):=Lib.hid (by rw[hG9.out] at hall;rw[hfr.out];exact hall);have K2:=K.trans (hkz.under (N:=w.heap.size) (by have:=K.size;omega) oM);have hKs:=K.size;clear hkz hall hfr C R K P Z hseq;have R6:=R2.put_ (.deferred none) hD rfl;have cR:=R6.cell;dsimp only;gi_wp2
  exact postM_mark (v:=.bool false) rfl hD (by simp[results,Tryz.results104,go_sem,cR]) ⟨by rw[hr2.out],mark_kp K2 oM⟩
end Go.Proofs.YtdhiappifnflpaaGreatDoor
