/- What moves a small body: the walks of force, ninth part: what is asked. A drawn region in a forced order, within a round of a range over a function. Plain theory, no program. What moves a small body in an area: Over. What moves a small body in an area: Over: the walk. -/
import Derived.Test.YtdhiappifnflpaaGreatDoorM22
import Derived.Test.YtdhiappifnflpaaGreatDoorIz
import Derived.Test.YtdhiappifnflpaaGreatDoorM03
import Derived.OrdersIn
import Derived.RangeFuncLeaves
import Derived.RangeFuncBound
import Derived.RangeFuncCalls
import Derived.RangeFuncBox
import Derived.OwnWalkIn
import Derived.TacticsInMore
import Derived.LoopNIn
import Derived.LoopIn
import Derived.Shelf.Abstract
import Derived.Shelf.RegionOpen
set_option maxRecDepth 100000
set_option maxHeartbeats 4000000
namespace Go.Proofs.YtdhiappifnflpaaGreatDoor
open Go.RowKit
theorem span_CheckArea_any (a:Ar) (ha:a.bd 268435456) (w:World) :
  Calls Tryz.prog 43 #[a] w fun e w'=>e=.returned (.int .i64 0)∧Kp w.heap.size none w w':=by
 have hv:=fun w=>span_valid_any a.x a.y (ha.1.fit (by decide)) (ha.2.fit (by decide)) w;have h:=ha;unfold Ar.bd Sp.bd at h
 have hf:=fun w (b:Nat) (hB:Blk w b 2 a)=>span_far_any (some ⟨b,0,none⟩) 4 [a.x.lo,a.x.hi,a.y.lo,a.y.hi] w (rd_int4 hB) (by simp) (by
  intro z hz;simp only[List.mem_cons,List.not_mem_nil,or_false] at hz;unfold Fr1;rcases hz with rfl|rfl|rfl|rfl<;>omega)
 simp only[List.length_cons,List.length_nil,Nat.reduceAdd] at hf;clear ha h;obtain⟨w1,hw1,A,K,hz⟩:=box1 w 53 a;go_enter Tryz.func43,Tryz.ntmps43
 go_wp2_with fail
 rw[← hw1];clear hw1;refine mK (hv _) fun w2 k=>?_;replace A:=A.kpN k;replace K:=K.thenN k oM;have hzk:=k.size;clear k;have pA:=A.cell;obtain⟨w9_,rfl,L,k9_,hzn⟩:=box1 w2 2 a;replace A:=A.kpN k9_;replace K:=K.thenN k9_ oU;clear k9_;have cA:=A.cell;have fA:=A.frozen;go_wp2_with fail
 clear cA fA pA;generalize (w2.alloc (.cells a 2))=w3 at *;obtain⟨x,hx⟩:∃ q9,q9=w2.heap.size:=⟨_,rfl⟩;rw[← hx] at L ⊢;replace hx:=Lib.hid hx;refine mK (hf _ _ L) fun w4 k=>?_;replace A:=A.kpN k;replace K:=K.tN k;clear k;have cA:=A.cell;have fA:=A.frozen;go_wp2_with fail
 clear cA fA;go_ret
 exact⟨rfl,K⟩
theorem index2s_0 (p q r s:Int) (w:World):(Instr.index 251 (.agg #[p,q,r,s]) (.int .i64 0)).run Tryz.prog w=.ok (.agg #[p,q]) w:=by kernel_rfl
theorem index2s_1 (p q r s:Int) (w:World):(Instr.index 251 (.agg #[p,q,r,s]) (.int .i64 1)).run Tryz.prog w=.ok (.agg #[r,s]) w:=by kernel_rfl
theorem force_asked_any (A:Option Addr) (c:Nat) (W:Wd) (d:Dr) (t:Int) (a:Ar) (w:World) (hW:W.ok) (hA:WdAt none w A W) (hd:d.ok) (ht:0≤t∧t≤1073741824) (ha:a.bd 33554432) :
  Calls Tryz.prog 152 #[.agg #[.slice A W.bs.length c,W.home],d,t,a] w fun e w'=>e=.returned (.int .i64 0)∧Kp w.heap.size none w w':=by
 have cw:=fun w h=>sky_CheckWorld_any A c W w hW h;have cd:=fun w=>force_CheckDrift_any d hd w;have ct:=fun w=>fwithin_t ht.1 ht.2 w;have ca:=fun w=>span_CheckArea_any a (by unfold Ar.bd Sp.bd at *;omega) w;have i0:=index2s_0;have i1:=index2s_1;have n1:¬ a.x.lo < -33554432:=by unfold Ar.bd Sp.bd at ha;omega
 have n2:¬ 33554432<a.x.hi:=by unfold Ar.bd Sp.bd at ha;omega
 have n3:¬ a.y.lo < -33554432:=by unfold Ar.bd Sp.bd at ha;omega
 have n4:¬ 33554432<a.y.hi:=by unfold Ar.bd Sp.bd at ha;omega
 clear hd ht ha hW;obtain⟨w1,hw1,D,F,R,K,hz⟩:=box3 w 27 #[.slice A W.bs.length c,W.home] 31 d 53 a;go_enter Tryz.func152,Tryz.ntmps152
 go_wp2_with fail
 rw[← hw1];clear hw1;refine mK (cw _ (hA.kpN K)) fun w2 k=>?_;replace D:=D.kpN k;replace F:=F.kpN k;replace R:=R.kpN k;replace K:=K.thenN k oM;have hzk:=k.size;clear k;have cD:=D.cell;have fD:=D.frozen;have cF:=F.cell;have fF:=F.frozen;have cR:=R.cell;have fR:=R.frozen;go_wp2_with fail
 refine mK (cd _) fun w3 k=>?_;clear cD fD cF fF cR fR;replace D:=D.kpN k;replace F:=F.kpN k;replace R:=R.kpN k;replace K:=K.thenN k oM;have hzk:=k.size;clear k;have cD:=D.cell;have fD:=D.frozen;have cF:=F.cell;have fF:=F.frozen;have cR:=R.cell;have fR:=R.frozen;go_wp2_with fail
 refine mK (ct _) fun w4 k=>?_;clear cD fD cF fF cR fR;replace D:=D.kpN k;replace F:=F.kpN k;replace R:=R.kpN k;replace K:=K.thenN k oM;have hzk:=k.size;clear k;have cD:=D.cell;have fD:=D.frozen;have cF:=F.cell;have fF:=F.frozen;have cR:=R.cell;have fR:=R.frozen;go_wp2_with fail
 refine mK (ca _) fun w5 k=>?_;clear cD fD cF fF cR fR;replace D:=D.kpN k;replace F:=F.kpN k;replace R:=R.kpN k;replace K:=K.thenN k oM;have hzk:=k.size;clear k;have cR:=R.cell;have fR:=R.frozen;go_wp2_with fail
 clear cR fR;go_loopw [37] (fun v wr=>∃ i:Nat,v=.int .i64 i∧i≤2∧Kp w.heap.size none w wr) (fun v _=>2-(intOf v).toNat)
 case atStart=>exact⟨0,rfl,by omega,K⟩
 case round=>
  obtain⟨i,rfl,hi,KK⟩:=hrel;clear K D F R cw cd ct ca;obtain rfl|rfl|rfl:i=0∨i=1∨i=2:=by omega
  ·
   rw[show ((0:Nat):Int)=(0:Int) from rfl];go_wp2
   go_roundw
   case rel=>exact⟨1,rfl,by omega,KK.thenN (Kp.new1 _ _) (Nat.le_refl _)⟩
   case measure=>simp[intOf]
  ·
   rw[show ((1:Nat):Int)=(1:Int) from rfl];go_wp2
   go_roundw
   case rel=>exact⟨2,rfl,by omega,KK.thenN (Kp.new1 _ _) (Nat.le_refl _)⟩
   case measure=>simp[intOf]
  ·
   go_wp2
   go_ret
   exact⟨rfl,KK⟩
theorem force_pulls_any (A:Option Addr) (c:Nat) (W:Wd) (t:Int) (a:Ar) (w:World) :
  Calls Tryz.prog 153 #[.agg #[.slice A W.bs.length c,W.home],t,a] w fun e w'=>e=.returned (.func (.func 171) #[] #[.pointer (some ⟨w.heap.size,0,none⟩),.pointer (some ⟨w.heap.size+1,0,none⟩),.pointer (some ⟨w.heap.size+2,0,none⟩)]) ∧
   Blk w' w.heap.size 27 #[.slice A W.bs.length c,W.home]∧Blk w' (w.heap.size+1) 2 #[t]∧Blk w' (w.heap.size+2) 53 a∧Kp w.heap.size none w w'∧w'.heap.size=w.heap.size+3:=by
 obtain⟨w1,hw1,D,T,R,K,hz⟩:=box3 w 27 #[.slice A W.bs.length c,W.home] 2 #[t] 53 a;go_enter Tryz.func153,Tryz.ntmps153
 go_wp2_with fail
 rw[← hw1];exact bodyPost_ret (by simp[results,Tryz.results153,go_sem]) rfl ⟨rfl,D,T,R,K,hz⟩
theorem operIn_of {P:Program} {o:Oper} {a:Act} {w:World} {K:Act→World→Prop} {Q:Exit→Act→World→Prop} (l:Nat) (hd:∀ c,o.op≠.defer c) (h:o.wp P a w K Q):o.wpIn (Fence.wide.inRound l) 0 P a w K Q:=by
 unfold Oper.wp at h;refine⟨fun _ _=>trivial,?_⟩;rw[show (Fence.wide.inRound l).round=some l from rfl,Oper.semAt_some l _ o hd];generalize (execOp a.eval o).run P w=r at *;cases r with
 | ok x w'=>
  cases x with
  | value v=>exact h
  | skip=>exact h
  | defer d=>exact h
  | enter f args=>exact⟨fun e=>(by cases e),CallsIn.inRound l (callsIn_wide.2 h)⟩
  | row r args=>exact⟨fun e=>(by cases e),fun c cs _=>let ⟨v,w',q,s⟩:=h c cs;⟨v,w',q,stepsIn_wide.2 s⟩⟩
  | _=>exact h.elim
 | halt x w'=>
  cases x with
  | panic v=>exact h
  | _=>exact h.elim
theorem wpAnyIn_of {P:Program} {md:Region.Mode} {ops:Array Oper} {Q:Exit→Act→World→Prop} (l:Nat) (hd:∀ (i:Nat) (o:Oper),ops[i]?=some o→∀ c,o.op≠.defer c) (hlo:¬ LetsOut Q) :
  ∀ (fuel:Nat) (listed:Array Bool) (a:Act) (w:World),wpAny P md ops Q fuel listed a w→wpAnyIn (Fence.wide.inRound l) 0 P md ops Q fuel listed a w
 | 0,_,_,_,h=>h
 | fuel+1,listed,a,w,h=>by
  refine⟨h.1,fun i hi=>?_⟩;have h2:=h.2 i hi;unfold wpOp at h2;unfold wpOpIn;have ih:=wpAnyIn_of (P:=P) (md:=md) l hd hlo fuel (listed.setIfInBounds i true);cases ho:ops[i]? with
  | none=>simp only[ho] at h2 ⊢;exact ih _ _ h2
  | some o=>
   simp only[ho] at h2 ⊢;split
   ·
    rename_i hw;rw[if_pos hw] at h2;rcases h2 with h2|h2
    · exact Oper.wpIn_mono (fun a' w' hh=>ih a' w' hh) (operIn_of l (hd i o ho) h2)
    · exact absurd h2.2 hlo
   ·
    rename_i hw;rw[if_neg hw] at h2;exact⟨fun _ _=>trivial,ih _ _ h2⟩
def noDefer:List Oper→Bool
 | []=>true
 | o::r=>(match o.op with|.defer _=>false|_=>true)&&noDefer r
theorem noDefer_spec:∀ {l:List Oper},noDefer l=true→∀ (i:Nat) (o:Oper),l[i]?=some o→∀ c,o.op≠.defer c
 | [],_,i,o,h,_,_=>by simp at h
 | x::r,hb,0,o,h,c,e=>by
  simp only[List.getElem?_cons_zero,Option.some.injEq] at h;subst h;simp only[noDefer,Bool.and_eq_true] at hb;rw[e] at hb;exact absurd hb.1 (by simp)
 | x::r,hb,i+1,o,h,c,e=>by
  simp only[noDefer,Bool.and_eq_true] at hb;exact noDefer_spec hb.2 i o (by simpa using h) c e
theorem wpIn_region_ord {P:Program} {l:List Oper} {id:Nat} {Q:Exit→Act→World→Prop} {a:Act} {w:World} (l₀:Nat) (S:Nat→World→Prop) (ord:List (Nat × Nat)) (adv:List Nat) (hm:P.follows .mixedOrders=true)
  (hB:(Region.noSelect l.toArray&&(ordB l.toArray adv ord (Array.replicate l.toArray.size false)&&ord.length==l.toArray.size))=true) (hnd:noDefer l=true)
  (hC:S 0 w.drew) (h:Nonempty (Ev (S 0))→wpOrd P l S (fun a' w'=>Q .normal a' w') ord 0 a w.drew):(Code.region id l.toArray true).wpIn (Fence.wide.inRound l₀) 0 P Q a w:=by
 simp only[Bool.and_eq_true,beq_iff_eq] at hB;obtain⟨hs,hB,hl⟩:=hB;have h1:=wpPh_of_ord (Q:=fun a' w'=>Q .normal a' w') hs ord (Array.replicate l.toArray.size false) 0 a w.drew hB hC (h ⟨⟨_,hC⟩⟩);rw[hl] at h1;have h2:=wpAny_of_ph _ _ _ _ _ h1;have h3:=wpAnyIn_of l₀ (fun i o ho=>noDefer_spec hnd i o (by simpa using ho)) (by rintro ⟨a,w,hq⟩;exact hq) _ _ _ _ h2;refine Code.wpIn_mono ?_ (wpIn_region_any hm h3);intro e a w hq;cases e<;>first|exact hq|exact hq.elim
end Go.Proofs.YtdhiappifnflpaaGreatDoor
namespace Go.Proofs.YtdhiappifnflpaaGreatDoor
open Go.RowKit
attribute [local go_sem] Oper.semAt_some
def stepO (d:Dr) (o:Ar) (p:Nat × Ar):Ar:=if p.1=0 then sumA (sumA (sumA o p.2) (lightA d p.2)) (heatA d p.2) else sumA o p.2
def gasA (d:Dr):Ar:=⟨⟨-d.gas,d.gas⟩,⟨-d.gas,d.gas⟩⟩
def accO (d:Dr) (pre:List (Nat × Ar)):Ar:=pre.foldl (stepO d) (gasA d)
theorem accO_snoc (d:Dr) (pre:List (Nat × Ar)) (p:Nat × Ar):accO d (pre++[p])=stepO d (accO d pre) p:=by unfold accO;rw[List.foldl_append];rfl
theorem rest_eq (d:Dr) (a:Ar) (t:Int):∀ (l:List Bd) (k:Nat) (o:Ar),0<k→((l.zipIdx k).map fun q=>(q.2,pullS mp (q.1.hv t) a)).foldl (stepO d) o=restA mp a o (l.map (·.hv t))
 | [],_,_,_=>rfl
 | b::r,k,o,hk=>by
  rw[List.zipIdx_cons,List.map_cons,List.foldl_cons,List.map_cons,restA,rest_eq d a t r (k+1) _ oM];congr 1
  unfold stepO;rw[if_neg (by simp only;omega)]
theorem accO_all (d:Dr) (W:Wd) (t:Int) (a:Ar):accO d (pullsL W t a)=overA mp d a (W.hvs t):=by
 unfold accO pullsL Wd.hvs;cases W.bs with
 | nil=>rfl
 | cons b r=>
  rw[List.zipIdx_cons,List.map_cons,List.foldl_cons,List.map_cons,rest_eq d a t r 1 _ oM];rfl
theorem rd_ar2 {w:World} {b:Nat} {T:TypeId} {p q:Ar} (h:Blk w b T ((p:Array Value)++#[.int .i64 q.x.lo,.int .i64 q.x.hi,.int .i64 q.y.lo,.int .i64 q.y.hi])):Rd none w 4 encAr (some ⟨b,0,none⟩) 2 [p,q]:=
 Rd.of_blk h fun i hi j v hv=>by
  match i,hi,j,hv with
  | 0,_,0,hv|0,_,1,hv|0,_,2,hv|0,_,3,hv|1,_,0,hv|1,_,1,hv|1,_,2,hv|1,_,3,hv=>exact hv
theorem rd_ar3 {w:World} {b:Nat} {T:TypeId} {p q r:Ar} (h:Blk w b T ((p:Array Value)++#[.int .i64 q.x.lo,.int .i64 q.x.hi,.int .i64 q.y.lo,.int .i64 q.y.hi]++#[.int .i64 r.x.lo,.int .i64 r.x.hi,.int .i64 r.y.lo,.int .i64 r.y.hi])):Rd none w 4 encAr (some ⟨b,0,none⟩) 3 [p,q,r]:=
 Rd.of_blk h fun i hi j v hv=>by
  match i,hi,j,hv with
  | 0,_,0,hv|0,_,1,hv|0,_,2,hv|0,_,3,hv|1,_,0,hv|1,_,1,hv|1,_,2,hv|1,_,3,hv|2,_,0,hv|2,_,1,hv|2,_,2,hv|2,_,3,hv=>exact hv
theorem zero_sum (a:Ar):sumA zeroA a=a:=by unfold sumA zeroA;rw[addS_zero,addS_zero]
theorem accA2 (a b:Ar):accA [a,b]=sumA a b:=by unfold accA;simp only[List.foldl_cons,List.foldl_nil,zero_sum]
theorem accA3 (a b c:Ar):accA [a,b,c]=sumA (sumA a b) c:=by unfold accA;simp only[List.foldl_cons,List.foldl_nil,zero_sum]
theorem Rd.fresh {α:Type} {w:World} {sz n x:Nat} {enc:α→List Value} {A:Option Addr} {xs:List α} (h:Rd none w sz enc A n xs) (hx:w.heap.size≤x):Rd (some x) w sz enc A n xs:=by
 refine⟨h.1,fun hn=>?_⟩;obtain⟨b,o,e,hb,_,hc⟩:=h.2 hn;exact⟨b,o,e,hb,oN,hc⟩
theorem WdAt.fresh {w:World} {A:Option Addr} {W:Wd} {x:Nat} (h:WdAt none w A W) (hx:w.heap.size≤x):WdAt (some x) w A W:=by
 obtain⟨l,h1,h2,h3⟩:=h;exact⟨l,h1,h2.fresh hx,fun y hy=>(h3 y hy).fresh hx⟩
theorem sumA_bd {a b:Ar} {A B:Int} (ha:a.bd A) (hb:b.bd B):(sumA a b).bd (A+B):=⟨addS_bd ha.1 hb.1,addS_bd ha.2 hb.2⟩
theorem Ar.bd.mono {a:Ar} {A B:Int} (h:a.bd A) (hAB:A≤B):a.bd B:=by unfold Ar.bd Sp.bd at *;omega
theorem light_bd {d:Dr} {s:Ar} (hd:d.ok) (hs:s.bd 1048576):(lightA d s).bd 1048576000:=by
 have hl:d.light.bd ((1000:Nat):Int):=by have:=hd.l0;have:=hd.l1;have:=hd.l2;unfold Sp.bd;omega
 have e:((1000 * 1048576:Nat):Int)=1048576000:=by decide
 have h1:=negS_bd (partS_bd (B:=1048576) hl hs.1);have h2:=negS_bd (partS_bd (B:=1048576) hl hs.2);rw[e] at h1 h2;exact⟨h1,h2⟩
theorem heat_bd {d:Dr} {s:Ar} (hd:d.ok) (hs:s.bd 1048576):(heatA d s).bd 1048576000:=by
 have hl:d.heat.bd ((1000:Nat):Int):=by have:=hd.h0;have:=hd.h1;have:=hd.h2;unfold Sp.bd;omega
 have e:((1000 * 1048576:Nat):Int)=1048576000:=by decide
 have h1:=negS_bd (partS_bd (B:=1048576) hl hs.2);have h2:=partS_bd (B:=1048576) hl hs.1;rw[e] at h1 h2;exact⟨h1,h2⟩
theorem pull_bd (h:Hv) (a:Ar):(pullS mp h a).bd 1048576:=⟨clampS_bd (quotS_ok _ _),clampS_bd (quotS_ok _ _)⟩
theorem accO_bd {d:Dr} (hd:d.ok):∀ (pre:List (Nat × Ar)),(∀ p∈pre,p.2.bd 1048576)→(accO d pre).bd (1000+(pre.length:Int) * 2098200576):=by
 have key:∀ (pre:List (Nat × Ar)) (o:Ar) (B:Int),o.bd B→(∀ p∈pre,p.2.bd 1048576)→(pre.foldl (stepO d) o).bd (B+(pre.length:Int) * 2098200576):=by
  intro pre;induction pre with
  | nil=>intro o B ho _;simpa using ho
  | cons p r ih=>
   intro o B ho hp;have hp0:=hp p (by simp)
   have hs:(stepO d o p).bd (B+2098200576):=by
    unfold stepO;split
    · exact(sumA_bd (sumA_bd (sumA_bd ho hp0) (light_bd hd hp0)) (heat_bd hd hp0)).mono oM
    · exact(sumA_bd ho hp0).mono oM
   have:=ih _ _ hs (fun x hx=>hp x (by simp[hx]));rw[List.foldl_cons,List.length_cons];exact this.mono (by push_cast;omega)
 intro pre hp;exact key pre (gasA d) 1000 (by have:=hd.g0;have:=hd.g1;unfold Ar.bd Sp.bd gasA;simp only;omega) hp
end Go.Proofs.YtdhiappifnflpaaGreatDoor
namespace Go.Proofs.YtdhiappifnflpaaGreatDoor
open Go.RowKit
attribute [local go_sem] Oper.semAt_some
def arC (a:Ar):Array Value:=a
theorem sum2_any (b:Nat) (T:TypeId) (x y:Ar) (w:World) (h:Blk w b T #[x.x.lo,x.x.hi,x.y.lo,x.y.hi,y.x.lo,y.x.hi,y.y.lo,y.y.hi]) (hx:x.bd 1099511627776) (hy:y.bd 1099511627776) :
  Calls Tryz.prog 154 #[.slice (some ⟨b,0,none⟩) 2 2] w fun e w'=>e=.returned (.agg #[(sumA x y).x.lo,(sumA x y).x.hi,(sumA x y).y.lo,(sumA x y).y.hi])∧Kp w.heap.size none w w':=by
 have:=force_sum_any (some ⟨b,0,none⟩) 2 [x,y] 1099511627776 w (rd_ar2 h) (by simp) oM (by
  intro a ha;simp only[List.mem_cons,List.not_mem_nil,or_false] at ha;rcases ha with rfl|rfl
  · exact hx
  · exact hy)
 rw[accA2] at this;exact this
theorem sum3_any (b:Nat) (T:TypeId) (x y z:Ar) (w:World) (h:Blk w b T #[x.x.lo,x.x.hi,x.y.lo,x.y.hi,y.x.lo,y.x.hi,y.y.lo,y.y.hi,z.x.lo,z.x.hi,z.y.lo,z.y.hi])
  (hx:x.bd 1099511627776) (hy:y.bd 1099511627776) (hz:z.bd 1099511627776) :
  Calls Tryz.prog 154 #[.slice (some ⟨b,0,none⟩) 3 3] w fun e w'=>e=.returned (.agg #[(sumA (sumA x y) z).x.lo,(sumA (sumA x y) z).x.hi,(sumA (sumA x y) z).y.lo,(sumA (sumA x y) z).y.hi])∧Kp w.heap.size none w w':=by
 have:=force_sum_any (some ⟨b,0,none⟩) 3 [x,y,z] 1099511627776 w (rd_ar3 h) (by simp) oM (by
  intro a ha;simp only[List.mem_cons,List.not_mem_nil,or_false] at ha;rcases ha with rfl|rfl|rfl
  · exact hx
  · exact hy
  · exact hz)
 rw[accA3] at this;exact this
theorem force_Over_any (A:Option Addr) (c:Nat) (W:Wd) (d:Dr) (t:Int) (a:Ar) (w:World) (hW:W.ok) (hA:WdAt none w A W) (hd:d.ok) (ht:0≤t∧t≤1073741824) (ha:a.bd 33554432) :
  Calls Tryz.prog 135 #[.agg #[.slice A W.bs.length c,W.home],d,t,a] w fun e w'=>e=.returned (.tuple #[.agg #[(overA mp d a (W.hvs t)).x.lo,(overA mp d a (W.hvs t)).x.hi,(overA mp d a (W.hvs t)).y.lo,(overA mp d a (W.hvs t)).y.hi],(0:Int)])∧Kp w.heap.size none w w':=by
 have hg:wrap64 (-d.gas)=-d.gas:=by have:=hd.g0;have:=hd.g1;unfold wrap64;omega
 obtain⟨oo,hoo⟩:∃ q9,Hid (q9=overA mp d a (W.hvs t)):=⟨_,Lib.hid rfl⟩;rw[← hoo.out];obtain⟨w1,hw1,D,F,B,R,K,hz⟩:=box4 w 27 #[.slice A W.bs.length c,W.home] 31 d 53 a 53 #[(0:Int),(0:Int),(0:Int),(0:Int)];refine calls_of_wp_m Tryz.func135 rfl ?_;simp only[Tryz.ntmps135,List.size_toArray,List.length_cons,List.length_nil,Nat.reduceAdd,Nat.reduceSub,Array.replicate_succ,Array.replicate_zero,List.push_toArray,List.append_toArray,List.nil_append,List.cons_append];go_wp2_with fail
 rw[← hw1];clear hw1;refine mK (force_asked_any A c W d t a _ hW (hA.kpN K) hd ht ha) fun w2 k=>?_;replace D:=D.kpN k;replace F:=F.kpN k;replace B:=B.kpN k;replace R:=R.kpN k;replace K:=K.thenN k oM;have hzk:=k.size;clear k;have pD:=D.cell;have pF:=F.cell;have pB:=B.cell;have pR:=R.cell;obtain⟨w9_,rfl,G1,O,k9_,hzn⟩:=box2 w2 29 #[.int .i64 (-d.gas),d.gas] 53 #[.int .i64 (-d.gas),d.gas,.int .i64 (-d.gas),d.gas];replace D:=D.kpN k9_;replace F:=F.kpN k9_;replace B:=B.kpN k9_;replace R:=R.kpN k9_;replace K:=K.thenN k9_ oU;clear k9_;have cD:=D.cell;have fD:=D.frozen;have cF:=F.cell;have fF:=F.frozen;have cB:=B.cell;have fB:=B.frozen;have cR:=R.cell;have fR:=R.frozen;go_wp2_with fail
 clear cD fD pD cF fF pF cB fB pB cR fR pR;generalize ((w2.alloc (.cells #[.int .i64 (-d.gas),d.gas] 29)).alloc (.cells #[.int .i64 (-d.gas),d.gas,.int .i64 (-d.gas),d.gas] 53))=w3 at *;obtain⟨x,hx⟩:∃ q9,q9=w2.heap.size:=⟨_,rfl⟩;rw[← hx] at G1 O ⊢;replace hx:=Lib.hid hx;have hxw:w.heap.size+4≤x:=by have:=hx.out;omega
 have hz3:x+2=w3.heap.size:=by have:=hx.out;omega
 clear hx hzn hzk hz G1;refine(force_pulls_any A c W t a _).mono ?_;rintro e w4 ⟨rfl,pW,pT,pA,k,hz4⟩;replace D:=D.kpN k;replace F:=F.kpN k;replace R:=R.kpN k;replace O:=O.kpN k;replace K:=K.tN k;clear k B;obtain⟨y,hy⟩:∃ q9,q9=w3.heap.size:=⟨_,rfl⟩;rw[← hy] at pW pT pA hz4 hz3 ⊢;clear hy;have hA4:WdAt (some (x+1)) w4 A W:=(hA.fresh oM).kpN K;obtain⟨x1,hx1⟩:∃ q9,q9=x+1:=⟨_,rfl⟩;rw[← hx1] at O hA4 ⊢;have hx1w:w.heap.size+5≤x1:=by omega
 have hx1y:x1+1=y:=by omega
 clear hx1 hz3 hxw;go_wp2_with fail
 have hO:=O.lt
 refine wp_rangeFunc_z (gf:=171) (lb:=#[.pointer (some ⟨y,0,none⟩),.pointer (some ⟨y+1,0,none⟩),.pointer (some ⟨y+2,0,none⟩)]) rfl (enters_of Tryz.func171 (by kernel_rfl) rfl)
  (pulls_seq w4 A c W t a y (y+1) (y+2) x1 hW hA4 ht ha pW pT pA oM oM oM) (Nat.le_refl _) (fun w' k=>Kz.ofN k) (by rintro p v W rfl;rfl) (fun _ h=>h.elim) (fun k hk=>by rw[hk];exact hO)
  (AtB x1 53 (fun pre=>arC (accO d pre))) (fun _=>NoC) (AtB.abide _ _ _) (fun _=>NoC.abide) (AtB.put _ _ _ _) (fun _=>NoC.put _) ⟨O,id⟩ ?round ?done (fun _ _ _ h=>h.elim)
 case round=>
  rintro l S pre p rest vals W2 K1 hxs hC rfl hl hsz hkz hS hK
  have hpl:pre.length+1≤8:=by
   have e:=pullsL_len W t a;rw[hxs] at e;have:=hW.n1;simp at e
   omega
  have hall:∀ p'∈pullsL W t a,p'.2.bd 1048576:=by
   intro p' h';unfold pullsL at h';obtain⟨q9,-,rfl⟩:=List.mem_map.1 h';exact pull_bd _ _
  have hp0:p.2.bd 1048576:=hall p (by rw[hxs];simp);have hob:=accO_bd hd pre (fun p' h'=>hall p' (by rw[hxs];simp[h']));have hob':(accO d pre).bd 1099511627776:=hob.mono oM;have hs0:(sumA (accO d pre) p.2).bd 1099511627776:=(sumA_bd hob hp0).mono oM;have hlb:(lightA d p.2).bd 1099511627776:=(light_bd hd hp0).mono oM;have hhb:(heatA d p.2).bd 1099511627776:=(heat_bd hd hp0).mono oM;have c2:=fun b w h=>sum2_any b 53 (accO d pre) p.2 w h hob' (hp0.mono oM);have cl:=fun w=>force_light_any d p.2 hd hp0 w;have ch:=fun w=>force_heat_any d p.2 hd hp0 w;have c3:=fun b w h=>sum3_any b 53 (sumA (accO d pre) p.2) (lightA d p.2) (heatA d p.2) w h hs0 hlb hhb;have hst:Hid (accO d (pre++[p])=if p.1=0 then sumA (sumA (sumA (accO d pre) p.2) (lightA d p.2)) (heatA d p.2) else sumA (accO d pre) p.2):=Lib.hid (by rw[accO_snoc];rfl);generalize sumA (sumA (sumA (accO d pre) p.2) (lightA d p.2)) (heatA d p.2)=u3 at *;generalize lightA d p.2=u1 at *;generalize heatA d p.2=u2 at *;generalize sumA (accO d pre) p.2=s at *;clear hxs hall hp0 hob hob' hs0 hlb hhb hpl;have e0:(#[37,38].zip #[Value.int .i64 (p.1:Int),.agg #[.int .i64 p.2.x.lo,.int .i64 p.2.x.hi,.int .i64 p.2.y.lo,.int .i64 p.2.y.hi]]:Array (Nat × Value))=#[(37,.int .i64 (p.1:Int)),(38,.agg #[.int .i64 p.2.x.lo,.int .i64 p.2.x.hi,.int .i64 p.2.y.lo,.int .i64 p.2.y.hi])]:=by simp
  rw[e0];clear e0;simp only[List.foldl_toArray',List.foldl_cons,List.foldl_nil,sbt,sc0,scs];gi_wp2_with fail
  refine hK _ _ (Kp.new1 _ _) (fun W3 kr hsz3 hrec hC3=>?_);clear hK K1;obtain⟨O3,hSx⟩:=hC3;obtain⟨y3,hy3⟩:∃ q9,Hid (q9=W2.heap.size):=⟨_,Lib.hid rfl⟩;have hl3:w4.heap.size+2≤y3:=by have:=hy3.out;omega
  have P3:=(Blk.new W2 53 #[.int .i64 p.2.x.lo,.int .i64 p.2.x.hi,.int .i64 p.2.y.lo,.int .i64 p.2.y.hi]).kp kr (by simp) oN;have F3:=((F.kz hkz F.lt (by rintro (e|e);exact absurd e oM;exact e)).kpN (Kp.new1 W2 (.cells #[.int .i64 p.2.x.lo,.int .i64 p.2.x.hi,.int .i64 p.2.y.lo,.int .i64 p.2.y.hi] 53))).kp kr (by have:=F.lt;have:=hkz.size;simp;omega) (sne (by have:=F.lt;omega));rw[← hy3.out] at P3 ⊢;have hg:=P3.lt;clear kr hsz hsz3 hrec hC hkz hy3;dsimp only[arC] at O3;obtain⟨o1,ho1⟩:∃ q9,Hid (q9=accO d pre):=⟨_,Lib.hid rfl⟩;rw[← ho1.out] at O3 c2;have cO:=O3.cell;have cP:=P3.cell;clear hS;replace hst:=Lib.hid hst.out;have hg3:=O3.lt;have hg4:=F3.lt;gi_wp2_with fail
  refine⟨trivial,rfl,(CallsIn.inRound _ (callsIn_wide.2 (c2 W3.heap.size _ (Blk.new _ _ _)))).mono ?_⟩;rintro e W4 ⟨rfl,k⟩;have k4:=(Kp.new1 W3 (.cells (#[.int .i64 o1.x.lo,.int .i64 o1.x.hi,.int .i64 o1.y.lo,.int .i64 o1.y.hi]++#[.int .i64 p.2.x.lo,.int .i64 p.2.x.hi,.int .i64 p.2.y.lo,.int .i64 p.2.y.hi]) 53)).trans (k.mono (by simp));replace O3:=O3.kpN k4;replace P3:=P3.kpN k4;replace F3:=F3.kpN k4;clear k cO cP;have cO:=O3.cell;have fO:=O3.frozen;by_cases h0:p.1=0
  ·
   have hn:((p.1:Int)==0)=true:=by simp[h0]
   rw[if_pos h0] at hst;replace hst:=Lib.hid hst;gi_wp2_with fail
   obtain⟨W5,hwn,R9,kst,hzst⟩:=O3.st4 (.int .i64 s.x.lo) (.int .i64 s.x.hi) (.int .i64 s.y.lo) (.int .i64 s.y.hi);rw[← hwn];clear hwn cO fO;replace P3:=P3.kq kst;replace F3:=F3.kq kst;have K:=(k4.wide (some x1)).then_ kst (Nat.le_refl _);replace O3:=R9;simp only[sbt,sc0,scs] at O3;clear R9 kst hzst k4;have cO:=O3.cell;have cP:=P3.cell;have cF:=F3.cell;clear hn;obtain⟨S,hS0,hS1⟩:=cls_of2 (P:=fun w'=>Blk w' _ _ _∧Blk w' _ _ _∧Blk w' _ _ _∧Kp _ _ _ w') W5 ⟨F3,P3,O3,K⟩;try dsimp only at hS0
   have cF3:=fun (x:Ev (S 0)) i=>((hS0 _).1 x.h).1.cell i;have cP3:=fun (x:Ev (S 0)) i=>((hS0 _).1 x.h).2.1.cell i;have cO3:=fun (x:Ev (S 0)) i=>((hS0 _).1 x.h).2.2.1.cell i;replace F3:=F3.drew;replace P3:=P3.drew;replace O3:=O3.drew;replace K:=K.drew;have hevT:=ev_true;refine wpIn_region_ord l S [(0,1),(1,1),(2,1),(4,1),(5,1),(3,2),(6,2),(7,2),(8,2),(9,3)] [9] (by kernel_rfl) (by kernel_rfl) (by kernel_rfl) ((hS0 _).2 ⟨F3,P3,O3,K⟩) ?_;intro _hev;refine oX ?_;refine oL ?_;intro Kc hKc;generalize W5.drew=wd9 at *;go_step;refine mK (cl _) fun w6 k=>?_;replace F3:=F3.kpN k;replace P3:=P3.kpN k;replace O3:=O3.kpN k;replace K:=K.tN k;clear k;refine hKc _ _ ((hS0 _).2 ⟨F3,P3,O3,K⟩) ?_;clear hKc Kc;refine oL ?_;intro Kc hKc;go_step;refine mK (ch _) fun w7 k=>?_;replace F3:=F3.kpN k;replace P3:=P3.kpN k;replace O3:=O3.kpN k;replace K:=K.tN k;clear k;refine hKc _ _ ((hS0 _).2 ⟨F3,P3,O3,K⟩) ?_;clear hKc Kc;refine oL ?_;intro Kc hKc;go_step;have N:=Blk.new w7 53 #[s.x.lo,s.x.hi,s.y.lo,s.y.hi,u1.x.lo,u1.x.hi,u1.y.lo,u1.y.hi,u2.x.lo,u2.x.hi,u2.y.lo,u2.y.hi];have gy90:=F3.lt;have gy91:=P3.lt;have gy92:=O3.lt;have gy9K:=K.size;replace F3:=F3.alloc (.cells #[s.x.lo,s.x.hi,s.y.lo,s.y.hi,u1.x.lo,u1.x.hi,u1.y.lo,u1.y.hi,u2.x.lo,u2.x.hi,u2.y.lo,u2.y.hi] 53);replace P3:=P3.alloc (.cells #[s.x.lo,s.x.hi,s.y.lo,s.y.hi,u1.x.lo,u1.x.hi,u1.y.lo,u1.y.hi,u2.x.lo,u2.x.hi,u2.y.lo,u2.y.hi] 53);replace O3:=O3.alloc (.cells #[s.x.lo,s.x.hi,s.y.lo,s.y.hi,u1.x.lo,u1.x.hi,u1.y.lo,u1.y.hi,u2.x.lo,u2.x.hi,u2.y.lo,u2.y.hi] 53);replace K:=K.alloc (by have:=K.size;omega) (.cells #[s.x.lo,s.x.hi,s.y.lo,s.y.hi,u1.x.lo,u1.x.hi,u1.y.lo,u1.y.hi,u2.x.lo,u2.x.hi,u2.y.lo,u2.y.hi] 53);refine hKc _ _ ((hS0 _).2 ⟨F3,P3,O3,K⟩) ?_;clear hKc Kc;obtain⟨y9,hy9⟩:∃ q9,q9=w7.heap.size:=⟨_,rfl⟩;generalize w7.alloc (.cells #[s.x.lo,s.x.hi,s.y.lo,s.y.hi,u1.x.lo,u1.x.hi,u1.y.lo,u1.y.hi,u2.x.lo,u2.x.hi,u2.y.lo,u2.y.hi] 53)=w8 at *;rw[← hy9] at N gy90 gy91 gy92 gy9K ⊢;replace hy9:=Lib.hid hy9;refine oL ?_;intro Kc hKc;go_step;refine mK (c3 _ _ N) fun w10 k=>?_;replace F3:=F3.kpN k;replace P3:=P3.kpN k;replace O3:=O3.kpN k;replace N:=N.kpN k;replace K:=K.tN k;clear k;refine hKc _ _ ((hS0 _).2 ⟨F3,P3,O3,K⟩) ?_;clear hKc Kc;refine oA ?_;intro Kc hKc;have cR:=O3.cell;have fR:=O3.frozen;go_step;obtain⟨W9,hwn,RB9,kst,hzst⟩:=O3.st4 (.int .i64 u3.x.lo) (.int .i64 u3.x.hi) (.int .i64 u3.y.lo) (.int .i64 u3.y.hi);rw[← hwn];clear hwn cR fR;refine hKc _ _ ((hS1 _).2 trivial) ?_;clear hKc Kc;replace F3:=F3.kq kst;replace P3:=P3.kq kst;replace N:=N.kq kst;first|replace K:=K.thenOwn kst (Nat.le_refl _) oM|replace K:=K.then_ kst (Nat.le_refl _)
   replace O3:=RB9;clear RB9 kst;simp only[sbt,sc0,scs] at O3;change wpOrd _ _ _ _ _ 1 _ _;refine wpOrd_nil ?_;clear hevT _hev;clear cF3 cP3 cO3 hS0 hS1 S;refine⟨Kz.of K (fun r e _=>by injection e with e;exact e.symm),?_,hSx⟩
   show Blk _ _ _ (arC _)
   rw[hst.out];exact O3
  ·
   have hn:((p.1:Int)==0)=false:=by simp;omega
   rw[if_neg h0] at hst;replace hst:=Lib.hid hst;gi_wp2
   obtain⟨W5,hwn,R9,kst,hzst⟩:=O3.st4 (.int .i64 s.x.lo) (.int .i64 s.x.hi) (.int .i64 s.y.lo) (.int .i64 s.y.hi);rw[← hwn];have K:=(k4.wide (some x1)).then_ kst (Nat.le_refl _);refine⟨Kz.of K (fun r e _=>by injection e with e;exact e.symm),?_,hSx⟩
   show Blk _ _ _ (arC _)
   rw[hst.out];exact R9
 case done=>
  intro W hC hkz hD hsz;obtain⟨O2,-⟩:=hC;dsimp only[arC] at O2;rw[accO_all] at O2;rw[← hoo.out] at O2;have cO:=O2.cell;have R2:=R.kz hkz R.lt (by rintro (e|e);exact absurd e oM;exact e);have cR:=R2.cell;have fR:=R2.frozen;replace hD:=Lib.hid hD;dsimp only;go_wp2_with fail
  obtain⟨W5,hwn,R5,kst,hzst⟩:=R2.st4 (.int .i64 oo.x.lo) (.int .i64 oo.x.hi) (.int .i64 oo.y.lo) (.int .i64 oo.y.hi);rw[← hwn]
  have K5:Kz w.heap.size (fun k=>False) w W5:=by
   have k1:Kz w.heap.size (fun k=>False) w W:=(Kz.ofN K).trans (hkz.less (by have:=K.size;omega) (fun k hk e=>by rcases e with e|e;exact absurd e oM;exact e));exact k1.then_ kst (by have:=K.size;omega) (fun r e hr=>by injection e with e;omega)
  have D5:W5.heap[w4.heap.size]?=some (.deferred (some [])):=(kst.block _ oM (sne (by have:=R.lt;omega))).trans hD.out;clear hwn cO cR fR R2 O2 kst;have R6:=R5.put_ (.deferred none) D5 rfl;have cR:=R6.cell;have K6:Kp w.heap.size none w (W5.putObj w4.heap.size (.deferred none)):=K5.kpN.trans ⟨rfl,rfl,rfl,by simp,fun i hi _=>World.putObj_heap_other (by have:=K.size;omega)⟩;exact postM_mark (v:=.tuple #[.agg #[oo.x.lo,oo.x.hi,oo.y.lo,oo.y.hi],(0:Int)]) rfl D5 (by simp[results,Tryz.results135,go_sem,cR]) ⟨rfl,K6⟩
end Go.Proofs.YtdhiappifnflpaaGreatDoor
