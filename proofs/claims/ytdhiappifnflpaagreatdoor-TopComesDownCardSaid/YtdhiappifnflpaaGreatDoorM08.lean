/- Worlds, passages and fates in plain Lean: what meet computes for boxes, and that it holds of truths. No program here. What the package span computes of numbers and spans: the walks, first part. Quotients of products, comparisons of products: the walks of span, second part. -/
import Derived.Test.YtdhiappifnflpaaGreatDoorM07
import Derived.Test.YtdhiappifnflpaaGreatDoorDiv2
import Derived.Test.YtdhiappifnflpaaGreatDoorM03
set_option maxHeartbeats 1000000
namespace Go.Proofs.YtdhiappifnflpaaGreatDoor
structure Bd where
 mu:Int
 rad:Int
 tr:List Pt
deriving Inhabited
structure Wd where
 bs:List Bd
 home:Nat
def Bd.at (b:Bd) (t:Int):Pt:=b.tr.getD (t % (b.tr.length:Int)).toNat ⟨0,0⟩
def Bd.hv (b:Bd) (t:Int):Hv:=⟨b.mu,b.rad,(b.at t).x,(b.at t).y⟩
def Wd.hvs (W:Wd) (t:Int):List Hv:=W.bs.map (·.hv t)
def Wd.hb (W:Wd):Bd:=W.bs.getD W.home ⟨0,0,[]⟩
def Wd.rad (W:Wd):Int:=W.hb.rad
def Wd.hp (W:Wd) (t:Int):Pt:=W.hb.at t
structure Bd.ok (b:Bd):Prop where
 mu0:0≤b.mu
 mu1:b.mu≤60000
 rad0:0≤b.rad
 rad1:b.rad≤60
 tr0:0<b.tr.length
 tr1:b.tr.length≤4
 pl:∀ p∈b.tr,-4000≤p.x∧p.x≤4000∧-4000≤p.y∧p.y≤4000
structure Wd.ok (W:Wd):Prop where
 n0:0<W.bs.length
 n1:W.bs.length≤8
 home:W.home<W.bs.length
 body:∀ b∈W.bs,b.ok
structure Dr.ok (d:Dr):Prop where
 l0:0≤d.light.lo
 l1:d.light.lo≤d.light.hi
 l2:d.light.hi≤1000
 h0:-1000≤d.heat.lo
 h1:d.heat.lo≤d.heat.hi
 h2:d.heat.hi≤1000
 g0:0≤d.gas
 g1:d.gas≤1000
theorem Bd.at_mem {b:Bd} (h:0<b.tr.length) (t:Int):b.at t∈b.tr:=by
 have e1:=Int.emod_nonneg t (show (b.tr.length:Int)≠0 by omega);have e2:=Int.emod_lt_of_pos t (show (0:Int)<b.tr.length by omega);have:(t % (b.tr.length:Int)).toNat<b.tr.length:=by omega
 unfold Bd.at;rw[List.getD_eq_getElem?_getD,List.getElem?_eq_getElem this,Option.getD_some];exact List.getElem_mem _
theorem Wd.ok.hb {W:Wd} (h:W.ok):W.hb∈W.bs:=by
 unfold Wd.hb;rw[List.getD_eq_getElem?_getD,List.getElem?_eq_getElem h.home,Option.getD_some];exact List.getElem_mem _
theorem Wd.ok.hp {W:Wd} (h:W.ok) (t:Int):-4000≤(W.hp t).x∧(W.hp t).x≤4000∧-4000≤(W.hp t).y∧(W.hp t).y≤4000:=
 (h.body _ h.hb).pl _ (Bd.at_mem (h.body _ h.hb).tr0 t)
def mp:Int:=1048576
def okSt (s:St):Bool:=decide (-33554432≤s.x∧s.x≤33554432∧-33554432≤s.y∧s.y≤33554432∧-1048576≤s.u∧s.u≤1048576∧-1048576≤s.v∧s.v≤1048576)
def Bx.los (b:Bx):St:=⟨b.x.lo,b.y.lo,b.u.lo,b.v.lo⟩
def Bx.his (b:Bx):St:=⟨b.x.hi,b.y.hi,b.u.hi,b.v.hi⟩
def Bx.ord (b:Bx):Bool:=decide (b.x.lo≤b.x.hi∧b.y.lo≤b.y.hi∧b.u.lo≤b.u.hi∧b.v.lo≤b.v.hi)
def okBx (b:Bx):Bool:=b.ord&&(okSt b.los&&okSt b.his)
def stepW (W:Wd) (d:Dr) (t:Int) (b:Bx):Option Bx:=if okBx (stepB mp d (W.hvs t) b)=true then some (stepB mp d (W.hvs t) b) else none
def TruthW (W:Wd) (d:Dr) (t:Int) (l:List St):Prop:=(∀ s∈l,okSt s=true)∧∀ (i:Nat) (h:i+1<l.length),Follows mp d (W.hvs (t+i)) l[i] l[i+1]
theorem stepW_has {W:Wd} {d:Dr} {t:Int} {b nx:Bx} {s m:St} (hW:W.ok) (hd:d.ok) (hb:b.has s) (hf:Follows mp d (W.hvs t) s m) (h:stepW W d t b=some nx):nx.has m:=by
 unfold stepW at h;split at h
 ·
  injection h with h
  rw[← h];refine step_has (fun x hx=>?_) hd.l1 hd.h1 hb hf;obtain⟨y,hy,rfl⟩:=List.mem_map.1 hx;exact(hW.body y hy).mu0
 · cases h
theorem stepW_ok {W:Wd} {d:Dr} {t:Int} {b nx:Bx} (h:stepW W d t b=some nx):okBx nx=true:=by
 unfold stepW at h;split at h
 ·
  injection h with h
  rw[← h];assumption
 · cases h
instance (p q:Pt) (r:Int):Decidable (comesP p q r):=by unfold comesP;infer_instance
def relP (W:Wd) (t:Int) (s:St):Pt:=⟨s.x-(W.hp t).x,s.y-(W.hp t).y⟩
def relA (W:Wd) (t:Int) (b:Bx):Ar:=⟨⟨b.x.lo-(W.hp t).x,b.x.hi-(W.hp t).x⟩,⟨b.y.lo-(W.hp t).y,b.y.hi-(W.hp t).y⟩⟩
def crn2 (a b:Ar):List Pt:=a.crn++b.crn
def firstP (l:List Pt) (p:Pt):Bool:=l.all fun q=>decide (0≤crs p q)
def clearA (a b:Ar) (r:Int):Bool:=((crn2 a b).all fun p=>(crn2 a b).all fun q=>!decide (comesP p q r))&&(crn2 a b).any fun p=>firstP (crn2 a b) p
def btwS (a b:Sp) (i:Int):Sp:=⟨btwI a.lo b.lo i,btwI a.hi b.hi i⟩
def btwA (a b:Ar) (i:Int):Ar:=⟨btwS a.x b.x i,btwS a.y b.y i⟩
def allIn (a:Ar) (r:Int):Bool:=a.crn.all fun p=>decide (p.x * p.x+p.y * p.y≤(8 * r) * (8 * r))
def Ar.single (a:Ar):Bool:=decide (a.x.lo=a.x.hi∧a.y.lo=a.y.hi)
def hitsA (a b:Ar) (r:Int):Bool:=((List.range 9).any fun i=>allIn (btwA a b (i:Nat)) r)||(a.single&&b.single&&decide (comesP ⟨a.x.lo,a.y.lo⟩ ⟨b.x.lo,b.y.lo⟩ r))
theorem crn2_corner {a b:Ar} (p:Pt):p∈crn2 a b↔Corner a.x.lo a.x.hi a.y.lo a.y.hi b.x.lo b.x.hi b.y.lo b.y.hi p:=by
 obtain⟨x,y⟩:=p;simp only[crn2,Ar.crn,List.mem_append,List.mem_cons,List.not_mem_nil,or_false,Pt.mk.injEq,Corner];grind
theorem clearA_sound {a b:Ar} {r:Int} (h:clearA a b r=true) {p q:Pt} (hp:a.hasP p) (hq:b.hasP q):¬ comesP p q r:=by
 unfold clearA at h;simp only[Bool.and_eq_true,List.all_eq_true,List.any_eq_true,firstP,Bool.not_eq_true',decide_eq_false_iff_not,decide_eq_true_eq] at h;obtain⟨h1,p0,hp0,h2⟩:=h;exact clear_sound (fun u v hu hv=>h1 u ((crn2_corner u).2 hu) v ((crn2_corner v).2 hv)) ⟨p0,(crn2_corner p0).1 hp0,fun q hq=>h2 q ((crn2_corner q).2 hq)⟩ hp.1.1 hp.1.2 hp.2.1 hp.2.2 hq.1.1 hq.1.2 hq.2.1 hq.2.2
def clearW (W:Wd) (t:Int) (b nx:Bx):Bool:=clearA (relA W t b) (relA W (t+1) nx) W.rad
def sureW (W:Wd) (t:Int) (b nx:Bx):Bool:=hitsA (relA W t b) (relA W (t+1) nx) W.rad
def hitW (W:Wd) (t:Int) (s m:St):Prop:=comesP (relP W t s) (relP W (t+1) m) W.rad
instance (W:Wd) (t:Int) (s m:St):Decidable (hitW W t s m):=by unfold hitW;infer_instance
theorem relA_has {W:Wd} {t:Int} {b:Bx} {s:St} (h:b.has s):(relA W t b).hasP (relP W t s):=by
 obtain⟨⟨h1,h2⟩,⟨h3,h4⟩,-,-⟩:=h;unfold Ar.hasP Sp.has relA relP;simp only;omega
def fateW (W:Wd) (d:Dr) (n:Nat) (t:Int) (b:Bx):Fk:=fateB (stepW W d) (clearW W) (sureW W) false n t b
def nth (l:List St) (i:Nat):St:=l.getD i ⟨0,0,0,0⟩
theorem nth_eq {l:List St} {i:Nat} (h:i<l.length):nth l i=l[i]:=by
 unfold nth;rw[List.getD_eq_getElem?_getD,List.getElem?_eq_getElem h,Option.getD_some]
section
variable {W:Wd} {d:Dr} {t:Int} {b:Bx} {l:List St} {n:Nat}
theorem TruthW.fol (h:TruthW W d t l) {i:Nat} (hi:i+1<l.length):Follows mp d (W.hvs (t+i)) (nth l i) (nth l (i+1)):=by
 rw[nth_eq (show i<l.length by omega),nth_eq hi];exact h.2 i hi
theorem TruthW.drop (h:TruthW W d t l) (k:Nat):TruthW W d (t+k) (l.drop k):=by
 refine⟨fun s hs=>h.1 s (List.mem_of_mem_drop hs),fun i hi=>?_⟩;rw[List.length_drop] at hi;have:=h.2 (k+i) (by omega);rw[show t+(k:Int)+(i:Int)=t+((k+i:Nat):Int) from by push_cast;omega];simpa only[List.getElem_drop,Nat.add_assoc] using this
end
end Go.Proofs.YtdhiappifnflpaaGreatDoor
namespace Go.Proofs.YtdhiappifnflpaaGreatDoor
open Go.RowKit
theorem ret_bool {a b:Bool} (h:a=b):Ending.returned (.bool a)=Ending.returned (.bool b):=by rw[h]
def btw (n lo hi:Int):Bool:=decide (lo≤n)&&decide (n≤hi)
theorem btw_t {n lo hi:Int} (h1:lo≤n) (h2:n≤hi):btw n lo hi=true:=by simp[btw,h1,h2]
def Sp.fit (s:Sp):Prop:=-1152921504606846976≤s.lo∧s.lo≤s.hi∧s.hi≤1152921504606846976
theorem span_within_any (n lo hi:Int) (w:World) :
  Calls Tryz.prog 128 #[n,lo,hi] w fun e w'=>e=.returned (.bool (btw n lo hi))∧Kp w.heap.size none w w':=by
 go_enter Tryz.func128,Tryz.ntmps128
 go_wp2
 all_goals
  go_ret
  refine⟨ret_bool ?_,Kp.refl _ _ _⟩;rw[Bool.eq_iff_iff];simp[btw]
  try omega
theorem sky_within_any (n lo hi:Int) (w:World) :
  Calls Tryz.prog 120 #[n,lo,hi] w fun e w'=>e=.returned (.bool (btw n lo hi))∧Kp w.heap.size none w w':=by
 go_enter Tryz.func120,Tryz.ntmps120
 go_wp2
 all_goals
  go_ret
  refine⟨ret_bool ?_,Kp.refl _ _ _⟩;rw[Bool.eq_iff_iff];simp[btw]
  try omega
theorem force_within_any (n lo hi:Int) (w:World) :
  Calls Tryz.prog 134 #[n,lo,hi] w fun e w'=>e=.returned (.bool (btw n lo hi))∧Kp w.heap.size none w w':=by
 go_enter Tryz.func134,Tryz.ntmps134
 go_wp2
 all_goals
  go_ret
  refine⟨ret_bool ?_,Kp.refl _ _ _⟩;rw[Bool.eq_iff_iff];simp[btw]
  try omega
theorem orbit_within_any (n lo hi:Int) (w:World) :
  Calls Tryz.prog 76 #[n,lo,hi] w fun e w'=>e=.returned (.bool (btw n lo hi))∧Kp w.heap.size none w w':=by
 go_enter Tryz.func76,Tryz.ntmps76
 go_wp2
 all_goals
  go_ret
  refine⟨ret_bool ?_,Kp.refl _ _ _⟩;rw[Bool.eq_iff_iff];simp[btw]
  try omega
theorem meet_within_any (n lo hi:Int) (w:World) :
  Calls Tryz.prog 40 #[n,lo,hi] w fun e w'=>e=.returned (.bool (btw n lo hi))∧Kp w.heap.size none w w':=by
 go_enter Tryz.func40,Tryz.ntmps40
 go_wp2
 all_goals
  go_ret
  refine⟨ret_bool ?_,Kp.refl _ _ _⟩;rw[Bool.eq_iff_iff];simp[btw]
  try omega
theorem bolideref01_between_any (n lo hi:Int) (w:World) :
  Calls Tryz.prog 210 #[n,lo,hi] w fun e w'=>e=.returned (.bool (btw n lo hi))∧Kp w.heap.size none w w':=by
 go_enter Tryz.func210,Tryz.ntmps210
 go_wp2
 all_goals
  go_ret
  refine⟨ret_bool ?_,Kp.refl _ _ _⟩;rw[Bool.eq_iff_iff];simp[btw]
  try omega
theorem bolideref02_between_any (n lo hi:Int) (w:World) :
  Calls Tryz.prog 71 #[n,lo,hi] w fun e w'=>e=.returned (.bool (btw n lo hi))∧Kp w.heap.size none w w':=by
 go_enter Tryz.func71,Tryz.ntmps71
 go_wp2
 all_goals
  go_ret
  refine⟨ret_bool ?_,Kp.refl _ _ _⟩;rw[Bool.eq_iff_iff];simp[btw]
  try omega
theorem bolideref03_between_any (n lo hi:Int) (w:World) :
  Calls Tryz.prog 179 #[n,lo,hi] w fun e w'=>e=.returned (.bool (btw n lo hi))∧Kp w.heap.size none w w':=by
 go_enter Tryz.func179,Tryz.ntmps179
 go_wp2
 all_goals
  go_ret
  refine⟨ret_bool ?_,Kp.refl _ _ _⟩;rw[Bool.eq_iff_iff];simp[btw]
  try omega
theorem span_fits_any (n:Int) (w:World) :
  Calls Tryz.prog 132 #[n] w fun e w'=>e=.returned (.bool (btw n (-1152921504606846976) 1152921504606846976))∧Kp w.heap.size none w w':=by
 go_enter Tryz.func132,Tryz.ntmps132
 go_wp2_with fail
 refine mK (span_within_any _ _ _ _) fun w1 hk1=>?_;go_wp2
 go_ret
 exact⟨rfl,hk1⟩
theorem bolideref01_fits_any (n:Int) (w:World) :
  Calls Tryz.prog 216 #[n] w fun e w'=>e=.returned (.bool (btw n (-1152921504606846976) 1152921504606846976))∧Kp w.heap.size none w w':=by
 go_enter Tryz.func216,Tryz.ntmps216
 go_wp2_with fail
 refine mK (bolideref01_between_any _ _ _ _) fun w1 hk1=>?_;go_wp2
 go_ret
 exact⟨rfl,hk1⟩
theorem span_fits_t (n:Int) (w:World) (h1:-1152921504606846976≤n) (h2:n≤1152921504606846976) :
  Calls Tryz.prog 132 #[n] w fun e w'=>e=.returned (.bool true)∧Kp w.heap.size none w w':=by
 have:=span_fits_any n w;rwa [btw_t h1 h2] at this
theorem span_Check_any (s:Sp) (h:s.fit) (w:World) :
  Calls Tryz.prog 94 #[s] w fun e w'=>e=.returned (.int .i64 0)∧Kp w.heap.size none w w':=by
 obtain⟨h1,h2,h3⟩:=h;have h4:¬ s.hi<s.lo:=by omega
 obtain⟨w1,hw1,B,K,hz⟩:=box1 w 29 s;go_enter Tryz.func94,Tryz.ntmps94
 go_wp2_with fail
 rw[← hw1];clear hw1;refine mK (span_fits_t s.lo _ h1 oM) fun w2 k=>?_;replace B:=B.kpN k;replace K:=K.thenN k oM;have hzk:=k.size;clear k;have cB:=B.cell;have fB:=B.frozen;go_wp2_with fail
 refine mK (span_fits_t s.hi _ oM h3) fun w3 k=>?_;clear cB fB;replace B:=B.kpN k;replace K:=K.thenN k oM;have hzk:=k.size;clear k;have cB:=B.cell;have fB:=B.frozen;go_wp2_with fail
 clear cB fB;go_ret
 exact⟨rfl,K⟩
theorem span_valid_any (a b:Sp) (ha:a.fit) (hb:b.fit) (w:World) :
  Calls Tryz.prog 91 #[a,b] w fun e w'=>e=.returned (.int .i64 0)∧Kp w.heap.size none w w':=by
 obtain⟨w1,hw1,A,B,K,hz⟩:=box2 w 29 a 29 b;go_enter Tryz.func91,Tryz.ntmps91
 go_wp2_with fail
 rw[← hw1];clear hw1;refine mK (span_Check_any a ha _) fun w2 k=>?_;replace A:=A.kpN k;replace B:=B.kpN k;replace K:=K.thenN k oM;have hzk:=k.size;clear k;have cA:=A.cell;have fA:=A.frozen;have cB:=B.cell;have fB:=B.frozen;go_wp2_with fail
 refine mK (span_Check_any b hb _) fun w3 k=>?_;clear cA fA cB fB;replace A:=A.kpN k;replace B:=B.kpN k;replace K:=K.thenN k oM;have hzk:=k.size;clear k;have cA:=A.cell;have fA:=A.frozen;have cB:=B.cell;have fB:=B.frozen;go_wp2_with fail
 clear cA fA cB fB;go_ret
 exact⟨rfl,K⟩
theorem span_ends_any (lo hi:Int) (h:Sp.fit ⟨lo,hi⟩) (w:World) :
  Calls Tryz.prog 93 #[lo,hi] w fun e w'=>e=.returned (.tuple #[.agg #[lo,hi],(0:Int)])∧Kp w.heap.size none w w':=by
 obtain⟨h1,h2,h3⟩:=h;simp only at h1 h2 h3;obtain⟨w1,hw1,R,K,hz⟩:=box1 w 29 #[(0:Int),(0:Int)];go_enter Tryz.func93,Tryz.ntmps93
 go_wp2_with fail
 rw[← hw1];clear hw1;refine mK (span_fits_t lo _ h1 oM) fun w2 k=>?_;replace R:=R.kpN k;replace K:=K.thenN k oM;have hzk:=k.size;clear k;have cR:=R.cell;have fR:=R.frozen;go_wp2_with fail
 refine mK (span_fits_t hi _ oM h3) fun w3 k=>?_;clear cR fR;replace R:=R.kpN k;replace K:=K.thenN k oM;have hzk:=k.size;clear k;have cR:=R.cell;have fR:=R.frozen;go_wp2_with fail
 clear cR fR;have BR:=((R.set_ 0 (.int .i64 lo)).set_ 1 (.int .i64 hi));have cR:=BR.cell;exact bodyPost_ret (by simp[results,Tryz.results93,go_sem,cR]) rfl ⟨rfl,((K.setNew (by simp<;>omega) _).setNew (by simp<;>omega) _)⟩
theorem span_Add_any (a b:Sp) (ha:a.fit) (hb:b.fit) (hr:(addS a b).fit) (w:World) :
  Calls Tryz.prog 47 #[a,b] w fun e w'=>e=.returned (.tuple #[.agg #[(addS a b).lo,(addS a b).hi],(0:Int)])∧Kp w.heap.size none w w':=by
 have hr':=hr;unfold Sp.fit addS at hr';simp only at hr';have e1:wrap64 (a.lo+b.lo)=(addS a b).lo:=by unfold wrap64 addS;simp only;omega
 have e2:wrap64 (a.hi+b.hi)=(addS a b).hi:=by unfold wrap64 addS;simp only;omega
 clear hr';obtain⟨w1,hw1,A,B,R,K,hz⟩:=box3 w 29 a 29 b 29 #[(0:Int),(0:Int)];go_enter Tryz.func47,Tryz.ntmps47
 go_wp2_with fail
 rw[← hw1];clear hw1;refine mK (span_valid_any a b ha hb _) fun w2 k=>?_;replace A:=A.kpN k;replace B:=B.kpN k;replace R:=R.kpN k;replace K:=K.thenN k oM;have hzk:=k.size;clear k;have cA:=A.cell;have fA:=A.frozen;have cB:=B.cell;have fB:=B.frozen;have cR:=R.cell;have fR:=R.frozen;go_wp2_with fail
 refine mK (span_ends_any (addS a b).lo (addS a b).hi hr _) fun w3 k=>?_;clear cA fA cB fB cR fR;replace A:=A.kpN k;replace B:=B.kpN k;replace R:=R.kpN k;replace K:=K.thenN k oM;have hzk:=k.size;clear k;have cA:=A.cell;have fA:=A.frozen;have cB:=B.cell;have fB:=B.frozen;have cR:=R.cell;have fR:=R.frozen;go_wp2_with fail
 clear cA fA cB fB cR fR;have BR:=((R.set_ 0 (.int .i64 (addS a b).lo)).set_ 1 (.int .i64 (addS a b).hi));have cR:=BR.cell;exact bodyPost_ret (by simp[results,Tryz.results47,go_sem,cR]) rfl ⟨rfl,((K.setNew (by simp<;>omega) _).setNew (by simp<;>omega) _)⟩
theorem span_Sub_any (a b:Sp) (ha:a.fit) (hb:b.fit) (hr:(subS a b).fit) (w:World) :
  Calls Tryz.prog 45 #[a,b] w fun e w'=>e=.returned (.tuple #[.agg #[(subS a b).lo,(subS a b).hi],(0:Int)])∧Kp w.heap.size none w w':=by
 have hr':=hr;unfold Sp.fit subS at hr';simp only at hr';have e1:wrap64 (a.lo-b.hi)=(subS a b).lo:=by unfold wrap64 subS;simp only;omega
 have e2:wrap64 (a.hi-b.lo)=(subS a b).hi:=by unfold wrap64 subS;simp only;omega
 clear hr';obtain⟨w1,hw1,A,B,R,K,hz⟩:=box3 w 29 a 29 b 29 #[(0:Int),(0:Int)];go_enter Tryz.func45,Tryz.ntmps45
 go_wp2_with fail
 rw[← hw1];clear hw1;refine mK (span_valid_any a b ha hb _) fun w2 k=>?_;replace A:=A.kpN k;replace B:=B.kpN k;replace R:=R.kpN k;replace K:=K.thenN k oM;have hzk:=k.size;clear k;have cA:=A.cell;have fA:=A.frozen;have cB:=B.cell;have fB:=B.frozen;have cR:=R.cell;have fR:=R.frozen;go_wp2_with fail
 refine mK (span_ends_any (subS a b).lo (subS a b).hi hr _) fun w3 k=>?_;clear cA fA cB fB cR fR;replace A:=A.kpN k;replace B:=B.kpN k;replace R:=R.kpN k;replace K:=K.thenN k oM;have hzk:=k.size;clear k;have cA:=A.cell;have fA:=A.frozen;have cB:=B.cell;have fB:=B.frozen;have cR:=R.cell;have fR:=R.frozen;go_wp2_with fail
 clear cA fA cB fB cR fR;have BR:=((R.set_ 0 (.int .i64 (subS a b).lo)).set_ 1 (.int .i64 (subS a b).hi));have cR:=BR.cell;exact bodyPost_ret (by simp[results,Tryz.results45,go_sem,cR]) rfl ⟨rfl,((K.setNew (by simp<;>omega) _).setNew (by simp<;>omega) _)⟩
theorem span_In_any (s:Sp) (n:Int) (h:s.fit) (w:World) :
  Calls Tryz.prog 95 #[s,n] w fun e w'=>e=.returned (.bool (btw n s.lo s.hi))∧Kp w.heap.size none w w':=by
 obtain⟨w1,hw1,B,K,hz⟩:=box1 w 29 s;go_enter Tryz.func95,Tryz.ntmps95
 go_wp2_with fail
 rw[← hw1];clear hw1;refine mK (span_Check_any s h _) fun w2 k=>?_;replace B:=B.kpN k;replace K:=K.thenN k oM;have hzk:=k.size;clear k;have cB:=B.cell;have fB:=B.frozen;go_wp2_with fail
 refine mK (span_within_any n s.lo s.hi _) fun w3 k=>?_;clear cB fB;replace B:=B.kpN k;replace K:=K.thenN k oM;have hzk:=k.size;clear k;have cB:=B.cell;have fB:=B.frozen;go_wp2_with fail
 clear cB fB;go_ret
 exact⟨rfl,K⟩
theorem wrapu_neg (n:Int) (h:n<0) (h1:-9223372036854775808<n):IntKind.u64.wrap (-IntKind.u64.wrap n)=((n.natAbs:Nat):Int):=by
 rw[wrapu,wrapu];omega
theorem wrapu_pos (n:Int) (h:¬ n<0) (h1:n<9223372036854775808):IntKind.u64.wrap n=((n.natAbs:Nat):Int):=by
 rw[wrapu];omega
theorem span_size_any (n:Int) (h1:-9223372036854775808<n) (h2:n<9223372036854775808) (w:World) :
  Calls Tryz.prog 126 #[n] w fun e w'=>e=.returned (.int .u64 ((n.natAbs:Nat):Int))∧Kp w.heap.size none w w':=by
 by_cases h:n<0
 ·
  have e1:=wrapu_neg n h h1;go_enter Tryz.func126,Tryz.ntmps126
  go_wp2
  go_ret
  exact⟨rfl,Kp.refl _ _ _⟩
 ·
  have e1:=wrapu_pos n h h2;go_enter Tryz.func126,Tryz.ntmps126
  go_wp2
  go_ret
  exact⟨rfl,Kp.refl _ _ _⟩
theorem span_times_any (a b:Nat) (ha:a<18446744073709551616) (hb:b<18446744073709551616) (w:World) :
  Calls Tryz.prog 125 #[.int .u64 a,.int .u64 b] w fun e w'=>e=.returned (.agg #[.int .u64 ((a * b / 18446744073709551616:Nat):Int),.int .u64 ((a * b % 18446744073709551616:Nat):Int)])∧Kp w.heap.size none w w':=by
 obtain⟨H,hH⟩:∃ H:Nat,Hid (H=a * b / 18446744073709551616):=⟨_,Lib.hid rfl⟩;obtain⟨L,hL⟩:∃ L:Nat,Hid (L=a * b % 18446744073709551616):=⟨_,Lib.hid rfl⟩;rw[← hH.out,← hL.out];go_enter Tryz.func125,Tryz.ntmps125
 go_wp2_with (go_at_call 150;refine(Tryz.bits_Mul64 a b ha hb _).mono ?_;rintro e w1 ⟨he,rfl⟩;rw[← hH.out,← hL.out] at he;subst he)
 exact bodyPost_ret (by simp[results,Tryz.results125,go_sem]) rfl ⟨rfl,(Kp.refl _ _ _).alloc (Nat.le_refl _) _⟩
theorem natAbs_prod (a b:Int):(a * b).natAbs=a.natAbs * b.natAbs:=Int.natAbs_mul a b
theorem span_product_any (a b:Int) (ha:-9223372036854775808<a∧a<9223372036854775808) (hb:-9223372036854775808<b∧b<9223372036854775808) (hp:(a * b).natAbs<9223372036854775808) (w:World) :
  Calls Tryz.prog 83 #[a,b] w fun e w'=>e=.returned (.agg #[.int .u64 0,.int .u64 (((a * b).natAbs:Nat):Int),.bool (!(decide (a<0)==decide (b<0)))])∧Kp w.heap.size none w w':=by
 have hd:a.natAbs * b.natAbs / 18446744073709551616=0:=by rw[← natAbs_prod];omega
 have hm:a.natAbs * b.natAbs % 18446744073709551616=(a * b).natAbs:=by rw[← natAbs_prod];omega
 have ht:=fun w=>span_times_any a.natAbs b.natAbs oM oM w;rw[hd,hm] at ht;obtain⟨x,hx⟩:∃ x,x=(a * b).natAbs:=⟨_,rfl⟩;rw[← hx] at ht ⊢;clear hd hm hp hx;obtain⟨w1,hw1,R,K,hz⟩:=box1 w 161 #[.int .u64 0,.int .u64 0,.bool false];go_enter Tryz.func83,Tryz.ntmps83
 go_wp2_with fail
 rw[← hw1];clear hw1;refine mK (span_size_any a ha.1 ha.2 _) fun w2 k=>?_;replace R:=R.kpN k;replace K:=K.thenN k oM;have hzk:=k.size;clear k;have cR:=R.cell;have fR:=R.frozen;go_wp2_with fail
 refine mK (span_size_any b hb.1 hb.2 _) fun w3 k=>?_;clear cR fR;replace R:=R.kpN k;replace K:=K.thenN k oM;have hzk:=k.size;clear k;have cR:=R.cell;have fR:=R.frozen;go_wp2_with fail
 refine mK (ht _) fun w4 k=>?_;clear cR fR;replace R:=R.kpN k;replace K:=K.thenN k oM;have hzk:=k.size;clear k;have cR:=R.cell;have fR:=R.frozen;go_wp2_with fail
 clear cR fR;have BR:=(((R.set_ 0 (.int .u64 0)).set_ 1 (.int .u64 x)).set_ 2 (.bool (!(decide (a<0)==decide (b<0)))));have cR:=BR.cell;exact bodyPost_ret (by simp[results,Tryz.results83,go_sem,cR]) rfl ⟨rfl,(((K.setNew (by simp<;>omega) _).setNew (by simp<;>omega) _).setNew (by simp<;>omega) _)⟩
theorem neg_ediv_nat (n k:Nat) (hk:0<k):(-(n:Int)) / (k:Int)=-((n / k+if 0<n % k then 1 else 0:Nat):Int):=by
 have h:=Nat.div_add_mod n k;have hr:=Nat.mod_lt n hk;obtain⟨q,hq⟩:∃ q,q=n / k:=⟨_,rfl⟩;obtain⟨r,hr'⟩:∃ r,r=n % k:=⟨_,rfl⟩;rw[← hq,← hr'] at h ⊢;rw[← hr'] at hr;clear hq hr';have hk':(0:Int)<k:=by omega
 by_cases h0:0<r
 ·
  rw[if_pos h0]
  have e:-(n:Int)=((k:Int)-r)+(k:Int) * (-((q:Int)+1)):=by
   have:(n:Int)=(k:Int) * q+r:=by exact_mod_cast h.symm
   rw[this];grind
  rw[e,Int.add_mul_ediv_left _ _ oM,Int.ediv_eq_zero_of_lt oM oM];omega
 ·
  rw[if_neg h0];obtain rfl:r=0:=by omega
  have e:-(n:Int)=0+(k:Int) * (-(q:Int)):=by
   have:(n:Int)=(k:Int) * q+(0:Nat):=by exact_mod_cast h.symm
   rw[this];grind
  rw[e,Int.add_mul_ediv_left _ _ oM,Int.zero_ediv];omega
theorem lt_u64 {n:Nat} (h:n<9223372036854775808):n<18446744073709551616:=Nat.lt_trans h (by decide)
theorem lt_i64 {n:Nat} (h:n≤1152921504606846976):n<9223372036854775808:=Nat.lt_of_le_of_lt h (by decide)
theorem pos_ediv_nat (n k:Nat):(n:Int) / (k:Int)=((n / k:Nat):Int):=by simp
theorem div_same (V c:Int) (hc:c≠0) (h:(0≤V∧0<c)∨(V≤0∧c<0)):Int.fdiv V c=((V.natAbs / c.natAbs:Nat):Int)∧cdiv V c=((V.natAbs / c.natAbs+if 0<V.natAbs % c.natAbs then 1 else 0:Nat):Int):=by
 unfold cdiv;have hk:0<c.natAbs:=by omega
 rcases h with⟨h1,h2⟩|⟨h1,h2⟩
 ·
  have e1:V=(V.natAbs:Int):=by omega
  have e2:c=(c.natAbs:Int):=by omega
  rw[fdiv_pos _ h2,fdiv_pos _ h2];refine⟨?_,?_⟩
  · rw[← pos_ediv_nat,← e1,← e2]
  ·
   have:=neg_ediv_nat V.natAbs c.natAbs hk;rw[← e1,← e2] at this;rw[this];omega
 ·
  have e1:-V=(V.natAbs:Int):=by omega
  have e2:-c=(c.natAbs:Int):=by omega
  rw[fdiv_neg' _ h2,fdiv_neg' _ h2];refine⟨?_,?_⟩
  · rw[← pos_ediv_nat,← e1,← e2]
  ·
   have:=neg_ediv_nat V.natAbs c.natAbs hk;rw[← e1,← e2] at this;rw[this];omega
theorem div_diff (V c:Int) (hc:c≠0) (h:(V≤0∧0<c)∨(0≤V∧c<0)):Int.fdiv V c=-((V.natAbs / c.natAbs+if 0<V.natAbs % c.natAbs then 1 else 0:Nat):Int)∧cdiv V c=-((V.natAbs / c.natAbs:Nat):Int):=by
 unfold cdiv;have hk:0<c.natAbs:=by omega
 rcases h with⟨h1,h2⟩|⟨h1,h2⟩
 ·
  have e1:V=-(V.natAbs:Int):=by omega
  have e1':-V=(V.natAbs:Int):=by omega
  have e2:c=(c.natAbs:Int):=by omega
  rw[fdiv_pos _ h2,fdiv_pos _ h2];refine⟨?_,?_⟩
  ·
   have:=neg_ediv_nat V.natAbs c.natAbs hk;rw[← e1,← e2] at this;exact this
  · rw[← pos_ediv_nat,← e1',← e2]
 ·
  have e1:V=(V.natAbs:Int):=by omega
  have e2:-c=(c.natAbs:Int):=by omega
  have e3:- -V=(V.natAbs:Int):=by omega
  rw[fdiv_neg' _ h2,fdiv_neg' _ h2];refine⟨?_,?_⟩
  ·
   have:=neg_ediv_nat V.natAbs c.natAbs hk;rw[← e1,← e2] at this;exact this
  · rw[← pos_ediv_nat,← e3,← e2]
structure Dv (V c:Int) (s:Bool) (d q r u:Nat) (lo hi:Int):Prop where
 d0:0<d
 dl:d<9223372036854775808
 ed:d=c.natAbs
 eq:q=V.natAbs / d
 er:r=V.natAbs % d
 eu:u=q+if 0<r then 1 else 0
 ul:u≤1152921504606846976
 res:if (!(s==decide (c<0)))=true then lo=-(u:Int)∧hi=-(q:Int) else lo=(q:Int)∧hi=(u:Int)
theorem dv_of (V c:Int) (s:Bool) (hc:c≠0) (hcl:-9223372036854775808<c∧c<9223372036854775808) (hV:V.natAbs≤1152921504606846976) (hs:if s then V≤0 else 0≤V):∃ d q r u,Dv V c s d q r u (Int.fdiv V c) (cdiv V c):=by
 have hk:0<c.natAbs:=by omega
 have hq:V.natAbs / c.natAbs≤V.natAbs:=Nat.div_le_self _ _;have hm:=Nat.div_add_mod V.natAbs c.natAbs;refine⟨_,_,_,_,hk,by omega,rfl,rfl,rfl,rfl,?_,?_⟩
 ·
  split
  ·
   rename_i h;rcases Nat.lt_or_ge 1 c.natAbs with h1|h1
   ·
    have:V.natAbs / c.natAbs * 2≤V.natAbs:=by
     have:=Nat.mul_le_mul_left (V.natAbs / c.natAbs) h1;have e:V.natAbs / c.natAbs * c.natAbs=c.natAbs * (V.natAbs / c.natAbs):=Nat.mul_comm _ _;omega
    omega
   ·
    have e:c.natAbs=1:=by omega
    rw[e] at h;have:=Nat.mod_one V.natAbs;omega
  · omega
 ·
  cases s with
  | true=>
   simp only[if_true] at hs;by_cases h:c<0
   · rw[if_neg (by simp[h])];exact div_same V c hc (.inr ⟨hs,h⟩)
   · rw[if_pos (by simp[h])];exact div_diff V c hc (.inl ⟨hs,by omega⟩)
  | false=>
   simp only[Bool.false_eq_true,if_false] at hs;by_cases h:c<0
   · rw[if_pos (by simp[h])];exact div_diff V c hc (.inr ⟨hs,h⟩)
   · rw[if_neg (by simp[h])];exact div_same V c hc (.inl ⟨hs,by omega⟩)
theorem divide_aux (c:Int) (s x y:Bool) (N d q r u:Nat) (lo hi:Int) (w:World) (hx:decide (c<0)=x) (hy:decide ((0:Int)<(r:Int))=y)
  (hsz:∀ w,Calls Tryz.prog 126 #[c] w fun e w'=>e=.returned (.int .u64 (d:Int))∧Kp w.heap.size none w w')
  (hdv:∀ w,Calls Tryz.prog 127 #[.int .u64 0,.int .u64 (N:Int),.int .u64 (d:Int)] w fun e w'=>e=.returned (.tuple #[.int .u64 (q:Int),.int .u64 (r:Int)])∧Kp w.heap.size none w w')
  (a1:¬ (d:Int)≤0) (d1:¬ (1152921504606846976:Int)<(q:Int)) (d6:¬ (1152921504606846976:Int)<(u:Int)) (d4:wrap64 (q:Int)=(q:Int)) (d5:wrap64 (u:Int)=(u:Int))
  (n4:wrap64 (-(q:Int))=-(q:Int)) (n5:wrap64 (-(u:Int))=-(u:Int)) (d7:if y then IntKind.u64.wrap ((q:Int)+1)=(u:Int) else u=q)
  (res:if (!(s==x))=true then lo=-(u:Int)∧hi=-(q:Int) else lo=(q:Int)∧hi=(u:Int)) :
  Calls Tryz.prog 84 #[.agg #[.int .u64 0,.int .u64 (N:Int),.bool s],c] w fun e w'=>e=.returned (.tuple #[lo,hi,(0:Int)])∧Kp w.heap.size none w w':=by
 obtain⟨w1,hw1,S,K,hz⟩:=box1 w 161 #[.int .u64 0,.int .u64 N,.bool s];cases y with
 | true=>
  simp only[decide_eq_true_eq] at hy;simp only[if_true] at d7;cases s<;>cases x<;>(first|simp only[beq_self_eq_true,Bool.not_true,Bool.false_eq_true,if_false] at res|simp only[show (true==false)=false from rfl,show (false==true)=false from rfl,Bool.not_false,if_true] at res)<;>obtain⟨rfl,rfl⟩:=res
  all_goals
   go_enter Tryz.func84,Tryz.ntmps84
   go_wp2_with fail
   rw[← hw1];clear hw1;refine mK (hsz _) fun w2 k=>?_;replace S:=S.kpN k;replace K:=K.thenN k oM;have hzk:=k.size;clear k;have cS:=S.cell;have fS:=S.frozen;go_wp2_with fail
   refine mK (hdv _) fun w3 k=>?_;clear cS fS;replace S:=S.kpN k;replace K:=K.thenN k oM;have hzk:=k.size;clear k;have cS:=S.cell;have fS:=S.frozen;go_wp2_with fail
   clear cS fS;exact bodyPost_ret (by simp[results,Tryz.results84,go_sem]) rfl ⟨rfl,K⟩
 | false=>
  simp only[decide_eq_false_iff_not] at hy;simp only[Bool.false_eq_true,if_false] at d7;subst d7;clear d5 d6 n5;cases s<;>cases x<;>(first|simp only[beq_self_eq_true,Bool.not_true,Bool.false_eq_true,if_false] at res|simp only[show (true==false)=false from rfl,show (false==true)=false from rfl,Bool.not_false,if_true] at res)<;>obtain⟨rfl,rfl⟩:=res
  all_goals
   go_enter Tryz.func84,Tryz.ntmps84
   go_wp2_with fail
   rw[← hw1];clear hw1;refine mK (hsz _) fun w2 k=>?_;replace S:=S.kpN k;replace K:=K.thenN k oM;have hzk:=k.size;clear k;have cS:=S.cell;have fS:=S.frozen;go_wp2_with fail
   refine mK (hdv _) fun w3 k=>?_;clear cS fS;replace S:=S.kpN k;replace K:=K.thenN k oM;have hzk:=k.size;clear k;have cS:=S.cell;have fS:=S.frozen;go_wp2_with fail
   clear cS fS;exact bodyPost_ret (by simp[results,Tryz.results84,go_sem]) rfl ⟨rfl,K⟩
theorem wrap_q {q:Nat} (h:q≤1152921504606846976):¬ (1152921504606846976:Int)<(q:Int)∧wrap64 (q:Int)=(q:Int)∧wrap64 (-(q:Int))=-(q:Int):=by
 refine⟨by omega,?_,?_⟩<;>unfold wrap64<;>omega
theorem u_next {q:Nat} (h:q≤1152921504606846976):IntKind.u64.wrap ((q:Int)+1)=((q+1:Nat):Int):=by rw[wrapu];omega
theorem span_divide_any (V c:Int) (s:Bool) (hc:c≠0) (hcl:-9223372036854775808<c∧c<9223372036854775808) (hV:V.natAbs≤1152921504606846976) (hs:if s then V≤0 else 0≤V) (w:World) :
  Calls Tryz.prog 84 #[.agg #[.int .u64 0,.int .u64 ((V.natAbs:Nat):Int),.bool s],c] w fun e w'=>e=.returned (.tuple #[(Int.fdiv V c),(cdiv V c),(0:Int)])∧Kp w.heap.size none w w':=by
 obtain⟨d,q,r,u,D⟩:=dv_of V c s hc hcl hV hs;have hql:q≤1152921504606846976:=by have h1:=D.ul;have h2:=D.eu;split at h2<;>omega
 have wq:=wrap_q hql;have wu:=wrap_q D.ul;refine divide_aux c s _ (decide ((0:Int)<(r:Int))) V.natAbs d q r u _ _ w rfl rfl (fun w=>?_) (fun w=>?_) (by have:=D.d0;omega) wq.1 wu.1 wq.2.1 wu.2.1 wq.2.2 wu.2.2 ?_ D.res
 ·
  have:=span_size_any c hcl.1 hcl.2 w;rw[← D.ed] at this;exact this
 ·
  have:=div64_any 0 V.natAbs d w D.d0 (lt_u64 (lt_i64 hV)) (lt_u64 D.dl);rw[Nat.zero_mul,Nat.zero_add,← D.eq,← D.er] at this;exact this
 ·
  have hu:=D.eu;split
  ·
   rename_i h;have h:(0:Int)<(r:Int):=by simpa using h
   rw[if_pos (show 0<r by omega)] at hu;rw[hu];exact u_next hql
  ·
   rename_i h;have h:¬ (0:Int)<(r:Int):=by simpa using h
   rw[if_neg (show ¬ 0<r by omega)] at hu;exact hu
end Go.Proofs.YtdhiappifnflpaaGreatDoor
