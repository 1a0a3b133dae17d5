/- Looks in plain Lean: what a sight excludes has no place that agrees with it. No program here. Worlds, passages and fates in plain Lean: what meet computes for boxes, and that it holds of truths. No program here. What the package span computes of numbers and spans: the walks, first part. -/
import Derived.Test.YtdhiappifnflpaaGreatM04
import Derived.Test.YtdhiappifnflpaaGreatTg
import Derived.Test.YtdhiappifnflpaaGreatM03
import Derived.Test.YtdhiappifnflpaaGreatM02
set_option maxHeartbeats 400000
namespace Go.Proofs.YtdhiappifnflpaaGreat
theorem lin_le {xl xh yl yh a b c x y:Int} (h:∀ X Y,(X=xl∨X=xh)→(Y=yl∨Y=yh)→a * X+b * Y≤c) (h1:xl≤x) (h2:x≤xh) (h3:yl≤y) (h4:y≤yh):a * x+b * y≤c:=by
 have key:∀ (k lo hi z:Int),lo≤z→z≤hi→k * z≤k * lo∨k * z≤k * hi:=fun k lo hi z p q=>by
  rcases Int.le_total 0 k with g|g
  · exact .inr (Int.mul_le_mul_of_nonneg_left q g)
  ·
   have:=Int.mul_le_mul_of_nonneg_left p (show 0≤-k by omega);simp only[Int.neg_mul] at this;omega
 have q1:=h xl yl (.inl rfl) (.inl rfl);have q2:=h xl yh (.inl rfl) (.inr rfl);have q3:=h xh yl (.inr rfl) (.inl rfl);have q4:=h xh yh (.inr rfl) (.inr rfl);rcases key a xl xh x h1 h2 with g|g<;>rcases key b yl yh y h3 h4 with k|k<;>omega
structure Cone where
 fx:Int
 fy:Int
 dx:Int
 dy:Int
 low:Int
 high:Int
def Cone.n (c:Cone) (p:Pt):Int:=c.dx * (p.y-c.fy)-c.dy * (p.x-c.fx)
def Cone.d (c:Cone) (p:Pt):Int:=c.dx * (p.x-c.fx)+c.dy * (p.y-c.fy)
def Cone.behind (c:Cone) (p:Pt):Bool:=decide (c.d p≤0)
def Cone.below (c:Cone) (p:Pt):Bool:=decide (1000000 * c.n p<c.low * c.d p)
def Cone.above (c:Cone) (p:Pt):Bool:=decide (c.high * c.d p<1000000 * c.n p)
def Cone.hasP (c:Cone) (p:Pt):Bool:=!c.behind p&&!c.below p&&!c.above p
def dist2 (p:Pt) (fx fy:Int):Int:=(p.x-fx) * (p.x-fx)+(p.y-fy) * (p.y-fy)
inductive Look
 | angle (c:Cone)
 | reach (fx fy lo hi:Int)
 | empty (c:Cone) (hi:Int)
def Look.agrees:Look→Pt→Bool
 | .angle c,p=>c.hasP p
 | .reach fx fy lo hi,p=>decide (lo * lo≤dist2 p fx fy)&&decide (dist2 p fx fy≤hi * hi)
 | .empty c hi,p=>!c.hasP p||decide (hi * hi<dist2 p c.fx c.fy)
def Ar.crn (a:Ar):List Pt:=[⟨a.x.lo,a.y.lo⟩,⟨a.x.lo,a.y.hi⟩,⟨a.x.hi,a.y.lo⟩,⟨a.x.hi,a.y.hi⟩]
def nearS (s:Sp) (n:Int):Int:=min (max n s.lo) s.hi
def Look.excl:Look→Ar→Bool
 | .angle c,a=>a.crn.all c.behind||a.crn.all c.below||a.crn.all c.above
 | .reach fx fy lo hi,a=>decide (hi * hi<dist2 ⟨nearS a.x fx,nearS a.y fy⟩ fx fy)||a.crn.all (fun p=>decide (dist2 p fx fy<lo * lo))
 | .empty c hi,a=>a.crn.all (fun p=>c.hasP p&&decide (dist2 p c.fx c.fy≤hi * hi))
def Ar.hasP (a:Ar) (p:Pt):Prop:=a.x.has p.x∧a.y.has p.y
theorem crn_all {a:Ar} {f:Pt→Bool} (h:a.crn.all f=true):∀ X Y,(X=a.x.lo∨X=a.x.hi)→(Y=a.y.lo∨Y=a.y.hi)→f ⟨X,Y⟩=true:=by
 simp only[Ar.crn,List.all_cons,List.all_nil,Bool.and_true,Bool.and_eq_true] at h;obtain⟨a1,a2,a3,a4⟩:=h;rintro X Y (rfl|rfl) (rfl|rfl)<;>assumption
theorem behind_sound {c:Cone} {a:Ar} {p:Pt} (hp:a.hasP p) (h:a.crn.all c.behind=true):c.behind p=true:=by
 have q:=crn_all h;unfold Cone.behind Cone.d at *;simp only[decide_eq_true_eq] at q ⊢;have:=lin_le (a:=c.dx) (b:=c.dy) (c:=c.dx * c.fx+c.dy * c.fy) (fun X Y hX hY=>by have:=q X Y hX hY;grind) hp.1.1 hp.1.2 hp.2.1 hp.2.2;grind
theorem below_sound {c:Cone} {a:Ar} {p:Pt} (hp:a.hasP p) (h:a.crn.all c.below=true):c.below p=true:=by
 have q:=crn_all h;unfold Cone.below Cone.d Cone.n at *;simp only[decide_eq_true_eq] at q ⊢;have:=lin_le (a:=-(1000000 * c.dy)-c.low * c.dx) (b:=1000000 * c.dx-c.low * c.dy) (c:=1000000 * (c.dx * c.fy-c.dy * c.fx)-c.low * (c.dx * c.fx+c.dy * c.fy)-1) (fun X Y hX hY=>by have:=q X Y hX hY;grind) hp.1.1 hp.1.2 hp.2.1 hp.2.2;grind
theorem above_sound {c:Cone} {a:Ar} {p:Pt} (hp:a.hasP p) (h:a.crn.all c.above=true):c.above p=true:=by
 have q:=crn_all h;unfold Cone.above Cone.d Cone.n at *;simp only[decide_eq_true_eq] at q ⊢;have:=lin_le (a:=1000000 * c.dy+c.high * c.dx) (b:=c.high * c.dy-1000000 * c.dx) (c:=c.high * (c.dx * c.fx+c.dy * c.fy)-1000000 * (c.dx * c.fy-c.dy * c.fx)-1) (fun X Y hX hY=>by have:=q X Y hX hY;grind) hp.1.1 hp.1.2 hp.2.1 hp.2.2;grind
theorem hasP_sound {c:Cone} {a:Ar} {p:Pt} (hp:a.hasP p) (h:a.crn.all c.hasP=true):c.hasP p=true:=by
 have q:=crn_all h;unfold Cone.hasP Cone.behind Cone.below Cone.above Cone.d Cone.n at *;simp only[Bool.and_eq_true,Bool.not_eq_true',decide_eq_false_iff_not,Int.not_le,Int.not_lt] at q ⊢;have e1:=lin_le (a:=-c.dx) (b:=-c.dy) (c:=-(c.dx * c.fx+c.dy * c.fy)-1) (fun X Y hX hY=>by have:=(q X Y hX hY).1.1;grind) hp.1.1 hp.1.2 hp.2.1 hp.2.2;have e2:=lin_le (a:=1000000 * c.dy+c.low * c.dx) (b:=c.low * c.dy-1000000 * c.dx) (c:=c.low * (c.dx * c.fx+c.dy * c.fy)-1000000 * (c.dx * c.fy-c.dy * c.fx)) (fun X Y hX hY=>by have:=(q X Y hX hY).1.2;grind) hp.1.1 hp.1.2 hp.2.1 hp.2.2;have e3:=lin_le (a:=-(1000000 * c.dy)-c.high * c.dx) (b:=1000000 * c.dx-c.high * c.dy) (c:=1000000 * (c.dx * c.fy-c.dy * c.fx)-c.high * (c.dx * c.fx+c.dy * c.fy)) (fun X Y hX hY=>by have:=(q X Y hX hY).2;grind) hp.1.1 hp.1.2 hp.2.1 hp.2.2;refine⟨⟨?_,?_⟩,?_⟩<;>grind
theorem dist_le {a:Ar} {p:Pt} {fx fy M:Int} (hp:a.hasP p) (h:∀ X Y,(X=a.x.lo∨X=a.x.hi)→(Y=a.y.lo∨Y=a.y.hi)→dist2 ⟨X,Y⟩ fx fy≤M):dist2 p fx fy≤M:=by
 have:=rect_norm (xl:=a.x.lo-fx) (xh:=a.x.hi-fx) (yl:=a.y.lo-fy) (yh:=a.y.hi-fy) (x:=p.x-fx) (y:=p.y-fy) (M:=M) (fun X Y hX hY=>by
  have:=h (X+fx) (Y+fy) (by omega) (by omega);unfold dist2 at this;simp only[Int.add_sub_cancel] at this;exact this) (by have:=hp.1.1;omega) (by have:=hp.1.2;omega) (by have:=hp.2.1;omega) (by have:=hp.2.2;omega)
 exact this
theorem near_le {s:Sp} {n x:Int} (h:s.has x):(nearS s n-n) * (nearS s n-n)≤(x-n) * (x-n):=by
 unfold Sp.has at h;unfold nearS;rcases Int.le_total n x with g|g
 · exact sq_mono (a:=min (max n s.lo) s.hi-n) (by omega) (by omega)
 ·
  have:=sq_mono (a:=n-min (max n s.lo) s.hi) (b:=n-x) (by omega) (by omega);have e:∀ u v:Int,(u-v) * (u-v)=(v-u) * (v-u):=fun u v=>by grind
  rw[e _ n,e x n];exact this
theorem excl_sound {l:Look} {a:Ar} {p:Pt} (hp:a.hasP p) (h:l.agrees p=true):l.excl a=false:=by
 rw[Bool.eq_false_iff];intro e;cases l with
 | angle c=>
  simp only[Look.agrees,Cone.hasP] at h;simp only[Bool.and_eq_true,Bool.not_eq_true'] at h;simp only[Look.excl] at e;simp only[Bool.or_eq_true] at e;rcases e with(e|e)|e
  · rw[behind_sound hp e] at h;exact absurd h.1.1 (by simp)
  · rw[below_sound hp e] at h;exact absurd h.1.2 (by simp)
  · rw[above_sound hp e] at h;exact absurd h.2 (by simp)
 | reach fx fy lo hi=>
  simp only[Look.agrees] at h;simp only[Bool.and_eq_true,decide_eq_true_eq] at h;simp only[Look.excl] at e;simp only[Bool.or_eq_true,decide_eq_true_eq] at e;rcases e with e|e
  ·
   have a1:=near_le (n:=fx) hp.1;have a2:=near_le (n:=fy) hp.2;have:=h.2;unfold dist2 at e this;simp only at e;omega
  ·
   have q:=crn_all e;simp only[decide_eq_true_eq] at q;have:=dist_le (M:=lo * lo-1) (fx:=fx) (fy:=fy) hp (fun X Y hX hY=>by have:=q X Y hX hY;omega);have:=h.1;omega
 | empty c hi=>
  simp only[Look.agrees] at h;simp only[Look.excl] at e;have q:=crn_all e;simp only[Bool.and_eq_true,decide_eq_true_eq] at q
  have e1:a.crn.all c.hasP=true:=by
   rw[List.all_eq_true] at e ⊢;intro x hx;have:=e x hx;simp only[Bool.and_eq_true] at this;exact this.1
  have e2:=dist_le (M:=hi * hi) (fx:=c.fx) (fy:=c.fy) hp (fun X Y hX hY=>(q X Y hX hY).2);rw[hasP_sound hp e1] at h;simp only[Bool.not_true,Bool.false_or,decide_eq_true_eq] at h;omega
end Go.Proofs.YtdhiappifnflpaaGreat
namespace Go.Proofs.YtdhiappifnflpaaGreat
structure Bd where
 mu:Int
 rad:Int
 tr:List Pt
deriving Inhabited
structure Wd where
 bs:List Bd
 home:Nat
def Bd.at (b:Bd) (t:Int):Pt:=b.tr.getD (t % (b.tr.length:Int)).toNat ⟨0,0⟩
def Bd.hv (b:Bd) (t:Int):Hv:=⟨b.mu,b.rad,(b.at t).x,(b.at t).y⟩
def Wd.hvs (W:Wd) (t:Int):List Hv:=W.bs.map (·.hv t)
def Wd.hb (W:Wd):Bd:=W.bs.getD W.home ⟨0,0,[]⟩
def Wd.rad (W:Wd):Int:=W.hb.rad
def Wd.hp (W:Wd) (t:Int):Pt:=W.hb.at t
structure Bd.ok (b:Bd):Prop where
 mu0:0≤b.mu
 mu1:b.mu≤60000
 rad0:0≤b.rad
 rad1:b.rad≤60
 tr0:0<b.tr.length
 tr1:b.tr.length≤4
 pl:∀ p∈b.tr,-4000≤p.x∧p.x≤4000∧-4000≤p.y∧p.y≤4000
structure Wd.ok (W:Wd):Prop where
 n0:0<W.bs.length
 n1:W.bs.length≤8
 home:W.home<W.bs.length
 body:∀ b∈W.bs,b.ok
structure Dr.ok (d:Dr):Prop where
 l0:0≤d.light.lo
 l1:d.light.lo≤d.light.hi
 l2:d.light.hi≤1000
 h0:-1000≤d.heat.lo
 h1:d.heat.lo≤d.heat.hi
 h2:d.heat.hi≤1000
 g0:0≤d.gas
 g1:d.gas≤1000
theorem Bd.at_mem {b:Bd} (h:0<b.tr.length) (t:Int):b.at t∈b.tr:=by
 have e1:=Int.emod_nonneg t (show (b.tr.length:Int)≠0 by omega);have e2:=Int.emod_lt_of_pos t (show (0:Int)<b.tr.length by omega);have:(t % (b.tr.length:Int)).toNat<b.tr.length:=by omega
 unfold Bd.at;rw[List.getD_eq_getElem?_getD,List.getElem?_eq_getElem this,Option.getD_some];exact List.getElem_mem _
theorem Wd.ok.hb {W:Wd} (h:W.ok):W.hb∈W.bs:=by
 unfold Wd.hb;rw[List.getD_eq_getElem?_getD,List.getElem?_eq_getElem h.home,Option.getD_some];exact List.getElem_mem _
theorem Wd.ok.hp {W:Wd} (h:W.ok) (t:Int):-4000≤(W.hp t).x∧(W.hp t).x≤4000∧-4000≤(W.hp t).y∧(W.hp t).y≤4000:=
 (h.body _ h.hb).pl _ (Bd.at_mem (h.body _ h.hb).tr0 t)
def mp:Int:=1048576
def okSt (s:St):Bool:=decide (-33554432≤s.x∧s.x≤33554432∧-33554432≤s.y∧s.y≤33554432∧-1048576≤s.u∧s.u≤1048576∧-1048576≤s.v∧s.v≤1048576)
def Bx.los (b:Bx):St:=⟨b.x.lo,b.y.lo,b.u.lo,b.v.lo⟩
def Bx.his (b:Bx):St:=⟨b.x.hi,b.y.hi,b.u.hi,b.v.hi⟩
def Bx.ord (b:Bx):Bool:=decide (b.x.lo≤b.x.hi∧b.y.lo≤b.y.hi∧b.u.lo≤b.u.hi∧b.v.lo≤b.v.hi)
def okBx (b:Bx):Bool:=b.ord&&(okSt b.los&&okSt b.his)
def stepW (W:Wd) (d:Dr) (t:Int) (b:Bx):Option Bx:=if okBx (stepB mp d (W.hvs t) b)=true then some (stepB mp d (W.hvs t) b) else none
def TruthW (W:Wd) (d:Dr) (t:Int) (l:List St):Prop:=(∀ s∈l,okSt s=true)∧∀ (i:Nat) (h:i+1<l.length),Follows mp d (W.hvs (t+i)) l[i] l[i+1]
theorem stepW_has {W:Wd} {d:Dr} {t:Int} {b nx:Bx} {s m:St} (hW:W.ok) (hd:d.ok) (hb:b.has s) (hf:Follows mp d (W.hvs t) s m) (h:stepW W d t b=some nx):nx.has m:=by
 unfold stepW at h;split at h
 ·
  injection h with h
  rw[← h];refine step_has (fun x hx=>?_) hd.l1 hd.h1 hb hf;obtain⟨y,hy,rfl⟩:=List.mem_map.1 hx;exact(hW.body y hy).mu0
 · cases h
theorem stepW_ok {W:Wd} {d:Dr} {t:Int} {b nx:Bx} (h:stepW W d t b=some nx):okBx nx=true:=by
 unfold stepW at h;split at h
 ·
  injection h with h
  rw[← h];assumption
 · cases h
instance (p q:Pt) (r:Int):Decidable (comesP p q r):=by unfold comesP;infer_instance
def relP (W:Wd) (t:Int) (s:St):Pt:=⟨s.x-(W.hp t).x,s.y-(W.hp t).y⟩
def relA (W:Wd) (t:Int) (b:Bx):Ar:=⟨⟨b.x.lo-(W.hp t).x,b.x.hi-(W.hp t).x⟩,⟨b.y.lo-(W.hp t).y,b.y.hi-(W.hp t).y⟩⟩
def crn2 (a b:Ar):List Pt:=a.crn++b.crn
def firstP (l:List Pt) (p:Pt):Bool:=l.all fun q=>decide (0≤crs p q)
def clearA (a b:Ar) (r:Int):Bool:=((crn2 a b).all fun p=>(crn2 a b).all fun q=>!decide (comesP p q r))&&(crn2 a b).any fun p=>firstP (crn2 a b) p
def btwS (a b:Sp) (i:Int):Sp:=⟨btwI a.lo b.lo i,btwI a.hi b.hi i⟩
def btwA (a b:Ar) (i:Int):Ar:=⟨btwS a.x b.x i,btwS a.y b.y i⟩
def allIn (a:Ar) (r:Int):Bool:=a.crn.all fun p=>decide (p.x * p.x+p.y * p.y≤(8 * r) * (8 * r))
def Ar.single (a:Ar):Bool:=decide (a.x.lo=a.x.hi∧a.y.lo=a.y.hi)
def hitsA (a b:Ar) (r:Int):Bool:=((List.range 9).any fun i=>allIn (btwA a b (i:Nat)) r)||(a.single&&b.single&&decide (comesP ⟨a.x.lo,a.y.lo⟩ ⟨b.x.lo,b.y.lo⟩ r))
theorem crn2_corner {a b:Ar} (p:Pt):p∈crn2 a b↔Corner a.x.lo a.x.hi a.y.lo a.y.hi b.x.lo b.x.hi b.y.lo b.y.hi p:=by
 obtain⟨x,y⟩:=p;simp only[crn2,Ar.crn,List.mem_append,List.mem_cons,List.not_mem_nil,or_false,Pt.mk.injEq,Corner];grind
theorem clearA_sound {a b:Ar} {r:Int} (h:clearA a b r=true) {p q:Pt} (hp:a.hasP p) (hq:b.hasP q):¬ comesP p q r:=by
 unfold clearA at h;simp only[Bool.and_eq_true,List.all_eq_true,List.any_eq_true,firstP,Bool.not_eq_true',decide_eq_false_iff_not,decide_eq_true_eq] at h;obtain⟨h1,p0,hp0,h2⟩:=h;exact clear_sound (fun u v hu hv=>h1 u ((crn2_corner u).2 hu) v ((crn2_corner v).2 hv)) ⟨p0,(crn2_corner p0).1 hp0,fun q hq=>h2 q ((crn2_corner q).2 hq)⟩ hp.1.1 hp.1.2 hp.2.1 hp.2.2 hq.1.1 hq.1.2 hq.2.1 hq.2.2
def clearW (W:Wd) (t:Int) (b nx:Bx):Bool:=clearA (relA W t b) (relA W (t+1) nx) W.rad
def sureW (W:Wd) (t:Int) (b nx:Bx):Bool:=hitsA (relA W t b) (relA W (t+1) nx) W.rad
def hitW (W:Wd) (t:Int) (s m:St):Prop:=comesP (relP W t s) (relP W (t+1) m) W.rad
instance (W:Wd) (t:Int) (s m:St):Decidable (hitW W t s m):=by unfold hitW;infer_instance
theorem relA_has {W:Wd} {t:Int} {b:Bx} {s:St} (h:b.has s):(relA W t b).hasP (relP W t s):=by
 obtain⟨⟨h1,h2⟩,⟨h3,h4⟩,-,-⟩:=h;unfold Ar.hasP Sp.has relA relP;simp only;omega
def fateW (W:Wd) (d:Dr) (n:Nat) (t:Int) (b:Bx):Fk:=fateB (stepW W d) (clearW W) (sureW W) false n t b
def nth (l:List St) (i:Nat):St:=l.getD i ⟨0,0,0,0⟩
theorem nth_eq {l:List St} {i:Nat} (h:i<l.length):nth l i=l[i]:=by
 unfold nth;rw[List.getD_eq_getElem?_getD,List.getElem?_eq_getElem h,Option.getD_some]
section
variable {W:Wd} {d:Dr} {t:Int} {b:Bx} {l:List St} {n:Nat}
theorem TruthW.fol (h:TruthW W d t l) {i:Nat} (hi:i+1<l.length):Follows mp d (W.hvs (t+i)) (nth l i) (nth l (i+1)):=by
 rw[nth_eq (show i<l.length by omega),nth_eq hi];exact h.2 i hi
theorem TruthW.drop (h:TruthW W d t l) (k:Nat):TruthW W d (t+k) (l.drop k):=by
 refine⟨fun s hs=>h.1 s (List.mem_of_mem_drop hs),fun i hi=>?_⟩;rw[List.length_drop] at hi;have:=h.2 (k+i) (by omega);rw[show t+(k:Int)+(i:Int)=t+((k+i:Nat):Int) from by push_cast;omega];simpa only[List.getElem_drop,Nat.add_assoc] using this
theorem fateW_hit (hW:W.ok) (hd:d.ok) (h:TruthW W d t l) (hn:l.length=n+1) (hb:b.has (nth l 0)) (hh:∃ i:Nat,i<n∧hitW W (t+i) (nth l i) (nth l (i+1))):fateW W d n t b≠.miss:=
 fate_hit (fol:=fun t s m=>Follows mp d (W.hvs t) s m) (hits:=hitW W) (fun _ _ _ _ _ hb hf h=>stepW_has hW hd hb hf h)
  (fun _ _ _ _ _ hc hb hn=>clearA_sound hc (relA_has hb) (relA_has hn)) n t b false (nth l) hb (fun _ hi=>h.fol (by omega)) hh
end
end Go.Proofs.YtdhiappifnflpaaGreat
namespace Go.Proofs.YtdhiappifnflpaaGreat
open Go.RowKit
theorem ret_bool {a b:Bool} (h:a=b):Ending.returned (.bool a)=Ending.returned (.bool b):=by rw[h]
def btw (n lo hi:Int):Bool:=decide (lo≤n)&&decide (n≤hi)
theorem btw_t {n lo hi:Int} (h1:lo≤n) (h2:n≤hi):btw n lo hi=true:=by simp[btw,h1,h2]
def Sp.fit (s:Sp):Prop:=-1152921504606846976≤s.lo∧s.lo≤s.hi∧s.hi≤1152921504606846976
theorem span_within_any (n lo hi:Int) (w:World) :
  Calls Tryz.prog 118 #[n,lo,hi] w fun e w'=>e=.returned (.bool (btw n lo hi))∧Kp w.heap.size none w w':=by
 go_enter Tryz.func118,Tryz.ntmps118
 go_wp2
 all_goals
  go_ret
  refine⟨ret_bool ?_,Kp.refl _ _ _⟩;rw[Bool.eq_iff_iff];simp[btw]
  try omega
theorem sky_within_any (n lo hi:Int) (w:World) :
  Calls Tryz.prog 124 #[n,lo,hi] w fun e w'=>e=.returned (.bool (btw n lo hi))∧Kp w.heap.size none w w':=by
 go_enter Tryz.func124,Tryz.ntmps124
 go_wp2
 all_goals
  go_ret
  refine⟨ret_bool ?_,Kp.refl _ _ _⟩;rw[Bool.eq_iff_iff];simp[btw]
  try omega
theorem force_within_any (n lo hi:Int) (w:World) :
  Calls Tryz.prog 102 #[n,lo,hi] w fun e w'=>e=.returned (.bool (btw n lo hi))∧Kp w.heap.size none w w':=by
 go_enter Tryz.func102,Tryz.ntmps102
 go_wp2
 all_goals
  go_ret
  refine⟨ret_bool ?_,Kp.refl _ _ _⟩;rw[Bool.eq_iff_iff];simp[btw]
  try omega
theorem orbit_within_any (n lo hi:Int) (w:World) :
  Calls Tryz.prog 36 #[n,lo,hi] w fun e w'=>e=.returned (.bool (btw n lo hi))∧Kp w.heap.size none w w':=by
 go_enter Tryz.func36,Tryz.ntmps36
 go_wp2
 all_goals
  go_ret
  refine⟨ret_bool ?_,Kp.refl _ _ _⟩;rw[Bool.eq_iff_iff];simp[btw]
  try omega
theorem meet_within_any (n lo hi:Int) (w:World) :
  Calls Tryz.prog 47 #[n,lo,hi] w fun e w'=>e=.returned (.bool (btw n lo hi))∧Kp w.heap.size none w w':=by
 go_enter Tryz.func47,Tryz.ntmps47
 go_wp2
 all_goals
  go_ret
  refine⟨ret_bool ?_,Kp.refl _ _ _⟩;rw[Bool.eq_iff_iff];simp[btw]
  try omega
theorem bolideref01_between_any (n lo hi:Int) (w:World) :
  Calls Tryz.prog 238 #[n,lo,hi] w fun e w'=>e=.returned (.bool (btw n lo hi))∧Kp w.heap.size none w w':=by
 go_enter Tryz.func238,Tryz.ntmps238
 go_wp2
 all_goals
  go_ret
  refine⟨ret_bool ?_,Kp.refl _ _ _⟩;rw[Bool.eq_iff_iff];simp[btw]
  try omega
theorem bolideref02_between_any (n lo hi:Int) (w:World) :
  Calls Tryz.prog 60 #[n,lo,hi] w fun e w'=>e=.returned (.bool (btw n lo hi))∧Kp w.heap.size none w w':=by
 go_enter Tryz.func60,Tryz.ntmps60
 go_wp2
 all_goals
  go_ret
  refine⟨ret_bool ?_,Kp.refl _ _ _⟩;rw[Bool.eq_iff_iff];simp[btw]
  try omega
theorem bolideref03_between_any (n lo hi:Int) (w:World) :
  Calls Tryz.prog 197 #[n,lo,hi] w fun e w'=>e=.returned (.bool (btw n lo hi))∧Kp w.heap.size none w w':=by
 go_enter Tryz.func197,Tryz.ntmps197
 go_wp2
 all_goals
  go_ret
  refine⟨ret_bool ?_,Kp.refl _ _ _⟩;rw[Bool.eq_iff_iff];simp[btw]
  try omega
theorem span_fits_any (n:Int) (w:World) :
  Calls Tryz.prog 190 #[n] w fun e w'=>e=.returned (.bool (btw n (-1152921504606846976) 1152921504606846976))∧Kp w.heap.size none w w':=by
 go_enter Tryz.func190,Tryz.ntmps190
 go_wp2_with fail
 refine mK (span_within_any _ _ _ _) fun w1 hk1=>?_;go_wp2
 go_ret
 exact⟨rfl,hk1⟩
theorem bolideref01_fits_any (n:Int) (w:World) :
  Calls Tryz.prog 244 #[n] w fun e w'=>e=.returned (.bool (btw n (-1152921504606846976) 1152921504606846976))∧Kp w.heap.size none w w':=by
 go_enter Tryz.func244,Tryz.ntmps244
 go_wp2_with fail
 refine mK (bolideref01_between_any _ _ _ _) fun w1 hk1=>?_;go_wp2
 go_ret
 exact⟨rfl,hk1⟩
theorem span_fits_t (n:Int) (w:World) (h1:-1152921504606846976≤n) (h2:n≤1152921504606846976) :
  Calls Tryz.prog 190 #[n] w fun e w'=>e=.returned (.bool true)∧Kp w.heap.size none w w':=by
 have:=span_fits_any n w;rwa [btw_t h1 h2] at this
theorem span_Check_any (s:Sp) (h:s.fit) (w:World) :
  Calls Tryz.prog 159 #[s] w fun e w'=>e=.returned (.int .i64 0)∧Kp w.heap.size none w w':=by
 obtain⟨h1,h2,h3⟩:=h;have h4:¬ s.hi<s.lo:=by omega
 obtain⟨w1,hw1,B,K,hz⟩:=box1 w 29 s;go_enter Tryz.func159,Tryz.ntmps159
 go_wp2_with fail
 rw[← hw1];clear hw1;refine mK (span_fits_t s.lo _ h1 oM) fun w2 k=>?_;replace B:=B.kpN k;replace K:=K.thenN k oM;have hzk:=k.size;clear k;have cB:=B.cell;have fB:=B.frozen;go_wp2_with fail
 refine mK (span_fits_t s.hi _ oM h3) fun w3 k=>?_;clear cB fB;replace B:=B.kpN k;replace K:=K.thenN k oM;have hzk:=k.size;clear k;have cB:=B.cell;have fB:=B.frozen;go_wp2_with fail
 clear cB fB;go_ret
 exact⟨rfl,K⟩
theorem span_valid_any (a b:Sp) (ha:a.fit) (hb:b.fit) (w:World) :
  Calls Tryz.prog 112 #[a,b] w fun e w'=>e=.returned (.int .i64 0)∧Kp w.heap.size none w w':=by
 obtain⟨w1,hw1,A,B,K,hz⟩:=box2 w 29 a 29 b;go_enter Tryz.func112,Tryz.ntmps112
 go_wp2_with fail
 rw[← hw1];clear hw1;refine mK (span_Check_any a ha _) fun w2 k=>?_;replace A:=A.kpN k;replace B:=B.kpN k;replace K:=K.thenN k oM;have hzk:=k.size;clear k;have cA:=A.cell;have fA:=A.frozen;have cB:=B.cell;have fB:=B.frozen;go_wp2_with fail
 refine mK (span_Check_any b hb _) fun w3 k=>?_;clear cA fA cB fB;replace A:=A.kpN k;replace B:=B.kpN k;replace K:=K.thenN k oM;have hzk:=k.size;clear k;have cA:=A.cell;have fA:=A.frozen;have cB:=B.cell;have fB:=B.frozen;go_wp2_with fail
 clear cA fA cB fB;go_ret
 exact⟨rfl,K⟩
theorem span_ends_any (lo hi:Int) (h:Sp.fit ⟨lo,hi⟩) (w:World) :
  Calls Tryz.prog 253 #[lo,hi] w fun e w'=>e=.returned (.tuple #[.agg #[lo,hi],(0:Int)])∧Kp w.heap.size none w w':=by
 obtain⟨h1,h2,h3⟩:=h;simp only at h1 h2 h3;obtain⟨w1,hw1,R,K,hz⟩:=box1 w 29 #[(0:Int),(0:Int)];go_enter Tryz.func253,Tryz.ntmps253
 go_wp2_with fail
 rw[← hw1];clear hw1;refine mK (span_fits_t lo _ h1 oM) fun w2 k=>?_;replace R:=R.kpN k;replace K:=K.thenN k oM;have hzk:=k.size;clear k;have cR:=R.cell;have fR:=R.frozen;go_wp2_with fail
 refine mK (span_fits_t hi _ oM h3) fun w3 k=>?_;clear cR fR;replace R:=R.kpN k;replace K:=K.thenN k oM;have hzk:=k.size;clear k;have cR:=R.cell;have fR:=R.frozen;go_wp2_with fail
 clear cR fR;have BR:=((R.set_ 0 (.int .i64 lo)).set_ 1 (.int .i64 hi));have cR:=BR.cell;exact bodyPost_ret (by simp[results,Tryz.results253,go_sem,cR]) rfl ⟨rfl,((K.setNew (by simp<;>omega) _).setNew (by simp<;>omega) _)⟩
theorem span_Add_any (a b:Sp) (ha:a.fit) (hb:b.fit) (hr:(addS a b).fit) (w:World) :
  Calls Tryz.prog 233 #[a,b] w fun e w'=>e=.returned (.tuple #[.agg #[(addS a b).lo,(addS a b).hi],(0:Int)])∧Kp w.heap.size none w w':=by
 have hr':=hr;unfold Sp.fit addS at hr';simp only at hr';have e1:wrap64 (a.lo+b.lo)=(addS a b).lo:=by unfold wrap64 addS;simp only;omega
 have e2:wrap64 (a.hi+b.hi)=(addS a b).hi:=by unfold wrap64 addS;simp only;omega
 clear hr';obtain⟨w1,hw1,A,B,R,K,hz⟩:=box3 w 29 a 29 b 29 #[(0:Int),(0:Int)];go_enter Tryz.func233,Tryz.ntmps233
 go_wp2_with fail
 rw[← hw1];clear hw1;refine mK (span_valid_any a b ha hb _) fun w2 k=>?_;replace A:=A.kpN k;replace B:=B.kpN k;replace R:=R.kpN k;replace K:=K.thenN k oM;have hzk:=k.size;clear k;have cA:=A.cell;have fA:=A.frozen;have cB:=B.cell;have fB:=B.frozen;have cR:=R.cell;have fR:=R.frozen;go_wp2_with fail
 refine mK (span_ends_any (addS a b).lo (addS a b).hi hr _) fun w3 k=>?_;clear cA fA cB fB cR fR;replace A:=A.kpN k;replace B:=B.kpN k;replace R:=R.kpN k;replace K:=K.thenN k oM;have hzk:=k.size;clear k;have cA:=A.cell;have fA:=A.frozen;have cB:=B.cell;have fB:=B.frozen;have cR:=R.cell;have fR:=R.frozen;go_wp2_with fail
 clear cA fA cB fB cR fR;have BR:=((R.set_ 0 (.int .i64 (addS a b).lo)).set_ 1 (.int .i64 (addS a b).hi));have cR:=BR.cell;exact bodyPost_ret (by simp[results,Tryz.results233,go_sem,cR]) rfl ⟨rfl,((K.setNew (by simp<;>omega) _).setNew (by simp<;>omega) _)⟩
theorem span_Sub_any (a b:Sp) (ha:a.fit) (hb:b.fit) (hr:(subS a b).fit) (w:World) :
  Calls Tryz.prog 258 #[a,b] w fun e w'=>e=.returned (.tuple #[.agg #[(subS a b).lo,(subS a b).hi],(0:Int)])∧Kp w.heap.size none w w':=by
 have hr':=hr;unfold Sp.fit subS at hr';simp only at hr';have e1:wrap64 (a.lo-b.hi)=(subS a b).lo:=by unfold wrap64 subS;simp only;omega
 have e2:wrap64 (a.hi-b.lo)=(subS a b).hi:=by unfold wrap64 subS;simp only;omega
 clear hr';obtain⟨w1,hw1,A,B,R,K,hz⟩:=box3 w 29 a 29 b 29 #[(0:Int),(0:Int)];go_enter Tryz.func258,Tryz.ntmps258
 go_wp2_with fail
 rw[← hw1];clear hw1;refine mK (span_valid_any a b ha hb _) fun w2 k=>?_;replace A:=A.kpN k;replace B:=B.kpN k;replace R:=R.kpN k;replace K:=K.thenN k oM;have hzk:=k.size;clear k;have cA:=A.cell;have fA:=A.frozen;have cB:=B.cell;have fB:=B.frozen;have cR:=R.cell;have fR:=R.frozen;go_wp2_with fail
 refine mK (span_ends_any (subS a b).lo (subS a b).hi hr _) fun w3 k=>?_;clear cA fA cB fB cR fR;replace A:=A.kpN k;replace B:=B.kpN k;replace R:=R.kpN k;replace K:=K.thenN k oM;have hzk:=k.size;clear k;have cA:=A.cell;have fA:=A.frozen;have cB:=B.cell;have fB:=B.frozen;have cR:=R.cell;have fR:=R.frozen;go_wp2_with fail
 clear cA fA cB fB cR fR;have BR:=((R.set_ 0 (.int .i64 (subS a b).lo)).set_ 1 (.int .i64 (subS a b).hi));have cR:=BR.cell;exact bodyPost_ret (by simp[results,Tryz.results258,go_sem,cR]) rfl ⟨rfl,((K.setNew (by simp<;>omega) _).setNew (by simp<;>omega) _)⟩
theorem span_In_any (s:Sp) (n:Int) (h:s.fit) (w:World) :
  Calls Tryz.prog 259 #[s,n] w fun e w'=>e=.returned (.bool (btw n s.lo s.hi))∧Kp w.heap.size none w w':=by
 obtain⟨w1,hw1,B,K,hz⟩:=box1 w 29 s;go_enter Tryz.func259,Tryz.ntmps259
 go_wp2_with fail
 rw[← hw1];clear hw1;refine mK (span_Check_any s h _) fun w2 k=>?_;replace B:=B.kpN k;replace K:=K.thenN k oM;have hzk:=k.size;clear k;have cB:=B.cell;have fB:=B.frozen;go_wp2_with fail
 refine mK (span_within_any n s.lo s.hi _) fun w3 k=>?_;clear cB fB;replace B:=B.kpN k;replace K:=K.thenN k oM;have hzk:=k.size;clear k;have cB:=B.cell;have fB:=B.frozen;go_wp2_with fail
 clear cB fB;go_ret
 exact⟨rfl,K⟩
theorem wrapu_neg (n:Int) (h:n<0) (h1:-9223372036854775808<n):IntKind.u64.wrap (-IntKind.u64.wrap n)=((n.natAbs:Nat):Int):=by
 rw[wrapu,wrapu];omega
theorem wrapu_pos (n:Int) (h:¬ n<0) (h1:n<9223372036854775808):IntKind.u64.wrap n=((n.natAbs:Nat):Int):=by
 rw[wrapu];omega
theorem span_size_any (n:Int) (h1:-9223372036854775808<n) (h2:n<9223372036854775808) (w:World) :
  Calls Tryz.prog 115 #[n] w fun e w'=>e=.returned (.int .u64 ((n.natAbs:Nat):Int))∧Kp w.heap.size none w w':=by
 by_cases h:n<0
 ·
  have e1:=wrapu_neg n h h1;go_enter Tryz.func115,Tryz.ntmps115
  go_wp2
  go_ret
  exact⟨rfl,Kp.refl _ _ _⟩
 ·
  have e1:=wrapu_pos n h h2;go_enter Tryz.func115,Tryz.ntmps115
  go_wp2
  go_ret
  exact⟨rfl,Kp.refl _ _ _⟩
theorem span_times_any (a b:Nat) (ha:a<18446744073709551616) (hb:b<18446744073709551616) (w:World) :
  Calls Tryz.prog 114 #[.int .u64 a,.int .u64 b] w fun e w'=>e=.returned (.agg #[.int .u64 ((a * b / 18446744073709551616:Nat):Int),.int .u64 ((a * b % 18446744073709551616:Nat):Int)])∧Kp w.heap.size none w w':=by
 obtain⟨H,hH⟩:∃ H:Nat,Hid (H=a * b / 18446744073709551616):=⟨_,Lib.hid rfl⟩;obtain⟨L,hL⟩:∃ L:Nat,Hid (L=a * b % 18446744073709551616):=⟨_,Lib.hid rfl⟩;rw[← hH.out,← hL.out];go_enter Tryz.func114,Tryz.ntmps114
 go_wp2_with (go_at_call 161;refine(Tryz.bits_Mul64 a b ha hb _).mono ?_;rintro e w1 ⟨he,rfl⟩;rw[← hH.out,← hL.out] at he;subst he)
 exact bodyPost_ret (by simp[results,Tryz.results114,go_sem]) rfl ⟨rfl,(Kp.refl _ _ _).alloc (Nat.le_refl _) _⟩
theorem natAbs_prod (a b:Int):(a * b).natAbs=a.natAbs * b.natAbs:=Int.natAbs_mul a b
theorem span_product_any (a b:Int) (ha:-9223372036854775808<a∧a<9223372036854775808) (hb:-9223372036854775808<b∧b<9223372036854775808) (hp:(a * b).natAbs<9223372036854775808) (w:World) :
  Calls Tryz.prog 70 #[a,b] w fun e w'=>e=.returned (.agg #[.int .u64 0,.int .u64 (((a * b).natAbs:Nat):Int),.bool (!(decide (a<0)==decide (b<0)))])∧Kp w.heap.size none w w':=by
 have hd:a.natAbs * b.natAbs / 18446744073709551616=0:=by rw[← natAbs_prod];omega
 have hm:a.natAbs * b.natAbs % 18446744073709551616=(a * b).natAbs:=by rw[← natAbs_prod];omega
 have ht:=fun w=>span_times_any a.natAbs b.natAbs oM oM w;rw[hd,hm] at ht;obtain⟨x,hx⟩:∃ x,x=(a * b).natAbs:=⟨_,rfl⟩;rw[← hx] at ht ⊢;clear hd hm hp hx;obtain⟨w1,hw1,R,K,hz⟩:=box1 w 137 #[.int .u64 0,.int .u64 0,.bool false];go_enter Tryz.func70,Tryz.ntmps70
 go_wp2_with fail
 rw[← hw1];clear hw1;refine mK (span_size_any a ha.1 ha.2 _) fun w2 k=>?_;replace R:=R.kpN k;replace K:=K.thenN k oM;have hzk:=k.size;clear k;have cR:=R.cell;have fR:=R.frozen;go_wp2_with fail
 refine mK (span_size_any b hb.1 hb.2 _) fun w3 k=>?_;clear cR fR;replace R:=R.kpN k;replace K:=K.thenN k oM;have hzk:=k.size;clear k;have cR:=R.cell;have fR:=R.frozen;go_wp2_with fail
 refine mK (ht _) fun w4 k=>?_;clear cR fR;replace R:=R.kpN k;replace K:=K.thenN k oM;have hzk:=k.size;clear k;have cR:=R.cell;have fR:=R.frozen;go_wp2_with fail
 clear cR fR;have BR:=(((R.set_ 0 (.int .u64 0)).set_ 1 (.int .u64 x)).set_ 2 (.bool (!(decide (a<0)==decide (b<0)))));have cR:=BR.cell;exact bodyPost_ret (by simp[results,Tryz.results70,go_sem,cR]) rfl ⟨rfl,(((K.setNew (by simp<;>omega) _).setNew (by simp<;>omega) _).setNew (by simp<;>omega) _)⟩
end Go.Proofs.YtdhiappifnflpaaGreat
