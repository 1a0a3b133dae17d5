/- The fate of a box, in plain Lean: a truth that hits is in no box that misses, one that does not is in none that surely hits. No program here. span.Clear and span.Hits are sound, in plain Lean: no program here. Looks in plain Lean: what a sight excludes has no place that agrees with it. No program here. -/
import Derived.Test.YtdhiappifnflpaaGreatDoorM06
import Derived.WalkKit
namespace Go.Proofs.YtdhiappifnflpaaGreatDoor
inductive Fk|miss|open|hit
deriving DecidableEq
def fateB (stp:Int→Bx→Option Bx) (clear sure:Int→Bx→Bx→Bool):Bool→Nat→Int→Bx→Fk
 | o,0,_,_=>if o then .open else .miss
 | o,n+1,t,b=>
  match stp t b with
  | none=>.open
  | some nx=>if (o||!clear t b nx)&&sure t b nx then .hit else fateB stp clear sure (o||!clear t b nx) n (t+1) nx
section
variable {stp:Int→Bx→Option Bx} {clear sure:Int→Bx→Bx→Bool} {fol hits:Int→St→St→Prop}
end
end Go.Proofs.YtdhiappifnflpaaGreatDoor
namespace Go.Proofs.YtdhiappifnflpaaGreatDoor
theorem sq_nonneg' (a:Int):0≤a * a:=by
 rcases Int.le_total 0 a with h|h
 · exact Int.mul_nonneg h h
 ·
  have:=Int.mul_nonneg (Int.neg_nonneg_of_nonpos h) (Int.neg_nonneg_of_nonpos h);grind
structure Pt where
 x:Int
 y:Int
def n2 (p:Pt):Int:=p.x * p.x+p.y * p.y
def NearSeg (p q:Pt) (r:Int):Prop:=∃ m k:Int,0≤m∧0≤k∧0<m+k∧n2 ⟨m * p.x+k * q.x,m * p.y+k * q.y⟩≤(m+k) * (m+k) * (r * r)
def comesP (p q:Pt) (r:Int):Prop:=
 if -(p.x * (q.x-p.x)+p.y * (q.y-p.y))≤0 then n2 p≤r * r
 else if (q.x-p.x) * (q.x-p.x)+(q.y-p.y) * (q.y-p.y)≤-(p.x * (q.x-p.x)+p.y * (q.y-p.y)) then n2 q≤r * r
 else (p.x * q.y-p.y * q.x) * (p.x * q.y-p.y * q.x)≤r * r * ((q.x-p.x) * (q.x-p.x)+(q.y-p.y) * (q.y-p.y))
theorem near_of_comes {p q:Pt} {r:Int} (h:comesP p q r):NearSeg p q r:=by
 unfold comesP at h;split at h
 · exact⟨1,0,by omega,by omega,by omega,by simpa [n2] using h⟩
 ·
  split at h
  · exact⟨0,1,by omega,by omega,by omega,by simpa [n2] using h⟩
  ·
   rename_i h1 h2;obtain⟨a,ha⟩:∃ a,a=-(p.x * (q.x-p.x)+p.y * (q.y-p.y)):=⟨_,rfl⟩;obtain⟨l,hl⟩:∃ l,l=(q.x-p.x) * (q.x-p.x)+(q.y-p.y) * (q.y-p.y):=⟨_,rfl⟩;rw[← ha] at h1 h2;rw[← hl] at h h2;refine⟨l-a,a,by omega,by omega,by omega,?_⟩
   have e:n2 ⟨(l-a) * p.x+a * q.x,(l-a) * p.y+a * q.y⟩=l * ((p.x * q.y-p.y * q.x) * (p.x * q.y-p.y * q.x)):=by
    unfold n2;subst ha hl;grind
   rw[e,show (l-a+a)=l by omega,Int.mul_assoc];refine Int.mul_le_mul_of_nonneg_left ?_ (by omega);rw[Int.mul_comm l];exact h
theorem comes_of_near {p q:Pt} {r:Int} (h:NearSeg p q r):comesP p q r:=by
 obtain⟨m,k,hm,hk,hs,hn⟩:=h;obtain⟨R,hR⟩:∃ R,R=r * r:=⟨_,rfl⟩;obtain⟨a,ha⟩:∃ a,a=-(p.x * (q.x-p.x)+p.y * (q.y-p.y)):=⟨_,rfl⟩;obtain⟨l,hl⟩:∃ l,l=(q.x-p.x) * (q.x-p.x)+(q.y-p.y) * (q.y-p.y):=⟨_,rfl⟩;have hl0:0≤l:=by rw[hl];have:=sq_nonneg' (q.x-p.x);have:=sq_nonneg' (q.y-p.y);omega
 have hnn:0<(m+k) * (m+k):=Int.mul_pos hs hs;unfold comesP;rw[← ha,← hl,← hR];rw[← hR] at hn;split
 ·
  rename_i h1;have e:n2 ⟨m * p.x+k * q.x,m * p.y+k * q.y⟩=(m+k) * (m+k) * n2 p+2 * ((m+k) * k) * (-a)+k * k * l:=by unfold n2;subst ha hl;grind
  have h2:0≤2 * ((m+k) * k) * (-a):=Int.mul_nonneg (by have:=Int.mul_nonneg (show 0≤m+k by omega) hk;omega) (by omega);have h3:0≤k * k * l:=Int.mul_nonneg (sq_nonneg' k) hl0;exact Int.le_of_mul_le_mul_left (by omega) hnn
 ·
  split
  ·
   rename_i h1 h4;have e:n2 ⟨m * p.x+k * q.x,m * p.y+k * q.y⟩=(m+k) * (m+k) * n2 q+2 * ((m+k) * m) * (a-l)+m * m * l:=by unfold n2;subst ha hl;grind
   have h2:0≤2 * ((m+k) * m) * (a-l):=Int.mul_nonneg (by have:=Int.mul_nonneg (show 0≤m+k by omega) hm;omega) (by omega);have h3:0≤m * m * l:=Int.mul_nonneg (sq_nonneg' m) hl0;exact Int.le_of_mul_le_mul_left (by omega) hnn
  ·
   have e:n2 ⟨m * p.x+k * q.x,m * p.y+k * q.y⟩ * l=(m+k) * (m+k) * ((p.x * q.y-p.y * q.x) * (p.x * q.y-p.y * q.x))+((m+k) * (-a)+k * l) * ((m+k) * (-a)+k * l):=by unfold n2;subst ha hl;grind
   have h2:=sq_nonneg' ((m+k) * (-a)+k * l);have h3:=Int.mul_le_mul_of_nonneg_right hn hl0;rw[Int.mul_assoc] at h3;exact Int.le_of_mul_le_mul_left (by omega) hnn
theorem NearSeg.symm {p q:Pt} {r:Int} (h:NearSeg p q r):NearSeg q p r:=by
 obtain⟨m,k,hm,hk,hs,hn⟩:=h;refine⟨k,m,hk,hm,by omega,?_⟩;rw[Int.add_comm k m];have e:n2 ⟨k * q.x+m * p.x,k * q.y+m * p.y⟩=n2 ⟨m * p.x+k * q.x,m * p.y+k * q.y⟩:=by unfold n2;grind
 rw[e];exact hn
def crs (a b:Pt):Int:=a.x * b.y-a.y * b.x
def dtp (a b:Pt):Int:=a.x * b.x+a.y * b.y
def Pos (p w:Pt):Prop:=0<crs p w∨(crs p w=0∧0<dtp p w)
def OnSeg (w v1 v2:Pt):Prop:=∃ a b:Int,0≤a∧0≤b∧0<a+b∧(a+b) * w.x=a * v1.x+b * v2.x∧(a+b) * w.y=a * v1.y+b * v2.y
theorem pos3 {p u v w:Pt} (hu:Pos p u) (hv:Pos p v) (hw:Pos p w) {a b c:Int} (ha:0≤a) (hb:0≤b) (hc:0≤c) (hs:0<a+b+c) (ex:a * u.x+b * v.x+c * w.x=0) (ey:a * u.y+b * v.y+c * w.y=0):False:=by
 have e1:a * crs p u+b * crs p v+c * crs p w=0:=by unfold crs;grind
 have e2:a * dtp p u+b * dtp p v+c * dtp p w=0:=by unfold dtp;grind
 have cu:0≤crs p u:=by rcases hu with h|h<;>omega
 have cv:0≤crs p v:=by rcases hv with h|h<;>omega
 have cw:0≤crs p w:=by rcases hw with h|h<;>omega
 have m1:=Int.mul_nonneg ha cu;have m2:=Int.mul_nonneg hb cv;have m3:=Int.mul_nonneg hc cw
 have k:∀ {t:Int} {z:Pt},0≤t→Pos p z→t * crs p z=0→0≤t * dtp p z∧(0<t→0<t * dtp p z):=fun {t z} ht hz h0=>by
  rcases Int.lt_or_eq_of_le ht with h|h
  ·
   have hz0:crs p z=0:=by
    rcases Int.mul_eq_zero.1 h0 with h9|h9
    · omega
    · exact h9
   have hd:0<dtp p z:=by rcases hz with h9|h9<;>omega
   have:=Int.mul_pos h hd;exact⟨by omega,fun _=>this⟩
  ·
   subst h;exact⟨by simp,fun h=>by omega⟩
 have k1:=k ha hu (by omega);have k2:=k hb hv (by omega);have k3:=k hc hw (by omega);rcases (show 0<a∨0<b∨0<c by omega) with h|h|h
 · have:=k1.2 h;omega
 · have:=k2.2 h;omega
 · have:=k3.2 h;omega
theorem Pos.seg {p w v1 v2:Pt} (h1:Pos p v1) (h2:Pos p v2) (h:OnSeg w v1 v2):Pos p w:=by
 obtain⟨a,b,ha,hb,hs,ex,ey⟩:=h;have e1:(a+b) * crs p w=a * crs p v1+b * crs p v2:=by unfold crs;grind
 have e2:(a+b) * dtp p w=a * dtp p v1+b * dtp p v2:=by unfold dtp;grind
 have c1:0≤crs p v1:=by rcases h1 with h|h<;>omega
 have c2:0≤crs p v2:=by rcases h2 with h|h<;>omega
 have m1:=Int.mul_nonneg ha c1;have m2:=Int.mul_nonneg hb c2;rcases Int.lt_trichotomy (crs p w) 0 with h|h|h
 · have:=Int.mul_neg_of_pos_of_neg hs h;omega
 ·
  right
  refine⟨h,?_⟩;rw[h,Int.mul_zero] at e1;have z1:a * crs p v1=0:=by omega
  have z2:b * crs p v2=0:=by omega
  have d1:0≤a * dtp p v1∧(0<a→0<a * dtp p v1):=by
   rcases Int.lt_or_eq_of_le ha with h9|h9
   ·
    have hz:crs p v1=0:=by rcases Int.mul_eq_zero.1 z1 with q|q<;>omega
    have:=Int.mul_pos h9 (show 0<dtp p v1 by rcases h1 with q|q<;>omega);exact⟨by omega,fun _=>this⟩
   · subst h9;exact⟨by simp,fun q=>by omega⟩
  have d2:0≤b * dtp p v2∧(0<b→0<b * dtp p v2):=by
   rcases Int.lt_or_eq_of_le hb with h9|h9
   ·
    have hz:crs p v2=0:=by rcases Int.mul_eq_zero.1 z2 with q|q<;>omega
    have:=Int.mul_pos h9 (show 0<dtp p v2 by rcases h2 with q|q<;>omega);exact⟨by omega,fun _=>this⟩
   · subst h9;exact⟨by simp,fun q=>by omega⟩
  have hpos:0<(a+b) * dtp p w:=by
   rcases (show 0<a∨0<b by omega) with h9|h9
   · have:=d1.2 h9;omega
   · have:=d2.2 h9;omega
  rcases Int.lt_or_le 0 (dtp p w) with q|q
  · exact q
  · have:=Int.mul_nonpos_of_nonneg_of_nonpos (Int.le_of_lt hs) q;omega
 · exact .inl h
theorem sq_mono {a b:Int} (ha:0≤a) (h:a≤b):a * a≤b * b:=Int.mul_le_mul h h ha (by omega)
theorem edge_near {u v1 v2:Pt} {r l1 l2 l3 A B C:Int} (h1:0≤l1) (hs:0<l1+l2+l3) (ex:A * u.x+B * v1.x+C * v2.x=0) (ey:A * u.y+B * v1.y+C * v2.y=0) (hD:0≤A+B+C)
  (hA:A<0) (hB:0≤l2 * (-A)+l1 * B) (hC:0≤l3 * (-A)+l1 * C)
  (hn:n2 ⟨l1 * u.x+l2 * v1.x+l3 * v2.x,l1 * u.y+l2 * v1.y+l3 * v2.y⟩≤(l1+l2+l3) * (l1+l2+l3) * (r * r)):NearSeg v1 v2 r:=by
 have hge:(-A) * (l1+l2+l3)≤(l2 * (-A)+l1 * B)+(l3 * (-A)+l1 * C):=by
  have:=Int.mul_nonneg h1 hD;have e:(l2 * (-A)+l1 * B)+(l3 * (-A)+l1 * C)=(-A) * (l1+l2+l3)+l1 * (A+B+C):=by grind
  omega
 have hp:0<(-A) * (l1+l2+l3):=Int.mul_pos (by omega) hs;refine⟨l2 * (-A)+l1 * B,l3 * (-A)+l1 * C,hB,hC,by omega,?_⟩
 have e:n2 ⟨(l2 * (-A)+l1 * B) * v1.x+(l3 * (-A)+l1 * C) * v2.x,(l2 * (-A)+l1 * B) * v1.y+(l3 * (-A)+l1 * C) * v2.y⟩=(A * A) * n2 ⟨l1 * u.x+l2 * v1.x+l3 * v2.x,l1 * u.y+l2 * v1.y+l3 * v2.y⟩:=by
  have e1:(l2 * (-A)+l1 * B) * v1.x+(l3 * (-A)+l1 * C) * v2.x=(-A) * (l1 * u.x+l2 * v1.x+l3 * v2.x):=by grind
  have e2:(l2 * (-A)+l1 * B) * v1.y+(l3 * (-A)+l1 * C) * v2.y=(-A) * (l1 * u.y+l2 * v1.y+l3 * v2.y):=by grind
  rw[e1,e2];unfold n2;grind
 rw[e];have q1:=Int.mul_le_mul_of_nonneg_left hn (sq_nonneg' A);have q2:=sq_mono (Int.le_of_lt hp) hge;have q3:=Int.mul_le_mul_of_nonneg_right q2 (sq_nonneg' r);have e3:A * A * ((l1+l2+l3) * (l1+l2+l3) * (r * r))=(-A) * (l1+l2+l3) * ((-A) * (l1+l2+l3)) * (r * r):=by grind
 omega
theorem n2_pos {p u:Pt} (h:Pos p u):0<n2 u:=by
 have a:=sq_nonneg' u.x;have b:=sq_nonneg' u.y;rcases Int.lt_or_le 0 (n2 u) with q|q
 · exact q
 ·
  have hx:u.x=0:=by
   have:u.x * u.x=0:=by unfold n2 at q;omega
   rcases Int.mul_eq_zero.1 this with q|q<;>exact q
  have hy:u.y=0:=by
   have:u.y * u.y=0:=by unfold n2 at q;omega
   rcases Int.mul_eq_zero.1 this with q|q<;>exact q
  unfold Pos crs dtp at h;rw[hx,hy] at h;simp at h
theorem dot_pos {p u v:Pt} (hu:Pos p u) (hv:Pos p v) (hc:crs u v=0):0<dtp u v:=by
 rcases Int.lt_or_le 0 (dtp u v) with q|q
 · exact q
 ·
  exfalso
  have nv:=n2_pos hv
  have e1:n2 v * u.x+(-(dtp u v)) * v.x+0 * v.x=0:=by
   have:n2 v * u.x+(-(dtp u v)) * v.x+0 * v.x=v.y * crs u v:=by unfold n2 dtp crs;grind
   rw[this,hc];simp
  have e2:n2 v * u.y+(-(dtp u v)) * v.y+0 * v.y=0:=by
   have:n2 v * u.y+(-(dtp u v)) * v.y+0 * v.y=-(v.x * crs u v):=by unfold n2 dtp crs;grind
   rw[this,hc];simp
  exact pos3 hu hv hv (Int.le_of_lt nv) (by omega) (Int.le_refl 0) (by omega) e1 e2
theorem dot_ge {p u v:Pt} (hu:Pos p u) (hv:Pos p v) (hc:crs u v=0) (hm:n2 u≤n2 v):n2 u≤dtp u v:=by
 have hd:=dot_pos hu hv hc;have nu:=n2_pos hu
 have e:dtp u v * dtp u v=n2 u * n2 v:=by
  have:dtp u v * dtp u v+crs u v * crs u v=n2 u * n2 v:=by unfold dtp crs n2;grind
  rw[hc] at this;omega
 rcases Int.lt_or_le (dtp u v) (n2 u) with q|q
 ·
  exfalso
  have a1:=Int.mul_le_mul_of_nonneg_left (Int.le_of_lt q) (Int.le_of_lt hd);have a2:=Int.mul_lt_mul_of_pos_right q nu;have h2:=Int.mul_le_mul_of_nonneg_left hm (Int.le_of_lt nu);omega
 · exact q
theorem deg_near {p u v1 v2:Pt} {r l1 l2 l3:Int} (hu:Pos p u) (hv:Pos p v1) (hw:Pos p v2) (h2:0≤l2) (h3:0≤l3) (hs:0<l1+l2+l3) (c1:crs u v1=0) (c2:crs u v2=0) (m1:n2 u≤n2 v1) (m2:n2 u≤n2 v2)
  (hn:n2 ⟨l1 * u.x+l2 * v1.x+l3 * v2.x,l1 * u.y+l2 * v1.y+l3 * v2.y⟩≤(l1+l2+l3) * (l1+l2+l3) * (r * r)):n2 u≤r * r:=by
 have nu:=n2_pos hu;have g1:=dot_ge hu hv c1 m1;have g2:=dot_ge hu hw c2 m2;obtain⟨Z,hZ⟩:∃ Z:Pt,Z=⟨l1 * u.x+l2 * v1.x+l3 * v2.x,l1 * u.y+l2 * v1.y+l3 * v2.y⟩:=⟨_,rfl⟩;rw[← hZ] at hn;have ed:dtp u Z=l1 * n2 u+l2 * dtp u v1+l3 * dtp u v2:=by subst hZ;unfold dtp n2;grind
 have k1:=Int.mul_le_mul_of_nonneg_left g1 h2;have k2:=Int.mul_le_mul_of_nonneg_left g2 h3
 have hge:(l1+l2+l3) * n2 u≤dtp u Z:=by
  have:(l1+l2+l3) * n2 u=l1 * n2 u+l2 * n2 u+l3 * n2 u:=by grind
  omega
 have hp:0<(l1+l2+l3) * n2 u:=Int.mul_pos hs nu;have q2:=sq_mono (Int.le_of_lt hp) hge
 have cz:dtp u Z * dtp u Z≤n2 u * n2 Z:=by
  have e:dtp u Z * dtp u Z+crs u Z * crs u Z=n2 u * n2 Z:=by unfold dtp crs n2;grind
  have:=sq_nonneg' (crs u Z);omega
 have q3:=Int.mul_le_mul_of_nonneg_left hn (Int.le_of_lt nu);have hk:0<(l1+l2+l3) * (l1+l2+l3) * n2 u:=Int.mul_pos (Int.mul_pos hs hs) nu;refine Int.le_of_mul_le_mul_left ?_ hk;have e1:(l1+l2+l3) * (l1+l2+l3) * n2 u * n2 u=(l1+l2+l3) * n2 u * ((l1+l2+l3) * n2 u):=by grind
 have e2:(l1+l2+l3) * (l1+l2+l3) * n2 u * (r * r)=n2 u * ((l1+l2+l3) * (l1+l2+l3) * (r * r)):=by grind
 omega
theorem tri_near {p u v1 v2:Pt} {r l1 l2 l3:Int} (hu:Pos p u) (hv:Pos p v1) (hw:Pos p v2) (h1:0≤l1) (h2:0≤l2) (h3:0≤l3) (hs:0<l1+l2+l3)
  (hn:n2 ⟨l1 * u.x+l2 * v1.x+l3 * v2.x,l1 * u.y+l2 * v1.y+l3 * v2.y⟩≤(l1+l2+l3) * (l1+l2+l3) * (r * r)):NearSeg u v1 r∨NearSeg u v2 r∨NearSeg v1 v2 r:=by
 have main:∀ A B C:Int,A * u.x+B * v1.x+C * v2.x=0→A * u.y+B * v1.y+C * v2.y=0→0≤A+B+C→(A<0∨B<0∨C<0)→NearSeg u v1 r∨NearSeg u v2 r∨NearSeg v1 v2 r:=by
  intro A B C ex ey hD hneg;have EA:A<0→0≤l2 * (-A)+l1 * B→0≤l3 * (-A)+l1 * C→NearSeg v1 v2 r:=fun a b c=>edge_near h1 hs ex ey hD a b c hn
  have EB:B<0→0≤l3 * (-B)+l2 * C→0≤l1 * (-B)+l2 * A→NearSeg v2 u r:=fun a b c=>by
   have e:n2 ⟨l2 * v1.x+l3 * v2.x+l1 * u.x,l2 * v1.y+l3 * v2.y+l1 * u.y⟩=n2 ⟨l1 * u.x+l2 * v1.x+l3 * v2.x,l1 * u.y+l2 * v1.y+l3 * v2.y⟩:=by unfold n2;grind
   exact edge_near (u:=v1) (v1:=v2) (v2:=u) h2 (by omega) (by omega) (by omega) (by omega) a b c (by rw[e,show l2+l3+l1=l1+l2+l3 by omega];exact hn)
  have EC:C<0→0≤l1 * (-C)+l3 * A→0≤l2 * (-C)+l3 * B→NearSeg u v1 r:=fun a b c=>by
   have e:n2 ⟨l3 * v2.x+l1 * u.x+l2 * v1.x,l3 * v2.y+l1 * u.y+l2 * v1.y⟩=n2 ⟨l1 * u.x+l2 * v1.x+l3 * v2.x,l1 * u.y+l2 * v1.y+l3 * v2.y⟩:=by unfold n2;grind
   exact edge_near (u:=v2) (v1:=u) (v2:=v1) h3 (by omega) (by omega) (by omega) (by omega) a b c (by rw[e,show l3+l1+l2=l1+l2+l3 by omega];exact hn)
  have nn:∀ {x y:Int},0≤x→0≤y→0≤x * y:=fun hx hy=>Int.mul_nonneg hx hy;by_cases a:A<0
  ·
   have a9:0≤-A:=by omega
   by_cases b:B<0
   ·
    have b9:0≤-B:=by omega
    have c9:0≤C:=by omega
    rcases Int.le_total (l1 * (-B)) (l2 * (-A)) with q|q
    ·
     have e:l2 * (-A)+l1 * B=l2 * (-A)-l1 * (-B):=by grind
     have:=nn h3 a9;have:=nn h1 c9;exact .inr (.inr (EA a (by omega) (by omega)))
    ·
     have e:l1 * (-B)+l2 * A=l1 * (-B)-l2 * (-A):=by grind
     have:=nn h3 b9;have:=nn h2 c9;exact .inr (.inl (EB b (by omega) (by omega)).symm)
   ·
    have b9:0≤B:=by omega
    by_cases c:C<0
    ·
     have c9:0≤-C:=by omega
     rcases Int.le_total (l1 * (-C)) (l3 * (-A)) with q|q
     ·
      have e:l3 * (-A)+l1 * C=l3 * (-A)-l1 * (-C):=by grind
      have:=nn h2 a9;have:=nn h1 b9;exact .inr (.inr (EA a (by omega) (by omega)))
     ·
      have e:l1 * (-C)+l3 * A=l1 * (-C)-l3 * (-A):=by grind
      have:=nn h2 c9;have:=nn h3 b9;exact .inl (EC c (by omega) (by omega))
    ·
     have c9:0≤C:=by omega
     have:=nn h2 a9;have:=nn h1 b9;have:=nn h3 a9;have:=nn h1 c9;exact .inr (.inr (EA a (by omega) (by omega)))
  ·
   have a9:0≤A:=by omega
   by_cases b:B<0
   ·
    have b9:0≤-B:=by omega
    by_cases c:C<0
    ·
     have c9:0≤-C:=by omega
     rcases Int.le_total (l2 * (-C)) (l3 * (-B)) with q|q
     ·
      have e:l3 * (-B)+l2 * C=l3 * (-B)-l2 * (-C):=by grind
      have:=nn h1 b9;have:=nn h2 a9;exact .inr (.inl (EB b (by omega) (by omega)).symm)
     ·
      have e:l2 * (-C)+l3 * B=l2 * (-C)-l3 * (-B):=by grind
      have:=nn h1 c9;have:=nn h3 a9;exact .inl (EC c (by omega) (by omega))
    ·
     have c9:0≤C:=by omega
     have:=nn h3 b9;have:=nn h2 c9;have:=nn h1 b9;have:=nn h2 a9;exact .inr (.inl (EB b (by omega) (by omega)).symm)
   ·
    have b9:0≤B:=by omega
    have c:C<0:=by omega
    have c9:0≤-C:=by omega
    have:=nn h1 c9;have:=nn h3 a9;have:=nn h2 c9;have:=nn h3 b9;exact .inl (EC c (by omega) (by omega))
 have ex:crs v1 v2 * u.x+crs v2 u * v1.x+crs u v1 * v2.x=0:=by unfold crs;grind
 have ey:crs v1 v2 * u.y+crs v2 u * v1.y+crs u v1 * v2.y=0:=by unfold crs;grind
 obtain⟨A,hA⟩:∃ A,A=crs v1 v2:=⟨_,rfl⟩;obtain⟨B,hB⟩:∃ B,B=crs v2 u:=⟨_,rfl⟩;obtain⟨C,hC⟩:∃ C,C=crs u v1:=⟨_,rfl⟩;rw[← hA,← hB,← hC] at ex ey;have neg:∀ x:Int,-A * x=-(A * x)∧-B * x=-(B * x)∧-C * x=-(C * x):=fun x=>⟨by grind,by grind,by grind⟩;by_cases hz:A=0∧B=0∧C=0
 ·
  obtain⟨zA,zB,zC⟩:=hz;have sy:∀ a b:Pt,crs a b=-(crs b a):=fun a b=>by unfold crs;grind
  have cuv1:crs u v1=0:=by omega
  have cv2u:crs v2 u=0:=by omega
  have cv1v2:crs v1 v2=0:=by omega
  have cuv2:crs u v2=0:=by rw[sy,cv2u];rfl
  have cv1u:crs v1 u=0:=by rw[sy,cuv1];rfl
  have cv2v1:crs v2 v1=0:=by rw[sy,cv1v2];rfl
  have one:∀ a b:Pt,n2 a≤r * r→NearSeg a b r:=fun a b h=>⟨1,0,by omega,by omega,by omega,by simpa [n2] using h⟩;rcases (show (n2 u≤n2 v1∧n2 u≤n2 v2)∨(n2 v1≤n2 v2∧n2 v1≤n2 u)∨(n2 v2≤n2 u∧n2 v2≤n2 v1) by omega) with⟨q1,q2⟩|⟨q1,q2⟩|⟨q1,q2⟩
  · exact .inl (one _ _ (deg_near hu hv hw h2 h3 hs cuv1 cuv2 q1 q2 hn))
  ·
   have e:n2 ⟨l2 * v1.x+l3 * v2.x+l1 * u.x,l2 * v1.y+l3 * v2.y+l1 * u.y⟩=n2 ⟨l1 * u.x+l2 * v1.x+l3 * v2.x,l1 * u.y+l2 * v1.y+l3 * v2.y⟩:=by unfold n2;grind
   exact .inr (.inr (one _ _ (deg_near (l1:=l2) (l2:=l3) (l3:=l1) (u:=v1) (v1:=v2) (v2:=u) hv hw hu h3 h1 (by omega) cv1v2 cv1u q1 q2 (by rw[e,show l2+l3+l1=l1+l2+l3 by omega];exact hn))))
  ·
   have e:n2 ⟨l3 * v2.x+l1 * u.x+l2 * v1.x,l3 * v2.y+l1 * u.y+l2 * v1.y⟩=n2 ⟨l1 * u.x+l2 * v1.x+l3 * v2.x,l1 * u.y+l2 * v1.y+l3 * v2.y⟩:=by unfold n2;grind
   exact .inr (.inl (one _ _ (deg_near (l1:=l3) (l2:=l1) (l3:=l2) (u:=v2) (v1:=u) (v2:=v1) hw hu hv h1 h2 (by omega) cv2u cv2v1 q1 q2 (by rw[e,show l3+l1+l2=l1+l2+l3 by omega];exact hn))).symm)
 ·
  by_cases hD:0≤A+B+C
  ·
   refine main A B C ex ey hD ?_;rcases (show (A<0∨B<0∨C<0)∨(0≤A∧0≤B∧0≤C) by omega) with q|⟨q1,q2,q3⟩
   · exact q
   · exact(pos3 hu hv hw q1 q2 q3 (by omega) ex ey).elim
  ·
   refine main (-A) (-B) (-C) (by have:=neg u.x;have:=neg v1.x;have:=neg v2.x;omega) (by have:=neg u.y;have:=neg v1.y;have:=neg v2.y;omega) (by omega) ?_;rcases (show (-A<0∨-B<0∨-C<0)∨(0≤-A∧0≤-B∧0≤-C) by omega) with q|⟨q1,q2,q3⟩
   · exact q
   · exact(pos3 hu hv hw q1 q2 q3 (by omega) (by have:=neg u.x;have:=neg v1.x;have:=neg v2.x;omega) (by have:=neg u.y;have:=neg v1.y;have:=neg v2.y;omega)).elim
theorem seg_near {p u w v1 v2:Pt} {r:Int} (hu:Pos p u) (hv:Pos p v1) (hw:Pos p v2) (ho:OnSeg w v1 v2) (h:NearSeg u w r):NearSeg u v1 r∨NearSeg u v2 r∨NearSeg v1 v2 r:=by
 obtain⟨a,b,ha,hb,hs,ex,ey⟩:=ho;obtain⟨m,k,hm,hk,hs2,hn⟩:=h;have hsum:m * (a+b)+k * a+k * b=(m+k) * (a+b):=by grind
 refine tri_near (l1:=m * (a+b)) (l2:=k * a) (l3:=k * b) hu hv hw (Int.mul_nonneg hm (Int.le_of_lt hs)) (Int.mul_nonneg hk ha) (Int.mul_nonneg hk hb) (by rw[hsum];exact Int.mul_pos hs2 hs) ?_;have e1:m * (a+b) * u.x+k * a * v1.x+k * b * v2.x=(a+b) * (m * u.x+k * w.x):=by grind
 have e2:m * (a+b) * u.y+k * a * v1.y+k * b * v2.y=(a+b) * (m * u.y+k * w.y):=by grind
 rw[e1,e2,hsum];have e3:n2 ⟨(a+b) * (m * u.x+k * w.x),(a+b) * (m * u.y+k * w.y)⟩=(a+b) * (a+b) * n2 ⟨m * u.x+k * w.x,m * u.y+k * w.y⟩:=by unfold n2;grind
 rw[e3];have:=Int.mul_le_mul_of_nonneg_left hn (sq_nonneg' (a+b));have e4:(m+k) * (a+b) * ((m+k) * (a+b)) * (r * r)=(a+b) * (a+b) * ((m+k) * (m+k) * (r * r)):=by grind
 omega
structure Far (p:Pt) (r:Int) (S:Pt→Prop):Prop where
 pos:∀ u,S u→Pos p u
 far:∀ u v,S u→S v→¬ NearSeg u v r
def Segs (S:Pt→Prop) (w:Pt):Prop:=∃ v1 v2,S v1∧S v2∧OnSeg w v1 v2
theorem OnSeg.same (v:Pt):OnSeg v v v:=⟨1,0,by omega,by omega,by omega,by omega,by omega⟩
theorem Far.segs {p:Pt} {r:Int} {S:Pt→Prop} (h:Far p r S):Far p r (Segs S):=by
 have step:∀ u w,S u→Segs S w→¬ NearSeg u w r:=fun u w hu ⟨v1,v2,s1,s2,ho⟩ hn=>by
  rcases seg_near (h.pos u hu) (h.pos v1 s1) (h.pos v2 s2) ho hn with q|q|q
  · exact h.far u v1 hu s1 q
  · exact h.far u v2 hu s2 q
  · exact h.far v1 v2 s1 s2 q
 have pos:∀ u,Segs S u→Pos p u:=fun u ⟨v1,v2,s1,s2,ho⟩=>(h.pos v1 s1).seg (h.pos v2 s2) ho;refine⟨pos,fun u w hu ⟨v1,v2,s1,s2,ho⟩ hn=>?_⟩;rcases seg_near (pos u hu) (h.pos v1 s1) (h.pos v2 s2) ho hn with q|q|q
 · exact step v1 u s1 hu q.symm
 · exact step v2 u s2 hu q.symm
 · exact h.far v1 v2 s1 s2 q
theorem far_of {S:Pt→Prop} {p:Pt} {r:Int} (hp:S p) (hc:∀ u v,S u→S v→¬ comesP u v r) (hf:∀ q,S q→0≤crs p q):Far p r S:=by
 have hn:∀ u v,S u→S v→¬ NearSeg u v r:=fun u v a b h=>hc u v a b (comes_of_near h);refine⟨fun q hq=>?_,hn⟩;rcases Int.lt_or_eq_of_le (hf q hq) with h|h
 · exact .inl h
 ·
  refine .inr ⟨h.symm,?_⟩;rcases Int.lt_or_le 0 (dtp p q) with d|d
  · exact d
  ·
   exfalso
   have n0:0≤n2 p:=by unfold n2;have:=sq_nonneg' p.x;have:=sq_nonneg' p.y;omega
   rcases Int.lt_or_eq_of_le n0 with n1|n1
   ·
    refine hn p q hp hq ⟨-(dtp p q),n2 p,by omega,by omega,by omega,?_⟩;have e1:-(dtp p q) * p.x+n2 p * q.x=-(p.y * crs p q):=by unfold dtp n2 crs;grind
    have e2:-(dtp p q) * p.y+n2 p * q.y=p.x * crs p q:=by unfold dtp n2 crs;grind
    rw[e1,e2,← h];have:=Int.mul_nonneg (sq_nonneg' (-(dtp p q)+n2 p)) (sq_nonneg' r);simpa [n2] using this
   ·
    exact hn p p hp hp ⟨1,0,by omega,by omega,by omega,by
     have:=sq_nonneg' r;have e:n2 ⟨1 * p.x+0 * p.x,1 * p.y+0 * p.y⟩=n2 p:=by simp[n2]
     rw[e,← n1];simpa using this⟩
def Corner (al ah bl bh cl ch dl dh:Int) (p:Pt):Prop:=((p.x=al∨p.x=ah)∧(p.y=bl∨p.y=bh))∨((p.x=cl∨p.x=ch)∧(p.y=dl∨p.y=dh))
theorem onSeg_x {X Y lo hi:Int} (h1:lo≤X) (h2:X≤hi):OnSeg ⟨X,Y⟩ ⟨lo,Y⟩ ⟨hi,Y⟩:=by
 by_cases h:lo<hi
 · exact⟨hi-X,X-lo,by omega,by omega,by omega,by simp only;grind,by simp only;grind⟩
 ·
  obtain rfl:lo=X:=by omega
  obtain rfl:hi=lo:=by omega
  exact OnSeg.same _
theorem onSeg_y {X Y lo hi:Int} (h1:lo≤Y) (h2:Y≤hi):OnSeg ⟨X,Y⟩ ⟨X,lo⟩ ⟨X,hi⟩:=by
 by_cases h:lo<hi
 · exact⟨hi-Y,Y-lo,by omega,by omega,by omega,by simp only;grind,by simp only;grind⟩
 ·
  obtain rfl:lo=Y:=by omega
  obtain rfl:hi=lo:=by omega
  exact OnSeg.same _
theorem area_segs {S:Pt→Prop} {al ah bl bh:Int} (h:∀ x y,(x=al∨x=ah)→(y=bl∨y=bh)→S ⟨x,y⟩) {X Y:Int} (h1:al≤X) (h2:X≤ah) (h3:bl≤Y) (h4:Y≤bh):Segs (Segs S) ⟨X,Y⟩:=
 ⟨⟨al,Y⟩,⟨ah,Y⟩,⟨⟨al,bl⟩,⟨al,bh⟩,h _ _ (.inl rfl) (.inl rfl),h _ _ (.inl rfl) (.inr rfl),onSeg_y h3 h4⟩,⟨⟨ah,bl⟩,⟨ah,bh⟩,h _ _ (.inr rfl) (.inl rfl),h _ _ (.inr rfl) (.inr rfl),onSeg_y h3 h4⟩,onSeg_x h1 h2⟩
theorem clear_sound {al ah bl bh cl ch dl dh r:Int} (hc:∀ u v,Corner al ah bl bh cl ch dl dh u→Corner al ah bl bh cl ch dl dh v→¬ comesP u v r) (hf:∃ p,Corner al ah bl bh cl ch dl dh p∧∀ q,Corner al ah bl bh cl ch dl dh q→0≤crs p q)
  {x y z w:Int} (h1:al≤x) (h2:x≤ah) (h3:bl≤y) (h4:y≤bh) (h5:cl≤z) (h6:z≤ch) (h7:dl≤w) (h8:w≤dh):¬ comesP ⟨x,y⟩ ⟨z,w⟩ r:=by
 obtain⟨p,hp,hq⟩:=hf;have F:=((far_of hp hc hq).segs).segs;exact fun h=>F.far _ _ (area_segs (fun x y a b=>.inl ⟨a,b⟩) h1 h2 h3 h4) (area_segs (fun x y a b=>.inr ⟨a,b⟩) h5 h6 h7 h8) (near_of_comes h)
def btwI (l m i:Int):Int:=(8-i) * l+i * m
instance:Coe Pt (Array Value):=⟨fun a=>#[.int .i64 a.x,.int .i64 a.y]⟩
instance:Coe Pt Value:=⟨fun a=>.agg #[.int .i64 a.x,.int .i64 a.y]⟩
end Go.Proofs.YtdhiappifnflpaaGreatDoor
namespace Go.Proofs.YtdhiappifnflpaaGreatDoor
structure Cone where
 fx:Int
 fy:Int
 dx:Int
 dy:Int
 low:Int
 high:Int
def Cone.n (c:Cone) (p:Pt):Int:=c.dx * (p.y-c.fy)-c.dy * (p.x-c.fx)
def Cone.d (c:Cone) (p:Pt):Int:=c.dx * (p.x-c.fx)+c.dy * (p.y-c.fy)
def Cone.behind (c:Cone) (p:Pt):Bool:=decide (c.d p≤0)
def Cone.below (c:Cone) (p:Pt):Bool:=decide (1000000 * c.n p<c.low * c.d p)
def Cone.above (c:Cone) (p:Pt):Bool:=decide (c.high * c.d p<1000000 * c.n p)
def Cone.hasP (c:Cone) (p:Pt):Bool:=!c.behind p&&!c.below p&&!c.above p
def dist2 (p:Pt) (fx fy:Int):Int:=(p.x-fx) * (p.x-fx)+(p.y-fy) * (p.y-fy)
inductive Look
 | angle (c:Cone)
 | reach (fx fy lo hi:Int)
 | empty (c:Cone) (hi:Int)
def Look.agrees:Look→Pt→Bool
 | .angle c,p=>c.hasP p
 | .reach fx fy lo hi,p=>decide (lo * lo≤dist2 p fx fy)&&decide (dist2 p fx fy≤hi * hi)
 | .empty c hi,p=>!c.hasP p||decide (hi * hi<dist2 p c.fx c.fy)
def Ar.crn (a:Ar):List Pt:=[⟨a.x.lo,a.y.lo⟩,⟨a.x.lo,a.y.hi⟩,⟨a.x.hi,a.y.lo⟩,⟨a.x.hi,a.y.hi⟩]
def nearS (s:Sp) (n:Int):Int:=min (max n s.lo) s.hi
def Look.excl:Look→Ar→Bool
 | .angle c,a=>a.crn.all c.behind||a.crn.all c.below||a.crn.all c.above
 | .reach fx fy lo hi,a=>decide (hi * hi<dist2 ⟨nearS a.x fx,nearS a.y fy⟩ fx fy)||a.crn.all (fun p=>decide (dist2 p fx fy<lo * lo))
 | .empty c hi,a=>a.crn.all (fun p=>c.hasP p&&decide (dist2 p c.fx c.fy≤hi * hi))
def Ar.hasP (a:Ar) (p:Pt):Prop:=a.x.has p.x∧a.y.has p.y
end Go.Proofs.YtdhiappifnflpaaGreatDoor
