/- Spans in plain Lean: each operation is isotone; what moves a body; a truth stays in the step of its box. No program here. The fate of a box, in plain Lean: a truth that hits is in no box that misses, one that does not is in none that surely hits. No program here. -/
import Derived.WalkKit
namespace Go.Proofs.YtdhiappifnflpaaGreat
structure Sp where
 lo:Int
 hi:Int
deriving DecidableEq,Inhabited
def Sp.has (s:Sp) (n:Int):Prop:=s.lo≤n∧n≤s.hi
def Sp.sub (a b:Sp):Prop:=b.lo≤a.lo∧a.hi≤b.hi
theorem Sp.sub.has {a b:Sp} (h:a.sub b) {n:Int} (q:a.has n):b.has n:=by unfold Sp.sub at h;unfold Sp.has at q ⊢;omega
def addS (a b:Sp):Sp:=⟨a.lo+b.lo,a.hi+b.hi⟩
def subS (a b:Sp):Sp:=⟨a.lo-b.hi,a.hi-b.lo⟩
def negS (a:Sp):Sp:=⟨-a.hi,-a.lo⟩
theorem addS_mono {a b c d:Sp} (h:a.sub c) (k:b.sub d):(addS a b).sub (addS c d):=by unfold Sp.sub addS at *;simp only;omega
theorem negS_mono {a c:Sp} (h:a.sub c):(negS a).sub (negS c):=by unfold Sp.sub negS at *;simp only;omega
def minC (f:Int→Int→Int) (a b:Sp):Int:=min (min (f a.lo b.lo) (f a.lo b.hi)) (min (f a.hi b.lo) (f a.hi b.hi))
def maxC (f:Int→Int→Int) (a b:Sp):Int:=max (max (f a.lo b.lo) (f a.lo b.hi)) (max (f a.hi b.lo) (f a.hi b.hi))
def Btw (f:Int→Int) (lo hi:Int):Prop:=∀ t,lo≤t→t≤hi→min (f lo) (f hi)≤f t∧f t≤max (f lo) (f hi)
theorem corner_mono {f:Int→Int→Int} {a b c d:Sp} (h:a.sub c) (k:b.sub d) (ha:a.lo≤a.hi) (hb:b.lo≤b.hi)
  (h1:∀ x,c.has x→Btw (f x) d.lo d.hi) (h2:∀ y,Btw (fun x=>f x y) c.lo c.hi):minC f c d≤minC f a b∧maxC f a b≤maxC f c d:=by
 have key:∀ x y,c.has x→d.has y→minC f c d≤f x y∧f x y≤maxC f c d:=fun x y hx hy=>by
  have q:=h1 x hx y hy.1 hy.2;have q1:=h2 d.lo x hx.1 hx.2;have q2:=h2 d.hi x hx.1 hx.2;unfold minC maxC;simp only at q1 q2;omega
 unfold Sp.sub at h k;have c1:c.has a.lo:=⟨by omega,by omega⟩;have c2:c.has a.hi:=⟨by omega,by omega⟩;have d1:d.has b.lo:=⟨by omega,by omega⟩;have d2:d.has b.hi:=⟨by omega,by omega⟩;have q1:=key _ _ c1 d1;have q2:=key _ _ c1 d2;have q3:=key _ _ c2 d1;have q4:=key _ _ c2 d2;unfold minC maxC at *;omega
theorem mul_btw (x lo hi:Int):Btw (fun y=>x * y) lo hi:=fun t h1 h2=>by
 simp only;rcases Int.le_total 0 x with h|h
 ·
  have:=Int.mul_le_mul_of_nonneg_left h1 h;have:=Int.mul_le_mul_of_nonneg_left h2 h;omega
 ·
  have a:=Int.mul_le_mul_of_nonneg_left h1 (show 0≤-x by omega);have b:=Int.mul_le_mul_of_nonneg_left h2 (show 0≤-x by omega);simp only[Int.neg_mul] at a b;omega
def mulS (a b:Sp):Sp:=⟨minC (· * ·) a b,maxC (· * ·) a b⟩
theorem mulS_mono {a b c d:Sp} (h:a.sub c) (k:b.sub d) (ha:a.lo≤a.hi) (hb:b.lo≤b.hi):(mulS a b).sub (mulS c d):=
 corner_mono h k ha hb (fun x _=>mul_btw x _ _) (fun y=>by
  have:=mul_btw y c.lo c.hi;intro t h1 h2;have q:=this t h1 h2;simp only[Int.mul_comm _ y] at q ⊢;exact q)
theorem fdiv_btw_num (y lo hi:Int):Btw (fun x=>Int.fdiv x y) lo hi:=fun t h1 h2=>by
 simp only;rcases Int.lt_trichotomy y 0 with h|h|h
 ·
  have e:∀ z:Int,Int.fdiv z y=(-z) / (-y):=fun z=>by
   rw[← Int.fdiv_eq_ediv_of_nonneg _ (by omega:(0:Int)≤-y),Int.neg_fdiv_neg]
  rw[e,e,e];have:=Int.ediv_le_ediv (show 0 < -y by omega) (show -t≤-lo by omega);have:=Int.ediv_le_ediv (show 0 < -y by omega) (show -hi≤-t by omega);omega
 · subst h;simp
 ·
  have e:∀ z:Int,Int.fdiv z y=z / y:=fun z=>Int.fdiv_eq_ediv_of_nonneg _ (by omega);rw[e,e,e];have:=Int.ediv_le_ediv h h1;have:=Int.ediv_le_ediv h h2;omega
theorem ediv_btw_den (x:Int) {lo hi:Int} (h0:0<lo):Btw (fun y=>x / y) lo hi:=fun t h1 h2=>by
 simp only
 have anti:∀ {a b:Int},0<a→a≤b→(0≤x→x / b≤x / a)∧(x<0→x / a≤x / b):=fun {a b} ha hab=>by
  refine⟨fun hx=>?_,fun hx=>?_⟩
  ·
   have q0:0≤x / b:=Int.ediv_nonneg hx (by omega);have q1:=Int.ediv_mul_le x (show b≠0 by omega);refine Int.le_ediv_of_mul_le ha ?_;have:=Int.mul_le_mul_of_nonneg_left hab q0;omega
  ·
   have q0:x / a<0:=Int.ediv_neg_of_neg_of_pos hx ha;have q1:=Int.ediv_mul_le x (show a≠0 by omega);refine Int.le_ediv_of_mul_le (by omega) ?_;have:=Int.mul_le_mul_of_nonneg_left hab (show 0≤-(x / a) by omega);simp only[Int.neg_mul] at this;omega
 have ht:0<t:=by omega
 rcases Int.lt_or_le x 0 with hx|hx
 · have:=(anti h0 h1).2 hx;have:=(anti ht h2).2 hx;omega
 · have:=(anti h0 h1).1 hx;have:=(anti ht h2).1 hx;omega
theorem fdiv_pos (x:Int) {y:Int} (h:0<y):Int.fdiv x y=x / y:=Int.fdiv_eq_ediv_of_nonneg _ (by omega)
theorem fdiv_neg' (x:Int) {y:Int} (h:y<0):Int.fdiv x y=(-x) / (-y):=by
 rw[← Int.fdiv_eq_ediv_of_nonneg _ (by omega:(0:Int)≤-y),Int.neg_fdiv_neg]
theorem fdiv_btw_den (x:Int) {lo hi:Int} (h0:0<lo∨hi<0) (hl:lo≤hi):Btw (fun y=>Int.fdiv x y) lo hi:=fun t h1 h2=>by
 simp only;rcases h0 with h|h
 ·
  rw[fdiv_pos x h,fdiv_pos x (show 0<hi by omega),fdiv_pos x (show 0<t by omega)];exact ediv_btw_den x h t h1 h2
 ·
  rw[fdiv_neg' x h,fdiv_neg' x (show lo<0 by omega),fdiv_neg' x (show t<0 by omega)];have:=ediv_btw_den (-x) (lo:=-hi) (hi:=-lo) (by omega) (-t) (by omega) (by omega);simp only at this;omega
def cdiv (x y:Int):Int:=-(Int.fdiv (-x) y)
theorem cdiv_btw_num (y lo hi:Int):Btw (fun x=>cdiv x y) lo hi:=fun t h1 h2=>by
 have:=fdiv_btw_num y (-hi) (-lo) (-t) (by omega) (by omega);unfold cdiv;simp only at this ⊢;omega
theorem cdiv_btw_den (x:Int) {lo hi:Int} (h0:0<lo∨hi<0) (hl:lo≤hi):Btw (fun y=>cdiv x y) lo hi:=fun t h1 h2=>by
 have:=fdiv_btw_den (-x) h0 hl t h1 h2;unfold cdiv;simp only at this ⊢;omega
def quotS (a b:Sp):Sp:=⟨minC Int.fdiv a b,maxC cdiv a b⟩
theorem quotS_mono {a b c d:Sp} (h:a.sub c) (k:b.sub d) (ha:a.lo≤a.hi) (hb:b.lo≤b.hi) (h0:0<d.lo∨d.hi<0):(quotS a b).sub (quotS c d):=by
 have hd:d.lo≤d.hi:=by unfold Sp.sub at k;omega
 exact⟨(corner_mono h k ha hb (fun x _=>fdiv_btw_den x h0 hd) (fun y=>fdiv_btw_num y _ _)).1,(corner_mono h k ha hb (fun x _=>cdiv_btw_den x h0 hd) (fun y=>cdiv_btw_num y _ _)).2⟩
def squareS (a:Sp):Sp:=⟨max 0 (max a.lo (-a.hi)) * max 0 (max a.lo (-a.hi)),max (-a.lo) a.hi * max (-a.lo) a.hi⟩
theorem squareS_mono {a c:Sp} (h:a.sub c) (ha:a.lo≤a.hi):(squareS a).sub (squareS c):=by
 unfold Sp.sub at h;unfold Sp.sub squareS;simp only;exact⟨Int.mul_le_mul (by omega) (by omega) (by omega) (by omega),Int.mul_le_mul (by omega) (by omega) (by omega) (by omega)⟩
def clampS (m:Int) (s:Sp):Sp:=⟨min (max s.lo (-m)) m,min (max s.hi (-m)) m⟩
theorem clampS_mono {m:Int} {a c:Sp} (h:a.sub c):(clampS m a).sub (clampS m c):=by unfold Sp.sub clampS at *;simp only;omega
theorem btw_scale {g:Int→Int} {m lo hi:Int} (hm:0≤m) (h:Btw g (m * lo) (m * hi)):Btw (fun e=>g (m * e)) lo hi:=fun t h1 h2=>
 h (m * t) (Int.mul_le_mul_of_nonneg_left h1 hm) (Int.mul_le_mul_of_nonneg_left h2 hm)
theorem fdiv_le_cdiv (x y:Int):Int.fdiv x y≤cdiv x y:=by
 unfold cdiv;rcases Int.lt_trichotomy y 0 with h|h|h
 ·
  rw[fdiv_neg' x h,fdiv_neg' (-x) h];have a:=Int.ediv_mul_le (-x) (show -y≠0 by omega);have b:=Int.ediv_mul_le (- -x) (show -y≠0 by omega);obtain⟨p,hp⟩:∃ p,p=-x / -y:=⟨_,rfl⟩;obtain⟨q,hq⟩:∃ q,q=- -x / -y:=⟨_,rfl⟩;rw[← hp] at a ⊢;rw[← hq] at b ⊢;rcases Int.lt_or_le 0 (p+q) with c|c
  ·
   have:=Int.mul_pos c (show 0 < -y by omega);have e:(p+q) * -y=p * -y+q * -y:=by grind
   omega
  · omega
 · subst h;simp
 ·
  rw[fdiv_pos x h,fdiv_pos (-x) h];have a:=Int.ediv_mul_le x (show y≠0 by omega);have b:=Int.ediv_mul_le (-x) (show y≠0 by omega);obtain⟨p,hp⟩:∃ p,p=x / y:=⟨_,rfl⟩;obtain⟨q,hq⟩:∃ q,q=-x / y:=⟨_,rfl⟩;rw[← hp] at a ⊢;rw[← hq] at b ⊢;rcases Int.lt_or_le 0 (p+q) with c|c
  ·
   have:=Int.mul_pos c h;have e:(p+q) * y=p * y+q * y:=by grind
   omega
  · omega
def IsRoot (n s:Int):Prop:=0≤s∧s * s≤n∧n<(s+1) * (s+1)
theorem root_mono {n m s t:Int} (hs:IsRoot n s) (ht:IsRoot m t) (h:n≤m):s≤t:=by
 rcases Int.lt_or_le t s with q|q
 ·
  exfalso
  have:=Int.mul_le_mul (show t+1≤s by omega) (show t+1≤s by omega) (by have:=ht.1;omega) (by have:=hs.1;omega);have:=hs.2.1;have:=ht.2.2;omega
 · exact q
def rootUp (n s:Int):Int:=if s * s<n then s+1 else s
theorem rootUp_mono {n m s t:Int} (hs:IsRoot n s) (ht:IsRoot m t) (h:n≤m):rootUp n s≤rootUp m t:=by
 have k:=root_mono hs ht h;unfold rootUp;split
 ·
  split
  · omega
  ·
   rename_i a b;rcases Int.lt_or_le s t with q|q
   · omega
   ·
    obtain rfl:s=t:=by omega
    have:=hs.2.1;have:=ht.2.1;omega
 · split<;>omega
def towardS (mu mp:Int) (x q r:Sp):Sp:=clampS mp (quotS ⟨minC (fun e d=>Int.fdiv (mu * e) d) x q,maxC (fun e d=>cdiv (mu * e) d) x q⟩ r)
theorem towardS_mono {mu mp:Int} {x q r x2 q2 r2:Sp} (hm:0≤mu) (hx:x.sub x2) (hq:q.sub q2) (hr:r.sub r2) (lx:x.lo≤x.hi) (lq:q.lo≤q.hi) (lr:r.lo≤r.hi) (pq:0<q2.lo) (pr:0<r2.lo):(towardS mu mp x q r).sub (towardS mu mp x2 q2 r2):=by
 have hd:q2.lo≤q2.hi:=by unfold Sp.sub at hq;omega
 refine clampS_mono (quotS_mono ⟨?_,?_⟩ hr ?_ lr (.inl pr))
 · exact(corner_mono hx hq lx lq (fun x _=>fdiv_btw_den _ (.inl pq) hd) (fun y=>btw_scale (g:=fun z=>Int.fdiv z y) hm (fdiv_btw_num y _ _))).1
 · exact(corner_mono hx hq lx lq (fun x _=>cdiv_btw_den _ (.inl pq) hd) (fun y=>btw_scale (g:=fun z=>cdiv z y) hm (cdiv_btw_num y _ _))).2
 ·
  have:=fdiv_le_cdiv (mu * x.lo) q.lo;simp only[minC,maxC];omega
def isqN:Nat→Nat
 | 0=>0
 | n+1=>if (isqN n+1) * (isqN n+1)≤n+1 then isqN n+1 else isqN n
theorem isqN_spec:∀ n:Nat,isqN n * isqN n≤n∧n<(isqN n+1) * (isqN n+1)
 | 0=>by simp[isqN]
 | n+1=>by
  have h:=isqN_spec n;unfold isqN;split
  ·
   rename_i q;refine⟨q,?_⟩;have e:(isqN n+1+1) * (isqN n+1+1)=(isqN n+1) * (isqN n+1)+2 * (isqN n+1)+1:=by grind
   omega
  ·
   rename_i q;exact⟨by omega,by omega⟩
def isq (n:Int):Int:=isqN n.toNat
theorem isq_root {n:Int} (h:0≤n):IsRoot n (isq n):=by
 obtain⟨m,rfl⟩:=Int.eq_ofNat_of_zero_le h;obtain⟨a,b⟩:=isqN_spec m;unfold isq IsRoot;rw[Int.toNat_natCast];exact⟨by omega,by exact_mod_cast a,by exact_mod_cast b⟩
theorem isq_pos {n:Int} (h:1≤n):1≤isq n:=by
 obtain⟨a,b,c⟩:=isq_root (show 0≤n by omega);rcases Int.lt_or_le 0 (isq n) with q|q
 · omega
 ·
  have e:isq n=0:=by omega
  rw[e] at c;omega
structure Ar where
 x:Sp
 y:Sp
deriving DecidableEq,Inhabited
def Ar.sub (a b:Ar):Prop:=a.x.sub b.x∧a.y.sub b.y
def Ar.ok (a:Ar):Prop:=a.x.lo≤a.x.hi∧a.y.lo≤a.y.hi
def oneS (n:Int):Sp:=⟨n,n⟩
structure Hv where
 mu:Int
 rad:Int
 ax:Int
 ay:Int
def Hv.toA (b:Hv) (a:Ar):Ar:=⟨subS (oneS b.ax) a.x,subS (oneS b.ay) a.y⟩
def Hv.edge (b:Hv):Int:=max 1 (b.rad * b.rad)
def distS (b:Hv) (a:Ar):Sp:=⟨max (addS (squareS (b.toA a).x) (squareS (b.toA a).y)).lo b.edge,max (addS (squareS (b.toA a).x) (squareS (b.toA a).y)).hi b.edge⟩
def rootsS (q:Sp):Sp:=⟨isq q.lo,rootUp q.hi (isq q.hi)⟩
def pullS (mp:Int) (b:Hv) (a:Ar):Ar:=⟨towardS b.mu mp (b.toA a).x (distS b a) (rootsS (distS b a)),towardS b.mu mp (b.toA a).y (distS b a) (rootsS (distS b a))⟩
theorem squareS_ok (a:Sp) (h:a.lo≤a.hi):(squareS a).lo≤(squareS a).hi:=by
 unfold squareS;simp only;exact Int.mul_le_mul (by omega) (by omega) (by omega) (by omega)
theorem toA_ok {b:Hv} {a:Ar} (h:a.ok):(b.toA a).ok:=by unfold Ar.ok Hv.toA subS oneS at *;simp only;omega
theorem toA_mono {b:Hv} {a c:Ar} (h:a.sub c):(b.toA a).sub (b.toA c):=by unfold Ar.sub Sp.sub Hv.toA subS oneS at *;simp only;omega
theorem distS_mono {b:Hv} {a c:Ar} (h:a.sub c) (ha:a.ok):(distS b a).sub (distS b c):=by
 have t:=toA_mono (b:=b) h;have o:=toA_ok (b:=b) ha;have s1:=squareS_mono t.1 o.1;have s2:=squareS_mono t.2 o.2;unfold Sp.sub at *;unfold distS addS;simp only;omega
theorem distS_ok {b:Hv} {a:Ar} (ha:a.ok):1≤(distS b a).lo∧(distS b a).lo≤(distS b a).hi:=by
 have o:=toA_ok (b:=b) ha;have s1:=squareS_ok _ o.1;have s2:=squareS_ok _ o.2;unfold distS addS Hv.edge;simp only;omega
theorem le_rootUp (n s:Int):s≤rootUp n s:=by unfold rootUp;split<;>omega
theorem rootsS_mono {a c:Sp} (h:a.sub c) (h1:1≤c.lo) (ha:a.lo≤a.hi):(rootsS a).sub (rootsS c):=by
 unfold Sp.sub at h;exact⟨root_mono (isq_root (by omega)) (isq_root (by omega)) h.1,rootUp_mono (isq_root (by omega)) (isq_root (by omega)) h.2⟩
theorem rootsS_ok {a:Sp} (h1:1≤a.lo) (ha:a.lo≤a.hi):1≤(rootsS a).lo∧(rootsS a).lo≤(rootsS a).hi:=by
 have k:=root_mono (isq_root (show 0≤a.lo by omega)) (isq_root (show 0≤a.hi by omega)) ha;have:=le_rootUp a.hi (isq a.hi);exact⟨isq_pos h1,by unfold rootsS;simp only;omega⟩
theorem pullS_mono {mp:Int} {b:Hv} {a c:Ar} (hm:0≤b.mu) (h:a.sub c) (ha:a.ok) (hc:c.ok):(pullS mp b a).sub (pullS mp b c):=by
 have t:=toA_mono (b:=b) h;have o:=toA_ok (b:=b) ha;have d:=distS_mono (b:=b) h ha;have d1:=distS_ok (b:=b) ha;have d2:=distS_ok (b:=b) hc;have r:=rootsS_mono d d2.1 d1.2;have r1:=rootsS_ok d1.1 d1.2;have r2:=rootsS_ok d2.1 d2.2;exact⟨towardS_mono hm t.1 d r o.1 d1.2 r1.2 (by omega) (by omega),towardS_mono hm t.2 d r o.2 d1.2 r1.2 (by omega) (by omega)⟩
theorem quotS_ok (a b:Sp):(quotS a b).lo≤(quotS a b).hi:=by
 have:=fdiv_le_cdiv a.lo b.lo;unfold quotS minC maxC;simp only;omega
theorem clampS_ok {m:Int} {a:Sp} (h:a.lo≤a.hi):(clampS m a).lo≤(clampS m a).hi:=by unfold clampS;simp only;omega
theorem mulS_ok (a b:Sp):(mulS a b).lo≤(mulS a b).hi:=by unfold mulS minC maxC;simp only;omega
theorem pullS_ok (mp:Int) (b:Hv) (a:Ar):(pullS mp b a).ok:=⟨clampS_ok (quotS_ok _ _),clampS_ok (quotS_ok _ _)⟩
def partS (a b:Sp):Sp:=quotS (mulS a b) (oneS 1000)
theorem partS_mono {a b d:Sp} (k:b.sub d) (ha:a.lo≤a.hi) (hb:b.lo≤b.hi):(partS a b).sub (partS a d):=
 quotS_mono (mulS_mono ⟨Int.le_refl _,Int.le_refl _⟩ k ha hb) ⟨Int.le_refl _,Int.le_refl _⟩ (mulS_ok _ _) (Int.le_refl _) (.inl (by decide))
structure Dr where
 light:Sp
 heat:Sp
 gas:Int
def lightA (d:Dr) (s:Ar):Ar:=⟨negS (partS d.light s.x),negS (partS d.light s.y)⟩
def heatA (d:Dr) (s:Ar):Ar:=⟨negS (partS d.heat s.y),partS d.heat s.x⟩
def sumA (a b:Ar):Ar:=⟨addS a.x b.x,addS a.y b.y⟩
theorem sumA_mono {a b c d:Ar} (h:a.sub c) (k:b.sub d):(sumA a b).sub (sumA c d):=⟨addS_mono h.1 k.1,addS_mono h.2 k.2⟩
def restA (mp:Int) (a:Ar):Ar→List Hv→Ar
 | out,[]=>out
 | out,b::r=>restA mp a (sumA out (pullS mp b a)) r
def overA (mp:Int) (d:Dr) (a:Ar):List Hv→Ar
 | []=>⟨⟨-d.gas,d.gas⟩,⟨-d.gas,d.gas⟩⟩
 | b::r=>restA mp a (sumA (sumA (sumA ⟨⟨-d.gas,d.gas⟩,⟨-d.gas,d.gas⟩⟩ (pullS mp b a)) (lightA d (pullS mp b a))) (heatA d (pullS mp b a))) r
theorem restA_mono {mp:Int} {a c:Ar} (h:a.sub c) (ha:a.ok) (hc:c.ok):∀ (l:List Hv) (o p:Ar),(∀ b∈l,0≤b.mu)→o.sub p→(restA mp a o l).sub (restA mp c p l)
 | [],_,_,_,k=>k
 | b::r,_,_,hm,k=>restA_mono h ha hc r _ _ (fun x hx=>hm x (List.mem_cons_of_mem _ hx)) (sumA_mono k (pullS_mono (hm b List.mem_cons_self) h ha hc))
theorem overA_mono {mp:Int} {d:Dr} {a c:Ar} (h:a.sub c) (ha:a.ok) (hc:c.ok) (hl:d.light.lo≤d.light.hi) (hh:d.heat.lo≤d.heat.hi):∀ (l:List Hv),(∀ b∈l,0≤b.mu)→(overA mp d a l).sub (overA mp d c l)
 | [],_=>⟨⟨Int.le_refl _,Int.le_refl _⟩,⟨Int.le_refl _,Int.le_refl _⟩⟩
 | b::r,hm=>by
  have p:=pullS_mono (mp:=mp) (hm b List.mem_cons_self) h ha hc;have o:=pullS_ok mp b a;refine restA_mono h ha hc r _ _ (fun x hx=>hm x (List.mem_cons_of_mem _ hx)) ?_;refine sumA_mono (sumA_mono (sumA_mono ⟨⟨Int.le_refl _,Int.le_refl _⟩,⟨Int.le_refl _,Int.le_refl _⟩⟩ p) ?_) ?_
  · exact⟨negS_mono (partS_mono p.1 hl o.1),negS_mono (partS_mono p.2 hl o.2)⟩
  · exact⟨negS_mono (partS_mono p.2 hh o.2),partS_mono p.1 hh o.1⟩
structure St where
 x:Int
 y:Int
 u:Int
 v:Int
deriving DecidableEq,Inhabited
structure Bx where
 x:Sp
 y:Sp
 u:Sp
 v:Sp
deriving DecidableEq,Inhabited
def Bx.has (b:Bx) (s:St):Prop:=b.x.has s.x∧b.y.has s.y∧b.u.has s.u∧b.v.has s.v
def Bx.place (b:Bx):Ar:=⟨b.x,b.y⟩
def aloneA (s:St):Ar:=⟨oneS s.x,oneS s.y⟩
def Follows (mp:Int) (d:Dr) (l:List Hv) (s n:St):Prop:=(overA mp d (aloneA s) l).x.has (n.u-s.u)∧(overA mp d (aloneA s) l).y.has (n.v-s.v)∧n.x=s.x+n.u∧n.y=s.y+n.v
def stepB (mp:Int) (d:Dr) (l:List Hv) (b:Bx):Bx:=
 let a:=overA mp d b.place l
 ⟨addS b.x (addS b.u a.x),addS b.y (addS b.v a.y),addS b.u a.x,addS b.v a.y⟩
theorem step_has {mp:Int} {d:Dr} {l:List Hv} {b:Bx} {s n:St} (hm:∀ b∈l,0≤b.mu) (hl:d.light.lo≤d.light.hi) (hh:d.heat.lo≤d.heat.hi) (h:b.has s) (f:Follows mp d l s n):(stepB mp d l b).has n:=by
 obtain⟨⟨x1,x2⟩,⟨y1,y2⟩,⟨u1,u2⟩,⟨v1,v2⟩⟩:=h;have sub:(aloneA s).sub b.place:=⟨⟨x1,x2⟩,⟨y1,y2⟩⟩;have m:=overA_mono (mp:=mp) (d:=d) sub ⟨Int.le_refl _,Int.le_refl _⟩ ⟨Int.le_trans x1 x2,Int.le_trans y1 y2⟩ hl hh l hm;obtain⟨f1,f2,f3,f4⟩:=f;have g1:=m.1.has f1;have g2:=m.2.has f2;unfold Sp.has at g1 g2;unfold stepB Bx.has Sp.has addS;simp only;omega
instance:Coe Sp (Array Value):=⟨fun a=>#[.int .i64 a.lo,.int .i64 a.hi]⟩
instance:Coe Sp Value:=⟨fun a=>.agg #[.int .i64 a.lo,.int .i64 a.hi]⟩
instance:Coe Ar (Array Value):=⟨fun a=>#[.int .i64 a.x.lo,.int .i64 a.x.hi,.int .i64 a.y.lo,.int .i64 a.y.hi]⟩
instance:Coe Ar Value:=⟨fun a=>.agg #[.int .i64 a.x.lo,.int .i64 a.x.hi,.int .i64 a.y.lo,.int .i64 a.y.hi]⟩
instance:Coe Bx (Array Value):=⟨fun a=>#[.int .i64 a.x.lo,.int .i64 a.x.hi,.int .i64 a.y.lo,.int .i64 a.y.hi,.int .i64 a.u.lo,.int .i64 a.u.hi,.int .i64 a.v.lo,.int .i64 a.v.hi]⟩
instance:Coe Bx Value:=⟨fun a=>.agg #[.int .i64 a.x.lo,.int .i64 a.x.hi,.int .i64 a.y.lo,.int .i64 a.y.hi,.int .i64 a.u.lo,.int .i64 a.u.hi,.int .i64 a.v.lo,.int .i64 a.v.hi]⟩
instance:Coe St (Array Value):=⟨fun a=>#[.int .i64 a.x,.int .i64 a.y,.int .i64 a.u,.int .i64 a.v]⟩
instance:Coe St Value:=⟨fun a=>.agg #[.int .i64 a.x,.int .i64 a.y,.int .i64 a.u,.int .i64 a.v]⟩
instance:Coe Dr (Array Value):=⟨fun a=>#[.int .i64 a.light.lo,.int .i64 a.light.hi,.int .i64 a.heat.lo,.int .i64 a.heat.hi,.int .i64 a.gas]⟩
instance:Coe Dr Value:=⟨fun a=>.agg #[.int .i64 a.light.lo,.int .i64 a.light.hi,.int .i64 a.heat.lo,.int .i64 a.heat.hi,.int .i64 a.gas]⟩
end Go.Proofs.YtdhiappifnflpaaGreat
namespace Go.Proofs.YtdhiappifnflpaaGreat
inductive Fk|miss|open|hit
deriving DecidableEq
def fateB (stp:Int→Bx→Option Bx) (clear sure:Int→Bx→Bx→Bool):Bool→Nat→Int→Bx→Fk
 | o,0,_,_=>if o then .open else .miss
 | o,n+1,t,b=>
  match stp t b with
  | none=>.open
  | some nx=>if (o||!clear t b nx)&&sure t b nx then .hit else fateB stp clear sure (o||!clear t b nx) n (t+1) nx
section
variable {stp:Int→Bx→Option Bx} {clear sure:Int→Bx→Bx→Bool} {fol hits:Int→St→St→Prop}
theorem fateB_open:∀ (n:Nat) (t:Int) (b:Bx),fateB stp clear sure true n t b≠.miss
 | 0,_,_=>by simp[fateB]
 | n+1,t,b=>by
  unfold fateB;split
  · simp
  ·
   rename_i nx _;by_cases h:sure t b nx=true
   · simp[h]
   ·
    simp only[Bool.true_or,Bool.true_and];rw[if_neg h];exact fateB_open n _ _
theorem fate_hit (hs:∀ t b s m nx,b.has s→fol t s m→stp t b=some nx→nx.has m) (hc:∀ t b nx s m,clear t b nx=true→b.has s→nx.has m→¬ hits t s m) :
  ∀ (n:Nat) (t:Int) (b:Bx) (o:Bool) (s:Nat→St),b.has (s 0)→(∀ i:Nat,i<n→fol (t+i) (s i) (s (i+1)))→(∃ i:Nat,i<n∧hits (t+i) (s i) (s (i+1)))→fateB stp clear sure o n t b≠.miss
 | 0,_,_,_,_,_,_,h=>by obtain⟨i,hi,-⟩:=h;omega
 | n+1,t,b,o,s,hb,hf,hh=>by
  unfold fateB;split
  · simp
  ·
   rename_i nx hn;have h0:=hf 0 (by omega);have hx:=hs t b (s 0) (s 1) nx hb (by simpa using h0) hn;by_cases hz:hits t (s 0) (s 1)
   ·
    have hcl:clear t b nx=false:=by
     cases q:clear t b nx with
     | false=>rfl
     | true=>exact absurd hz (hc t b nx _ _ q hb hx)
    rw[hcl];simp only[Bool.not_false,Bool.or_true,Bool.true_and];split
    · simp
    · exact fateB_open _ _ _
   ·
    split
    · simp
    ·
     refine fate_hit hs hc n (t+1) nx _ (fun i=>s (i+1)) hx (fun i hi=>?_) ?_
     ·
      have:=hf (i+1) (by omega);have e:t+1+(i:Int)=t+((i+1:Nat):Int):=by push_cast;omega
      rw[e];exact this
     ·
      obtain⟨i,hi,h⟩:=hh;cases i with
      | zero=>exact absurd (by simpa using h) hz
      | succ i=>
       refine⟨i,by omega,?_⟩;have e:t+1+(i:Int)=t+((i+1:Nat):Int):=by push_cast;omega
       rw[e];exact h
end
end Go.Proofs.YtdhiappifnflpaaGreat
