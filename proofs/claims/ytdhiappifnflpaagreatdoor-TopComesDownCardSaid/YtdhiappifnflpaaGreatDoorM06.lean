/- Stones: masses, what holds them, checks, craters. Which stones are valid. Spans in plain Lean: each operation is isotone; what moves a body; a truth stays in the step of its box. No program here. -/
import Derived.Test.YtdhiappifnflpaaGreatDoorM05
import Derived.Test.YtdhiappifnflpaaGreatDoorM03
import Derived.WalkKit
set_option maxRecDepth 100000
set_option maxHeartbeats 400000
namespace Go.Proofs.YtdhiappifnflpaaGreatDoor.Bl
open Go.RowKit
structure StoneOk (s:Stone):Prop where
 size:1≤s.size∧s.size≤1000
 dens:1≤s.dens∧s.dens≤9000
 strong:0≤s.strong∧s.strong≤1099511627776
 spin:0≤s.spin∧s.spin≤1000
 shape:500≤s.shape∧s.shape≤2000
 speed:1≤s.speed∧s.speed≤8000
 slope:1≤s.slope∧s.slope≤1000
def massOf (size dens:Int):Int:=size * size * size * dens / 1000
def holdOf (strong spin:Int) (pile:Bool):Int:=if pile then strong * (1000-spin) / 1000 else strong
theorem mul_in {a b A B:Int} (ha:0≤a) (hA:a≤A) (hb:0≤b) (hB:b≤B):0≤a * b∧a * b≤A * B:=
 ⟨Int.mul_nonneg ha hb,Int.mul_le_mul hA hB hb (Int.le_trans ha hA)⟩
theorem wrap64_of {n:Int} (h0:0≤n) (h1:n≤9223372036854775807):wrap64 n=n:=by unfold wrap64;omega
theorem wrap_div {n d:Int} (h0:0≤n) (h1:n≤9223372036854775807) (hd:0<d):wrap64 ((wrap64 n).tdiv d)=n / d:=by
 rw[wrap64_of h0 h1,Int.tdiv_eq_ediv_of_nonneg h0];exact wrap64_of (Int.ediv_nonneg h0 oM) (Int.le_trans (Int.ediv_le_self d h0) h1)
theorem mass_val {a d:Int} (ha:1≤a∧a≤1000) (hd:1≤d∧d≤9000):wrap64 ((wrap64 (wrap64 (wrap64 (a * a) * a) * d)).tdiv 1000)=massOf a d∧0≤massOf a d∧massOf a d≤9000000000:=by
 obtain⟨h1,h2⟩:=mul_in (show 0≤a by omega) ha.2 (show 0≤a by omega) ha.2;obtain⟨h3,h4⟩:=mul_in h1 h2 (show 0≤a by omega) ha.2;obtain⟨h5,h6⟩:=mul_in h3 h4 (show 0≤d by omega) hd.2;rw[wrap64_of h1 oM,wrap64_of h3 oM];refine⟨wrap_div h5 oM oM,?_,?_⟩<;>(unfold massOf;omega)
theorem hold_val {t n:Int} (ht:0≤t∧t≤1099511627776) (hn:0≤n∧n≤1000):wrap64 ((wrap64 (t * wrap64 (1000-n))).tdiv 1000)=t * (1000-n) / 1000∧0≤t * (1000-n) / 1000∧t * (1000-n) / 1000≤t:=by
 obtain⟨h1,h2⟩:=mul_in ht.1 ht.2 (show 0≤1000-n by omega) (show 1000-n≤1000 by omega);obtain⟨h3,h4⟩:=mul_in ht.1 (Int.le_refl t) (show 0≤1000-n by omega) (show 1000-n≤1000 by omega);rw[wrap64_of (show 0≤1000-n by omega) oM];refine⟨wrap_div h1 oM oM,by omega,by omega⟩
theorem blast_mass_any (s:Stone) (h:StoneOk s) (w:World) :
  Calls Tryz.prog 64 #[.agg #[s.size,s.dens,s.strong,s.spin,s.shape,.bool s.pile,s.speed,s.slope]] w fun e w'=>e=.returned (.int .i64 (massOf s.size s.dens))∧Kp w.heap.size none w w':=by
 have K:=(Kp.refl w.heap.size none w).alloc (Nat.le_refl _) (.cells #[s.size,s.dens,s.strong,s.spin,s.shape,.bool s.pile,s.speed,s.slope] 76);go_enter Tryz.func64,Tryz.ntmps64
 go_wp2
 go_ret
 exact⟨ret_int (mass_val h.size h.dens).1,K⟩
theorem blast_hold_any (s:Stone) (h:StoneOk s) (w:World) :
  Calls Tryz.prog 108 #[.agg #[s.size,s.dens,s.strong,s.spin,s.shape,.bool s.pile,s.speed,s.slope]] w fun e w'=>e=.returned (.int .i64 (holdOf s.strong s.spin s.pile))∧Kp w.heap.size none w w':=by
 have K:=(Kp.refl w.heap.size none w).alloc (Nat.le_refl _) (.cells #[s.size,s.dens,s.strong,s.spin,s.shape,.bool s.pile,s.speed,s.slope] 76);cases hq:s.pile
 all_goals
  rw[hq] at K;go_enter Tryz.func108,Tryz.ntmps108
  go_wp2
  go_ret
 · exact⟨ret_int (by simp[holdOf]),K⟩
 · exact⟨ret_int (by rw[(hold_val h.strong h.spin).1];simp[holdOf]),K⟩
def IsCrater (n r:Nat):Prop:=∃ q,IsRoot n q∧IsRoot q r
def stoneNum (s:Stone):Nat→Int
 | 0=>s.size|1=>s.dens|2=>s.strong|3=>s.spin|4=>s.shape|5=>s.speed|_=>s.slope
def bLo:Nat→Int
 | 0=>1|1=>1|2=>0|3=>0|4=>500|5=>1|_=>1
def bHi:Nat→Int
 | 0=>1000|1=>9000|2=>1099511627776|3=>1000|4=>2000|5=>8000|_=>1000
def arr7 (f:Nat→Int):Array Value:=#[(f 0),(f 1),(f 2),(f 3),(f 4),(f 5),(f 6)]
theorem index7 (f:Nat→Int) (i:Nat) (hi:i<7) (w:World):(Instr.index 187 (.agg (arr7 f)) (.int .i64 (i:Int))).run Tryz.prog w=.ok (.int .i64 (f i)) w:=by
 rcases i with _|_|_|_|_|_|_|i
 all_goals first|omega|kernel_rfl
def Bnd (w:World):Prop:=0<w.heap.size∧∀ j,j<7→w.cell? ⟨0,j * 2,none⟩=some (.int .i64 (bLo j))∧w.cell? ⟨0,j * 2+1,none⟩=some (.int .i64 (bHi j))
theorem Bnd.kp {w w':World} {B:Nat} {row:Option Nat} (h:Bnd w) (k:Kp B row w w') (hB:0<B) (hr:row≠some 0):Bnd w':=
 ⟨Nat.lt_of_lt_of_le h.1 k.size,fun j hj=>⟨(k.cell 0 _ hB (fun e=>hr e.symm)).trans (h.2 j hj).1,(k.cell 0 _ hB (fun e=>hr e.symm)).trans (h.2 j hj).2⟩⟩
theorem Bnd.kpN {w w':World} (h:Bnd w) (k:Kp w.heap.size none w w'):Bnd w':=h.kp k h.1 (by simp)
theorem stoneOk_iff (s:Stone):StoneOk s↔∀ j,j<7→bLo j≤stoneNum s j∧stoneNum s j≤bHi j:=by
 constructor
 ·
  rintro ⟨h0,h1,h2,h3,h4,h5,h6⟩ j hj;rcases j with _|_|_|_|_|_|_|j
  · exact h0
  · exact h1
  · exact h2
  · exact h3
  · exact h4
  · exact h5
  · exact h6
  · omega
 ·
  intro h;exact⟨h 0 oM,h 1 oM,h 2 oM,h 3 oM,h 4 oM,h 5 oM,h 6 oM⟩
theorem btw_true (n lo hi:Int):btw n lo hi=true↔lo≤n∧n≤hi:=by simp[btw]
def StoneChk (s:Stone) (n:Int):Prop:=(n=0∧StoneOk s)∨(n=2∧¬ StoneOk s)
theorem blast_numbers_any (s:Stone) (w:World) :
  Calls Tryz.prog 106 #[.agg #[s.size,s.dens,s.strong,s.spin,s.shape,.bool s.pile,s.speed,s.slope]] w fun e w'=>e=.returned (.agg (arr7 (stoneNum s)))∧Kp w.heap.size none w w':=by
 have K:=(Kp.refl w.heap.size none w).alloc (Nat.le_refl _) (.cells #[s.size,s.dens,s.strong,s.spin,s.shape,.bool s.pile,s.speed,s.slope] 76);go_enter Tryz.func106,Tryz.ntmps106
 go_wp2
 exact bodyPost_ret (by simp[results,Tryz.results106,go_sem];rfl) rfl ⟨rfl,K.alloc (by simp) _⟩
def ChkAt (f:Nat→Int) (w:World) (v:Value) (wr:World):Prop:=∃ i:Nat,v=.int .i64 i∧i≤7∧(∀ j,j<i→bLo j≤f j∧f j≤bHi j)∧Kp w.heap.size none w wr
theorem blast_CheckStone_any (s:Stone) (w:World) (hb:Bnd w) :
  Calls Tryz.prog 61 #[.agg #[s.size,s.dens,s.strong,s.spin,s.shape,.bool s.pile,s.speed,s.slope]] w fun e w'=>(∃ n,e=.returned (.int .i64 n)∧StoneChk s n)∧Kp w.heap.size none w w':=by
 go_enter Tryz.func61,Tryz.ntmps61
 go_wp2_with fail
 refine mK (blast_numbers_any s _) fun w1 k1=>?_;have K1:=((Kp.refl w.heap.size none w).alloc (Nat.le_refl _) (.cells #[s.size,s.dens,s.strong,s.spin,s.shape,.bool s.pile,s.speed,s.slope] 76)).then_ k1 (by simp);clear k1;go_wp2_with fail
 go_loopw [7] (fun v wr=>ChkAt (stoneNum s) w v wr) (fun v _=>7-(intOf v).toNat)
 case atStart=>exact⟨0,rfl,by omega,fun j hj=>absurd hj oM,K1⟩
 case round=>
  obtain⟨i,rfl,hi,hj,KK⟩:=hrel;by_cases h7:i<7
  ·
   have ha:=index7 (stoneNum s) i h7;obtain⟨hl,hh⟩:=(hb.kpN KK).2 i h7;have hB0:0<wr.drew.heap.size:=(hb.kpN KK).1
   have hst:(bLo i≤stoneNum s i∧stoneNum s i≤bHi i)→∀ j,j<i+1→bLo j≤stoneNum s j∧stoneNum s j≤bHi j:=fun h j hj'=>by
    rcases Nat.lt_or_ge j i with h1|h1
    · exact hj j h1
    · rw[show j=i from by omega];exact h
   have hbad:btw (stoneNum s i) (bLo i) (bHi i)=false→¬ StoneOk s:=fun h k=>by
    have:=(btw_true _ _ _).2 ((stoneOk_iff s).1 k i h7);rw[h] at this;cases this
   replace hst:=Lib.hid hst;replace hbad:=Lib.hid hbad;replace hj:=Lib.hid hj;have hb:=Lib.hid hb;generalize arr7 (stoneNum s)=cs at ha;generalize stoneNum s i=n at ha hst hbad;generalize bLo i=lo at hl hst hbad;generalize bHi i=hi' at hh hst hbad;have h7':(i:Int)<7:=by omega
   have hi0:(0:Int)≤(i:Int):=by omega
   clear hi h7;go_wp2_with fail
   obtain⟨S,hS⟩:∃ S:Nat→World→Prop,S=fun n w'=>if n=0 then w'.cell? ⟨0,i * 2,none⟩=some (.int .i64 lo)∧w'.cell? ⟨0,i * 2+1,none⟩=some (.int .i64 hi') else True:=⟨_,rfl⟩;have hS0:∀ w',S 0 w'↔(w'.cell? ⟨0,i * 2,none⟩=some (.int .i64 lo)∧w'.cell? ⟨0,i * 2+1,none⟩=some (.int .i64 hi')):=fun w'=>by rw[hS];exact Iff.rfl
   have hS1:∀ w',S 1 w'↔(True):=fun w'=>by rw[hS];exact Iff.rfl
   clear hS;have cx:=fun (x:Ev (S 0))=>((hS0 _).1 x.h).1;have cy:=fun (x:Ev (S 0))=>((hS0 _).1 x.h).2;have hevT:=ev_true;refine wro S [(0,0),(1,0),(2,0),(3,0),(4,1),(5,0),(6,0),(7,0),(8,1),(9,2),(10,0)] [] ((hS0 _).2 ⟨hl,hh⟩) ?_;intro _hev;refine oX ?_;refine oL ?_;intro K hK;go_step;refine mK (blast_within_any n lo hi' _) fun w2 hk2=>?_;have K2:=KK.drew.thenN hk2 (Nat.le_refl _);refine hK _ _ ((hS0 _).2 ⟨(hk2.cell 0 _ hB0 (by simp)).trans hl,(hk2.cell 0 _ hB0 (by simp)).trans hh⟩) ?_;clear hK K;refine oX ?_;refine wpOrd_nil ?_;clear hevT _hev;cases hbt:btw n lo hi'
   ·
    have hno:¬ StoneOk s:=hbad.out hbt;replace hno:=Lib.hid hno;go_wp2
    exact bodyPost_ret (by simp[results,Tryz.results61,go_sem]) rfl ⟨⟨2,rfl,.inr ⟨rfl,hno.out⟩⟩,K2⟩
   ·
    have hst':=Lib.hid (hst.out ((btw_true n lo hi').1 hbt));go_wp2
    go_roundw
    case rel=>exact⟨i+1,rfl,by omega,hst'.out,K2⟩
    case measure=>simp[intOf];omega
  ·
   have he:i=7:=by omega
   subst he;have hok:=Lib.hid hj;clear hj hi h7;go_wp2
   exact bodyPost_ret (by simp[results,Tryz.results61,go_sem]) rfl ⟨⟨0,rfl,.inl ⟨rfl,(stoneOk_iff s).2 hok.out⟩⟩,KK⟩
end Go.Proofs.YtdhiappifnflpaaGreatDoor.Bl
namespace Go.Proofs.YtdhiappifnflpaaGreatDoor
structure Sp where
 lo:Int
 hi:Int
deriving DecidableEq,Inhabited
def Sp.has (s:Sp) (n:Int):Prop:=s.lo≤n∧n≤s.hi
def Sp.sub (a b:Sp):Prop:=b.lo≤a.lo∧a.hi≤b.hi
theorem Sp.sub.has {a b:Sp} (h:a.sub b) {n:Int} (q:a.has n):b.has n:=by unfold Sp.sub at h;unfold Sp.has at q ⊢;omega
def addS (a b:Sp):Sp:=⟨a.lo+b.lo,a.hi+b.hi⟩
def subS (a b:Sp):Sp:=⟨a.lo-b.hi,a.hi-b.lo⟩
def negS (a:Sp):Sp:=⟨-a.hi,-a.lo⟩
theorem addS_mono {a b c d:Sp} (h:a.sub c) (k:b.sub d):(addS a b).sub (addS c d):=by unfold Sp.sub addS at *;simp only;omega
theorem subS_mono {a b c d:Sp} (h:a.sub c) (k:b.sub d):(subS a b).sub (subS c d):=by unfold Sp.sub subS at *;simp only;omega
theorem negS_mono {a c:Sp} (h:a.sub c):(negS a).sub (negS c):=by unfold Sp.sub negS at *;simp only;omega
def minC (f:Int→Int→Int) (a b:Sp):Int:=min (min (f a.lo b.lo) (f a.lo b.hi)) (min (f a.hi b.lo) (f a.hi b.hi))
def maxC (f:Int→Int→Int) (a b:Sp):Int:=max (max (f a.lo b.lo) (f a.lo b.hi)) (max (f a.hi b.lo) (f a.hi b.hi))
def Btw (f:Int→Int) (lo hi:Int):Prop:=∀ t,lo≤t→t≤hi→min (f lo) (f hi)≤f t∧f t≤max (f lo) (f hi)
theorem corner_mono {f:Int→Int→Int} {a b c d:Sp} (h:a.sub c) (k:b.sub d) (ha:a.lo≤a.hi) (hb:b.lo≤b.hi)
  (h1:∀ x,c.has x→Btw (f x) d.lo d.hi) (h2:∀ y,Btw (fun x=>f x y) c.lo c.hi):minC f c d≤minC f a b∧maxC f a b≤maxC f c d:=by
 have key:∀ x y,c.has x→d.has y→minC f c d≤f x y∧f x y≤maxC f c d:=fun x y hx hy=>by
  have q:=h1 x hx y hy.1 hy.2;have q1:=h2 d.lo x hx.1 hx.2;have q2:=h2 d.hi x hx.1 hx.2;unfold minC maxC;simp only at q1 q2;omega
 unfold Sp.sub at h k;have c1:c.has a.lo:=⟨by omega,by omega⟩;have c2:c.has a.hi:=⟨by omega,by omega⟩;have d1:d.has b.lo:=⟨by omega,by omega⟩;have d2:d.has b.hi:=⟨by omega,by omega⟩;have q1:=key _ _ c1 d1;have q2:=key _ _ c1 d2;have q3:=key _ _ c2 d1;have q4:=key _ _ c2 d2;unfold minC maxC at *;omega
theorem mul_btw (x lo hi:Int):Btw (fun y=>x * y) lo hi:=fun t h1 h2=>by
 simp only;rcases Int.le_total 0 x with h|h
 ·
  have:=Int.mul_le_mul_of_nonneg_left h1 h;have:=Int.mul_le_mul_of_nonneg_left h2 h;omega
 ·
  have a:=Int.mul_le_mul_of_nonneg_left h1 (show 0≤-x by omega);have b:=Int.mul_le_mul_of_nonneg_left h2 (show 0≤-x by omega);simp only[Int.neg_mul] at a b;omega
def mulS (a b:Sp):Sp:=⟨minC (· * ·) a b,maxC (· * ·) a b⟩
theorem mulS_mono {a b c d:Sp} (h:a.sub c) (k:b.sub d) (ha:a.lo≤a.hi) (hb:b.lo≤b.hi):(mulS a b).sub (mulS c d):=
 corner_mono h k ha hb (fun x _=>mul_btw x _ _) (fun y=>by
  have:=mul_btw y c.lo c.hi;intro t h1 h2;have q:=this t h1 h2;simp only[Int.mul_comm _ y] at q ⊢;exact q)
theorem fdiv_btw_num (y lo hi:Int):Btw (fun x=>Int.fdiv x y) lo hi:=fun t h1 h2=>by
 simp only;rcases Int.lt_trichotomy y 0 with h|h|h
 ·
  have e:∀ z:Int,Int.fdiv z y=(-z) / (-y):=fun z=>by
   rw[← Int.fdiv_eq_ediv_of_nonneg _ (by omega:(0:Int)≤-y),Int.neg_fdiv_neg]
  rw[e,e,e];have:=Int.ediv_le_ediv (show 0 < -y by omega) (show -t≤-lo by omega);have:=Int.ediv_le_ediv (show 0 < -y by omega) (show -hi≤-t by omega);omega
 · subst h;simp
 ·
  have e:∀ z:Int,Int.fdiv z y=z / y:=fun z=>Int.fdiv_eq_ediv_of_nonneg _ (by omega);rw[e,e,e];have:=Int.ediv_le_ediv h h1;have:=Int.ediv_le_ediv h h2;omega
theorem ediv_btw_den (x:Int) {lo hi:Int} (h0:0<lo):Btw (fun y=>x / y) lo hi:=fun t h1 h2=>by
 simp only
 have anti:∀ {a b:Int},0<a→a≤b→(0≤x→x / b≤x / a)∧(x<0→x / a≤x / b):=fun {a b} ha hab=>by
  refine⟨fun hx=>?_,fun hx=>?_⟩
  ·
   have q0:0≤x / b:=Int.ediv_nonneg hx (by omega);have q1:=Int.ediv_mul_le x (show b≠0 by omega);refine Int.le_ediv_of_mul_le ha ?_;have:=Int.mul_le_mul_of_nonneg_left hab q0;omega
  ·
   have q0:x / a<0:=Int.ediv_neg_of_neg_of_pos hx ha;have q1:=Int.ediv_mul_le x (show a≠0 by omega);refine Int.le_ediv_of_mul_le (by omega) ?_;have:=Int.mul_le_mul_of_nonneg_left hab (show 0≤-(x / a) by omega);simp only[Int.neg_mul] at this;omega
 have ht:0<t:=by omega
 rcases Int.lt_or_le x 0 with hx|hx
 · have:=(anti h0 h1).2 hx;have:=(anti ht h2).2 hx;omega
 · have:=(anti h0 h1).1 hx;have:=(anti ht h2).1 hx;omega
theorem fdiv_pos (x:Int) {y:Int} (h:0<y):Int.fdiv x y=x / y:=Int.fdiv_eq_ediv_of_nonneg _ (by omega)
theorem fdiv_neg' (x:Int) {y:Int} (h:y<0):Int.fdiv x y=(-x) / (-y):=by
 rw[← Int.fdiv_eq_ediv_of_nonneg _ (by omega:(0:Int)≤-y),Int.neg_fdiv_neg]
theorem fdiv_btw_den (x:Int) {lo hi:Int} (h0:0<lo∨hi<0) (hl:lo≤hi):Btw (fun y=>Int.fdiv x y) lo hi:=fun t h1 h2=>by
 simp only;rcases h0 with h|h
 ·
  rw[fdiv_pos x h,fdiv_pos x (show 0<hi by omega),fdiv_pos x (show 0<t by omega)];exact ediv_btw_den x h t h1 h2
 ·
  rw[fdiv_neg' x h,fdiv_neg' x (show lo<0 by omega),fdiv_neg' x (show t<0 by omega)];have:=ediv_btw_den (-x) (lo:=-hi) (hi:=-lo) (by omega) (-t) (by omega) (by omega);simp only at this;omega
def cdiv (x y:Int):Int:=-(Int.fdiv (-x) y)
theorem cdiv_btw_num (y lo hi:Int):Btw (fun x=>cdiv x y) lo hi:=fun t h1 h2=>by
 have:=fdiv_btw_num y (-hi) (-lo) (-t) (by omega) (by omega);unfold cdiv;simp only at this ⊢;omega
theorem cdiv_btw_den (x:Int) {lo hi:Int} (h0:0<lo∨hi<0) (hl:lo≤hi):Btw (fun y=>cdiv x y) lo hi:=fun t h1 h2=>by
 have:=fdiv_btw_den (-x) h0 hl t h1 h2;unfold cdiv;simp only at this ⊢;omega
def quotS (a b:Sp):Sp:=⟨minC Int.fdiv a b,maxC cdiv a b⟩
theorem quotS_mono {a b c d:Sp} (h:a.sub c) (k:b.sub d) (ha:a.lo≤a.hi) (hb:b.lo≤b.hi) (h0:0<d.lo∨d.hi<0):(quotS a b).sub (quotS c d):=by
 have hd:d.lo≤d.hi:=by unfold Sp.sub at k;omega
 exact⟨(corner_mono h k ha hb (fun x _=>fdiv_btw_den x h0 hd) (fun y=>fdiv_btw_num y _ _)).1,(corner_mono h k ha hb (fun x _=>cdiv_btw_den x h0 hd) (fun y=>cdiv_btw_num y _ _)).2⟩
def squareS (a:Sp):Sp:=⟨max 0 (max a.lo (-a.hi)) * max 0 (max a.lo (-a.hi)),max (-a.lo) a.hi * max (-a.lo) a.hi⟩
theorem squareS_mono {a c:Sp} (h:a.sub c) (ha:a.lo≤a.hi):(squareS a).sub (squareS c):=by
 unfold Sp.sub at h;unfold Sp.sub squareS;simp only;exact⟨Int.mul_le_mul (by omega) (by omega) (by omega) (by omega),Int.mul_le_mul (by omega) (by omega) (by omega) (by omega)⟩
def clampS (m:Int) (s:Sp):Sp:=⟨min (max s.lo (-m)) m,min (max s.hi (-m)) m⟩
theorem clampS_mono {m:Int} {a c:Sp} (h:a.sub c):(clampS m a).sub (clampS m c):=by unfold Sp.sub clampS at *;simp only;omega
theorem btw_scale {g:Int→Int} {m lo hi:Int} (hm:0≤m) (h:Btw g (m * lo) (m * hi)):Btw (fun e=>g (m * e)) lo hi:=fun t h1 h2=>
 h (m * t) (Int.mul_le_mul_of_nonneg_left h1 hm) (Int.mul_le_mul_of_nonneg_left h2 hm)
theorem fdiv_le_cdiv (x y:Int):Int.fdiv x y≤cdiv x y:=by
 unfold cdiv;rcases Int.lt_trichotomy y 0 with h|h|h
 ·
  rw[fdiv_neg' x h,fdiv_neg' (-x) h];have a:=Int.ediv_mul_le (-x) (show -y≠0 by omega);have b:=Int.ediv_mul_le (- -x) (show -y≠0 by omega);obtain⟨p,hp⟩:∃ p,p=-x / -y:=⟨_,rfl⟩;obtain⟨q,hq⟩:∃ q,q=- -x / -y:=⟨_,rfl⟩;rw[← hp] at a ⊢;rw[← hq] at b ⊢;rcases Int.lt_or_le 0 (p+q) with c|c
  ·
   have:=Int.mul_pos c (show 0 < -y by omega);have e:(p+q) * -y=p * -y+q * -y:=by grind
   omega
  · omega
 · subst h;simp
 ·
  rw[fdiv_pos x h,fdiv_pos (-x) h];have a:=Int.ediv_mul_le x (show y≠0 by omega);have b:=Int.ediv_mul_le (-x) (show y≠0 by omega);obtain⟨p,hp⟩:∃ p,p=x / y:=⟨_,rfl⟩;obtain⟨q,hq⟩:∃ q,q=-x / y:=⟨_,rfl⟩;rw[← hp] at a ⊢;rw[← hq] at b ⊢;rcases Int.lt_or_le 0 (p+q) with c|c
  ·
   have:=Int.mul_pos c h;have e:(p+q) * y=p * y+q * y:=by grind
   omega
  · omega
def IsRoot (n s:Int):Prop:=0≤s∧s * s≤n∧n<(s+1) * (s+1)
theorem root_mono {n m s t:Int} (hs:IsRoot n s) (ht:IsRoot m t) (h:n≤m):s≤t:=by
 rcases Int.lt_or_le t s with q|q
 ·
  exfalso
  have:=Int.mul_le_mul (show t+1≤s by omega) (show t+1≤s by omega) (by have:=ht.1;omega) (by have:=hs.1;omega);have:=hs.2.1;have:=ht.2.2;omega
 · exact q
def rootUp (n s:Int):Int:=if s * s<n then s+1 else s
theorem rootUp_mono {n m s t:Int} (hs:IsRoot n s) (ht:IsRoot m t) (h:n≤m):rootUp n s≤rootUp m t:=by
 have k:=root_mono hs ht h;unfold rootUp;split
 ·
  split
  · omega
  ·
   rename_i a b;rcases Int.lt_or_le s t with q|q
   · omega
   ·
    obtain rfl:s=t:=by omega
    have:=hs.2.1;have:=ht.2.1;omega
 · split<;>omega
def towardS (mu mp:Int) (x q r:Sp):Sp:=clampS mp (quotS ⟨minC (fun e d=>Int.fdiv (mu * e) d) x q,maxC (fun e d=>cdiv (mu * e) d) x q⟩ r)
theorem towardS_mono {mu mp:Int} {x q r x2 q2 r2:Sp} (hm:0≤mu) (hx:x.sub x2) (hq:q.sub q2) (hr:r.sub r2) (lx:x.lo≤x.hi) (lq:q.lo≤q.hi) (lr:r.lo≤r.hi) (pq:0<q2.lo) (pr:0<r2.lo):(towardS mu mp x q r).sub (towardS mu mp x2 q2 r2):=by
 have hd:q2.lo≤q2.hi:=by unfold Sp.sub at hq;omega
 refine clampS_mono (quotS_mono ⟨?_,?_⟩ hr ?_ lr (.inl pr))
 · exact(corner_mono hx hq lx lq (fun x _=>fdiv_btw_den _ (.inl pq) hd) (fun y=>btw_scale (g:=fun z=>Int.fdiv z y) hm (fdiv_btw_num y _ _))).1
 · exact(corner_mono hx hq lx lq (fun x _=>cdiv_btw_den _ (.inl pq) hd) (fun y=>btw_scale (g:=fun z=>cdiv z y) hm (cdiv_btw_num y _ _))).2
 ·
  have:=fdiv_le_cdiv (mu * x.lo) q.lo;simp only[minC,maxC];omega
def isqN:Nat→Nat
 | 0=>0
 | n+1=>if (isqN n+1) * (isqN n+1)≤n+1 then isqN n+1 else isqN n
theorem isqN_spec:∀ n:Nat,isqN n * isqN n≤n∧n<(isqN n+1) * (isqN n+1)
 | 0=>by simp[isqN]
 | n+1=>by
  have h:=isqN_spec n;unfold isqN;split
  ·
   rename_i q;refine⟨q,?_⟩;have e:(isqN n+1+1) * (isqN n+1+1)=(isqN n+1) * (isqN n+1)+2 * (isqN n+1)+1:=by grind
   omega
  ·
   rename_i q;exact⟨by omega,by omega⟩
def isq (n:Int):Int:=isqN n.toNat
theorem isq_root {n:Int} (h:0≤n):IsRoot n (isq n):=by
 obtain⟨m,rfl⟩:=Int.eq_ofNat_of_zero_le h;obtain⟨a,b⟩:=isqN_spec m;unfold isq IsRoot;rw[Int.toNat_natCast];exact⟨by omega,by exact_mod_cast a,by exact_mod_cast b⟩
theorem isq_pos {n:Int} (h:1≤n):1≤isq n:=by
 obtain⟨a,b,c⟩:=isq_root (show 0≤n by omega);rcases Int.lt_or_le 0 (isq n) with q|q
 · omega
 ·
  have e:isq n=0:=by omega
  rw[e] at c;omega
structure Ar where
 x:Sp
 y:Sp
deriving DecidableEq,Inhabited
def Ar.sub (a b:Ar):Prop:=a.x.sub b.x∧a.y.sub b.y
def Ar.ok (a:Ar):Prop:=a.x.lo≤a.x.hi∧a.y.lo≤a.y.hi
def oneS (n:Int):Sp:=⟨n,n⟩
structure Hv where
 mu:Int
 rad:Int
 ax:Int
 ay:Int
def Hv.toA (b:Hv) (a:Ar):Ar:=⟨subS (oneS b.ax) a.x,subS (oneS b.ay) a.y⟩
def Hv.edge (b:Hv):Int:=max 1 (b.rad * b.rad)
def distS (b:Hv) (a:Ar):Sp:=⟨max (addS (squareS (b.toA a).x) (squareS (b.toA a).y)).lo b.edge,max (addS (squareS (b.toA a).x) (squareS (b.toA a).y)).hi b.edge⟩
def rootsS (q:Sp):Sp:=⟨isq q.lo,rootUp q.hi (isq q.hi)⟩
def pullS (mp:Int) (b:Hv) (a:Ar):Ar:=⟨towardS b.mu mp (b.toA a).x (distS b a) (rootsS (distS b a)),towardS b.mu mp (b.toA a).y (distS b a) (rootsS (distS b a))⟩
theorem squareS_ok (a:Sp) (h:a.lo≤a.hi):(squareS a).lo≤(squareS a).hi:=by
 unfold squareS;simp only;exact Int.mul_le_mul (by omega) (by omega) (by omega) (by omega)
theorem toA_ok {b:Hv} {a:Ar} (h:a.ok):(b.toA a).ok:=by unfold Ar.ok Hv.toA subS oneS at *;simp only;omega
theorem toA_mono {b:Hv} {a c:Ar} (h:a.sub c):(b.toA a).sub (b.toA c):=by unfold Ar.sub Sp.sub Hv.toA subS oneS at *;simp only;omega
theorem distS_mono {b:Hv} {a c:Ar} (h:a.sub c) (ha:a.ok):(distS b a).sub (distS b c):=by
 have t:=toA_mono (b:=b) h;have o:=toA_ok (b:=b) ha;have s1:=squareS_mono t.1 o.1;have s2:=squareS_mono t.2 o.2;unfold Sp.sub at *;unfold distS addS;simp only;omega
theorem distS_ok {b:Hv} {a:Ar} (ha:a.ok):1≤(distS b a).lo∧(distS b a).lo≤(distS b a).hi:=by
 have o:=toA_ok (b:=b) ha;have s1:=squareS_ok _ o.1;have s2:=squareS_ok _ o.2;unfold distS addS Hv.edge;simp only;omega
theorem le_rootUp (n s:Int):s≤rootUp n s:=by unfold rootUp;split<;>omega
theorem rootsS_mono {a c:Sp} (h:a.sub c) (h1:1≤c.lo) (ha:a.lo≤a.hi):(rootsS a).sub (rootsS c):=by
 unfold Sp.sub at h;exact⟨root_mono (isq_root (by omega)) (isq_root (by omega)) h.1,rootUp_mono (isq_root (by omega)) (isq_root (by omega)) h.2⟩
theorem rootsS_ok {a:Sp} (h1:1≤a.lo) (ha:a.lo≤a.hi):1≤(rootsS a).lo∧(rootsS a).lo≤(rootsS a).hi:=by
 have k:=root_mono (isq_root (show 0≤a.lo by omega)) (isq_root (show 0≤a.hi by omega)) ha;have:=le_rootUp a.hi (isq a.hi);exact⟨isq_pos h1,by unfold rootsS;simp only;omega⟩
theorem pullS_mono {mp:Int} {b:Hv} {a c:Ar} (hm:0≤b.mu) (h:a.sub c) (ha:a.ok) (hc:c.ok):(pullS mp b a).sub (pullS mp b c):=by
 have t:=toA_mono (b:=b) h;have o:=toA_ok (b:=b) ha;have d:=distS_mono (b:=b) h ha;have d1:=distS_ok (b:=b) ha;have d2:=distS_ok (b:=b) hc;have r:=rootsS_mono d d2.1 d1.2;have r1:=rootsS_ok d1.1 d1.2;have r2:=rootsS_ok d2.1 d2.2;exact⟨towardS_mono hm t.1 d r o.1 d1.2 r1.2 (by omega) (by omega),towardS_mono hm t.2 d r o.2 d1.2 r1.2 (by omega) (by omega)⟩
theorem quotS_ok (a b:Sp):(quotS a b).lo≤(quotS a b).hi:=by
 have:=fdiv_le_cdiv a.lo b.lo;unfold quotS minC maxC;simp only;omega
theorem clampS_ok {m:Int} {a:Sp} (h:a.lo≤a.hi):(clampS m a).lo≤(clampS m a).hi:=by unfold clampS;simp only;omega
theorem mulS_ok (a b:Sp):(mulS a b).lo≤(mulS a b).hi:=by unfold mulS minC maxC;simp only;omega
theorem pullS_ok (mp:Int) (b:Hv) (a:Ar):(pullS mp b a).ok:=⟨clampS_ok (quotS_ok _ _),clampS_ok (quotS_ok _ _)⟩
def partS (a b:Sp):Sp:=quotS (mulS a b) (oneS 1000)
theorem partS_mono {a b d:Sp} (k:b.sub d) (ha:a.lo≤a.hi) (hb:b.lo≤b.hi):(partS a b).sub (partS a d):=
 quotS_mono (mulS_mono ⟨Int.le_refl _,Int.le_refl _⟩ k ha hb) ⟨Int.le_refl _,Int.le_refl _⟩ (mulS_ok _ _) (Int.le_refl _) (.inl (by decide))
structure Dr where
 light:Sp
 heat:Sp
 gas:Int
def lightA (d:Dr) (s:Ar):Ar:=⟨negS (partS d.light s.x),negS (partS d.light s.y)⟩
def heatA (d:Dr) (s:Ar):Ar:=⟨negS (partS d.heat s.y),partS d.heat s.x⟩
def sumA (a b:Ar):Ar:=⟨addS a.x b.x,addS a.y b.y⟩
theorem sumA_mono {a b c d:Ar} (h:a.sub c) (k:b.sub d):(sumA a b).sub (sumA c d):=⟨addS_mono h.1 k.1,addS_mono h.2 k.2⟩
def restA (mp:Int) (a:Ar):Ar→List Hv→Ar
 | out,[]=>out
 | out,b::r=>restA mp a (sumA out (pullS mp b a)) r
def overA (mp:Int) (d:Dr) (a:Ar):List Hv→Ar
 | []=>⟨⟨-d.gas,d.gas⟩,⟨-d.gas,d.gas⟩⟩
 | b::r=>restA mp a (sumA (sumA (sumA ⟨⟨-d.gas,d.gas⟩,⟨-d.gas,d.gas⟩⟩ (pullS mp b a)) (lightA d (pullS mp b a))) (heatA d (pullS mp b a))) r
theorem restA_mono {mp:Int} {a c:Ar} (h:a.sub c) (ha:a.ok) (hc:c.ok):∀ (l:List Hv) (o p:Ar),(∀ b∈l,0≤b.mu)→o.sub p→(restA mp a o l).sub (restA mp c p l)
 | [],_,_,_,k=>k
 | b::r,_,_,hm,k=>restA_mono h ha hc r _ _ (fun x hx=>hm x (List.mem_cons_of_mem _ hx)) (sumA_mono k (pullS_mono (hm b List.mem_cons_self) h ha hc))
theorem overA_mono {mp:Int} {d:Dr} {a c:Ar} (h:a.sub c) (ha:a.ok) (hc:c.ok) (hl:d.light.lo≤d.light.hi) (hh:d.heat.lo≤d.heat.hi):∀ (l:List Hv),(∀ b∈l,0≤b.mu)→(overA mp d a l).sub (overA mp d c l)
 | [],_=>⟨⟨Int.le_refl _,Int.le_refl _⟩,⟨Int.le_refl _,Int.le_refl _⟩⟩
 | b::r,hm=>by
  have p:=pullS_mono (mp:=mp) (hm b List.mem_cons_self) h ha hc;have o:=pullS_ok mp b a;refine restA_mono h ha hc r _ _ (fun x hx=>hm x (List.mem_cons_of_mem _ hx)) ?_;refine sumA_mono (sumA_mono (sumA_mono ⟨⟨Int.le_refl _,Int.le_refl _⟩,⟨Int.le_refl _,Int.le_refl _⟩⟩ p) ?_) ?_
  · exact⟨negS_mono (partS_mono p.1 hl o.1),negS_mono (partS_mono p.2 hl o.2)⟩
  · exact⟨negS_mono (partS_mono p.2 hh o.2),partS_mono p.1 hh o.1⟩
structure St where
 x:Int
 y:Int
 u:Int
 v:Int
deriving DecidableEq,Inhabited
structure Bx where
 x:Sp
 y:Sp
 u:Sp
 v:Sp
deriving DecidableEq,Inhabited
def Bx.has (b:Bx) (s:St):Prop:=b.x.has s.x∧b.y.has s.y∧b.u.has s.u∧b.v.has s.v
def Bx.place (b:Bx):Ar:=⟨b.x,b.y⟩
def aloneA (s:St):Ar:=⟨oneS s.x,oneS s.y⟩
def Follows (mp:Int) (d:Dr) (l:List Hv) (s n:St):Prop:=(overA mp d (aloneA s) l).x.has (n.u-s.u)∧(overA mp d (aloneA s) l).y.has (n.v-s.v)∧n.x=s.x+n.u∧n.y=s.y+n.v
def stepB (mp:Int) (d:Dr) (l:List Hv) (b:Bx):Bx:=
 let a:=overA mp d b.place l
 ⟨addS b.x (addS b.u a.x),addS b.y (addS b.v a.y),addS b.u a.x,addS b.v a.y⟩
theorem step_has {mp:Int} {d:Dr} {l:List Hv} {b:Bx} {s n:St} (hm:∀ b∈l,0≤b.mu) (hl:d.light.lo≤d.light.hi) (hh:d.heat.lo≤d.heat.hi) (h:b.has s) (f:Follows mp d l s n):(stepB mp d l b).has n:=by
 obtain⟨⟨x1,x2⟩,⟨y1,y2⟩,⟨u1,u2⟩,⟨v1,v2⟩⟩:=h;have sub:(aloneA s).sub b.place:=⟨⟨x1,x2⟩,⟨y1,y2⟩⟩;have m:=overA_mono (mp:=mp) (d:=d) sub ⟨Int.le_refl _,Int.le_refl _⟩ ⟨Int.le_trans x1 x2,Int.le_trans y1 y2⟩ hl hh l hm;obtain⟨f1,f2,f3,f4⟩:=f;have g1:=m.1.has f1;have g2:=m.2.has f2;unfold Sp.has at g1 g2;unfold stepB Bx.has Sp.has addS;simp only;omega
instance:Coe Sp (Array Value):=⟨fun a=>#[.int .i64 a.lo,.int .i64 a.hi]⟩
instance:Coe Sp Value:=⟨fun a=>.agg #[.int .i64 a.lo,.int .i64 a.hi]⟩
instance:Coe Ar (Array Value):=⟨fun a=>#[.int .i64 a.x.lo,.int .i64 a.x.hi,.int .i64 a.y.lo,.int .i64 a.y.hi]⟩
instance:Coe Ar Value:=⟨fun a=>.agg #[.int .i64 a.x.lo,.int .i64 a.x.hi,.int .i64 a.y.lo,.int .i64 a.y.hi]⟩
instance:Coe Bx (Array Value):=⟨fun a=>#[.int .i64 a.x.lo,.int .i64 a.x.hi,.int .i64 a.y.lo,.int .i64 a.y.hi,.int .i64 a.u.lo,.int .i64 a.u.hi,.int .i64 a.v.lo,.int .i64 a.v.hi]⟩
instance:Coe Bx Value:=⟨fun a=>.agg #[.int .i64 a.x.lo,.int .i64 a.x.hi,.int .i64 a.y.lo,.int .i64 a.y.hi,.int .i64 a.u.lo,.int .i64 a.u.hi,.int .i64 a.v.lo,.int .i64 a.v.hi]⟩
instance:Coe St (Array Value):=⟨fun a=>#[.int .i64 a.x,.int .i64 a.y,.int .i64 a.u,.int .i64 a.v]⟩
instance:Coe St Value:=⟨fun a=>.agg #[.int .i64 a.x,.int .i64 a.y,.int .i64 a.u,.int .i64 a.v]⟩
instance:Coe Dr (Array Value):=⟨fun a=>#[.int .i64 a.light.lo,.int .i64 a.light.hi,.int .i64 a.heat.lo,.int .i64 a.heat.hi,.int .i64 a.gas]⟩
instance:Coe Dr Value:=⟨fun a=>.agg #[.int .i64 a.light.lo,.int .i64 a.light.hi,.int .i64 a.heat.lo,.int .i64 a.heat.hi,.int .i64 a.gas]⟩
end Go.Proofs.YtdhiappifnflpaaGreatDoor
