/- The shelf's contract of math/bits.Mul64 at this dump (as the kit's lay-shelf.mjs and lay-plain.mjs write it). -/
import Derived.Shelf.Small.Bits
import Derived.Shelf.Bits.Mul64
import Derived.Test.YtdhiappifnflpaaGreatProg
import Derived.Test.YtdhiappifnflpaaGreatMem
import Derived.Laws.BitsAllLaws
import Derived.Lib.ItoaNum
set_option maxHeartbeats 400000
namespace Go.Proofs
open Go.Shelf
def Tryz.lays264_ren:Go.Shelf.Ren:=⟨fun|264=>161|n=>n,fun|53=>133|46=>204|n=>n,fun|n=>n⟩
theorem Tryz.lays264:Go.Proofs.Lays.n264 Tryz.prog Tryz.lays264_ren:={
 mixed:=by kernel_rfl
 f264:=Tryz.func161.trans (congrArg some (by kernel_rfl))
 t46:=Tryz.underlying204
 a46:=Tryz.isAgg204
 z46:=Tryz.sizeOf204
 v46:=Tryz.zeroValue204
 t53:=Tryz.underlying133
 a53:=Tryz.isAgg133
 z53:=Tryz.sizeOf133
 v53:=Tryz.zeroValue133 }
def Tryz.lays134_ren:Go.Shelf.Ren:=⟨fun|134=>162|129=>191|n=>n,fun|53=>133|3=>3|4=>4|46=>204|5=>5|9=>9|n=>n,fun|n=>n⟩
theorem Tryz.lays134:Go.Proofs.Lays.n134 Tryz.prog Tryz.lays134_ren:={
 mixed:=by kernel_rfl
 f129:=Tryz.func191.trans (congrArg some (by kernel_rfl))
 f134:=Tryz.func162.trans (congrArg some (by kernel_rfl))
 t3:=Tryz.underlying3
 a3:=Tryz.isAgg3
 z3:=Tryz.sizeOf3
 v3:=Tryz.zeroValue3
 t4:=Tryz.underlying4
 a4:=Tryz.isAgg4
 z4:=Tryz.sizeOf4
 v4:=Tryz.zeroValue4
 t5:=Tryz.underlying5
 a5:=Tryz.isAgg5
 z5:=Tryz.sizeOf5
 v5:=Tryz.zeroValue5
 t9:=Tryz.underlying9
 a9:=Tryz.isAgg9
 z9:=Tryz.sizeOf9
 v9:=Tryz.zeroValue9
 t46:=Tryz.underlying204
 a46:=Tryz.isAgg204
 z46:=Tryz.sizeOf204
 v46:=Tryz.zeroValue204
 t53:=Tryz.underlying133
 a53:=Tryz.isAgg133
 z53:=Tryz.sizeOf133
 v53:=Tryz.zeroValue133 }
theorem Tryz.bits_LeadingZeros64 (x:Int) (w:World) (h0:0≤x) (h1:x≤18446744073709551615) :
 Calls Tryz.prog 162 #[.int .u64 x] w fun e w'=>e=.returned (.int .i64 (64-(Lib.bitLen x.toNat:Int)))∧w'=w:=Any.bits_LeadingZeros64 Tryz.lays134 x w h0 h1
def Tryz.lays129_ren:Go.Shelf.Ren:=⟨fun|129=>191|n=>n,fun|53=>133|3=>3|4=>4|46=>204|5=>5|9=>9|n=>n,fun|n=>n⟩
open Go.RowKit Go.Lib in
theorem Tryz.bits_Mul64 (x y:Nat) (hx:x<18446744073709551616) (hy:y<18446744073709551616) (w:World) :
 Calls Tryz.prog 161 #[.int .u64 x,.int .u64 y] w fun e w'=>e=.returned (.tuple #[.int .u64 ((x * y / 18446744073709551616:Nat):Int),.int .u64 ((x * y % 18446744073709551616:Nat):Int)])∧w'=w:=Any.bits_Mul64 Tryz.lays264 x y hx hy w
end Go.Proofs
namespace Go.Proofs.YtdhiappifnflpaaGreat
open Go.RowKit
theorem wrapu (x:Int):IntKind.u64.wrap x=x % 18446744073709551616:=by simp[IntKind.wrap,IntKind.bits,IntKind.signed]
structure Norm (hi lo y s v a b u c d:Nat):Prop where
 hs:s≤63
 hv:v=y * 2 ^ s
 vl:v<18446744073709551616
 va:v=a * 4294967296+b
 al:2147483648≤a
 ah:a<4294967296
 bl:b<4294967296
 ul:u<v
 cl:c<4294967296
 dl:d<4294967296
 tot:u * 18446744073709551616+(c * 4294967296+d)=(hi * 18446744073709551616+lo) * 2 ^ s
theorem tot_aux (A B C:Nat) (h:18446744073709551616 * C+A % 18446744073709551616=A):B * 18446744073709551616+C * 18446744073709551616+A % 18446744073709551616=B * 18446744073709551616+A:=by omega
theorem norm_shift (hi lo y s:Nat) (hs:s≤63) (hh:hi<y) (hlo:lo<18446744073709551616) (hy:y * 2 ^ s<18446744073709551616) (hy2:9223372036854775808≤y * 2 ^ s) :
  let v:=y * 2 ^ s
  let t:=lo * 2 ^ s % 18446744073709551616
  Norm hi lo y s v (v / 4294967296) (v % 4294967296) ((hi * 2 ^ s) ||| (lo / 2 ^ (64-s))) (t / 4294967296) (t % 4294967296)
   ∧ ((hi * 2 ^ s) ||| (lo / 2 ^ (64-s)))=hi * 2 ^ s+lo / 2 ^ (64-s):=by
 intro v t;have e1:2 ^ (64-s) * 2 ^ s=18446744073709551616:=by rw[← Nat.pow_add];rw[show 64-s+s=64 by omega]
 have hp:0<2 ^ s:=Nat.two_pow_pos s;have hq:0<2 ^ (64-s):=Nat.two_pow_pos _;have hl:lo / 2 ^ (64-s)<2 ^ s:=by rw[Nat.div_lt_iff_lt_mul hq,Nat.mul_comm,e1];exact hlo
 have hor:((hi * 2 ^ s) ||| (lo / 2 ^ (64-s)))=hi * 2 ^ s+lo / 2 ^ (64-s):=by
  rw[Nat.mul_comm hi];exact(Nat.two_pow_add_eq_or_of_lt hl hi).symm
 have hd:lo * 2 ^ s / 18446744073709551616=lo / 2 ^ (64-s):=by rw[← e1];exact Nat.mul_div_mul_right _ _ hp
 have hdm:=Nat.div_add_mod (lo * 2 ^ s) 18446744073709551616;rw[hd] at hdm;have hup:(hi+1) * 2 ^ s≤y * 2 ^ s:=Nat.mul_le_mul_right _ hh;rw[Nat.add_mul,Nat.one_mul] at hup;refine⟨⟨hs,rfl,hy,?_,?_,?_,?_,?_,?_,?_,?_⟩,hor⟩
 · show v=v / 4294967296 * 4294967296+v % 4294967296;omega
 · show 2147483648≤v / 4294967296;omega
 · show v / 4294967296<4294967296;omega
 · exact Nat.mod_lt _ (by decide)
 · rw[hor];show _<y * 2 ^ s;omega
 · have:t<18446744073709551616:=Nat.mod_lt _ (by decide);omega
 · exact Nat.mod_lt _ (by decide)
 ·
  rw[hor,Nat.add_mul,Nat.add_mul,Nat.mul_right_comm hi];have ht:t / 4294967296 * 4294967296+t % 4294967296=lo * 2 ^ s % 18446744073709551616:=by show _=t;omega
  rw[ht,Nat.mul_right_comm hi 18446744073709551616];exact tot_aux _ _ _ hdm
structure Guess (v a b u c q r:Nat):Prop where
 eq:q * a+r=u
 lo:(u * 4294967296+c) / v≤q
 hi:q≤4294967297
 rl:r<4294967296
theorem guess_start {v a b u c:Nat} (va:v=a * 4294967296+b) (al:2147483648≤a) (ah:a<4294967296) (bl:b<4294967296) (ul:u<v) (cl:c<4294967296) :
  Guess v a b u c (u / a) (u-u / a * a):=by
 have h0:0<a:=by omega
 have e:=Nat.div_add_mod u a;have hm:=Nat.mod_lt u h0;rw[Nat.mul_comm] at e;refine⟨by omega,?_,?_,by omega⟩
 ·
  apply Nat.le_of_lt_succ
  rw[Nat.div_lt_iff_lt_mul oM,va];have hu:u+1≤(u / a+1) * a:=by rw[Nat.add_mul];omega
  have:=Nat.mul_le_mul_right 4294967296 hu;have h2:(u / a+1) * (a * 4294967296+b)=(u / a+1) * a * 4294967296+(u / a+1) * b:=by rw[Nat.mul_add,Nat.mul_assoc]
  show _<(u / a+1) * _
  rw[h2];omega
 ·
  apply Nat.le_of_lt_succ
  rw[Nat.div_lt_iff_lt_mul h0];omega
theorem guess_more {v a b u c q r:Nat} (va:v=a * 4294967296+b) (ul:u<v) (cl:c<4294967296) (g:Guess v a b u c q r)
  (ht:4294967296≤q∨4294967296 * r+c<q * b):0<q∧(u * 4294967296+c) / v≤q-1:=by
 have h0:0<q:=by
  rcases ht with h|h
  · omega
  ·
   rcases Nat.eq_zero_or_pos q with rfl|h'
   · omega
   · exact h'
 refine⟨h0,?_⟩
 have:(u * 4294967296+c) / v<q:=by
  rw[Nat.div_lt_iff_lt_mul oM,va];have h2:q * (a * 4294967296+b)=q * a * 4294967296+q * b:=by rw[Nat.mul_add,Nat.mul_assoc]
  have ge:=g.eq;rcases ht with h|h
  ·
   have h3:=Nat.mul_le_mul_right v h;rw[← va];omega
  · rw[h2,← g.eq];omega
 omega
theorem guess_done {v a b u c q r:Nat} (va:v=a * 4294967296+b) (al:2147483648≤a) (g:Guess v a b u c q r)
  (h2:q * b≤4294967296 * r+c):q=(u * 4294967296+c) / v:=by
 apply Nat.le_antisymm _ g.lo
 rw[Nat.le_div_iff_mul_le oM,va];have e:q * (a * 4294967296+b)=q * a * 4294967296+q * b:=by rw[Nat.mul_add,Nat.mul_assoc]
 rw[e,← g.eq];omega
theorem guess_step {q a r u:Nat} (h:q * a+r=u) (h0:0<q):(q-1) * a+(r+a)=u:=by
 obtain⟨k,rfl⟩:∃ k,q=k+1:=⟨q-1,by omega⟩;rw[Nat.add_mul,Nat.one_mul] at h;rw[Nat.add_sub_cancel];omega
theorem un_rest {u c v Q R:Nat} (hQ:Q=(u * 4294967296+c) / v) (hR:R=(u * 4294967296+c) % v) (h0:0<v) (vl:v<18446744073709551616) :
  R<v∧v * Q+R=u * 4294967296+c∧IntKind.u64.wrap (IntKind.u64.wrap (IntKind.u64.wrap ((u:Int) * 4294967296)+(c:Int))-IntKind.u64.wrap ((Q:Int) * (v:Int)))=(R:Int):=by
 have h1:R<v:=by rw[hR];exact Nat.mod_lt _ h0
 have h2:v * Q+R=u * 4294967296+c:=by rw[hQ,hR];exact Nat.div_add_mod _ _
 refine⟨h1,h2,?_⟩;have h3:((v * Q:Nat):Int)=(Q:Int) * (v:Int):=by push_cast;rw[Int.mul_comm]
 rw[← h3];generalize v * Q=A at h2;simp only[wrapu];omega
theorem guess_break {v a b u c q r:Nat} (va:v=a * 4294967296+b) (al:2147483648≤a) (bl:b<4294967296) (he:q * a+r=u) (hlo:(u * 4294967296+c) / v≤q) (hq:q≤4294967296)
  (hr:4294967296≤r):q=(u * 4294967296+c) / v:=by
 apply Nat.le_antisymm _ hlo
 rw[Nat.le_div_iff_mul_le oM,va];have e:q * (a * 4294967296+b)=q * a * 4294967296+q * b:=by rw[Nat.mul_add,Nat.mul_assoc]
 have e2:q * b≤4294967296 * 4294967295:=Nat.mul_le_mul hq oM;rw[e,← he];omega
theorem digit_lt {v u c:Nat} (h0:0<v) (ul:u<v) (cl:c<4294967296):(u * 4294967296+c) / v<4294967296:=by
 rw[Nat.div_lt_iff_lt_mul h0];have:=Nat.mul_le_mul_right 4294967296 (show u+1≤v from ul);rw[Nat.mul_comm 4294967296];omega
theorem key_aux (u c d r1 r0 A B:Nat) (d1:A+r1=u * 4294967296+c) (d0:B+r0=r1 * 4294967296+d) :
 u * 18446744073709551616+(c * 4294967296+d)=A * 4294967296+B+r0:=by omega
theorem digits (N y s v u c d q1 r1 q0 r0:Nat) (hvy:v=y * 2 ^ s) (hy:0<v) (tot:u * 18446744073709551616+(c * 4294967296+d)=N * 2 ^ s)
  (d1:v * q1+r1=u * 4294967296+c) (d0:v * q0+r0=r1 * 4294967296+d) (hr:r0<v) :
  q1 * 4294967296+q0=N / y∧r0 / 2 ^ s=N % y:=by
 have hp:0<2 ^ s:=Nat.two_pow_pos s
 have key:N * 2 ^ s=v * (q1 * 4294967296+q0)+r0:=by
  rw[← tot,Nat.mul_add,← Nat.mul_assoc];exact key_aux _ _ _ _ _ _ _ d1 d0
 have hq:N / y=q1 * 4294967296+q0:=by
  rw[← Nat.mul_div_mul_right _ y hp,key,← hvy,Nat.mul_add_div hy,Nat.div_eq_of_lt hr,Nat.add_zero]
 refine⟨hq.symm,?_⟩
 have hm:N % y * 2 ^ s=r0:=by
  rw[← Nat.mul_mod_mul_right,key,← hvy,Nat.mul_add_mod,Nat.mod_eq_of_lt hr]
 rw[← hm,Nat.mul_div_cancel _ hp]
theorem norm_of (y:Nat) (hy0:0<y) (hy:y<18446744073709551616):∃ s:Nat,s≤63∧64-(Lib.bitLen y:Int)=s∧y * 2 ^ s<18446744073709551616∧9223372036854775808≤y * 2 ^ s:=by
 obtain⟨h1,h2,h3⟩:=Go.Lib.bitLenAux_bounds 64 y (by simpa using hy) oM;have h4:Lib.bitLen y≤64:=Lib.bitLen_le y 64 oM (by simpa using hy);have h1':1≤Lib.bitLen y:=h1;have h2':2 ^ (Lib.bitLen y-1)≤y:=h2;have h3':y<2 ^ Lib.bitLen y:=h3;refine⟨64-Lib.bitLen y,by omega,by omega,?_,?_⟩
 ·
  have:=Nat.mul_lt_mul_of_pos_right h3' (Nat.two_pow_pos (64-Lib.bitLen y));rw[← Nat.pow_add,show Lib.bitLen y+(64-Lib.bitLen y)=64 by omega] at this;exact this
 ·
  have:=Nat.mul_le_mul_right (2 ^ (64-Lib.bitLen y)) h2';rw[← Nat.pow_add,show Lib.bitLen y-1+(64-Lib.bitLen y)=63 by omega] at this;exact this
theorem div64_zero (lo y:Nat) (w:World) (hlo:lo<18446744073709551616) (hy:y<18446744073709551616) (hy0:0<y) :
  Calls Tryz.prog 116 #[.int .u64 0,.int .u64 lo,.int .u64 y] w fun e w'=>e=.returned (.tuple #[.int .u64 ((lo / y:Nat):Int),.int .u64 ((lo % y:Nat):Int)])∧Kp w.heap.size none w w':=by
 have h1:((y:Int)==0)=false:=by simp;omega
 have h2:(0:Int)<(y:Int):=by omega
 obtain⟨q,hq⟩:∃ q,q=lo / y:=⟨_,rfl⟩;obtain⟨r,hr⟩:∃ r,r=lo % y:=⟨_,rfl⟩;rw[← hq,← hr];have hql:q≤lo:=by rw[hq];exact Nat.div_le_self _ _
 have h3:(lo:Int) / (y:Int)=(q:Int):=by rw[hq];rfl
 have h4:(lo:Int) % (y:Int)=(r:Int):=by rw[hr];rfl
 have h5:IntKind.u64.wrap (q:Int)=(q:Int):=by rw[wrapu];omega
 clear hq hr hql;go_enter Tryz.func116,Tryz.ntmps116
 go_wp2
 go_quiet (fail)
 go_wp2
 exact bodyPost_ret (by simp[results,Tryz.results116,go_sem,h4]) rfl ⟨rfl,Kp.drewN (Kp.refl _ _ _) _⟩
def GuessAt (v a b u c:Nat) (w:World) (vq vr:Value) (wr:World):Prop:=∃ q r:Nat,vq=.int .u64 q∧vr=.int .u64 r∧Guess v a b u c q r∧Kp w.heap.size none w wr
theorem div64_big (hi lo y:Nat) (w:World) (hh:0<hi) (hhy:hi<y) (hlo:lo<18446744073709551616) (hy:y<18446744073709551616) :
  Calls Tryz.prog 116 #[.int .u64 hi,.int .u64 lo,.int .u64 y] w fun e w'=>e=.returned (.tuple #[.int .u64 (((hi * 18446744073709551616+lo) / y:Nat):Int),.int .u64 (((hi * 18446744073709551616+lo) % y:Nat):Int)])∧Kp w.heap.size none w w':=by
 have h1:((y:Int)==0)=false:=by simp;omega
 have h2:(0:Int)<(y:Int):=by omega
 have h3:((hi:Int)==0)=false:=by simp;omega
 obtain⟨s,hs,hs1,hs2,hs3⟩:=norm_of y oM hy;obtain⟨n,hor⟩:=norm_shift hi lo y s hs hhy hlo hs2 hs3;obtain⟨v,hv⟩:∃ v,v=y * 2 ^ s:=⟨_,rfl⟩;obtain⟨t,ht⟩:∃ t,t=lo * 2 ^ s % 18446744073709551616:=⟨_,rfl⟩;obtain⟨u,hu⟩:∃ u,u=((hi * 2 ^ s) ||| (lo / 2 ^ (64-s))):=⟨_,rfl⟩;obtain⟨a,ha⟩:∃ a,a=v / 4294967296:=⟨_,rfl⟩;obtain⟨b,hb⟩:∃ b,b=v % 4294967296:=⟨_,rfl⟩;obtain⟨c,hc⟩:∃ c,c=t / 4294967296:=⟨_,rfl⟩;obtain⟨d,hd⟩:∃ d,d=t % 4294967296:=⟨_,rfl⟩;simp only[← hv,← ht,← hu,← ha,← hb,← hc,← hd] at n hs2 hs3;have eS:IntKind.u64.wrap (64-(Lib.bitLen y:Int))=(s:Int):=by rw[hs1,wrapu];omega
 obtain⟨s',hs'⟩:∃ s',s'=64-s:=⟨_,rfl⟩;obtain⟨L,hL⟩:∃ L,L=lo / 2 ^ (64-s):=⟨_,rfl⟩;obtain⟨H,hH⟩:∃ H,H=hi * 2 ^ s:=⟨_,rfl⟩;obtain⟨T,hT⟩:∃ T,T=lo * 2 ^ s:=⟨_,rfl⟩;obtain⟨q,hq⟩:∃ q,q=u / a:=⟨_,rfl⟩;obtain⟨r,hr⟩:∃ r,r=u-u / a * a:=⟨_,rfl⟩;obtain⟨P,hP⟩:∃ P,P=q * a:=⟨_,rfl⟩;have g0:=guess_start n.va n.al n.ah n.bl n.ul n.cl;rw[← hq] at g0 hr;rw[← hP] at hr g0;rw[← hr] at g0;rw[← hL,← hH] at hor hu;rw[← hu] at hor;have hLl:L≤lo:=by rw[hL];exact Nat.div_le_self _ _
 have hHu:H≤u:=by omega
 have hPu:P≤u:=by rw[hP,hq];exact Nat.div_mul_le_self _ _
 have vl:=n.vl;have ul:=n.ul;have eM:min s 64=s:=by omega
 have eM2:min s' 64=s':=by omega
 have eV:IntKind.u64.wrap ((y:Int) * 2 ^ s)=(v:Int):=by
  have:((v:Nat):Int)=(y:Int) * 2 ^ s:=by rw[hv];push_cast;rfl
  rw[← this,wrapu];omega
 have eA:(v:Int) / 4294967296=(a:Int):=by rw[ha];rfl
 have eB:bits .and .u64 (v:Int) 4294967295=(b:Int):=by
  have:=u64_and_nat v 4294967295 n.vl (by decide);rw[nat_mask32,← hb] at this;exact this
 have eSub:IntKind.u64.wrap (64-(s:Int))=(s':Int):=by rw[wrapu];omega
 have eH:IntKind.u64.wrap ((hi:Int) * 2 ^ s)=(H:Int):=by
  have:(H:Int)=(hi:Int) * 2 ^ s:=by rw[hH];push_cast;rfl
  rw[← this,wrapu];omega
 have eL:(lo:Int) / 2 ^ s'=(L:Int):=by rw[hL,hs'];push_cast;rfl
 have eU:bits .or .u64 (H:Int) (L:Int)=(u:Int):=by
  rw[u64_or_nat _ _ oM oM,← hu]
 have eT:IntKind.u64.wrap ((lo:Int) * 2 ^ s)=(t:Int):=by
  have:(T:Int)=(lo:Int) * 2 ^ s:=by rw[hT];push_cast;rfl
  rw[← hT] at ht;rw[← this,wrapu];omega
 have eC:(t:Int) / 4294967296=(c:Int):=by rw[hc];rfl
 have eD:bits .and .u64 (t:Int) 4294967295=(d:Int):=by
  have:=u64_and_nat t 4294967295 (by rw[ht];exact Nat.mod_lt _ (by decide)) (by decide);rw[nat_mask32,← hd] at this;exact this
 have al:=n.al;have ga:((a:Int)==0)=false:=by rw[beq_eq_false_iff_ne];omega
 have ga2:(0:Int)<(a:Int):=by omega
 have eQ:(u:Int) / (a:Int)=(q:Int):=by rw[hq];rfl
 have eQ2:Int.tdiv (u:Int) (a:Int)=(q:Int):=by rw[hq];rfl
 have eP:IntKind.u64.wrap ((q:Int) * (a:Int))=(P:Int):=by
  have:(P:Int)=(q:Int) * (a:Int):=by rw[hP];push_cast;rfl
  rw[← this,wrapu];omega
 have eR:IntKind.u64.wrap ((u:Int)-(P:Int))=(r:Int):=by rw[wrapu];omega
 obtain⟨Q1,hQ1⟩:∃ Q,Q=(u * 4294967296+c) / v:=⟨_,rfl⟩;obtain⟨R1,hR1⟩:∃ R,R=(u * 4294967296+c) % v:=⟨_,rfl⟩;replace hQ1:=Lib.hid hQ1;replace hR1:=Lib.hid hR1;obtain⟨Q0,hQ0⟩:∃ Q,Q=(R1 * 4294967296+d) / v:=⟨_,rfl⟩;obtain⟨R0,hR0⟩:∃ R,R=(R1 * 4294967296+d) % v:=⟨_,rfl⟩;have v0:0<v:=by omega
 obtain⟨k1,k2,eX1⟩:=un_rest hQ1.out hR1.out v0 n.vl;obtain⟨k3,k4,eX0⟩:=un_rest hQ0 hR0 v0 n.vl;obtain⟨o1,o0⟩:=digits _ _ _ _ _ _ _ _ _ _ _ hv v0 n.tot k2 k4 k3;obtain⟨O1,hO1⟩:∃ O,O=(hi * 18446744073709551616+lo) / y:=⟨_,rfl⟩;obtain⟨O0,hO0⟩:∃ O,O=(hi * 18446744073709551616+lo) % y:=⟨_,rfl⟩;rw[← hO1] at o1;rw[← hO0] at o0;rw[← hO1,← hO0];have hQ1l:Q1<4294967296:=by rw[hQ1.out];exact digit_lt v0 n.ul n.cl
 have hQ0l:Q0<4294967296:=by rw[hQ0];exact digit_lt v0 k1 n.dl
 have eO1:IntKind.u64.wrap (IntKind.u64.wrap ((Q1:Int) * 4294967296)+(Q0:Int))=(O1:Int):=by rw[← o1,wrapu,wrapu];omega
 have eO0:(R0:Int) / 2 ^ s=(O0:Int):=by rw[← o0];push_cast;rfl
 obtain⟨q2,hq2⟩:∃ q2,q2=R1 / a:=⟨_,rfl⟩;obtain⟨P2,hP2⟩:∃ P2,P2=q2 * a:=⟨_,rfl⟩;obtain⟨r2,hr2⟩:∃ r2,r2=R1-P2:=⟨_,rfl⟩;have g2:=guess_start n.va n.al n.ah n.bl k1 n.dl;rw[← hq2,← hP2,← hr2] at g2;have hP2u:P2≤R1:=by rw[hP2,hq2];exact Nat.div_mul_le_self _ _
 have eq2:(R1:Int) / (a:Int)=(q2:Int):=by rw[hq2];rfl
 have eq3:Int.tdiv (R1:Int) (a:Int)=(q2:Int):=by rw[hq2];rfl
 have eq4:IntKind.u64.wrap (q2:Int)=(q2:Int):=by have:=g2.hi;rw[wrapu];omega
 have eq5:IntKind.u64.wrap ((q2:Int) * (a:Int))=(P2:Int):=by
  have:(P2:Int)=(q2:Int) * (a:Int):=by rw[hP2];push_cast;rfl
  rw[← this,wrapu];omega
 have eq6:IntKind.u64.wrap ((R1:Int)-(P2:Int))=(r2:Int):=by rw[wrapu];omega
 replace hQ0:=Lib.hid hQ0;replace k1:=Lib.hid k1;replace g2:=Lib.hid g2;have o1':(Q1:Int) * 4294967296+(Q0:Int)=(O1:Int):=by omega
 have o2:=Lib.hid (show IntKind.u64.wrap (O1:Int)=(O1:Int) by rw[wrapu];omega);replace o1':=Lib.hid o1';clear k2 k3 k4 o1 o0 hO1 hO0 hQ1l hQ0l hq2 hP2 hr2 hR0 v0 hP2u;have eQw:IntKind.u64.wrap (q:Int)=(q:Int):=by have:=g0.hi;rw[wrapu];omega
 replace n:=Lib.hid n;replace g0:=Lib.hid g0;clear hs1 hs2 hs3 hor hv ht hu ha hb hc hd hs' hL hH hT hq hr hP hLl hHu hPu vl ul al;go_enter Tryz.func116,Tryz.ntmps116
 go_wp2_with (go_at_call 162;refine(Tryz.bits_LeadingZeros64 _ _ oM oM).mono ?_;rintro e w1 ⟨rfl,rfl⟩)
 go_loopw [15,16] (fun vq vr wr=>GuessAt v a b u c w1 vq vr wr) (fun vq _ _=>(intOf vq).toNat)
 case atStart=>exact⟨q,r,rfl,rfl,g0.out,Kp.refl _ _ _⟩
 case round=>
  obtain⟨q,r,rfl,rfl,g,KK⟩:=hrel;obtain⟨m,hm⟩:∃ m,m=q * b:=⟨_,rfl⟩;obtain⟨x,hx⟩:∃ x,x=4294967296 * r:=⟨_,rfl⟩;obtain⟨z,hz⟩:∃ z,z=x+c:=⟨_,rfl⟩;obtain⟨q',hq'⟩:∃ q',q'=q-1:=⟨_,rfl⟩;obtain⟨r',hr'⟩:∃ r',r'=r+a:=⟨_,rfl⟩;replace g:=Lib.hid g;have hrl:=g.out.rl;have al:=n.out.al;have ah:=n.out.ah;have cl':=n.out.cl
  have em:IntKind.u64.wrap ((q:Int) * (b:Int))=(m:Int):=by
   have h5:q * b≤4294967297 * 4294967295:=Nat.mul_le_mul g.out.hi (by have:=n.out.bl;omega);have h6:(m:Int)=(q:Int) * (b:Int):=by rw[hm];push_cast;rfl
   rw[← h6,wrapu];omega
  have ex:IntKind.u64.wrap (4294967296 * (r:Int))=(x:Int):=by rw[wrapu];omega
  have ez:IntKind.u64.wrap ((x:Int)+(c:Int))=(z:Int):=by rw[wrapu];omega
  have er:IntKind.u64.wrap ((r:Int)+(a:Int))=(r':Int):=by rw[wrapu];omega
  clear cl' al ah hrl;by_cases hq:4294967296≤q
  ·
   have hqi:(4294967296:Int)≤(q:Int):=by omega
   obtain⟨p0,p1⟩:=guess_more n.out.va n.out.ul n.out.cl g.out (Or.inl hq);have ge:=guess_step g.out.eq p0;rw[← hq',← hr'] at ge;have eq1:IntKind.u64.wrap ((q:Int)-1)=(q':Int):=by have:=g.out.hi;rw[wrapu];omega
   by_cases hrr:4294967296≤r'
   ·
    have hQ:=guess_break n.out.va n.out.al n.out.bl ge (by rw[hq'];exact p1) (by have:=g.out.hi;omega) hrr;have hrr':(4294967296:Int)≤(r':Int):=by omega
    clear ge p0 p1 hq' hr' hm hx hz hrr;rw[← hQ1.out] at hQ;subst hQ;clear eQw eP eR g0;go_wp2
    go_loopw [18,16] (fun vq vr wr=>GuessAt v a b R1 d w1 vq vr wr) (fun vq _ _=>(intOf vq).toNat)
    case atStart=>exact⟨q2,r2,rfl,rfl,g2.out,KK⟩
    case round=>
     obtain⟨q,r,rfl,rfl,g,KK⟩:=hrel;obtain⟨m,hm⟩:∃ m,m=q * b:=⟨_,rfl⟩;obtain⟨x,hx⟩:∃ x,x=4294967296 * r:=⟨_,rfl⟩;obtain⟨z,hz⟩:∃ z,z=x+d:=⟨_,rfl⟩;obtain⟨q',hq'⟩:∃ q',q'=q-1:=⟨_,rfl⟩;obtain⟨r',hr'⟩:∃ r',r'=r+a:=⟨_,rfl⟩;replace g:=Lib.hid g;have hrl:=g.out.rl;have al:=n.out.al;have ah:=n.out.ah;have cl':=n.out.dl
     have em:IntKind.u64.wrap ((q:Int) * (b:Int))=(m:Int):=by
      have h5:q * b≤4294967297 * 4294967295:=Nat.mul_le_mul g.out.hi (by have:=n.out.bl;omega);have h6:(m:Int)=(q:Int) * (b:Int):=by rw[hm];push_cast;rfl
      rw[← h6,wrapu];omega
     have ex:IntKind.u64.wrap (4294967296 * (r:Int))=(x:Int):=by rw[wrapu];omega
     have ez:IntKind.u64.wrap ((x:Int)+(d:Int))=(z:Int):=by rw[wrapu];omega
     have er:IntKind.u64.wrap ((r:Int)+(a:Int))=(r':Int):=by rw[wrapu];omega
     clear cl' al ah hrl;by_cases hq:4294967296≤q
     ·
      have hqi:(4294967296:Int)≤(q:Int):=by omega
      obtain⟨p0,p1⟩:=guess_more n.out.va k1.out n.out.dl g.out (Or.inl hq);have ge:=guess_step g.out.eq p0;rw[← hq',← hr'] at ge;have eq1:IntKind.u64.wrap ((q:Int)-1)=(q':Int):=by have:=g.out.hi;rw[wrapu];omega
      by_cases hrr:4294967296≤r'
      ·
       have hQ:=guess_break n.out.va n.out.al n.out.bl ge (by rw[hq'];exact p1) (by have:=g.out.hi;omega) hrr;have hrr':(4294967296:Int)≤(r':Int):=by omega
       clear ge p0 p1 hq' hr' hm hx hz hrr;rw[← hQ0.out] at hQ;subst hQ;go_wp2
       exact bodyPost_ret (by simp[results,Tryz.results116,go_sem,o1'.out,o2.out]) rfl ⟨rfl,KK⟩
      ·
       have hrr':¬ (4294967296:Int)≤(r':Int):=by omega
       have gg:Guess v a b _ _ q' r':=⟨ge,by rw[hq'];exact p1,by have:=g.out.hi;omega,by omega⟩;have hqq:=Lib.hid (show q'<q by omega);replace gg:=Lib.hid gg;clear ge p0 p1 hq' hr' hm hx hz hrr;go_wp2_with fail
       go_roundw
       case rel=>exact⟨q',r',rfl,rfl,gg.out,KK⟩
       case measure=>simp[intOf];have:=hqq.out;omega
     ·
      have hqi:¬ (4294967296:Int)≤(q:Int):=by omega
      by_cases hzm:z<m
      ·
       have hzi:(z:Int)<(m:Int):=by omega
       obtain⟨p0,p1⟩:=guess_more n.out.va k1.out n.out.dl g.out (Or.inr (by rw[← hm,← hx,← hz];exact hzm));have ge:=guess_step g.out.eq p0;rw[← hq',← hr'] at ge;have eq1:IntKind.u64.wrap ((q:Int)-1)=(q':Int):=by have:=g.out.hi;rw[wrapu];omega
       by_cases hrr:4294967296≤r'
       ·
        have hQ:=guess_break n.out.va n.out.al n.out.bl ge (by rw[hq'];exact p1) (by have:=g.out.hi;omega) hrr;have hrr':(4294967296:Int)≤(r':Int):=by omega
        clear ge p0 p1 hq' hr' hm hx hz hrr;rw[← hQ0.out] at hQ;subst hQ;go_wp2
        exact bodyPost_ret (by simp[results,Tryz.results116,go_sem,o1'.out,o2.out]) rfl ⟨rfl,KK⟩
       ·
        have hrr':¬ (4294967296:Int)≤(r':Int):=by omega
        have gg:Guess v a b _ _ q' r':=⟨ge,by rw[hq'];exact p1,by have:=g.out.hi;omega,by omega⟩;have hqq:=Lib.hid (show q'<q by omega);replace gg:=Lib.hid gg;clear ge p0 p1 hq' hr' hm hx hz hrr;go_wp2_with fail
        go_roundw
        case rel=>exact⟨q',r',rfl,rfl,gg.out,KK⟩
        case measure=>simp[intOf];have:=hqq.out;omega
      ·
       have hzi:¬ (z:Int)<(m:Int):=by omega
       have hQ:=guess_done n.out.va n.out.al g.out (by rw[← hm,← hx,← hz];omega);clear hm hx hz hq' hr';rw[← hQ0.out] at hQ;subst hQ;go_wp2
       exact bodyPost_ret (by simp[results,Tryz.results116,go_sem,o1'.out,o2.out]) rfl ⟨rfl,KK⟩
   ·
    have hrr':¬ (4294967296:Int)≤(r':Int):=by omega
    have gg:Guess v a b _ _ q' r':=⟨ge,by rw[hq'];exact p1,by have:=g.out.hi;omega,by omega⟩;have hqq:=Lib.hid (show q'<q by omega);replace gg:=Lib.hid gg;clear ge p0 p1 hq' hr' hm hx hz hrr;go_wp2_with fail
    go_roundw
    case rel=>exact⟨q',r',rfl,rfl,gg.out,KK⟩
    case measure=>simp[intOf];have:=hqq.out;omega
  ·
   have hqi:¬ (4294967296:Int)≤(q:Int):=by omega
   by_cases hzm:z<m
   ·
    have hzi:(z:Int)<(m:Int):=by omega
    obtain⟨p0,p1⟩:=guess_more n.out.va n.out.ul n.out.cl g.out (Or.inr (by rw[← hm,← hx,← hz];exact hzm));have ge:=guess_step g.out.eq p0;rw[← hq',← hr'] at ge;have eq1:IntKind.u64.wrap ((q:Int)-1)=(q':Int):=by have:=g.out.hi;rw[wrapu];omega
    by_cases hrr:4294967296≤r'
    ·
     have hQ:=guess_break n.out.va n.out.al n.out.bl ge (by rw[hq'];exact p1) (by have:=g.out.hi;omega) hrr;have hrr':(4294967296:Int)≤(r':Int):=by omega
     clear ge p0 p1 hq' hr' hm hx hz hrr;rw[← hQ1.out] at hQ;subst hQ;clear eQw eP eR g0;go_wp2
     go_loopw [18,16] (fun vq vr wr=>GuessAt v a b R1 d w1 vq vr wr) (fun vq _ _=>(intOf vq).toNat)
     case atStart=>exact⟨q2,r2,rfl,rfl,g2.out,KK⟩
     case round=>
      obtain⟨q,r,rfl,rfl,g,KK⟩:=hrel;obtain⟨m,hm⟩:∃ m,m=q * b:=⟨_,rfl⟩;obtain⟨x,hx⟩:∃ x,x=4294967296 * r:=⟨_,rfl⟩;obtain⟨z,hz⟩:∃ z,z=x+d:=⟨_,rfl⟩;obtain⟨q',hq'⟩:∃ q',q'=q-1:=⟨_,rfl⟩;obtain⟨r',hr'⟩:∃ r',r'=r+a:=⟨_,rfl⟩;replace g:=Lib.hid g;have hrl:=g.out.rl;have al:=n.out.al;have ah:=n.out.ah;have cl':=n.out.dl
      have em:IntKind.u64.wrap ((q:Int) * (b:Int))=(m:Int):=by
       have h5:q * b≤4294967297 * 4294967295:=Nat.mul_le_mul g.out.hi (by have:=n.out.bl;omega);have h6:(m:Int)=(q:Int) * (b:Int):=by rw[hm];push_cast;rfl
       rw[← h6,wrapu];omega
      have ex:IntKind.u64.wrap (4294967296 * (r:Int))=(x:Int):=by rw[wrapu];omega
      have ez:IntKind.u64.wrap ((x:Int)+(d:Int))=(z:Int):=by rw[wrapu];omega
      have er:IntKind.u64.wrap ((r:Int)+(a:Int))=(r':Int):=by rw[wrapu];omega
      clear cl' al ah hrl;by_cases hq:4294967296≤q
      ·
       have hqi:(4294967296:Int)≤(q:Int):=by omega
       obtain⟨p0,p1⟩:=guess_more n.out.va k1.out n.out.dl g.out (Or.inl hq);have ge:=guess_step g.out.eq p0;rw[← hq',← hr'] at ge;have eq1:IntKind.u64.wrap ((q:Int)-1)=(q':Int):=by have:=g.out.hi;rw[wrapu];omega
       by_cases hrr:4294967296≤r'
       ·
        have hQ:=guess_break n.out.va n.out.al n.out.bl ge (by rw[hq'];exact p1) (by have:=g.out.hi;omega) hrr;have hrr':(4294967296:Int)≤(r':Int):=by omega
        clear ge p0 p1 hq' hr' hm hx hz hrr;rw[← hQ0.out] at hQ;subst hQ;go_wp2
        exact bodyPost_ret (by simp[results,Tryz.results116,go_sem,o1'.out,o2.out]) rfl ⟨rfl,KK⟩
       ·
        have hrr':¬ (4294967296:Int)≤(r':Int):=by omega
        have gg:Guess v a b _ _ q' r':=⟨ge,by rw[hq'];exact p1,by have:=g.out.hi;omega,by omega⟩;have hqq:=Lib.hid (show q'<q by omega);replace gg:=Lib.hid gg;clear ge p0 p1 hq' hr' hm hx hz hrr;go_wp2_with fail
        go_roundw
        case rel=>exact⟨q',r',rfl,rfl,gg.out,KK⟩
        case measure=>simp[intOf];have:=hqq.out;omega
      ·
       have hqi:¬ (4294967296:Int)≤(q:Int):=by omega
       by_cases hzm:z<m
       ·
        have hzi:(z:Int)<(m:Int):=by omega
        obtain⟨p0,p1⟩:=guess_more n.out.va k1.out n.out.dl g.out (Or.inr (by rw[← hm,← hx,← hz];exact hzm));have ge:=guess_step g.out.eq p0;rw[← hq',← hr'] at ge;have eq1:IntKind.u64.wrap ((q:Int)-1)=(q':Int):=by have:=g.out.hi;rw[wrapu];omega
        by_cases hrr:4294967296≤r'
        ·
         have hQ:=guess_break n.out.va n.out.al n.out.bl ge (by rw[hq'];exact p1) (by have:=g.out.hi;omega) hrr;have hrr':(4294967296:Int)≤(r':Int):=by omega
         clear ge p0 p1 hq' hr' hm hx hz hrr;rw[← hQ0.out] at hQ;subst hQ;go_wp2
         exact bodyPost_ret (by simp[results,Tryz.results116,go_sem,o1'.out,o2.out]) rfl ⟨rfl,KK⟩
        ·
         have hrr':¬ (4294967296:Int)≤(r':Int):=by omega
         have gg:Guess v a b _ _ q' r':=⟨ge,by rw[hq'];exact p1,by have:=g.out.hi;omega,by omega⟩;have hqq:=Lib.hid (show q'<q by omega);replace gg:=Lib.hid gg;clear ge p0 p1 hq' hr' hm hx hz hrr;go_wp2_with fail
         go_roundw
         case rel=>exact⟨q',r',rfl,rfl,gg.out,KK⟩
         case measure=>simp[intOf];have:=hqq.out;omega
       ·
        have hzi:¬ (z:Int)<(m:Int):=by omega
        have hQ:=guess_done n.out.va n.out.al g.out (by rw[← hm,← hx,← hz];omega);clear hm hx hz hq' hr';rw[← hQ0.out] at hQ;subst hQ;go_wp2
        exact bodyPost_ret (by simp[results,Tryz.results116,go_sem,o1'.out,o2.out]) rfl ⟨rfl,KK⟩
    ·
     have hrr':¬ (4294967296:Int)≤(r':Int):=by omega
     have gg:Guess v a b _ _ q' r':=⟨ge,by rw[hq'];exact p1,by have:=g.out.hi;omega,by omega⟩;have hqq:=Lib.hid (show q'<q by omega);replace gg:=Lib.hid gg;clear ge p0 p1 hq' hr' hm hx hz hrr;go_wp2_with fail
     go_roundw
     case rel=>exact⟨q',r',rfl,rfl,gg.out,KK⟩
     case measure=>simp[intOf];have:=hqq.out;omega
   ·
    have hzi:¬ (z:Int)<(m:Int):=by omega
    have hQ:=guess_done n.out.va n.out.al g.out (by rw[← hm,← hx,← hz];omega);clear hm hx hz hq' hr';rw[← hQ1.out] at hQ;subst hQ;clear eQw eP eR g0;go_wp2
    go_loopw [18,16] (fun vq vr wr=>GuessAt v a b R1 d w1 vq vr wr) (fun vq _ _=>(intOf vq).toNat)
    case atStart=>exact⟨q2,r2,rfl,rfl,g2.out,KK⟩
    case round=>
     obtain⟨q,r,rfl,rfl,g,KK⟩:=hrel;obtain⟨m,hm⟩:∃ m,m=q * b:=⟨_,rfl⟩;obtain⟨x,hx⟩:∃ x,x=4294967296 * r:=⟨_,rfl⟩;obtain⟨z,hz⟩:∃ z,z=x+d:=⟨_,rfl⟩;obtain⟨q',hq'⟩:∃ q',q'=q-1:=⟨_,rfl⟩;obtain⟨r',hr'⟩:∃ r',r'=r+a:=⟨_,rfl⟩;replace g:=Lib.hid g;have hrl:=g.out.rl;have al:=n.out.al;have ah:=n.out.ah;have cl':=n.out.dl
     have em:IntKind.u64.wrap ((q:Int) * (b:Int))=(m:Int):=by
      have h5:q * b≤4294967297 * 4294967295:=Nat.mul_le_mul g.out.hi (by have:=n.out.bl;omega);have h6:(m:Int)=(q:Int) * (b:Int):=by rw[hm];push_cast;rfl
      rw[← h6,wrapu];omega
     have ex:IntKind.u64.wrap (4294967296 * (r:Int))=(x:Int):=by rw[wrapu];omega
     have ez:IntKind.u64.wrap ((x:Int)+(d:Int))=(z:Int):=by rw[wrapu];omega
     have er:IntKind.u64.wrap ((r:Int)+(a:Int))=(r':Int):=by rw[wrapu];omega
     clear cl' al ah hrl;by_cases hq:4294967296≤q
     ·
      have hqi:(4294967296:Int)≤(q:Int):=by omega
      obtain⟨p0,p1⟩:=guess_more n.out.va k1.out n.out.dl g.out (Or.inl hq);have ge:=guess_step g.out.eq p0;rw[← hq',← hr'] at ge;have eq1:IntKind.u64.wrap ((q:Int)-1)=(q':Int):=by have:=g.out.hi;rw[wrapu];omega
      by_cases hrr:4294967296≤r'
      ·
       have hQ:=guess_break n.out.va n.out.al n.out.bl ge (by rw[hq'];exact p1) (by have:=g.out.hi;omega) hrr;have hrr':(4294967296:Int)≤(r':Int):=by omega
       clear ge p0 p1 hq' hr' hm hx hz hrr;rw[← hQ0.out] at hQ;subst hQ;go_wp2
       exact bodyPost_ret (by simp[results,Tryz.results116,go_sem,o1'.out,o2.out]) rfl ⟨rfl,KK⟩
      ·
       have hrr':¬ (4294967296:Int)≤(r':Int):=by omega
       have gg:Guess v a b _ _ q' r':=⟨ge,by rw[hq'];exact p1,by have:=g.out.hi;omega,by omega⟩;have hqq:=Lib.hid (show q'<q by omega);replace gg:=Lib.hid gg;clear ge p0 p1 hq' hr' hm hx hz hrr;go_wp2_with fail
       go_roundw
       case rel=>exact⟨q',r',rfl,rfl,gg.out,KK⟩
       case measure=>simp[intOf];have:=hqq.out;omega
     ·
      have hqi:¬ (4294967296:Int)≤(q:Int):=by omega
      by_cases hzm:z<m
      ·
       have hzi:(z:Int)<(m:Int):=by omega
       obtain⟨p0,p1⟩:=guess_more n.out.va k1.out n.out.dl g.out (Or.inr (by rw[← hm,← hx,← hz];exact hzm));have ge:=guess_step g.out.eq p0;rw[← hq',← hr'] at ge;have eq1:IntKind.u64.wrap ((q:Int)-1)=(q':Int):=by have:=g.out.hi;rw[wrapu];omega
       by_cases hrr:4294967296≤r'
       ·
        have hQ:=guess_break n.out.va n.out.al n.out.bl ge (by rw[hq'];exact p1) (by have:=g.out.hi;omega) hrr;have hrr':(4294967296:Int)≤(r':Int):=by omega
        clear ge p0 p1 hq' hr' hm hx hz hrr;rw[← hQ0.out] at hQ;subst hQ;go_wp2
        exact bodyPost_ret (by simp[results,Tryz.results116,go_sem,o1'.out,o2.out]) rfl ⟨rfl,KK⟩
       ·
        have hrr':¬ (4294967296:Int)≤(r':Int):=by omega
        have gg:Guess v a b _ _ q' r':=⟨ge,by rw[hq'];exact p1,by have:=g.out.hi;omega,by omega⟩;have hqq:=Lib.hid (show q'<q by omega);replace gg:=Lib.hid gg;clear ge p0 p1 hq' hr' hm hx hz hrr;go_wp2_with fail
        go_roundw
        case rel=>exact⟨q',r',rfl,rfl,gg.out,KK⟩
        case measure=>simp[intOf];have:=hqq.out;omega
      ·
       have hzi:¬ (z:Int)<(m:Int):=by omega
       have hQ:=guess_done n.out.va n.out.al g.out (by rw[← hm,← hx,← hz];omega);clear hm hx hz hq' hr';rw[← hQ0.out] at hQ;subst hQ;go_wp2
       exact bodyPost_ret (by simp[results,Tryz.results116,go_sem,o1'.out,o2.out]) rfl ⟨rfl,KK⟩
theorem div64_any (hi lo y:Nat) (w:World) (hhy:hi<y) (hlo:lo<18446744073709551616) (hy:y<18446744073709551616) :
  Calls Tryz.prog 116 #[.int .u64 hi,.int .u64 lo,.int .u64 y] w fun e w'=>e=.returned (.tuple #[.int .u64 (((hi * 18446744073709551616+lo) / y:Nat):Int),.int .u64 (((hi * 18446744073709551616+lo) % y:Nat):Int)])∧Kp w.heap.size none w w':=by
 rcases Nat.eq_zero_or_pos hi with rfl|h
 ·
  have:=div64_zero lo y w hlo hy hhy;simpa using this
 · exact div64_big hi lo y w h hhy hlo hy
end Go.Proofs.YtdhiappifnflpaaGreat
