/- The ring of numbers and what is made of it: each function's contract. The shelf's contract of math/bits.Mul64 at this dump (as the kit's lay-shelf.mjs and lay-plain.mjs write it). -/
import Derived.Test.YtdhiappifnflpaaGreatProg
import Derived.Test.YtdhiappifnflpaaGreatM01
import Derived.Shelf.Small.Bits
import Derived.Shelf.Bits.Mul64
import Derived.Laws.BitsAllLaws
import Derived.Lib.ItoaNum
namespace Go.Proofs.YtdhiappifnflpaaGreat
open Go.RowKit
theorem tmod_emod (n m:Int) (hm:0<m):n % m=if n.tmod m<0 then n.tmod m+m else n.tmod m:=by
 have h1:=Int.emod_nonneg n (show m≠0 by omega);have h2:=Int.emod_lt_of_pos n hm;rw[Int.tmod_eq_emod];split<;>split<;>omega
theorem tmod_bd (n m:Int) (hm:0<m):-m<n.tmod m∧n.tmod m<m:=by
 have h1:=Int.emod_nonneg n (show m≠0 by omega);have h2:=Int.emod_lt_of_pos n hm;rw[Int.tmod_eq_emod];split<;>omega
theorem quiet_left {P:Program} {f:FuncId} {args:Array Value} {w:World} {n:Nat} {v:Value}
  (h:Calls P f args (w.drewN n) fun e w'=>e=.returned v∧w.drewN n=w'):Calls P f args (w.drewN n) fun e w''=>e=.returned v∧∃ m,w''=w.drewN m:=
 h.mono fun _ _ ⟨he,hm⟩=>⟨he,n,hm.symm⟩
set_option maxHeartbeats 400000 in
theorem mod_any (n m:Int) (w:World) (hm:0<m) (hm2:m≤1152921504606846976) :
  Calls Tryz.prog 18 #[.int .i64 n,.int .i64 m] w fun e w'=>e=.returned (.int .i64 (n % m))∧w=w':=by
 have hb:=tmod_bd n m hm;have HE:=Lib.hid (tmod_emod n m hm);go_enter Tryz.func18,Tryz.ntmps18
 go_wp2
 ·
  have ht:n.tmod m<0:=by assumption
  go_ret
  exact⟨by rw[HE.out,if_pos ht];rfl,rfl⟩
 ·
  have ht:0≤n.tmod m:=by assumption
  go_ret
  exact⟨by rw[HE.out,if_neg (by omega)];rfl,rfl⟩
set_option maxHeartbeats 400000 in
theorem mod64_any (n m:Int) (w:World) (hm:0<m) (hm2:m≤1152921504606846976) :
  Calls Tryz.prog 110 #[.int .i64 n,.int .i64 m] w fun e w'=>e=.returned (.int .i64 (n % m))∧w=w':=by
 have hb:=tmod_bd n m hm;have HE:=Lib.hid (tmod_emod n m hm);go_enter Tryz.func110,Tryz.ntmps110
 go_wp2
 ·
  have ht:n.tmod m<0:=by assumption
  go_ret
  exact⟨by rw[HE.out,if_pos ht];rfl,rfl⟩
 ·
  have ht:0≤n.tmod m:=by assumption
  go_ret
  exact⟨by rw[HE.out,if_neg (by omega)];rfl,rfl⟩
def ringT:Nat:=71
structure RingAt (w:World) (g:Nat) (nums:List Int) (k:Nat):Prop where
 ex:∃ (A:Option Addr) (cap:Nat),Blk w g ringT #[.slice A nums.length cap,.int .i64 k]∧Rd (some g) w 1 (fun x=>[Value.int .i64 x]) A nums.length nums ∧
  (0<nums.length→∀ ad,A=some ad→ad.block<g)
 small:nums.length≤17592186044416
section
variable {w w':World} {g:Nat} {nums:List Int} {k:Nat}
theorem RingAt.lt (h:RingAt w g nums k):g<w.heap.size:=by
 obtain⟨A,cap,hb,_⟩:=h.ex;exact hb.lt
theorem RingAt.kpN (h:RingAt w g nums k) (hk:Kp w.heap.size none w w'):RingAt w' g nums k:=by
 obtain⟨⟨A,cap,hb,hr,hl⟩,hs⟩:=h;exact⟨⟨A,cap,hb.kpN hk,hr.kpN hk,hl⟩,hs⟩
theorem RingAt.alloc (h:RingAt w g nums k) (o:Obj):RingAt (w.alloc o) g nums k:=h.kpN ((Kp.refl _ _ w).alloc (Nat.le_refl _) o)
theorem RingAt.drewN (h:RingAt w g nums k) (n:Nat):RingAt (w.drewN n) g nums k:=h.kpN ((Kp.refl _ _ w).drewN n)
theorem RingAt.drew (h:RingAt w g nums k):RingAt w.drew g nums k:=h.kpN ((Kp.refl _ _ w).drew)
theorem RingAt.set (h:RingAt w g nums k) (k':Nat):RingAt (w.setCell ⟨g,1,none⟩ (.int .i64 k')) g nums k':=by
 obtain⟨⟨A,cap,hb,hr,hl⟩,hs⟩:=h;exact⟨⟨A,cap,hb.set_ 1 _,hr.setCell rfl _,hl⟩,hs⟩
theorem RingAt.big (h:RingAt w g nums k) {p:Addr} (hp:g<p.block) (u:Value):RingAt (w.setCell p u) g nums k:=by
 obtain⟨⟨A,cap,hb,hr,hl⟩,hs⟩:=h;refine⟨⟨A,cap,hb.far (by omega) u,⟨hr.1,fun hn=>?_⟩,hl⟩,hs⟩;obtain⟨b,o,rfl,hb',hn',hc⟩:=hr.2 hn;have hlt:b<g:=hl hn _ rfl;exact⟨b,o,rfl,by simpa [World.setCell] using hb',hn',fun i hi j v hv=>(World.cell?_of_block (Below.heap_setCell w p u b (by omega))).trans (hc i hi j v hv)⟩
theorem RingAt.kpRow (h:RingAt w g nums k) {b:Nat} (hk:Kp w.heap.size (some b) w w') (hb:g<b):RingAt w' g nums k:=by
 obtain⟨⟨A,cap,hB,hr,hl⟩,hs⟩:=h;refine⟨⟨A,cap,hB.kp hk hB.lt (fun e=>by injection e with e;omega),⟨hr.1,fun hn=>?_⟩,hl⟩,hs⟩;obtain⟨c,o,rfl,hb',hn',hc⟩:=hr.2 hn;have hlt:c<g:=hl hn _ rfl;exact⟨c,o,rfl,Nat.lt_of_lt_of_le hb' hk.size,hn',fun i hi j v hv=>(hk.cell c _ hb' (fun e=>by injection e with e;omega)).trans (hc i hi j v hv)⟩
theorem RingAt.grown (h:RingAt w g nums k) {r:Option Nat} (hg:w.grownBy w' r) (hr:∀ b,r=some b→g<b):RingAt w' g nums k:=by
 cases r with
 | none=>exact h.kpN (Kp.of_grown hg)
 | some b=>exact h.kpRow (Kp.of_grown hg) (hr b rfl)
theorem RingAt.ne (h:RingAt w g nums k) {b:Nat} (hb:w.heap.size≤b):some b≠some g:=by
 intro e;have:=h.lt;injection e
 omega
end
def RPost (g:Nat) (nums:List Int) (k':Nat) (w:World) (V:Value→Prop) (e:Ending) (w':World):Prop:=
 ∃ v,e=.returned v∧V v∧RingAt w' g nums k'∧Kp w.heap.size (some g) w w'
def RPostB (g:Nat) (nums:List Int) (kmax:Nat) (w:World) (V:Value→World→Prop) (e:Ending) (w':World):Prop:=
 ∃ v k',e=.returned v∧V v w'∧k'≤kmax∧RingAt w' g nums k'∧Kp w.heap.size (some g) w w'
def nextRaw (nums:List Int) (k:Nat):Int:=
 if nums.length=0 then ((k:Int)+1) * 7919 % 10007
 else ((k:Int)+1) * 7919 % 10007+nums.getD ((k+1) % nums.length) 0 % 1048576 / (1+((k:Int)+1) / (nums.length:Int))
set_option maxHeartbeats 400000 in
theorem next_raw (g:Nat) (nums:List Int) (k:Nat) (n:Int) (w:World) (h:RingAt w g nums k) (hk:k≤1000000) (hn:0<n) (hn2:n≤1152921504606846976) :
  Calls Tryz.prog 11 #[.pointer (some ⟨g,0,none⟩),.int .i64 n] w fun e w'=>e=.returned (.int .i64 (nextRaw nums k % n))∧∃ m,w'=(w.setCell ⟨g,1,none⟩ (.int .i64 ((k+1:Nat):Int))).drewN m:=by
 obtain⟨⟨A,cap,hb,hr,hl⟩,hs⟩:=h;clear hl;have c0:w.cell? ⟨g,0,none⟩=some (.slice A nums.length cap):=hb.cell 0;have c1:w.cell? ⟨g,1,none⟩=some (.int .i64 k):=hb.cell 1;have f1:w.frozen? ⟨g,1,none⟩=false:=hb.frozen 1;by_cases h0:nums.length=0
 ·
  have HR:Hid (nextRaw nums k=((k:Int)+1) * 7919 % 10007):=Lib.hid (by unfold nextRaw;rw[if_pos h0]);have h0':¬ 0<nums.length:=by omega
  go_enter Tryz.func11,Tryz.ntmps11
  go_wp2
  go_ret
  exact⟨by rw[HR.out];rfl,0,rfl⟩
 ·
  obtain⟨b,o,rfl,hbs,hbr,hc⟩:=hr.at_ (by omega);have hi:(k+1) % nums.length<nums.length:=Nat.mod_lt _ (by omega);have c2:=Rd.cell1 (f:=fun x=>Value.int .i64 x) (fun _=>rfl) hc ((k+1) % nums.length) hi
  have HR:Hid (nextRaw nums k=((k:Int)+1) * 7919 % 10007+nums[(k+1) % nums.length] % 1048576 / (1+((k:Int)+1) / (nums.length:Int))):=
   Lib.hid (by unfold nextRaw;rw[if_neg h0,List.getD_eq_getElem?_getD,List.getElem?_eq_getElem hi,Option.getD_some])
  have e1:(0:Int)≤((k:Int)+1) % (nums.length:Int):=Int.emod_nonneg _ (by omega);have e2:((k:Int)+1) % (nums.length:Int)<(nums.length:Int):=Int.emod_lt_of_pos _ (by omega);have e3:(0:Int)≤((k:Int)+1) / (nums.length:Int):=Int.ediv_nonneg (by omega) (by omega);have e4:((k:Int)+1) / (nums.length:Int)≤(k:Int)+1:=Int.ediv_le_self _ (by omega);have m1:=Int.emod_nonneg (nums[(k+1) % nums.length]) (show (1048576:Int)≠0 by omega);have m2:=Int.emod_lt_of_pos (nums[(k+1) % nums.length]) (show (0:Int)<1048576 by omega);have hne:b≠g:=fun e=>hbr (by rw[e]);have q1:=Int.ediv_nonneg m1 (show (0:Int)≤1+((k:Int)+1) / (nums.length:Int) by omega);have q2:=Int.ediv_le_self (1+((k:Int)+1) / (nums.length:Int)) m1;go_enter Tryz.func11,Tryz.ntmps11
  go_wp2
  go_quiet ((go_at_call 18;exact quiet_left (mod_any _ _ _ (by omega) (by omega))))
  go_wp2
  go_ret
  exact⟨by rw[HR.out];rfl,nq,rfl⟩
theorem next_any (g:Nat) (nums:List Int) (k:Nat) (n:Int) (w:World) (h:RingAt w g nums k) (hk:k≤1000000) (hn:0<n) (hn2:n≤1152921504606846976) :
  Calls Tryz.prog 11 #[.pointer (some ⟨g,0,none⟩),.int .i64 n] w (RPost g nums (k+1) w fun v=>∃ x:Int,v=.int .i64 x∧0≤x∧x<n):=by
 refine(next_raw g nums k n w h hk hn hn2).mono ?_;rintro e w' ⟨rfl,m,rfl⟩;exact⟨_,rfl,⟨_,rfl,Int.emod_nonneg _ (by omega),Int.emod_lt_of_pos _ hn⟩,(h.set (k+1)).drewN m,((Kp.refl _ (some g) w).setRow (p:=⟨g,1,none⟩) rfl _).drewN m⟩
set_option maxHeartbeats 400000 in
theorem range_any (g:Nat) (nums:List Int) (k:Nat) (lo hi:Int) (w:World) (h:RingAt w g nums k) (hk:k≤1000000) (h1:-1152921504606846976≤lo) (h2:lo≤hi) (h3:hi≤1000000000000000000) (h4:hi-lo<1000000000000000000) :
  Calls Tryz.prog 15 #[.pointer (some ⟨g,0,none⟩),.int .i64 lo,.int .i64 hi] w (RPost g nums (k+1) w fun v=>∃ x:Int,v=.int .i64 x∧lo≤x∧x≤hi):=by
 go_enter Tryz.func15,Tryz.ntmps15
 go_wp2_with fail
 refine(next_any g nums k _ _ h hk (by omega) (by omega)).mono ?_;rintro e w1 ⟨v,rfl,⟨x,rfl,hx1,hx2⟩,hr1,hk1⟩;go_wp2
 go_ret
 exact⟨_,rfl,⟨_,rfl,by omega,by omega⟩,hr1,hk1⟩
end Go.Proofs.YtdhiappifnflpaaGreat
namespace Go.Proofs
open Go.Shelf
def Tryz.lays264_ren:Go.Shelf.Ren:=⟨fun|264=>161|n=>n,fun|53=>133|46=>204|n=>n,fun|n=>n⟩
theorem Tryz.lays264:Go.Proofs.Lays.n264 Tryz.prog Tryz.lays264_ren:={
 mixed:=by kernel_rfl
 f264:=Tryz.func161.trans (congrArg some (by kernel_rfl))
 t46:=Tryz.underlying204
 a46:=Tryz.isAgg204
 z46:=Tryz.sizeOf204
 v46:=Tryz.zeroValue204
 t53:=Tryz.underlying133
 a53:=Tryz.isAgg133
 z53:=Tryz.sizeOf133
 v53:=Tryz.zeroValue133 }
def Tryz.lays134_ren:Go.Shelf.Ren:=⟨fun|134=>162|129=>191|n=>n,fun|53=>133|3=>3|4=>4|46=>204|5=>5|9=>9|n=>n,fun|n=>n⟩
theorem Tryz.lays134:Go.Proofs.Lays.n134 Tryz.prog Tryz.lays134_ren:={
 mixed:=by kernel_rfl
 f129:=Tryz.func191.trans (congrArg some (by kernel_rfl))
 f134:=Tryz.func162.trans (congrArg some (by kernel_rfl))
 t3:=Tryz.underlying3
 a3:=Tryz.isAgg3
 z3:=Tryz.sizeOf3
 v3:=Tryz.zeroValue3
 t4:=Tryz.underlying4
 a4:=Tryz.isAgg4
 z4:=Tryz.sizeOf4
 v4:=Tryz.zeroValue4
 t5:=Tryz.underlying5
 a5:=Tryz.isAgg5
 z5:=Tryz.sizeOf5
 v5:=Tryz.zeroValue5
 t9:=Tryz.underlying9
 a9:=Tryz.isAgg9
 z9:=Tryz.sizeOf9
 v9:=Tryz.zeroValue9
 t46:=Tryz.underlying204
 a46:=Tryz.isAgg204
 z46:=Tryz.sizeOf204
 v46:=Tryz.zeroValue204
 t53:=Tryz.underlying133
 a53:=Tryz.isAgg133
 z53:=Tryz.sizeOf133
 v53:=Tryz.zeroValue133 }
theorem Tryz.bits_LeadingZeros64 (x:Int) (w:World) (h0:0≤x) (h1:x≤18446744073709551615) :
 Calls Tryz.prog 162 #[.int .u64 x] w fun e w'=>e=.returned (.int .i64 (64-(Lib.bitLen x.toNat:Int)))∧w'=w:=Any.bits_LeadingZeros64 Tryz.lays134 x w h0 h1
def Tryz.lays129_ren:Go.Shelf.Ren:=⟨fun|129=>191|n=>n,fun|53=>133|3=>3|4=>4|46=>204|5=>5|9=>9|n=>n,fun|n=>n⟩
open Go.RowKit Go.Lib in
theorem Tryz.bits_Mul64 (x y:Nat) (hx:x<18446744073709551616) (hy:y<18446744073709551616) (w:World) :
 Calls Tryz.prog 161 #[.int .u64 x,.int .u64 y] w fun e w'=>e=.returned (.tuple #[.int .u64 ((x * y / 18446744073709551616:Nat):Int),.int .u64 ((x * y % 18446744073709551616:Nat):Int)])∧w'=w:=Any.bits_Mul64 Tryz.lays264 x y hx hy w
end Go.Proofs
namespace Go.Proofs.YtdhiappifnflpaaGreat
open Go.RowKit
theorem wrapu (x:Int):IntKind.u64.wrap x=x % 18446744073709551616:=by simp[IntKind.wrap,IntKind.bits,IntKind.signed]
structure Norm (hi lo y s v a b u c d:Nat):Prop where
 hs:s≤63
 hv:v=y * 2 ^ s
 vl:v<18446744073709551616
 va:v=a * 4294967296+b
 al:2147483648≤a
 ah:a<4294967296
 bl:b<4294967296
 ul:u<v
 cl:c<4294967296
 dl:d<4294967296
 tot:u * 18446744073709551616+(c * 4294967296+d)=(hi * 18446744073709551616+lo) * 2 ^ s
theorem tot_aux (A B C:Nat) (h:18446744073709551616 * C+A % 18446744073709551616=A):B * 18446744073709551616+C * 18446744073709551616+A % 18446744073709551616=B * 18446744073709551616+A:=by omega
theorem norm_shift (hi lo y s:Nat) (hs:s≤63) (hh:hi<y) (hlo:lo<18446744073709551616) (hy:y * 2 ^ s<18446744073709551616) (hy2:9223372036854775808≤y * 2 ^ s) :
  let v:=y * 2 ^ s
  let t:=lo * 2 ^ s % 18446744073709551616
  Norm hi lo y s v (v / 4294967296) (v % 4294967296) ((hi * 2 ^ s) ||| (lo / 2 ^ (64-s))) (t / 4294967296) (t % 4294967296)
   ∧ ((hi * 2 ^ s) ||| (lo / 2 ^ (64-s)))=hi * 2 ^ s+lo / 2 ^ (64-s):=by
 intro v t;have e1:2 ^ (64-s) * 2 ^ s=18446744073709551616:=by rw[← Nat.pow_add];rw[show 64-s+s=64 by omega]
 have hp:0<2 ^ s:=Nat.two_pow_pos s;have hq:0<2 ^ (64-s):=Nat.two_pow_pos _;have hl:lo / 2 ^ (64-s)<2 ^ s:=by rw[Nat.div_lt_iff_lt_mul hq,Nat.mul_comm,e1];exact hlo
 have hor:((hi * 2 ^ s) ||| (lo / 2 ^ (64-s)))=hi * 2 ^ s+lo / 2 ^ (64-s):=by
  rw[Nat.mul_comm hi];exact(Nat.two_pow_add_eq_or_of_lt hl hi).symm
 have hd:lo * 2 ^ s / 18446744073709551616=lo / 2 ^ (64-s):=by rw[← e1];exact Nat.mul_div_mul_right _ _ hp
 have hdm:=Nat.div_add_mod (lo * 2 ^ s) 18446744073709551616;rw[hd] at hdm;have hup:(hi+1) * 2 ^ s≤y * 2 ^ s:=Nat.mul_le_mul_right _ hh;rw[Nat.add_mul,Nat.one_mul] at hup;refine⟨⟨hs,rfl,hy,?_,?_,?_,?_,?_,?_,?_,?_⟩,hor⟩
 · show v=v / 4294967296 * 4294967296+v % 4294967296;omega
 · show 2147483648≤v / 4294967296;omega
 · show v / 4294967296<4294967296;omega
 · exact Nat.mod_lt _ (by decide)
 · rw[hor];show _<y * 2 ^ s;omega
 · have:t<18446744073709551616:=Nat.mod_lt _ (by decide);omega
 · exact Nat.mod_lt _ (by decide)
 ·
  rw[hor,Nat.add_mul,Nat.add_mul,Nat.mul_right_comm hi];have ht:t / 4294967296 * 4294967296+t % 4294967296=lo * 2 ^ s % 18446744073709551616:=by show _=t;omega
  rw[ht,Nat.mul_right_comm hi 18446744073709551616];exact tot_aux _ _ _ hdm
structure Guess (v a b u c q r:Nat):Prop where
 eq:q * a+r=u
 lo:(u * 4294967296+c) / v≤q
 hi:q≤4294967297
 rl:r<4294967296
theorem guess_start {v a b u c:Nat} (va:v=a * 4294967296+b) (al:2147483648≤a) (ah:a<4294967296) (bl:b<4294967296) (ul:u<v) (cl:c<4294967296) :
  Guess v a b u c (u / a) (u-u / a * a):=by
 have h0:0<a:=by omega
 have e:=Nat.div_add_mod u a;have hm:=Nat.mod_lt u h0;rw[Nat.mul_comm] at e;refine⟨by omega,?_,?_,by omega⟩
 ·
  apply Nat.le_of_lt_succ
  rw[Nat.div_lt_iff_lt_mul (by omega),va];have hu:u+1≤(u / a+1) * a:=by rw[Nat.add_mul];omega
  have:=Nat.mul_le_mul_right 4294967296 hu;have h2:(u / a+1) * (a * 4294967296+b)=(u / a+1) * a * 4294967296+(u / a+1) * b:=by rw[Nat.mul_add,Nat.mul_assoc]
  show _<(u / a+1) * _
  rw[h2];omega
 ·
  apply Nat.le_of_lt_succ
  rw[Nat.div_lt_iff_lt_mul h0];omega
theorem guess_more {v a b u c q r:Nat} (va:v=a * 4294967296+b) (ul:u<v) (cl:c<4294967296) (g:Guess v a b u c q r)
  (ht:4294967296≤q∨4294967296 * r+c<q * b):0<q∧(u * 4294967296+c) / v≤q-1:=by
 have h0:0<q:=by
  rcases ht with h|h
  · omega
  ·
   rcases Nat.eq_zero_or_pos q with rfl|h'
   · omega
   · exact h'
 refine⟨h0,?_⟩
 have:(u * 4294967296+c) / v<q:=by
  rw[Nat.div_lt_iff_lt_mul (by omega),va];have h2:q * (a * 4294967296+b)=q * a * 4294967296+q * b:=by rw[Nat.mul_add,Nat.mul_assoc]
  have ge:=g.eq;rcases ht with h|h
  ·
   have h3:=Nat.mul_le_mul_right v h;rw[← va];omega
  · rw[h2,← g.eq];omega
 omega
theorem guess_done {v a b u c q r:Nat} (va:v=a * 4294967296+b) (al:2147483648≤a) (g:Guess v a b u c q r)
  (h2:q * b≤4294967296 * r+c):q=(u * 4294967296+c) / v:=by
 apply Nat.le_antisymm _ g.lo
 rw[Nat.le_div_iff_mul_le (by omega),va];have e:q * (a * 4294967296+b)=q * a * 4294967296+q * b:=by rw[Nat.mul_add,Nat.mul_assoc]
 rw[e,← g.eq];omega
theorem guess_step {q a r u:Nat} (h:q * a+r=u) (h0:0<q):(q-1) * a+(r+a)=u:=by
 obtain⟨k,rfl⟩:∃ k,q=k+1:=⟨q-1,by omega⟩;rw[Nat.add_mul,Nat.one_mul] at h;rw[Nat.add_sub_cancel];omega
theorem un_rest {u c v Q R:Nat} (hQ:Q=(u * 4294967296+c) / v) (hR:R=(u * 4294967296+c) % v) (h0:0<v) (vl:v<18446744073709551616) :
  R<v∧v * Q+R=u * 4294967296+c∧IntKind.u64.wrap (IntKind.u64.wrap (IntKind.u64.wrap ((u:Int) * 4294967296)+(c:Int))-IntKind.u64.wrap ((Q:Int) * (v:Int)))=(R:Int):=by
 have h1:R<v:=by rw[hR];exact Nat.mod_lt _ h0
 have h2:v * Q+R=u * 4294967296+c:=by rw[hQ,hR];exact Nat.div_add_mod _ _
 refine⟨h1,h2,?_⟩;have h3:((v * Q:Nat):Int)=(Q:Int) * (v:Int):=by push_cast;rw[Int.mul_comm]
 rw[← h3];generalize v * Q=A at h2;simp only[wrapu];omega
theorem guess_break {v a b u c q r:Nat} (va:v=a * 4294967296+b) (al:2147483648≤a) (bl:b<4294967296) (he:q * a+r=u) (hlo:(u * 4294967296+c) / v≤q) (hq:q≤4294967296)
  (hr:4294967296≤r):q=(u * 4294967296+c) / v:=by
 apply Nat.le_antisymm _ hlo
 rw[Nat.le_div_iff_mul_le (by omega),va];have e:q * (a * 4294967296+b)=q * a * 4294967296+q * b:=by rw[Nat.mul_add,Nat.mul_assoc]
 have e2:q * b≤4294967296 * 4294967295:=Nat.mul_le_mul hq (by omega);rw[e,← he];omega
theorem digit_lt {v u c:Nat} (h0:0<v) (ul:u<v) (cl:c<4294967296):(u * 4294967296+c) / v<4294967296:=by
 rw[Nat.div_lt_iff_lt_mul h0];have:=Nat.mul_le_mul_right 4294967296 (show u+1≤v from ul);rw[Nat.mul_comm 4294967296];omega
theorem key_aux (u c d r1 r0 A B:Nat) (d1:A+r1=u * 4294967296+c) (d0:B+r0=r1 * 4294967296+d) :
 u * 18446744073709551616+(c * 4294967296+d)=A * 4294967296+B+r0:=by omega
theorem digits (N y s v u c d q1 r1 q0 r0:Nat) (hvy:v=y * 2 ^ s) (hy:0<v) (tot:u * 18446744073709551616+(c * 4294967296+d)=N * 2 ^ s)
  (d1:v * q1+r1=u * 4294967296+c) (d0:v * q0+r0=r1 * 4294967296+d) (hr:r0<v) :
  q1 * 4294967296+q0=N / y∧r0 / 2 ^ s=N % y:=by
 have hp:0<2 ^ s:=Nat.two_pow_pos s
 have key:N * 2 ^ s=v * (q1 * 4294967296+q0)+r0:=by
  rw[← tot,Nat.mul_add,← Nat.mul_assoc];exact key_aux _ _ _ _ _ _ _ d1 d0
 have hq:N / y=q1 * 4294967296+q0:=by
  rw[← Nat.mul_div_mul_right _ y hp,key,← hvy,Nat.mul_add_div hy,Nat.div_eq_of_lt hr,Nat.add_zero]
 refine⟨hq.symm,?_⟩
 have hm:N % y * 2 ^ s=r0:=by
  rw[← Nat.mul_mod_mul_right,key,← hvy,Nat.mul_add_mod,Nat.mod_eq_of_lt hr]
 rw[← hm,Nat.mul_div_cancel _ hp]
theorem norm_of (y:Nat) (hy0:0<y) (hy:y<18446744073709551616):∃ s:Nat,s≤63∧64-(Lib.bitLen y:Int)=s∧y * 2 ^ s<18446744073709551616∧9223372036854775808≤y * 2 ^ s:=by
 obtain⟨h1,h2,h3⟩:=Go.Lib.bitLenAux_bounds 64 y (by simpa using hy) (by omega);have h4:Lib.bitLen y≤64:=Lib.bitLen_le y 64 (by omega) (by simpa using hy);have h1':1≤Lib.bitLen y:=h1;have h2':2 ^ (Lib.bitLen y-1)≤y:=h2;have h3':y<2 ^ Lib.bitLen y:=h3;refine⟨64-Lib.bitLen y,by omega,by omega,?_,?_⟩
 ·
  have:=Nat.mul_lt_mul_of_pos_right h3' (Nat.two_pow_pos (64-Lib.bitLen y));rw[← Nat.pow_add,show Lib.bitLen y+(64-Lib.bitLen y)=64 by omega] at this;exact this
 ·
  have:=Nat.mul_le_mul_right (2 ^ (64-Lib.bitLen y)) h2';rw[← Nat.pow_add,show Lib.bitLen y-1+(64-Lib.bitLen y)=63 by omega] at this;exact this
end Go.Proofs.YtdhiappifnflpaaGreat
