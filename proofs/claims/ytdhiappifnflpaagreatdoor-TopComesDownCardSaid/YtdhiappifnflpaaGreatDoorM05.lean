/- What spans compute of numbers that are not below 0, in the program and in the reference. Square roots, in the program and in the reference. Airs, grades and lands made of a ring. Grades and lands made of a ring. -/
import Derived.Test.YtdhiappifnflpaaGreatDoorDiv2
import Derived.Test.YtdhiappifnflpaaGreatDoorM04
import Derived.LoopTactic
set_option maxHeartbeats 1000000
namespace Go.Proofs.YtdhiappifnflpaaGreatDoor.Bl
open Go.RowKit
def btw (n lo hi:Int):Bool:=decide (lo≤n)&&decide (n≤hi)
theorem span_within_any (n lo hi:Int) (w:World) :
  Calls Tryz.prog 128 #[n,lo,hi] w fun e w'=>e=.returned (.bool (btw n lo hi))∧Kp w.heap.size none w w':=by
 go_enter Tryz.func128,Tryz.ntmps128
 go_wp2
 all_goals
  go_ret
  refine⟨ret_bool ?_,Kp.refl _ _ _⟩;rw[Bool.eq_iff_iff];simp[btw]
  try omega
theorem blast_within_any (n lo hi:Int) (w:World) :
  Calls Tryz.prog 105 #[n,lo,hi] w fun e w'=>e=.returned (.bool (btw n lo hi))∧Kp w.heap.size none w w':=by
 go_enter Tryz.func105,Tryz.ntmps105
 go_wp2
 all_goals
  go_ret
  refine⟨ret_bool ?_,Kp.refl _ _ _⟩;rw[Bool.eq_iff_iff];simp[btw]
  try omega
theorem bolideref01_between_any (n lo hi:Int) (w:World) :
  Calls Tryz.prog 210 #[n,lo,hi] w fun e w'=>e=.returned (.bool (btw n lo hi))∧Kp w.heap.size none w w':=by
 go_enter Tryz.func210,Tryz.ntmps210
 go_wp2
 all_goals
  go_ret
  refine⟨ret_bool ?_,Kp.refl _ _ _⟩;rw[Bool.eq_iff_iff];simp[btw]
  try omega
theorem span_fits_any (n:Int) (w:World) :
  Calls Tryz.prog 132 #[n] w fun e w'=>e=.returned (.bool (btw n (-1152921504606846976) 1152921504606846976))∧Kp w.heap.size none w w':=by
 go_enter Tryz.func132,Tryz.ntmps132
 go_wp2_with fail
 refine mK (span_within_any _ _ _ _) fun w1 hk1=>?_;go_wp2
 go_ret
 exact⟨rfl,hk1⟩
theorem bolideref01_fits_any (n:Int) (w:World) :
  Calls Tryz.prog 216 #[n] w fun e w'=>e=.returned (.bool (btw n (-1152921504606846976) 1152921504606846976))∧Kp w.heap.size none w w':=by
 go_enter Tryz.func216,Tryz.ntmps216
 go_wp2_with fail
 refine mK (bolideref01_between_any _ _ _ _) fun w1 hk1=>?_;go_wp2
 go_ret
 exact⟨rfl,hk1⟩
theorem span_size_any (n:Nat) (hn:n<9223372036854775808) (w:World) :
  Calls Tryz.prog 126 #[n] w fun e w'=>e=.returned (.int .u64 n)∧Kp w.heap.size none w w':=by
 have e1:IntKind.u64.wrap (n:Int)=(n:Int):=by rw[wrapu];omega
 have e2:¬ (n:Int)<0:=by omega
 go_enter Tryz.func126,Tryz.ntmps126
 go_wp2
 go_ret
 exact⟨rfl,Kp.refl _ _ _⟩
structure Words (a b c H L q r u:Nat):Prop where
 eH:H=a * b / 18446744073709551616
 eL:L=a * b % 18446744073709551616
 eq:q=(H * 18446744073709551616+L) / c
 er:r=(H * 18446744073709551616+L) % c
 al:a<9223372036854775808
 bl:b<9223372036854775808
 c0:0<c
 cl:c<9223372036854775808
 Hc:H<c
 Ll:L<18446744073709551616
 ql:q<1152921504606846976
 qe:q=a * b / c
 re:r=a * b % c
 eu:u=q+if 0<r then 1 else 0
theorem words_of (a b c:Nat) (al:a<9223372036854775808) (bl:b<9223372036854775808) (c0:0<c) (cl:c<9223372036854775808) (h:a * b / c<1152921504606846976) :
  ∃ H L q r u,Words a b c H L q r u:=by
 have e:a * b / 18446744073709551616 * 18446744073709551616+a * b % 18446744073709551616=a * b:=by have:=Nat.div_add_mod (a * b) 18446744073709551616;omega
 refine⟨_,_,_,_,_,rfl,rfl,rfl,rfl,al,bl,c0,cl,?_,Nat.mod_lt _ (by decide),?_,?_,?_,rfl⟩
 ·
  rw[Nat.div_lt_iff_lt_mul (by decide)];rw[Nat.div_lt_iff_lt_mul c0] at h;generalize a * b=X at h;omega
 · rw[e];exact h
 · rw[e]
 · rw[e]
theorem span_times_any (a b c H L q r u:Nat) (h:Hid (Words a b c H L q r u)) (w:World) :
  Calls Tryz.prog 125 #[.int .u64 a,.int .u64 b] w fun e w'=>e=.returned (.agg #[.int .u64 H,.int .u64 L])∧Kp w.heap.size none w w':=by
 go_enter Tryz.func125,Tryz.ntmps125
 go_wp2_with (go_at_call 150;refine(Tryz.bits_Mul64 a b (by have:=h.out.al;omega) (by have:=h.out.bl;omega) _).mono ?_;rintro e w1 ⟨he,rfl⟩;rw[← h.out.eH,← h.out.eL] at he;subst he)
 exact bodyPost_ret (by simp[results,Tryz.results125,go_sem]) rfl ⟨rfl,(Kp.refl _ _ _).alloc (Nat.le_refl _) _⟩
theorem span_product_any (a b c H L q r u:Nat) (h:Hid (Words a b c H L q r u)) (w:World) :
  Calls Tryz.prog 83 #[a,b] w fun e w'=>e=.returned (.agg #[.int .u64 H,.int .u64 L,.bool false])∧Kp w.heap.size none w w':=by
 have a1:¬ (a:Int)<0:=by omega
 have a2:¬ (b:Int)<0:=by omega
 have a3:decide ((a:Int)<0)=false:=by simp
 have a4:decide ((b:Int)<0)=false:=by simp
 have hB:=Blk.new w 161 #[.int .u64 0,.int .u64 0,.bool false];have K:=(Kp.refl w.heap.size none w).alloc (Nat.le_refl _) (.cells #[.int .u64 0,.int .u64 0,.bool false] 161);go_enter Tryz.func83,Tryz.ntmps83
 go_wp2_with fail
 refine mK (span_size_any a h.out.al _) fun w1 k1=>?_;replace hB:=hB.kp k1 hB.lt (by simp);replace K:=K.then_ k1 (by simp);go_wp2_with fail
 refine mK (span_size_any b h.out.bl _) fun w2 k2=>?_;replace hB:=hB.kp k2 hB.lt (by simp);replace K:=K.then_ k2 (by have:=hB.lt;omega);go_wp2_with fail
 refine mK (span_times_any a b c H L q r u h _) fun w3 k3=>?_;replace hB:=hB.kp k3 hB.lt (by simp);replace K:=K.then_ k3 (by have:=hB.lt;omega);have cc:=hB.cell;have f:=hB.frozen;go_wp2_with fail
 have hB':=((hB.set_ 0 (.int .u64 H)).set_ 1 (.int .u64 L)).set_ 2 (.bool false);have cc':=fun i=>hB'.cell i;exact bodyPost_ret (by simp[results,Tryz.results83,go_sem,cc']) rfl ⟨rfl,((K.setNew (Nat.le_refl _) _).setNew (Nat.le_refl _) _).setNew (Nat.le_refl _) _⟩
theorem span_divide_any (a b c H L q r u:Nat) (h:Hid (Words a b c H L q r u)) (w:World) :
  Calls Tryz.prog 84 #[.agg #[.int .u64 H,.int .u64 L,.bool false],c] w fun e w'=>e=.returned (.tuple #[q,u,(0:Int)])∧Kp w.heap.size none w w':=by
 have a1:¬ (c:Int)<0:=by omega
 have a3:decide ((c:Int)<0)=false:=by simp
 have hB:=Blk.new w 161 #[.int .u64 H,.int .u64 L,.bool false];have K:=(Kp.refl w.heap.size none w).alloc (Nat.le_refl _) (.cells #[.int .u64 H,.int .u64 L,.bool false] 161);have a2:¬ (c:Int)≤(H:Int):=by have:=h.out.Hc;omega
 go_enter Tryz.func84,Tryz.ntmps84
 go_wp2_with fail
 refine mK (span_size_any c h.out.cl _) fun w1 k1=>?_;replace hB:=hB.kp k1 hB.lt (by simp);replace K:=K.then_ k1 (by simp);have cc:=hB.cell;go_wp2_with fail
 refine(div64_any H L c _ h.out.Hc h.out.Ll (by have:=h.out.cl;omega)).mono ?_;rintro e w2 ⟨he,k2⟩;rw[← h.out.eq,← h.out.er] at he;subst he;replace hB:=hB.kp k2 hB.lt (by simp);replace K:=K.then_ k2 (by have:=hB.lt;omega);have cc:=hB.cell;have d1:¬ (1152921504606846976:Int)<(q:Int):=by have:=h.out.ql;omega
 have d4:wrap64 (q:Int)=(q:Int):=by have:=h.out.ql;unfold wrap64;omega
 have d5:wrap64 (u:Int)=(u:Int):=by have:=h.out.ql;have:=h.out.eu;unfold wrap64;split at this<;>omega
 have d6:¬ (1152921504606846976:Int)<(u:Int):=by have:=h.out.ql;have:=h.out.eu;split at this<;>omega
 by_cases hr:0<r
 ·
  have hr':(0:Int)<(r:Int):=by omega
  have d7:IntKind.u64.wrap ((q:Int)+1)=(u:Int):=by have:=h.out.ql;have:=h.out.eu;rw[if_pos hr] at this;rw[wrapu];omega
  go_wp2_with fail
  exact bodyPost_ret (by simp[results,Tryz.results84,go_sem]) rfl ⟨rfl,K⟩
 ·
  have hr':¬ (0:Int)<(r:Int):=by omega
  have d7:u=q:=by have:=h.out.eu;rw[if_neg hr] at this;exact this
  subst d7;go_wp2_with fail
  exact bodyPost_ret (by simp[results,Tryz.results84,go_sem]) rfl ⟨rfl,K⟩
theorem span_MulDiv_any (a b c H L q r u:Nat) (h:Hid (Words a b c H L q r u)) (ha:a≤1152921504606846976) (hb:b≤1152921504606846976) (hc:c≤1152921504606846976) (w:World) :
  Calls Tryz.prog 139 #[a,b,c] w fun e w'=>e=.returned (.tuple #[q,u,(0:Int)])∧Kp w.heap.size none w w':=by
 have b1:btw (a:Int) (-1152921504606846976) 1152921504606846976=true:=by simp[btw];omega
 have b2:btw (b:Int) (-1152921504606846976) 1152921504606846976=true:=by simp[btw];omega
 have b3:btw (c:Int) (-1152921504606846976) 1152921504606846976=true:=by simp[btw];omega
 have c0:((c:Int)==0)=false:=by have:=h.out.c0;rw[beq_eq_false_iff_ne];omega
 have K:=Kp.refl w.heap.size none w;go_enter Tryz.func139,Tryz.ntmps139
 go_wp2_with fail
 refine mK (span_fits_any _ _) fun w1 k1=>?_;replace K:=K.then_ k1 (by have:=K.size;omega);go_wp2_with fail
 refine mK (span_fits_any _ _) fun w2 k2=>?_;replace K:=K.then_ k2 (by have:=K.size;omega);go_wp2_with fail
 refine mK (span_fits_any _ _) fun w3 k3=>?_;replace K:=K.then_ k3 (by have:=K.size;omega);go_wp2_with fail
 refine mK (span_product_any a b c H L q r u h _) fun w4 k4=>?_;replace K:=K.then_ k4 (by have:=K.size;omega);go_wp2_with fail
 refine mK (span_divide_any a b c H L q r u h _) fun w5 k5=>?_;replace K:=K.then_ k5 (by have:=K.size;omega);go_wp2_with fail
 exact bodyPost_ret (by simp[results,Tryz.results139,go_sem]) rfl ⟨rfl,K⟩
structure RootSt (n j out bit:Nat):Prop where
 jl:j≤32
 bt:bit=2 ^ j / 2
 mul:∃ m,out=2 ^ j * m
 lo:out * out≤n
 hi:n<(out+2 ^ j) * (out+2 ^ j)
 top:out+2 ^ j≤4294967296
theorem RootSt.start {n:Nat} (h:n<18446744073709551616):RootSt n 32 0 2147483648:=
 ⟨Nat.le_refl _,rfl,⟨0,rfl⟩,Nat.zero_le _,by rw[Nat.zero_add];exact h,by decide⟩
theorem RootSt.step {n j out bit:Nat} (h:RootSt n j out bit) (hb:0<bit) :
  out ||| bit=out+bit∧out+bit<4294967296∧((out+bit) * (out+bit)≤n→RootSt n (j-1) (out+bit) (bit / 2))∧(n<(out+bit) * (out+bit)→RootSt n (j-1) out (bit / 2)):=by
 obtain⟨h1,h2,⟨m,h3⟩,h4,h5,h6⟩:=h;cases j with
 | zero=>simp at h2;omega
 | succ i=>
  have e:2 ^ (i+1)=2 * 2 ^ i:=by rw[Nat.pow_succ,Nat.mul_comm]
  have hp:=Nat.two_pow_pos i;have hbit:bit=2 ^ i:=by rw[h2,e];omega
  refine⟨?_,by omega,fun hx=>⟨by omega,by rw[hbit];rfl,⟨2 * m+1,?_⟩,hx,?_,?_⟩,fun hx=>⟨by omega,by rw[hbit];rfl,⟨2 * m,?_⟩,h4,?_,?_⟩⟩
  · rw[h3];exact(Nat.two_pow_add_eq_or_of_lt (by rw[hbit,e];omega) m).symm
  · rw[h3,hbit,e,Nat.add_sub_cancel,Nat.mul_add,Nat.mul_one,Nat.mul_comm 2 (2 ^ i),Nat.mul_assoc]
  · rw[Nat.add_sub_cancel,← hbit,Nat.add_assoc,← Nat.two_mul,hbit,← e];exact h5
  · rw[Nat.add_sub_cancel,hbit];omega
  · rw[h3,e,Nat.add_sub_cancel,Nat.mul_comm 2 (2 ^ i),Nat.mul_assoc]
  · rw[Nat.add_sub_cancel,← hbit];exact hx
  · rw[Nat.add_sub_cancel];omega
theorem RootSt.done {n j out bit:Nat} (h:RootSt n j out bit) (hb:bit=0):out * out≤n∧n<(out+1) * (out+1):=by
 obtain⟨h1,h2,_,h4,h5,h6⟩:=h;cases j with
 | zero=>exact⟨h4,h5⟩
 | succ i=>
  have e:2 ^ (i+1)=2 * 2 ^ i:=by rw[Nat.pow_succ,Nat.mul_comm]
  have hp:=Nat.two_pow_pos i;omega
theorem root_one {n a b:Nat} (h1:a * a≤n) (h2:n<(a+1) * (a+1)) (h3:b * b≤n) (h4:n<(b+1) * (b+1)):a=b:=by
 rcases Nat.lt_trichotomy a b with h|h|h
 · have:=Nat.mul_le_mul (show a+1≤b from h) (show a+1≤b from h);omega
 · exact h
 · have:=Nat.mul_le_mul (show b+1≤a from h) (show b+1≤a from h);omega
def RootAt (n:Nat) (k:IntKind) (w:World) (vo vb:Value) (wr:World):Prop:=∃ j out bit:Nat,vo=.int k out∧vb=.int k bit∧RootSt n j out bit∧Kp w.heap.size none w wr
def IsRoot (n r:Nat):Prop:=r * r≤n∧n<(r+1) * (r+1)
theorem span_root_any (n:Nat) (hn:n<9223372036854775808) (w:World) :
  Calls Tryz.prog 85 #[.int .u64 n] w fun e w'=>(∃ r:Nat,e=.returned (.int .u64 r)∧IsRoot n r)∧Kp w.heap.size none w w':=by
 go_enter Tryz.func85,Tryz.ntmps85
 go_wp2_with fail
 go_loopw [3,4] (fun vo vb wr=>RootAt n .u64 w vo vb wr) (fun _ vb _=>(intOf vb).toNat)
 case atStart=>exact⟨32,0,2147483648,rfl,rfl,RootSt.start oM,Kp.refl _ _ _⟩
 case round=>
  obtain⟨j,out,bit,rfl,rfl,st,KK⟩:=hrel;by_cases hb:0<bit
  ·
   obtain⟨s1,s2,s3,s4⟩:=st.step hb;obtain⟨x,hx⟩:∃ x,x=out+bit:=⟨_,rfl⟩;obtain⟨y,hy⟩:∃ y,y=x * x:=⟨_,rfl⟩;obtain⟨b2,hb2⟩:∃ b2,b2=bit / 2:=⟨_,rfl⟩;have hb':(0:Int)<(bit:Int):=by omega
   have eor:bits .or .u64 (out:Int) (bit:Int)=(x:Int):=by rw[u64_or_nat _ _ oM oM,s1,hx]
   rw[← hx,← hy,← hb2] at s3 s4;rw[← hx] at s2
   have emul:IntKind.u64.wrap ((x:Int) * (x:Int))=(y:Int):=by
    have h5:x * x≤4294967295 * 4294967295:=Nat.mul_le_mul oM oM;have h6:(y:Int)=(x:Int) * (x:Int):=by rw[hy];push_cast;rfl
    rw[← h6,wrapu];omega
   have eb:(bit:Int) / 2=(b2:Int):=by omega
   have hlt:b2<bit:=by omega
   replace st:=Lib.hid st;by_cases hyn:y≤n
   ·
    have hyi:(y:Int)≤(n:Int):=by omega
    have st':=Lib.hid (s3 hyn);replace hlt:=Lib.hid hlt;clear s1 s2 s3 s4 hx hy hb2 hb hyn;go_wp2
    go_roundw
    case rel=>exact⟨j-1,x,b2,rfl,rfl,st'.out,KK⟩
    case measure=>exact(show (b2:Int).toNat<(bit:Int).toNat by have:=hlt.out;omega)
   ·
    have hyi:¬ (y:Int)≤(n:Int):=by omega
    have st':=Lib.hid (s4 oM);replace hlt:=Lib.hid hlt;clear s1 s2 s3 s4 hx hy hb2 hb hyn;go_wp2
    go_roundw
    case rel=>exact⟨j-1,out,b2,rfl,rfl,st'.out,KK⟩
    case measure=>exact(show (b2:Int).toNat<(bit:Int).toNat by have:=hlt.out;omega)
  ·
   have hb':¬ (0:Int)<(bit:Int):=by omega
   have hd:=Lib.hid (st.done oM);clear hb;go_wp2
   exact bodyPost_ret (by simp[results,Tryz.results85,go_sem]) rfl ⟨⟨out,rfl,hd.out⟩,KK⟩
theorem span_Root_any (n:Nat) (hn:n<9223372036854775808) (w:World) :
  Calls Tryz.prog 38 #[n] w fun e w'=>(∃ r:Nat,e=.returned (.int .i64 r)∧IsRoot n r)∧Kp w.heap.size none w w':=by
 have e2:¬ (n:Int)<0:=by omega
 have e1:IntKind.u64.wrap (n:Int)=(n:Int):=by rw[wrapu];omega
 go_enter Tryz.func38,Tryz.ntmps38
 go_wp2_with fail
 refine(span_root_any n hn _).mono ?_;rintro e w1 ⟨⟨r,rfl,h1,h2⟩,k1⟩
 have h3:r≤3037000499:=by
  rcases Nat.lt_or_ge 3037000499 r with h|h
  · have:=Nat.mul_le_mul (show 3037000500≤r from h) (show 3037000500≤r from h);omega
  · exact h
 have e3:wrap64 (r:Int)=(r:Int):=by unfold wrap64;omega
 replace h1:=Lib.hid h1;replace h2:=Lib.hid h2;go_wp2
 exact bodyPost_ret (by simp[results,Tryz.results38,go_sem]) rfl ⟨⟨r,rfl,h1.out,h2.out⟩,k1⟩
structure Layer where
 thick:Int
 dens:Int
structure Grade where
 energy:Int
 reach:Int
def encLayer (x:Layer):List Value:=[.int .i64 x.thick,.int .i64 x.dens]
def encGrade (x:Grade):List Value:=[.int .i64 x.energy,.int .i64 x.reach]
def LayerOk (x:Layer):Prop:=1≤x.thick∧x.thick≤200∧0≤x.dens∧x.dens≤1000
theorem _root_.Go.Proofs.YtdhiappifnflpaaGreatDoor.Own.gt {α:Type} {w:World} {B e sz g:Nat} {enc:α→List Value} {v:Value} {xs:List α} (h:Own w B e sz enc v xs) (hg:g<B):∀ b,v.ownBlock=some b→g<b:=
 fun b hb=>Nat.lt_of_lt_of_le hg (h.ge b hb).1
theorem layer_info:(Tryz.prog.info? 127).map (fun i=>(i.zero,i.size,i.bytes))=some (some (.agg #[(0:Int),(0:Int)]),2,16):=by kernel_rfl
theorem grade_info:(Tryz.prog.info? 129).map (fun i=>(i.zero,i.size,i.bytes))=some (some (.agg #[(0:Int),(0:Int)]),2,16):=by kernel_rfl
def densBd:Nat→Int
 | 0=>1
 | n+1=>3 * densBd n+3
theorem densBd_le (n:Nat) (h:n≤6):densBd n≤2000:=by
 have:∀ n,n≤6→densBd n≤2000:=by decide
 exact this n h
def LayRel (g:Nat) (nums:List Int) (k0:Nat) (W:World) (N:Nat) (l d n:Value) (wr:World):Prop:=
 ∃ (ls:List Layer) (dd m:Int) (k:Nat),n=.int .i64 m∧0≤m∧m+ls.length=N∧N≤6∧d=.int .i64 dd∧0≤dd∧dd≤densBd ls.length∧k≤k0+2+3 * ls.length ∧
  Own wr W.heap.size 127 2 encLayer l ls∧(∀ x∈ls,LayerOk x)∧RingAt wr g nums k∧Kp W.heap.size (some g) W wr
theorem layersOf_any (g:Nat) (nums:List Int) (k:Nat) (w:World) (h:RingAt w g nums k) (hk:k≤800000) :
  Calls Tryz.prog 20 #[.pointer (some ⟨g,0,none⟩)] w
   (RPostB g nums (k+20) w fun v w'=>∃ A cap ls,v=.slice A ls.length cap∧Rd (some g) w' 2 encLayer A ls.length ls∧ls.length≤6∧(∀ x∈ls,LayerOk x)∧∀ ad,A=some ad→w.heap.size≤ad.block):=by
 obtain⟨i0,hi,hz0,hz1,hz2⟩:=info_parts layer_info;have hg:=h.lt;go_enter Tryz.func20,Tryz.ntmps20
 go_wp2_with fail
 refine(next_any g nums k _ _ h oM oM oM).mono ?_;rintro e w1 ⟨v,rfl,⟨d0,rfl,p0,q0⟩,hr1,hk1⟩;go_wp2_with fail
 refine(next_any g nums _ _ _ hr1 oM oM oM).mono ?_;rintro e w2 ⟨v,rfl,⟨n0,rfl,p1,q1⟩,hr2,hk2⟩;have K2:=hk1.then_ hk2 (Nat.le_refl _);obtain⟨N,rfl⟩:=Int.eq_ofNat_of_zero_le p1;clear hk1 hk2 hr1;go_wp2_with fail
 go_loopw [3,4,5] (fun l d n wr=>LayRel g nums k w N l d n wr) (fun _ _ n _=>(intOf n).toNat)
 case atStart=>exact⟨[],d0,N,_,rfl,by omega,by simp,by omega,rfl,by omega,by simp only[List.length_nil,densBd];omega,by simp,Own.nil _ _ _ _ _,by simp,hr2,K2⟩
 case round=>
  obtain⟨ls,dd,m,k',rfl,hm0,hm,hN,rfl,hd0,hd1,hk',hown,hok,hr,hK⟩:=hrel;have hl6:ls.length≤6:=by omega
  have hm6:m≤6:=by omega
  have hbd:=densBd_le ls.length hl6;have HB:=Lib.hid (show densBd (ls.length+1)=3 * densBd ls.length+3 from rfl);have hg:g<w.heap.size:=h.lt;by_cases hmp:0<m
  ·
   have hl5:ls.length≤5:=by omega
   have HM:=Lib.hid hm;clear hm;go_wp2_with fail
   refine(range_any g nums _ 1 200 _ hr oM oM oM oM oM).mono ?_;rintro e w3 ⟨v,rfl,⟨t,rfl,pt,qt⟩,hr3,hk3⟩;have ow3:=hown.kp hk3 (fun b hb=>oN);have hz3:w.heap.size≤w3.heap.size:=Nat.le_trans hK.size hk3.size;have K3:=hK.then_ hk3 (Nat.le_refl _);clear hr hown hK hk3;rcases (show dd<1000∨1000≤dd by omega) with hmin|hmin
   ·
    have hmn:min (1000:Int) dd=dd:=by omega
    go_wp2_with (at_builtin;refine wpList_append_own_at _ (by rfl) (.tmp 14) (.tmp 20) 78 (by rfl) w.heap.size 127 i0 _ 2 16 Tryz.underlying78 hi hz0 hz1 hz2 (by rfl) oM u3 ls.length (ls.flatMap encLayer) (by rfl) (ow3.alloc _) ⟨w3.heap.size,0,none⟩ 1 1 [.int .i64 t,.int .i64 dd] (by rfl) (by rfl) (two_new _ _ _ _) (two_int _ _ _) (maxLen_of oM) oM (alloc_ge hz3 _) ?_;intro v4 w4 hown4 hgrow _ hat)
    have ow4:Own w4 w.heap.size 127 2 encLayer v4 (ls++[⟨t,dd⟩]):=by unfold Own;simpa [encLayer] using hown4
    have hr4:=(hr3.alloc _).grown hgrow (Own.gt ow3 hg);have K4:=(K3.alloc hz3 _).trans (Kp.of_own (row:=some g) (ow3.alloc _) hgrow (alloc_ge hz3 _));clear hown4 hgrow hat ow3 hr3 K3;go_wp2_with fail
    refine(range_any g nums _ 1 3 _ hr4 oM oM oM oM oM).mono ?_;rintro e w5 ⟨v,rfl,⟨x,rfl,px,qx⟩,hr5,hk5⟩;have ow5:=ow4.kp hk5 (fun b hb=>oN);have K5:=K4.then_ hk5 (Nat.le_refl _);clear hr4 ow4 K4 hk5;have hx0:0≤dd * x:=Int.mul_nonneg hd0 oM;have hx3:dd * x≤dd * 3:=Int.mul_le_mul_of_nonneg_left qx hd0;go_wp2_with fail
    refine(range_any g nums _ 0 3 _ hr5 oM oM oM oM oM).mono ?_;rintro e w6 ⟨v,rfl,⟨y,rfl,py,qy⟩,hr6,hk6⟩;have ow6:=ow5.kp hk6 (fun b hb=>oN);have K6:=K5.then_ hk6 (Nat.le_refl _);clear hr5 ow5 K5 hk6;go_wp2
    go_roundw
    case rel=>
     have hB:=HB.out
     exact⟨ls++[⟨t,dd⟩],dd * x+y,m-1,_,rfl,by omega,by have:=HM.out;simp only[List.length_append,List.length_cons,List.length_nil];omega,hN,rfl,by omega,by simp only[List.length_append,List.length_cons,List.length_nil];rw[show ls.length+(0+1)=ls.length+1 from by omega,hB];omega,
      by simp only[List.length_append,List.length_cons,List.length_nil];omega,ow6,fun z hz=>by
       rcases List.mem_append.1 hz with hz|hz
       · exact hok z hz
       · simp at hz;subst hz;exact⟨pt,qt,by simp only;omega,by simp only;omega⟩,hr6,K6⟩
    case measure=>simp[intOf];omega
   ·
    have hmn:min (1000:Int) dd=1000:=by omega
    go_wp2_with (at_builtin;refine wpList_append_own_at _ (by rfl) (.tmp 14) (.tmp 20) 78 (by rfl) w.heap.size 127 i0 _ 2 16 Tryz.underlying78 hi hz0 hz1 hz2 (by rfl) oM u3 ls.length (ls.flatMap encLayer) (by rfl) (ow3.alloc _) ⟨w3.heap.size,0,none⟩ 1 1 [.int .i64 t,.int .i64 1000] (by rfl) (by rfl) (two_new _ _ _ _) (two_int _ _ _) (maxLen_of oM) oM (alloc_ge hz3 _) ?_;intro v4 w4 hown4 hgrow _ hat)
    have ow4:Own w4 w.heap.size 127 2 encLayer v4 (ls++[⟨t,1000⟩]):=by unfold Own;simpa [encLayer] using hown4
    have hr4:=(hr3.alloc _).grown hgrow (Own.gt ow3 hg);have K4:=(K3.alloc hz3 _).trans (Kp.of_own (row:=some g) (ow3.alloc _) hgrow (alloc_ge hz3 _));clear hown4 hgrow hat ow3 hr3 K3;go_wp2_with fail
    refine(range_any g nums _ 1 3 _ hr4 oM oM oM oM oM).mono ?_;rintro e w5 ⟨v,rfl,⟨x,rfl,px,qx⟩,hr5,hk5⟩;have ow5:=ow4.kp hk5 (fun b hb=>oN);have K5:=K4.then_ hk5 (Nat.le_refl _);clear hr4 ow4 K4 hk5;have hx0:0≤dd * x:=Int.mul_nonneg hd0 oM;have hx3:dd * x≤dd * 3:=Int.mul_le_mul_of_nonneg_left qx hd0;go_wp2_with fail
    refine(range_any g nums _ 0 3 _ hr5 oM oM oM oM oM).mono ?_;rintro e w6 ⟨v,rfl,⟨y,rfl,py,qy⟩,hr6,hk6⟩;have ow6:=ow5.kp hk6 (fun b hb=>oN);have K6:=K5.then_ hk6 (Nat.le_refl _);clear hr5 ow5 K5 hk6;go_wp2
    go_roundw
    case rel=>
     have hB:=HB.out
     exact⟨ls++[⟨t,1000⟩],dd * x+y,m-1,_,rfl,by omega,by have:=HM.out;simp only[List.length_append,List.length_cons,List.length_nil];omega,hN,rfl,by omega,by simp only[List.length_append,List.length_cons,List.length_nil];rw[show ls.length+(0+1)=ls.length+1 from by omega,hB];omega,
      by simp only[List.length_append,List.length_cons,List.length_nil];omega,ow6,fun z hz=>by
       rcases List.mem_append.1 hz with hz|hz
       · exact hok z hz
       · simp at hz;subst hz;exact⟨pt,qt,by simp only;omega,by simp only;omega⟩,hr6,K6⟩
    case measure=>simp[intOf];omega
  ·
   obtain⟨A,cap,rfl,hrd,hge⟩:=hown.rd (row:=some g) (fun _=>rfl) (fun b hb=>oN);go_wp2
   go_ret
   exact⟨_,k',rfl,⟨A,cap,ls,rfl,hrd,hl6,hok,fun ad e=>(hge ad e).1⟩,by omega,hr,hK⟩
structure GradesOk (ls:List Grade):Prop where
 ne:1≤ls.length
 le:ls.length≤32
 rng:∀ x∈ls,0≤x.energy∧x.energy≤1152921504606846976∧0≤x.reach∧x.reach≤400
 inc:ls.Pairwise fun a b=>a.energy<b.energy∧a.reach≤b.reach
def enerBd:Nat→Int
 | 0=>2000
 | n+1=>30 * enerBd n+1000
theorem enerBd_le (n:Nat) (h:n≤6):enerBd n≤2000000000000:=by
 have:∀ n,n≤6→enerBd n≤2000000000000:=by decide
 exact this n h
def GradeRel (g:Nat) (nums:List Int) (k0:Nat) (W:World) (N:Nat) (l en re n:Value) (wr:World):Prop:=
 ∃ (ls:List Grade) (e r m:Int) (k:Nat),n=.int .i64 m∧0≤m∧m+ls.length=N∧1≤N∧N≤6∧en=.int .i64 e∧re=.int .i64 r∧0≤e∧e≤enerBd ls.length∧0≤r∧r≤1+3 * ls.length∧k≤k0+3+2 * ls.length ∧
  Own wr W.heap.size 129 2 encGrade l ls∧(∀ x∈ls,0≤x.energy∧x.energy<e∧0≤x.reach∧x.reach≤r)∧(ls.Pairwise fun a b=>a.energy<b.energy∧a.reach≤b.reach)∧RingAt wr g nums k∧Kp W.heap.size (some g) W wr
theorem gradesOf_any (g:Nat) (nums:List Int) (k:Nat) (w:World) (h:RingAt w g nums k) (hk:k≤800000) :
  Calls Tryz.prog 21 #[.pointer (some ⟨g,0,none⟩)] w
   (RPostB g nums (k+20) w fun v w'=>∃ A cap ls,v=.slice A ls.length cap∧Rd (some g) w' 2 encGrade A ls.length ls∧GradesOk ls∧ls.length≤6∧∀ ad,A=some ad→w.heap.size≤ad.block):=by
 obtain⟨i0,hi,hz0,hz1,hz2⟩:=info_parts grade_info;have hg:=h.lt;go_enter Tryz.func21,Tryz.ntmps21
 go_wp2_with fail
 refine(next_any g nums k _ _ h oM oM oM).mono ?_;rintro e w1 ⟨v,rfl,⟨d0,rfl,p0,q0⟩,hr1,hk1⟩;go_wp2_with fail
 refine(next_any g nums _ _ _ hr1 oM oM oM).mono ?_;rintro e w2 ⟨v,rfl,⟨r0,rfl,p1,q1⟩,hr2,hk2⟩;have K2:=hk1.then_ hk2 (Nat.le_refl _);clear hk1 hk2 hr1;go_wp2_with fail
 refine(next_any g nums _ _ _ hr2 oM oM oM).mono ?_;rintro e w3 ⟨v,rfl,⟨n0,rfl,p2,q2⟩,hr3,hk3⟩;have K3:=K2.then_ hk3 (Nat.le_refl _);obtain⟨N,rfl⟩:=Int.eq_ofNat_of_zero_le p2;clear hk3 hr2 K2;go_wp2_with fail
 go_loopw [3,4,5,6] (fun l en re n wr=>GradeRel g nums k w (1+N) l en re n wr) (fun _ _ _ n _=>(intOf n).toNat)
 case atStart=>exact⟨[],d0 * 1000,r0,1+N,_,rfl,by omega,by simp,by omega,by omega,rfl,rfl,by omega,by simp only[List.length_nil,enerBd];omega,by omega,by simp;omega,by simp,Own.nil _ _ _ _ _,by simp,List.Pairwise.nil,hr3,K3⟩
 case round=>
  obtain⟨ls,e,r,m,k',rfl,hm0,hm,hN1,hN,rfl,rfl,he0,he1,hr0,hr1,hk',hown,hok,hpw,hr,hK⟩:=hrel;have hl6:ls.length≤6:=by omega
  have hm6:m≤6:=by omega
  have hbd:=enerBd_le ls.length hl6;have HB:=Lib.hid (show enerBd (ls.length+1)=30 * enerBd ls.length+1000 from rfl);by_cases hmp:0<m
  ·
   have hl5:ls.length≤5:=by omega
   have HM:=Lib.hid hm;clear hm;have hzr:w.heap.size≤wr.heap.size:=hK.size;go_wp2_with (at_builtin;refine wpList_append_own_at _ (by rfl) (.tmp 19) (.tmp 23) 80 (by rfl) w.heap.size 129 i0 _ 2 16 Tryz.underlying80 hi hz0 hz1 hz2 (by rfl) oM u3 ls.length (ls.flatMap encGrade) (by rfl) (hown.alloc _) ⟨wr.heap.size,0,none⟩ 1 1 [.int .i64 e,.int .i64 r] (by rfl) (by rfl) (two_new _ _ _ _) (two_int _ _ _) (maxLen_of oM) oM (alloc_ge hzr _) ?_;intro v4 w4 hown4 hgrow _ hat)
   have ow4:Own w4 w.heap.size 129 2 encGrade v4 (ls++[⟨e,r⟩]):=by unfold Own;simpa [encGrade] using hown4
   have hr4:=(hr.alloc _).grown hgrow (Own.gt hown hg);have K4:=(hK.alloc hzr _).trans (Kp.of_own (row:=some g) (hown.alloc _) hgrow (alloc_ge hzr _));clear hown4 hgrow hat hown hr hK;go_wp2_with fail
   refine(range_any g nums _ 1 1000 _ hr4 oM oM oM oM oM).mono ?_;rintro e w5 ⟨v,rfl,⟨x,rfl,px,qx⟩,hr5,hk5⟩;have ow5:=ow4.kp hk5 (fun b hb=>oN);have K5:=K4.then_ hk5 (Nat.le_refl _);clear hr4 ow4 K4 hk5;go_wp2_with fail
   refine(range_any g nums _ 0 3 _ hr5 oM oM oM oM oM).mono ?_;rintro e w6 ⟨v,rfl,⟨y,rfl,py,qy⟩,hr6,hk6⟩;have ow6:=ow5.kp hk6 (fun b hb=>oN);have K6:=K5.then_ hk6 (Nat.le_refl _);clear hr5 ow5 K5 hk6;go_wp2
   go_roundw
   case rel=>
    have hB:=HB.out
    refine⟨ls++[⟨e,r⟩],e * 30+x,r+y,m-1,_,rfl,by omega,by have:=HM.out;simp only[List.length_append,List.length_cons,List.length_nil];omega,hN1,hN,rfl,rfl,by omega,by simp only[List.length_append,List.length_cons,List.length_nil];rw[show ls.length+(0+1)=ls.length+1 from by omega,hB];omega,
     by omega,by simp only[List.length_append,List.length_cons,List.length_nil];omega,by simp only[List.length_append,List.length_cons,List.length_nil];omega,ow6,fun z hz=>?_,?_,hr6,K6⟩
    ·
     rcases List.mem_append.1 hz with hz|hz
     · have:=hok z hz;omega
     · simp at hz;subst hz;simp only;omega
    ·
     rw[List.pairwise_append];refine⟨hpw,by simp,fun a ha b hb=>?_⟩;simp at hb;subst hb
     have:=hok a ha;simp only;omega
   case measure=>simp[intOf];omega
  ·
   obtain⟨A,cap,rfl,hrd,hge⟩:=hown.rd (row:=some g) (fun _=>rfl) (fun b hb=>oN);go_wp2
   go_ret
   refine⟨_,k',rfl,⟨A,cap,ls,rfl,hrd,⟨by omega,by omega,fun x hx=>?_,hpw⟩,hl6,fun ad e=>(hge ad e).1⟩,by omega,hr,hK⟩;have:=hok x hx;omega
end Go.Proofs.YtdhiappifnflpaaGreatDoor.Bl
