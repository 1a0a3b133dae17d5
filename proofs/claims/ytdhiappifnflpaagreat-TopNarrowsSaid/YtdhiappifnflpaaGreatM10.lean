/- Roots, comparisons of products, whether a segment comes near: the walks of span, sixth part. Comparisons of products, whether a segment comes near: the walks of span, seventh part. Whether a segment comes near: the walks of span, eighth part. -/
import Derived.Test.YtdhiappifnflpaaGreatM09
import Derived.LoopTactic
namespace Go.Proofs.YtdhiappifnflpaaGreat
open Go.RowKit
structure RootSt (n j out bit:Nat):Prop where
 jl:j≤32
 bt:bit=2 ^ j / 2
 mul:∃ m,out=2 ^ j * m
 lo:out * out≤n
 hi:n<(out+2 ^ j) * (out+2 ^ j)
 top:out+2 ^ j≤4294967296
theorem RootSt.start {n:Nat} (h:n<18446744073709551616):RootSt n 32 0 2147483648:=
 ⟨Nat.le_refl _,rfl,⟨0,rfl⟩,Nat.zero_le _,by rw[Nat.zero_add];exact h,by decide⟩
theorem RootSt.step {n j out bit:Nat} (h:RootSt n j out bit) (hb:0<bit) :
  out ||| bit=out+bit∧out+bit<4294967296∧((out+bit) * (out+bit)≤n→RootSt n (j-1) (out+bit) (bit / 2))∧(n<(out+bit) * (out+bit)→RootSt n (j-1) out (bit / 2)):=by
 obtain⟨h1,h2,⟨m,h3⟩,h4,h5,h6⟩:=h;cases j with
 | zero=>simp at h2;omega
 | succ i=>
  have e:2 ^ (i+1)=2 * 2 ^ i:=by rw[Nat.pow_succ,Nat.mul_comm]
  have hp:=Nat.two_pow_pos i;have hbit:bit=2 ^ i:=by rw[h2,e];omega
  refine⟨?_,by omega,fun hx=>⟨by omega,by rw[hbit];rfl,⟨2 * m+1,?_⟩,hx,?_,?_⟩,fun hx=>⟨by omega,by rw[hbit];rfl,⟨2 * m,?_⟩,h4,?_,?_⟩⟩
  · rw[h3];exact(Nat.two_pow_add_eq_or_of_lt (by rw[hbit,e];omega) m).symm
  · rw[h3,hbit,e,Nat.add_sub_cancel,Nat.mul_add,Nat.mul_one,Nat.mul_comm 2 (2 ^ i),Nat.mul_assoc]
  · rw[Nat.add_sub_cancel,← hbit,Nat.add_assoc,← Nat.two_mul,hbit,← e];exact h5
  · rw[Nat.add_sub_cancel,hbit];omega
  · rw[h3,e,Nat.add_sub_cancel,Nat.mul_comm 2 (2 ^ i),Nat.mul_assoc]
  · rw[Nat.add_sub_cancel,← hbit];exact hx
  · rw[Nat.add_sub_cancel];omega
theorem RootSt.done {n j out bit:Nat} (h:RootSt n j out bit) (hb:bit=0):out * out≤n∧n<(out+1) * (out+1):=by
 obtain⟨h1,h2,_,h4,h5,h6⟩:=h;cases j with
 | zero=>exact⟨h4,h5⟩
 | succ i=>
  have e:2 ^ (i+1)=2 * 2 ^ i:=by rw[Nat.pow_succ,Nat.mul_comm]
  have hp:=Nat.two_pow_pos i;omega
theorem root_one {n a b:Nat} (h1:a * a≤n) (h2:n<(a+1) * (a+1)) (h3:b * b≤n) (h4:n<(b+1) * (b+1)):a=b:=by
 rcases Nat.lt_trichotomy a b with h|h|h
 · have:=Nat.mul_le_mul (show a+1≤b from h) (show a+1≤b from h);omega
 · exact h
 · have:=Nat.mul_le_mul (show b+1≤a from h) (show b+1≤a from h);omega
def RootAt (n:Nat) (k:IntKind) (w:World) (vo vb:Value) (wr:World):Prop:=∃ j out bit:Nat,vo=.int k out∧vb=.int k bit∧RootSt n j out bit∧Kp w.heap.size none w wr
def RootN (n r:Nat):Prop:=r * r≤n∧n<(r+1) * (r+1)
set_option maxHeartbeats 400000 in
theorem span_root_any (n:Nat) (hn:n<9223372036854775808) (w:World) :
  Calls Tryz.prog 72 #[.int .u64 n] w fun e w'=>(∃ r:Nat,e=.returned (.int .u64 r)∧RootN n r)∧Kp w.heap.size none w w':=by
 go_enter Tryz.func72,Tryz.ntmps72
 go_wp2_with fail
 go_loopw [3,4] (fun vo vb wr=>RootAt n .u64 w vo vb wr) (fun _ vb _=>(intOf vb).toNat)
 case atStart=>exact⟨32,0,2147483648,rfl,rfl,RootSt.start (by omega),Kp.refl _ _ _⟩
 case round=>
  obtain⟨j,out,bit,rfl,rfl,st,KK⟩:=hrel;by_cases hb:0<bit
  ·
   obtain⟨s1,s2,s3,s4⟩:=st.step hb;obtain⟨x,hx⟩:∃ x,x=out+bit:=⟨_,rfl⟩;obtain⟨y,hy⟩:∃ y,y=x * x:=⟨_,rfl⟩;obtain⟨b2,hb2⟩:∃ b2,b2=bit / 2:=⟨_,rfl⟩;have hb':(0:Int)<(bit:Int):=by omega
   have eor:bits .or .u64 (out:Int) (bit:Int)=(x:Int):=by rw[u64_or_nat _ _ (by omega) (by omega),s1,hx]
   rw[← hx,← hy,← hb2] at s3 s4;rw[← hx] at s2
   have emul:IntKind.u64.wrap ((x:Int) * (x:Int))=(y:Int):=by
    have h5:x * x≤4294967295 * 4294967295:=Nat.mul_le_mul (by omega) (by omega);have h6:(y:Int)=(x:Int) * (x:Int):=by rw[hy];push_cast;rfl
    rw[← h6,wrapu];omega
   have eb:(bit:Int) / 2=(b2:Int):=by omega
   have hlt:b2<bit:=by omega
   replace st:=Lib.hid st;by_cases hyn:y≤n
   ·
    have hyi:(y:Int)≤(n:Int):=by omega
    have st':=Lib.hid (s3 hyn);replace hlt:=Lib.hid hlt;clear s1 s2 s3 s4 hx hy hb2 hb hyn;go_wp2
    go_roundw
    case rel=>exact⟨j-1,x,b2,rfl,rfl,st'.out,KK⟩
    case measure=>exact(show (b2:Int).toNat<(bit:Int).toNat by have:=hlt.out;omega)
   ·
    have hyi:¬ (y:Int)≤(n:Int):=by omega
    have st':=Lib.hid (s4 (by omega));replace hlt:=Lib.hid hlt;clear s1 s2 s3 s4 hx hy hb2 hb hyn;go_wp2
    go_roundw
    case rel=>exact⟨j-1,out,b2,rfl,rfl,st'.out,KK⟩
    case measure=>exact(show (b2:Int).toNat<(bit:Int).toNat by have:=hlt.out;omega)
  ·
   have hb':¬ (0:Int)<(bit:Int):=by omega
   have hd:=Lib.hid (st.done (by omega));clear hb;go_wp2
   exact bodyPost_ret (by simp[results,Tryz.results72,go_sem]) rfl ⟨⟨out,rfl,hd.out⟩,KK⟩
set_option maxHeartbeats 400000 in
theorem span_Root_any (n:Nat) (hn:n<9223372036854775808) (w:World) :
  Calls Tryz.prog 29 #[.int .i64 n] w fun e w'=>(∃ r:Nat,e=.returned (.int .i64 r)∧RootN n r)∧Kp w.heap.size none w w':=by
 have e2:¬ (n:Int)<0:=by omega
 have e1:IntKind.u64.wrap (n:Int)=(n:Int):=by rw[wrapu];omega
 go_enter Tryz.func29,Tryz.ntmps29
 go_wp2_with fail
 refine(span_root_any n hn _).mono ?_;rintro e w1 ⟨⟨r,rfl,h1,h2⟩,k1⟩
 have h3:r≤3037000499:=by
  rcases Nat.lt_or_ge 3037000499 r with h|h
  · have:=Nat.mul_le_mul (show 3037000500≤r from h) (show 3037000500≤r from h);omega
  · exact h
 have e3:wrap64 (r:Int)=(r:Int):=by unfold wrap64;omega
 replace h1:=Lib.hid h1;replace h2:=Lib.hid h2;go_wp2
 exact bodyPost_ret (by simp[results,Tryz.results29,go_sem]) rfl ⟨⟨r,rfl,h1.out,h2.out⟩,k1⟩
theorem isqN_of {n r:Nat} (h:RootN n r):r=isqN n:=root_one h.1 h.2 (isqN_spec n).1 (isqN_spec n).2
theorem span_Root_isq (n:Nat) (hn:n<9223372036854775808) (w:World) :
  Calls Tryz.prog 29 #[.int .i64 n] w fun e w'=>e=.returned (.int .i64 (isq (n:Int)))∧Kp w.heap.size none w w':=by
 refine(span_Root_any n hn w).mono ?_;rintro e w1 ⟨⟨r,rfl,h⟩,k⟩;refine⟨?_,k⟩;rw[isqN_of h];rfl
theorem rootN_le {n r:Nat} (h:RootN n r) (hn:n≤1152921504606846976):r≤1073741824:=by
 rcases Nat.lt_or_ge 1073741824 r with g|g
 ·
  have:=Nat.mul_le_mul (show 1073741825≤r from g) (show 1073741825≤r from g);have:=h.1;omega
 · exact g
set_option maxHeartbeats 400000 in
theorem span_Roots_any (a:Sp) (ha:a.fit) (h0:0≤a.lo) (w:World) :
  Calls Tryz.prog 249 #[.agg #[.int .i64 a.lo,.int .i64 a.hi]] w fun e w'=>e=.returned (.tuple #[.agg #[.int .i64 (rootsS a).lo,.int .i64 (rootsS a).hi],.int .i64 0])∧Kp w.heap.size none w w':=by
 obtain⟨f1,f2,f3⟩:=ha;obtain⟨l,hl⟩:=Int.eq_ofNat_of_zero_le h0;obtain⟨h,hh⟩:=Int.eq_ofNat_of_zero_le (show 0≤a.hi by omega);have rl:=fun w=>span_Root_isq l (by omega) w;have rh:=fun w=>span_Root_isq h (by omega) w;have bq:=rootN_le (isqN_spec h) (by omega);obtain⟨q,hq⟩:∃ q,q=isq (h:Int):=⟨_,rfl⟩;have hqb:0≤q∧q≤1073741824:=by rw[hq];unfold isq;rw[Int.toNat_natCast];omega
 have hqs:q * q≤a.hi:=by rw[hq,hh];exact(isq_root (n:=(h:Int)) (by omega)).2.1
 have eL:(rootsS a).lo=isq (l:Int):=by unfold rootsS;rw[hl]
 have eH:(rootsS a).hi=if q * q<a.hi then q+1 else q:=by unfold rootsS rootUp;simp only;rw[hh,← hq]
 rw[eL,eH];rw[← hl] at rl;rw[← hh] at rh;rw[← hh] at hq;rw[← hl];have hck:=fun w=>span_Check_any a ⟨f1,f2,f3⟩ w;generalize isq a.lo=p at *;rw[← hq] at rh;have nn:¬ a.lo<0:=by omega
 have s1:0≤q * q:=Int.mul_nonneg hqb.1 hqb.1;have ww:wrap64 (q * q)=q * q:=by generalize q * q=z at *;unfold wrap64;omega
 have w1':wrap64 (q+1)=q+1:=by unfold wrap64;omega
 clear eL eH hq hl hh hqb hqs s1 f1 f2 f3 h0 bq;by_cases hlt:q * q<a.hi
 ·
  rw[if_pos hlt];obtain⟨w1,hw1,A,R,K,hz⟩:=box2 w 29 #[.int .i64 a.lo,.int .i64 a.hi] 29 #[.int .i64 0,.int .i64 0];go_enter Tryz.func249,Tryz.ntmps249
  go_wp2_with fail
  rw[← hw1];clear hw1;refine(hck _).mono ?_;rintro e w2 ⟨rfl,k⟩;replace A:=A.kpN k;replace R:=R.kpN k;replace K:=K.tN k;have hzk:=k.size;clear k;have cA:=A.cell;have fA:=A.frozen;have cR:=R.cell;have fR:=R.frozen;go_wp2_with fail
  refine(rh _).mono ?_;rintro e w3 ⟨rfl,k⟩;clear cA fA cR fR;replace A:=A.kpN k;replace R:=R.kpN k;replace K:=K.tN k;have hzk:=k.size;clear k;have cA:=A.cell;have fA:=A.frozen;have cR:=R.cell;have fR:=R.frozen;go_wp2_with fail
  refine(rl _).mono ?_;rintro e w4 ⟨rfl,k⟩;clear cA fA cR fR;replace A:=A.kpN k;replace R:=R.kpN k;replace K:=K.tN k;have hzk:=k.size;clear k;have cA:=A.cell;have fA:=A.frozen;have cR:=R.cell;have fR:=R.frozen;go_wp2_with fail
  clear cA fA cR fR;have BR:=((R.set_ 0 (.int .i64 p)).set_ 1 (.int .i64 (q+1)));have cR:=BR.cell;exact bodyPost_ret (by simp[results,Tryz.results249,go_sem,cR]) rfl ⟨rfl,((K.setNew (by simp<;>omega) _).setNew (by simp<;>omega) _)⟩
 ·
  rw[if_neg hlt];obtain⟨w1,hw1,A,R,K,hz⟩:=box2 w 29 #[.int .i64 a.lo,.int .i64 a.hi] 29 #[.int .i64 0,.int .i64 0];go_enter Tryz.func249,Tryz.ntmps249
  go_wp2_with fail
  rw[← hw1];clear hw1;refine(hck _).mono ?_;rintro e w2 ⟨rfl,k⟩;replace A:=A.kpN k;replace R:=R.kpN k;replace K:=K.tN k;have hzk:=k.size;clear k;have cA:=A.cell;have fA:=A.frozen;have cR:=R.cell;have fR:=R.frozen;go_wp2_with fail
  refine(rh _).mono ?_;rintro e w3 ⟨rfl,k⟩;clear cA fA cR fR;replace A:=A.kpN k;replace R:=R.kpN k;replace K:=K.tN k;have hzk:=k.size;clear k;have cA:=A.cell;have fA:=A.frozen;have cR:=R.cell;have fR:=R.frozen;go_wp2_with fail
  refine(rl _).mono ?_;rintro e w4 ⟨rfl,k⟩;clear cA fA cR fR;replace A:=A.kpN k;replace R:=R.kpN k;replace K:=K.tN k;have hzk:=k.size;clear k;have cA:=A.cell;have fA:=A.frozen;have cR:=R.cell;have fR:=R.frozen;go_wp2_with fail
  clear cA fA cR fR;have BR:=((R.set_ 0 (.int .i64 p)).set_ 1 (.int .i64 q));have cR:=BR.cell;exact bodyPost_ret (by simp[results,Tryz.results249,go_sem,cR]) rfl ⟨rfl,((K.setNew (by simp<;>omega) _).setNew (by simp<;>omega) _)⟩
theorem Kp.new1 (w:World) (o:Obj):Kp w.heap.size none w (w.alloc o):=(Kp.refl _ _ w).alloc (Nat.le_refl _) o
theorem Kp.new2 (w:World) (o o':Obj):Kp w.heap.size none w ((w.alloc o).alloc o'):=(Kp.new1 w o).alloc (by simp) o'
def sgN (N:Nat) (s:Bool):Int:=if N=0 then 0 else if s then -1 else 1
def cmpN (N:Nat) (s:Bool) (N':Nat) (s':Bool):Int:=
 if sgN N s≠sgN N' s' then min (max (sgN N s-sgN N' s') (-1)) 1 else if N=N' then 0 else if N<N' then -(sgN N s) else sgN N s
theorem cmpN_neg {V V':Int} {s s':Bool} (h:V≠0→s=decide (V<0)) (h':V'≠0→s'=decide (V'<0)):cmpN V.natAbs s V'.natAbs s'<0↔V<V':=by
 have e:sgN V.natAbs s=if V=0 then 0 else if V<0 then -1 else 1:=by
  unfold sgN;by_cases q:V=0
  · simp[q]
  ·
   rw[if_neg (by omega),if_neg q,h q];by_cases r:V<0<;>simp[r]
 have e':sgN V'.natAbs s'=if V'=0 then 0 else if V'<0 then -1 else 1:=by
  unfold sgN;by_cases q:V'=0
  · simp[q]
  ·
   rw[if_neg (by omega),if_neg q,h' q];by_cases r:V'<0<;>simp[r]
 unfold cmpN;rw[e,e'];split<;>split<;>split<;>omega
set_option maxHeartbeats 400000 in
theorem span_less_any (H L H' L':Nat) (w:World) :
  Calls Tryz.prog 120 #[.agg #[.int .u64 H,.int .u64 L],.agg #[.int .u64 H',.int .u64 L']] w fun e w'=>e=.returned (.bool (decide (H<H'∨(H=H'∧L<L'))))∧Kp w.heap.size none w w':=by
 go_enter Tryz.func120,Tryz.ntmps120
 go_wp2
 all_goals
  go_ret
  refine⟨ret_bool ?_,Kp.new2 _ _ _⟩;rw[Bool.eq_iff_iff];simp
  try omega
theorem span_sign_any (N:Nat) (s:Bool) (w:World) :
  Calls Tryz.prog 255 #[.agg #[.int .u64 0,.int .u64 N,.bool s]] w fun e w'=>e=.returned (.int .i64 (sgN N s))∧Kp w.heap.size none w w':=by
 by_cases h:N=0
 ·
  subst h;go_enter Tryz.func255,Tryz.ntmps255
  go_wp2
  go_ret
  exact⟨rfl,Kp.new1 _ _⟩
 ·
  have h1:¬ (N:Int)=0:=by omega
  have e:sgN N s=if s then -1 else 1:=by unfold sgN;rw[if_neg h]
  rw[e];clear e h;cases s
  ·
   go_enter Tryz.func255,Tryz.ntmps255
   go_wp2
   go_ret
   exact⟨rfl,Kp.new1 _ _⟩
  ·
   go_enter Tryz.func255,Tryz.ntmps255
   go_wp2
   go_ret
   exact⟨rfl,Kp.new1 _ _⟩
theorem sgN_three (N:Nat) (s:Bool):sgN N s=0∨sgN N s=1∨sgN N s=-1:=by
 unfold sgN;split
 · exact .inl rfl
 ·
  split
  · exact .inr (.inr rfl)
  · exact .inr (.inl rfl)
set_option maxHeartbeats 1000000 in
theorem compare_aux (N:Nat) (s:Bool) (N':Nat) (s':Bool) (a b:Int) (ha:sgN N s=a) (hb:sgN N' s'=b) (hab:(a=0∨a=1∨a=-1)∧(b=0∨b=1∨b=-1)) (w:World) :
  Calls Tryz.prog 236 #[.agg #[.int .u64 0,.int .u64 N,.bool s],.agg #[.int .u64 0,.int .u64 N',.bool s']] w fun e w'=>e=.returned (.int .i64 (if a≠b then min (max (a-b) (-1)) 1 else if N=N' then 0 else if N<N' then -a else a))∧Kp w.heap.size none w w':=by
 have c1:=fun w=>span_sign_any N s w;have c2:=fun w=>span_sign_any N' s' w;rw[ha] at c1;rw[hb] at c2;clear ha hb;by_cases hne:a=b
 case neg=>
  have e2:(if a≠b then min (max (a-b) (-1)) 1 else if N=N' then 0 else if N<N' then -a else a)=min (max (a-b) (-1)) 1:=if_pos hne;rw[e2];clear e2;have n1:¬ a=b:=hne;have n3:wrap64 (a-b)=a-b:=by unfold wrap64;omega
  obtain⟨r,hr⟩:∃ r,r=min (max (a-b) (-1)) 1:=⟨_,rfl⟩;rw[← hr];have q1:max (a-b) (-1)≤1→max (a-b) (-1)=r:=by omega
  have q2:¬ max (a-b) (-1)≤1→1=r:=by omega
  have hr':=Lib.hid hr;clear hr q1 q2 hab;obtain⟨w1,hw1,A,B,K,hz⟩:=box2 w 137 #[.int .u64 0,.int .u64 N,.bool s] 137 #[.int .u64 0,.int .u64 N',.bool s'];go_enter Tryz.func236,Tryz.ntmps236
  go_wp2_with fail
  rw[← hw1];clear hw1;obtain⟨S,hS0⟩:=cls_of (P:=fun w'=>Blk w' _ _ _∧Blk w' _ _ _∧Kp _ none _ w') w1 ⟨A,B,K⟩;try dsimp only at hS0
  have cA:=fun (x:Ev (S 0)) i=>((hS0 _).1 x.h).1.cell i;have cB:=fun (x:Ev (S 0)) i=>((hS0 _).1 x.h).2.1.cell i;replace A:=A.drew;replace B:=B.drew;replace K:=K.drew;have hevT:=ev_true;refine wp_region_ord S [(0,1),(2,1),(1,2),(3,2),(4,0),(5,0)] [] (by kernel_rfl) (by kernel_rfl) ((hS0 _).2 ⟨A,B,K⟩) ?_;intro _hev;iterate 2 (first|((first|refine oV ?_|refine oQ ?_);intro K hK;go_big_quiet_op;go_big_quiet_on)|refine oS ?_)
  refine oL ?_;intro Kc hKc;go_step;refine(c1 _).mono ?_;rintro e w2 ⟨rfl,k⟩;replace A:=A.kpN k;replace B:=B.kpN k;replace K:=K.tN k;clear k;refine hKc _ _ ((hS0 _).2 ⟨A,B,K⟩) ?_;clear hKc Kc;refine oL ?_;intro Kc hKc;go_step;refine(c2 _).mono ?_;rintro e w3 ⟨rfl,k⟩;replace A:=A.kpN k;replace B:=B.kpN k;replace K:=K.tN k;clear k;refine hKc _ _ ((hS0 _).2 ⟨A,B,K⟩) ?_;clear hKc Kc;iterate 2 (first|((first|refine oV ?_|refine oQ ?_);intro K hK;go_big_quiet_op;go_big_quiet_on)|refine oS ?_)
  refine wpOrd_nil ?_;clear hevT _hev;clear cA cB hS0 S;have cA:=A.cell;have fA:=A.frozen;have cB:=B.cell;have fB:=B.frozen;go_wp2_with fail
  clear cA fA cB fB;go_ret
  refine⟨?_,K⟩;rw[hr'.out];rfl
 case pos=>
  subst hne;have e2:(if a≠a then min (max (a-a) (-1)) 1 else if N=N' then 0 else if N<N' then -a else a)=if N=N' then 0 else if N<N' then -a else a:=if_neg (by simp);rw[e2];clear e2;have n3:wrap64 (-a)=-a:=by unfold wrap64;omega
  by_cases hN:N=N'
  ·
   subst hN;rw[if_pos rfl];obtain⟨w1,hw1,A,B,K,hz⟩:=box2 w 137 #[.int .u64 0,.int .u64 N,.bool s] 137 #[.int .u64 0,.int .u64 N,.bool s'];go_enter Tryz.func236,Tryz.ntmps236
   go_wp2_with fail
   rw[← hw1];clear hw1;obtain⟨S,hS0⟩:=cls_of (P:=fun w'=>Blk w' _ _ _∧Blk w' _ _ _∧Kp _ none _ w') w1 ⟨A,B,K⟩;try dsimp only at hS0
   have cA:=fun (x:Ev (S 0)) i=>((hS0 _).1 x.h).1.cell i;have cB:=fun (x:Ev (S 0)) i=>((hS0 _).1 x.h).2.1.cell i;replace A:=A.drew;replace B:=B.drew;replace K:=K.drew;have hevT:=ev_true;refine wp_region_ord S [(0,1),(2,1),(1,2),(3,2),(4,0),(5,0)] [] (by kernel_rfl) (by kernel_rfl) ((hS0 _).2 ⟨A,B,K⟩) ?_;intro _hev;iterate 2 (first|((first|refine oV ?_|refine oQ ?_);intro K hK;go_big_quiet_op;go_big_quiet_on)|refine oS ?_)
   refine oL ?_;intro Kc hKc;go_step;refine(c1 _).mono ?_;rintro e w2 ⟨rfl,k⟩;replace A:=A.kpN k;replace B:=B.kpN k;replace K:=K.tN k;clear k;refine hKc _ _ ((hS0 _).2 ⟨A,B,K⟩) ?_;clear hKc Kc;refine oL ?_;intro Kc hKc;go_step;refine(c2 _).mono ?_;rintro e w3 ⟨rfl,k⟩;replace A:=A.kpN k;replace B:=B.kpN k;replace K:=K.tN k;clear k;refine hKc _ _ ((hS0 _).2 ⟨A,B,K⟩) ?_;clear hKc Kc;iterate 2 (first|((first|refine oV ?_|refine oQ ?_);intro K hK;go_big_quiet_op;go_big_quiet_on)|refine oS ?_)
   refine wpOrd_nil ?_;clear hevT _hev;clear cA cB hS0 S;have cA:=A.cell;have fA:=A.frozen;have cB:=B.cell;have fB:=B.frozen;go_wp2_with fail
   clear cA fA cB fB;go_ret
   exact⟨rfl,K⟩
  ·
   rw[if_neg hN];have c3:=fun w=>span_less_any 0 N 0 N' w;have e3:decide (0<0∨(0=0∧N<N'))=decide (N<N'):=by simp
   rw[e3] at c3;have n4:¬ (N:Int)=(N':Int):=by omega
   clear e3 hN;by_cases hlt:N<N'
   ·
    rw[if_pos hlt];rw[decide_eq_true hlt] at c3;clear hlt;obtain⟨w1,hw1,A,B,K,hz⟩:=box2 w 137 #[.int .u64 0,.int .u64 N,.bool s] 137 #[.int .u64 0,.int .u64 N',.bool s'];go_enter Tryz.func236,Tryz.ntmps236
    go_wp2_with fail
    rw[← hw1];clear hw1;obtain⟨S,hS0⟩:=cls_of (P:=fun w'=>Blk w' _ _ _∧Blk w' _ _ _∧Kp _ none _ w') w1 ⟨A,B,K⟩;try dsimp only at hS0
    have cA:=fun (x:Ev (S 0)) i=>((hS0 _).1 x.h).1.cell i;have cB:=fun (x:Ev (S 0)) i=>((hS0 _).1 x.h).2.1.cell i;replace A:=A.drew;replace B:=B.drew;replace K:=K.drew;have hevT:=ev_true;refine wp_region_ord S [(0,1),(2,1),(1,2),(3,2),(4,0),(5,0)] [] (by kernel_rfl) (by kernel_rfl) ((hS0 _).2 ⟨A,B,K⟩) ?_;intro _hev;iterate 2 (first|((first|refine oV ?_|refine oQ ?_);intro K hK;go_big_quiet_op;go_big_quiet_on)|refine oS ?_)
    refine oL ?_;intro Kc hKc;go_step;refine(c1 _).mono ?_;rintro e w2 ⟨rfl,k⟩;replace A:=A.kpN k;replace B:=B.kpN k;replace K:=K.tN k;clear k;refine hKc _ _ ((hS0 _).2 ⟨A,B,K⟩) ?_;clear hKc Kc;refine oL ?_;intro Kc hKc;go_step;refine(c2 _).mono ?_;rintro e w3 ⟨rfl,k⟩;replace A:=A.kpN k;replace B:=B.kpN k;replace K:=K.tN k;clear k;refine hKc _ _ ((hS0 _).2 ⟨A,B,K⟩) ?_;clear hKc Kc;iterate 2 (first|((first|refine oV ?_|refine oQ ?_);intro K hK;go_big_quiet_op;go_big_quiet_on)|refine oS ?_)
    refine wpOrd_nil ?_;clear hevT _hev;clear cA cB hS0 S;have cA:=A.cell;have fA:=A.frozen;have cB:=B.cell;have fB:=B.frozen;go_wp2_with fail
    refine(c3 _).mono ?_;rintro e w4 ⟨rfl,k⟩;clear cA fA cB fB;replace A:=A.kpN k;replace B:=B.kpN k;replace K:=K.tN k;have hzk:=k.size;clear k;have cA:=A.cell;have fA:=A.frozen;have cB:=B.cell;have fB:=B.frozen;go_wp2_with fail
    clear cA fA cB fB;go_ret
    exact⟨rfl,K⟩
   ·
    rw[if_neg hlt];rw[decide_eq_false hlt] at c3;clear hlt;obtain⟨w1,hw1,A,B,K,hz⟩:=box2 w 137 #[.int .u64 0,.int .u64 N,.bool s] 137 #[.int .u64 0,.int .u64 N',.bool s'];go_enter Tryz.func236,Tryz.ntmps236
    go_wp2_with fail
    rw[← hw1];clear hw1;obtain⟨S,hS0⟩:=cls_of (P:=fun w'=>Blk w' _ _ _∧Blk w' _ _ _∧Kp _ none _ w') w1 ⟨A,B,K⟩;try dsimp only at hS0
    have cA:=fun (x:Ev (S 0)) i=>((hS0 _).1 x.h).1.cell i;have cB:=fun (x:Ev (S 0)) i=>((hS0 _).1 x.h).2.1.cell i;replace A:=A.drew;replace B:=B.drew;replace K:=K.drew;have hevT:=ev_true;refine wp_region_ord S [(0,1),(2,1),(1,2),(3,2),(4,0),(5,0)] [] (by kernel_rfl) (by kernel_rfl) ((hS0 _).2 ⟨A,B,K⟩) ?_;intro _hev;iterate 2 (first|((first|refine oV ?_|refine oQ ?_);intro K hK;go_big_quiet_op;go_big_quiet_on)|refine oS ?_)
    refine oL ?_;intro Kc hKc;go_step;refine(c1 _).mono ?_;rintro e w2 ⟨rfl,k⟩;replace A:=A.kpN k;replace B:=B.kpN k;replace K:=K.tN k;clear k;refine hKc _ _ ((hS0 _).2 ⟨A,B,K⟩) ?_;clear hKc Kc;refine oL ?_;intro Kc hKc;go_step;refine(c2 _).mono ?_;rintro e w3 ⟨rfl,k⟩;replace A:=A.kpN k;replace B:=B.kpN k;replace K:=K.tN k;clear k;refine hKc _ _ ((hS0 _).2 ⟨A,B,K⟩) ?_;clear hKc Kc;iterate 2 (first|((first|refine oV ?_|refine oQ ?_);intro K hK;go_big_quiet_op;go_big_quiet_on)|refine oS ?_)
    refine wpOrd_nil ?_;clear hevT _hev;clear cA cB hS0 S;have cA:=A.cell;have fA:=A.frozen;have cB:=B.cell;have fB:=B.frozen;go_wp2_with fail
    refine(c3 _).mono ?_;rintro e w4 ⟨rfl,k⟩;clear cA fA cB fB;replace A:=A.kpN k;replace B:=B.kpN k;replace K:=K.tN k;have hzk:=k.size;clear k;have cA:=A.cell;have fA:=A.frozen;have cB:=B.cell;have fB:=B.frozen;go_wp2_with fail
    clear cA fA cB fB;go_ret
    exact⟨rfl,K⟩
theorem span_compare_any (N:Nat) (s:Bool) (N':Nat) (s':Bool) (w:World) :
  Calls Tryz.prog 236 #[.agg #[.int .u64 0,.int .u64 N,.bool s],.agg #[.int .u64 0,.int .u64 N',.bool s']] w fun e w'=>e=.returned (.int .i64 (cmpN N s N' s'))∧Kp w.heap.size none w w':=
 compare_aux N s N' s' _ _ rfl rfl ⟨sgN_three _ _,sgN_three _ _⟩ w
theorem sgn_dec {s:Bool} {V:Int} (g:if s=true then V≤0 else 0≤V) (h:V≠0):s=decide (V<0):=by
 cases s with
 | false=>simp only[Bool.false_eq_true,if_false] at g;exact(decide_eq_false (by omega)).symm
 | true=>simp only[if_true] at g;exact(decide_eq_true (by omega)).symm
def Sm (p:Pt):Prop:=-1073741824≤p.x∧p.x≤1073741824∧-1073741824≤p.y∧p.y≤1073741824
theorem mul_sm {a b:Int} (ha:-1073741824≤a∧a≤1073741824) (hb:-1073741824≤b∧b≤1073741824):-1152921504606846976≤a * b∧a * b≤1152921504606846976:=by
 have h1:(a * b).natAbs≤1073741824 * 1073741824:=by rw[Int.natAbs_mul];exact Nat.mul_le_mul (by omega) (by omega)
 omega
set_option maxHeartbeats 800000 in
theorem span_Cross_any (p q:Pt) (hp:Sm p) (hq:Sm q) (w:World) :
  Calls Tryz.prog 216 #[.agg #[.int .i64 p.x,.int .i64 p.y],.agg #[.int .i64 q.x,.int .i64 q.y]] w fun e w'=>(∃ n:Int,e=.returned (.int .i64 n)∧(n<0↔crs p q<0))∧Kp w.heap.size none w w':=by
 obtain⟨p1,p2,p3,p4⟩:=hp;obtain⟨q1,q2,q3,q4⟩:=hq;have m1:=mul_sm (a:=p.x) (b:=q.y) ⟨p1,p2⟩ ⟨q3,q4⟩;have m2:=mul_sm (a:=p.y) (b:=q.x) ⟨p3,p4⟩ ⟨q1,q2⟩;have d1:=fun w=>span_product_any p.x q.y (by omega) (by omega) (by omega) w;have d2:=fun w=>span_product_any p.y q.x (by omega) (by omega) (by omega) w;obtain⟨s,hs⟩:∃ s,s=!(decide (p.x<0)==decide (q.y<0)):=⟨_,rfl⟩;obtain⟨s',hs'⟩:∃ s',s'=!(decide (p.y<0)==decide (q.x<0)):=⟨_,rfl⟩;have g1:=sgn_prod p.x q.y;have g2:=sgn_prod p.y q.x;rw[← hs] at d1 g1;rw[← hs'] at d2 g2
 have hn:=cmpN_neg (V:=p.x * q.y) (V':=p.y * q.x) (s:=s) (s':=s')
  (sgn_dec g1) (sgn_dec g2)
 have hc:crs p q<0↔p.x * q.y<p.y * q.x:=by unfold crs;omega
 rw[← hc] at hn;have d3:=fun w=>span_compare_any (p.x * q.y).natAbs s (p.y * q.x).natAbs s' w;generalize cmpN (p.x * q.y).natAbs s (p.y * q.x).natAbs s'=r at *;generalize (p.x * q.y).natAbs=u at *;generalize (p.y * q.x).natAbs=v at *;replace hn:=Lib.hid hn;clear hc g1 g2 hs hs' m1 m2;obtain⟨w1,hw1,A,B,K,hz⟩:=box2 w 73 #[.int .i64 p.x,.int .i64 p.y] 73 #[.int .i64 q.x,.int .i64 q.y];go_enter Tryz.func216,Tryz.ntmps216
 go_wp2_with fail
 rw[← hw1];clear hw1;obtain⟨S,hS0⟩:=cls_of (P:=fun w'=>Blk w' _ _ _∧Blk w' _ _ _∧Kp _ none _ w') w1 ⟨A,B,K⟩;try dsimp only at hS0
 have cA:=fun (x:Ev (S 0)) i=>((hS0 _).1 x.h).1.cell i;have cB:=fun (x:Ev (S 0)) i=>((hS0 _).1 x.h).2.1.cell i;replace A:=A.drew;replace B:=B.drew;replace K:=K.drew;have hevT:=ev_true;refine wp_region_ord S [(0,0),(1,1),(2,0),(3,1),(5,0),(6,1),(7,0),(8,1),(4,2),(9,2),(10,2),(11,0)] [] (by kernel_rfl) (by kernel_rfl) ((hS0 _).2 ⟨A,B,K⟩) ?_;intro _hev;iterate 8 (first|((first|refine oV ?_|refine oQ ?_);intro K hK;go_big_quiet_op;go_big_quiet_on)|refine oS ?_)
 refine oL ?_;intro Kc hKc;go_step;refine(d1 _).mono ?_;rintro e w2 ⟨rfl,k⟩;replace A:=A.kpN k;replace B:=B.kpN k;replace K:=K.tN k;clear k;refine hKc _ _ ((hS0 _).2 ⟨A,B,K⟩) ?_;clear hKc Kc;refine oL ?_;intro Kc hKc;go_step;refine(d2 _).mono ?_;rintro e w3 ⟨rfl,k⟩;replace A:=A.kpN k;replace B:=B.kpN k;replace K:=K.tN k;clear k;refine hKc _ _ ((hS0 _).2 ⟨A,B,K⟩) ?_;clear hKc Kc;refine oL ?_;intro Kc hKc;go_step;refine(d3 _).mono ?_;rintro e w4 ⟨rfl,k⟩;replace A:=A.kpN k;replace B:=B.kpN k;replace K:=K.tN k;clear k;refine hKc _ _ ((hS0 _).2 ⟨A,B,K⟩) ?_;clear hKc Kc;iterate 1 (first|((first|refine oV ?_|refine oQ ?_);intro K hK;go_big_quiet_op;go_big_quiet_on)|refine oS ?_)
 refine wpOrd_nil ?_;clear hevT _hev;clear cA cB hS0 S;have cA:=A.cell;have fA:=A.frozen;have cB:=B.cell;have fB:=B.frozen;go_wp2_with fail
 clear cA fA cB fB;go_ret
 exact⟨⟨_,rfl,hn.out⟩,K⟩
def encI (x:Int):List Value:=[.int .i64 x]
def encPt (p:Pt):List Value:=[.int .i64 p.x,.int .i64 p.y]
theorem Rd.of_blk {α:Type} {w:World} {b:Nat} {T:TypeId} {cs:Array Value} {sz:Nat} {enc:α→List Value} {xs:List α} (h:Blk w b T cs) (hc:∀ i (hi:i<xs.length) j v,(enc xs[i])[j]?=some v→cs[i * sz+j]?=some v) :
  Rd none w sz enc (some ⟨b,0,none⟩) xs.length xs:=
 ⟨rfl,fun _=>⟨b,0,rfl,h.lt,by simp,fun i hi j v hv=>by rw[h.cell,Nat.zero_add];exact hc i hi j v hv⟩⟩
theorem rd_int2 {w:World} {b:Nat} {T:TypeId} {x y:Int} (h:Blk w b T #[.int .i64 x,.int .i64 y]):Rd none w 1 encI (some ⟨b,0,none⟩) 2 [x,y]:=
 Rd.of_blk h fun i hi j v hv=>by
  match i,hi,j,hv with
  | 0,_,0,hv=>exact hv
  | 1,_,0,hv=>exact hv
theorem rd_int4 {w:World} {b:Nat} {T:TypeId} {x y z u:Int} (h:Blk w b T #[.int .i64 x,.int .i64 y,.int .i64 z,.int .i64 u]):Rd none w 1 encI (some ⟨b,0,none⟩) 4 [x,y,z,u]:=
 Rd.of_blk h fun i hi j v hv=>by
  match i,hi,j,hv with
  | 0,_,0,hv=>exact hv
  | 1,_,0,hv=>exact hv
  | 2,_,0,hv=>exact hv
  | 3,_,0,hv=>exact hv
theorem rd_pt2 {w:World} {b:Nat} {T:TypeId} {p q:Pt} (h:Blk w b T #[.int .i64 p.x,.int .i64 p.y,.int .i64 q.x,.int .i64 q.y]):Rd none w 2 encPt (some ⟨b,0,none⟩) 2 [p,q]:=
 Rd.of_blk h fun i hi j v hv=>by
  match i,hi,j,hv with
  | 0,_,0,hv=>exact hv
  | 0,_,1,hv=>exact hv
  | 1,_,0,hv=>exact hv
  | 1,_,1,hv=>exact hv
def Fr1 (x:Int):Prop:=-268435456≤x∧x≤268435456
theorem within_t {n lo hi:Int} (h1:lo≤n) (h2:n≤hi) (w:World):Calls Tryz.prog 118 #[.int .i64 n,.int .i64 lo,.int .i64 hi] w fun e w'=>e=.returned (.bool true)∧Kp w.heap.size none w w':=by
 have:=span_within_any n lo hi w;rwa [btw_t h1 h2] at this
def IdxAt (n:Nat) (w:World) (v:Value) (wr:World):Prop:=∃ i:Nat,v=.int .i64 i∧i≤n∧Kp w.heap.size none w wr
set_option maxHeartbeats 400000 in
theorem span_far_any (A:Option Addr) (cap:Nat) (xs:List Int) (w:World) (hr:Rd none w 1 encI A xs.length xs) (hn:xs.length≤1000000) (hx:∀ x∈xs,Fr1 x) :
  Calls Tryz.prog 117 #[.slice A xs.length cap] w fun e w'=>e=.returned (.bool true)∧Kp w.heap.size none w w':=by
 go_enter Tryz.func117,Tryz.ntmps117
 go_wp2_with fail
 go_loopw [7] (fun v wr=>IdxAt xs.length w v wr) (fun v _=>(xs.length:Int).toNat-(intOf v).toNat)
 case atStart=>exact⟨0,rfl,Nat.zero_le _,Kp.refl _ _ _⟩
 case round=>
  obtain⟨i,rfl,hi,KK⟩:=hrel;by_cases h:i<xs.length
  ·
   obtain⟨b,o,rfl,hb,-,hc⟩:=(hr.kpN KK).at_ (by omega);have c0:=Rd.cell1 (f:=fun x=>Value.int .i64 x) (fun _=>rfl) hc i h;have hxi:=hx _ (List.getElem_mem h);generalize xs[i]=x at *;have hii:(i:Int)<(xs.length:Int):=by omega
   have hi0:(0:Int)≤(i:Int):=by omega
   have hm:(xs.length:Int).toNat-((i+1:Nat):Int).toNat<(xs.length:Int).toNat-(i:Int).toNat:=by omega
   replace hm:=Lib.hid hm;clear hc hr hx;go_wp2_with fail
   refine(within_t hxi.1 hxi.2 _).mono ?_;rintro e w2 ⟨rfl,k⟩;replace h:=Lib.hid h;go_wp2
   go_roundw
   case rel=>exact⟨i+1,by congr 1,h.out,KK.tN k⟩
   case measure=>exact hm.out
  ·
   obtain rfl:i=xs.length:=by omega
   go_wp2
   go_ret
   exact⟨rfl,KK⟩
def Fr (p:Pt):Prop:=Fr1 p.x∧Fr1 p.y
set_option maxHeartbeats 400000 in
theorem span_asks_any (A:Option Addr) (cap:Nat) (r:Int) (xs:List Pt) (w:World) (hr:Rd none w 2 encPt A xs.length xs) (hn:xs.length≤1000000) (hx:∀ x∈xs,Fr x) (h0:0≤r) (h1:r≤268435456) :
  Calls Tryz.prog 73 #[.int .i64 r,.slice A xs.length cap] w fun e w'=>e=.returned (.bool true)∧Kp w.heap.size none w w':=by
 go_enter Tryz.func73,Tryz.ntmps73
 go_wp2_with fail
 go_loopw [9] (fun v wr=>IdxAt xs.length w v wr) (fun v _=>(xs.length:Int).toNat-(intOf v).toNat)
 case atStart=>exact⟨0,rfl,Nat.zero_le _,Kp.refl _ _ _⟩
 case round=>
  obtain⟨i,rfl,hi,KK⟩:=hrel;by_cases h:i<xs.length
  ·
   obtain⟨b,o,rfl,hb,-,hc⟩:=(hr.kpN KK).at_ (by omega);have c0:=hc i h 0 _ rfl;have c1:=hc i h 1 _ rfl;rw[Nat.add_zero] at c0;rw[← Nat.add_assoc] at c1;have hxi:=hx _ (List.getElem_mem h);generalize xs[i]=x at *;have hii:(i:Int)<(xs.length:Int):=by omega
   have hi0:(0:Int)≤(i:Int):=by omega
   have hm:(xs.length:Int).toNat-((i+1:Nat):Int).toNat<(xs.length:Int).toNat-(i:Int).toNat:=by omega
   replace hm:=Lib.hid hm;clear hc hr hx;obtain⟨w1,hw1⟩:∃ q9,q9=(wr.alloc (.cells #[.int .i64 x.x,.int .i64 x.y] 73)).alloc (.cells #[.int .i64 x.x,.int .i64 x.y] 2):=⟨_,rfl⟩;have L1:Blk w1 (wr.heap.size+1) 2 #[.int .i64 x.x,.int .i64 x.y]:=by rw[hw1];exact Blk.newAt _ _ _ (by simp)
   have k1:Kp wr.heap.size none wr w1:=by rw[hw1];exact Kp.new2 _ _ _
   have hrd:=rd_int2 L1;go_wp2_with fail
   rw[← hw1];refine(span_far_any _ _ [x.x,x.y] _ hrd (by simp) (by rintro z hz;simp at hz;rcases hz with rfl|rfl;exact hxi.1;exact hxi.2)).mono ?_;rintro e w2 ⟨rfl,k⟩;replace KK:=(KK.tN k1).thenN k (Nat.le_refl _);clear hw1 k1 k c0 c1 hrd L1;replace h:=Lib.hid h;go_wp2
   go_roundw
   case rel=>exact⟨i+1,by congr 1,h.out,KK⟩
   case measure=>exact hm.out
  ·
   obtain rfl:i=xs.length:=by omega
   go_wp2_with fail
   refine(within_t h0 h1 _).mono ?_;rintro e w2 ⟨rfl,k⟩;go_wp2
   go_ret
   exact⟨rfl,KK.tN k⟩
theorem n2_le {p:Pt} (h:Sm p):0≤n2 p∧n2 p≤2305843009213693952:=by
 have a:=mul_sm (a:=p.x) (b:=p.x) ⟨h.1,h.2.1⟩ ⟨h.1,h.2.1⟩;have b:=mul_sm (a:=p.y) (b:=p.y) ⟨h.2.2.1,h.2.2.2⟩ ⟨h.2.2.1,h.2.2.2⟩;have c:=sq_nonneg' p.x;have d:=sq_nonneg' p.y;unfold n2;omega
theorem span_square_any (p:Pt) (h:Sm p) (w:World) :
  Calls Tryz.prog 119 #[.agg #[.int .i64 p.x,.int .i64 p.y]] w fun e w'=>e=.returned (.int .i64 (n2 p))∧Kp w.heap.size none w w':=by
 have a:=mul_sm (a:=p.x) (b:=p.x) ⟨h.1,h.2.1⟩ ⟨h.1,h.2.1⟩;have b:=mul_sm (a:=p.y) (b:=p.y) ⟨h.2.2.1,h.2.2.2⟩ ⟨h.2.2.1,h.2.2.2⟩;have e1:wrap64 (p.x * p.x)=p.x * p.x:=by generalize p.x * p.x=z at *;unfold wrap64;omega
 have e2:wrap64 (p.y * p.y)=p.y * p.y:=by generalize p.y * p.y=z at *;unfold wrap64;omega
 have e3:wrap64 (p.x * p.x+p.y * p.y)=n2 p:=by unfold n2;generalize p.x * p.x=z at *;generalize p.y * p.y=u at *;unfold wrap64;omega
 clear a b h;go_enter Tryz.func119,Tryz.ntmps119
 go_wp2
 go_ret
 refine⟨?_,Kp.new1 _ _⟩
 show Ending.returned (.int .i64 (wrap64 (p.x * p.x+p.y * p.y)))=_
 rw[e3]
end Go.Proofs.YtdhiappifnflpaaGreat
