/- Mul, Quot, Square, MulDiv, comparisons: the walks of span, fifth part. Roots, comparisons of products, whether a segment comes near: the walks of span, sixth part. -/
import Derived.Test.YtdhiappifnflpaaGreatDoorM12
import Derived.Test.YtdhiappifnflpaaGreatDoorM03
import Derived.LoopTactic
set_option maxRecDepth 20000
set_option maxHeartbeats 1000000
namespace Go.Proofs.YtdhiappifnflpaaGreatDoor
open Go.RowKit
theorem cls_of {P:World→Prop} (w:World) (_:P w):∃ S:Nat→World→Prop,∀ w',S 0 w'↔P w':=⟨fun _=>P,fun _=>Iff.rfl⟩
theorem sgn_prod (a b:Int):if (!(decide (a<0)==decide (b<0)))=true then a * b≤0 else 0≤a * b:=by
 by_cases ha:a<0<;>by_cases hb:b<0<;>simp only[ha,hb,decide_true,decide_false,beq_self_eq_true,Bool.not_true,Bool.false_eq_true,if_false,if_true,show (true==false)=false from rfl,show (false==true)=false from rfl,Bool.not_false]
 · have:=Int.mul_nonneg (show 0≤-a by omega) (show 0≤-b by omega);grind
 · have:=Int.mul_nonneg (show 0≤-a by omega) (show 0≤b by omega);grind
 · have:=Int.mul_nonneg (show 0≤a by omega) (show 0≤-b by omega);grind
 · exact Int.mul_nonneg oM oM
theorem fdiv_one (x:Int):Int.fdiv x 1=x:=by rw[fdiv_pos x (by decide)];simp
theorem cdiv_one (x:Int):cdiv x 1=x:=by unfold cdiv;rw[fdiv_one];omega
theorem does_mul (a b:Int) (ha:Fit1 a) (hb:Fit1 b) (hp:Fit1 (a * b)):Does 82 (· * ·) (· * ·) (a,b):=by
 intro w;simp only;have hpr:=fun w=>span_product_any a b (by unfold Fit1 at ha;omega) (by unfold Fit1 at hb;omega) (by unfold Fit1 at hp;omega) w;have hdv:=fun w=>span_divide_any (a * b) 1 _ (by decide) oM (by unfold Fit1 at hp;omega) (sgn_prod a b) w;rw[fdiv_one,cdiv_one] at hdv;generalize a * b=p at *;generalize (!(decide (a<0)==decide (b<0)))=s at *;go_enter Tryz.func82,Tryz.ntmps82
 go_wp2_with fail
 refine mK (hpr _) fun w1 k1=>?_;go_wp2_with fail
 refine mK (hdv _) fun w2 k2=>?_;go_wp2
 exact bodyPost_ret (by simp[results,Tryz.results82,go_sem]) rfl ⟨rfl,k1.thenN k2 (Nat.le_refl _)⟩
theorem does_quot (a b:Int) (ha:Fit1 a) (hb:Fit1 b) (h0:b≠0):Does 96 Int.fdiv cdiv (a,b):=by
 intro w;simp only;have hpr:=fun w=>span_product_any a 1 (by unfold Fit1 at ha;omega) oM (by unfold Fit1 at ha;omega) w;have hdv:=fun w=>span_divide_any (a * 1) b _ h0 (by unfold Fit1 at hb;omega) (by unfold Fit1 at ha;omega) (sgn_prod a 1) w;have es:(!(decide (a<0)==decide ((1:Int)<0)))=decide (a<0):=by by_cases h:a<0<;>simp[h]
 rw[Int.mul_one,es] at hpr hdv;go_enter Tryz.func96,Tryz.ntmps96
 go_wp2_with fail
 refine mK (hpr _) fun w1 k1=>?_;go_wp2_with fail
 refine mK (hdv _) fun w2 k2=>?_;go_wp2
 exact bodyPost_ret (by simp[results,Tryz.results96,go_sem]) rfl ⟨rfl,k1.thenN k2 (Nat.le_refl _)⟩
theorem pairs_has {a b:Sp} (ha:a.lo≤a.hi) (hb:b.lo≤b.hi):∀ p∈pairsL a b,a.has p.1∧b.has p.2:=by
 intro p hp;simp only[pairsL,List.mem_cons,List.not_mem_nil,or_false] at hp;unfold Sp.has;rcases hp with rfl|rfl|rfl|rfl<;>simp only<;>omega
theorem span_Mul_any (a b:Sp) (ha:a.fit) (hb:b.fit) (hr:∀ x y,a.has x→b.has y→Fit1 (x * y)) (w:World) :
  Calls Tryz.prog 37 #[a,b] w fun e w'=>e=.returned (.tuple #[.agg #[(mulS a b).lo,(mulS a b).hi],(0:Int)])∧Kp w.heap.size none w w':=by
 have hp:=pairs_has ha.2.1 hb.2.1;have hc:=fun w=>combine_mul a b (· * ·) (· * ·) ha hb (fun p h=>does_mul p.1 p.2 (by have:=(hp p h).1;unfold Sp.fit at ha;unfold Sp.has at this;unfold Fit1;omega) (by have:=(hp p h).2;unfold Sp.fit at hb;unfold Sp.has at this;unfold Fit1;omega) (hr _ _ (hp p h).1 (hp p h).2)) (fun p h=>⟨hr _ _ (hp p h).1 (hp p h).2,hr _ _ (hp p h).1 (hp p h).2⟩) w;have e1:minC (· * ·) a b=(mulS a b).lo:=rfl;have e2:maxC (· * ·) a b=(mulS a b).hi:=rfl;rw[e1,e2] at hc;clear e1 e2 hp;generalize mulS a b=m at *;obtain⟨w1,hw1,A,B,R,K,hz⟩:=box3 w 29 a 29 b 29 #[(0:Int),(0:Int)];go_enter Tryz.func37,Tryz.ntmps37
 go_wp2_with fail
 rw[← hw1];clear hw1;refine mK (hc _) fun w2 k=>?_;replace A:=A.kpN k;replace B:=B.kpN k;replace R:=R.kpN k;replace K:=K.thenN k oM;have hzk:=k.size;clear k;have cA:=A.cell;have fA:=A.frozen;have cB:=B.cell;have fB:=B.frozen;have cR:=R.cell;have fR:=R.frozen;go_wp2_with fail
 clear cA fA cB fB cR fR;have BR:=((R.set_ 0 (.int .i64 m.lo)).set_ 1 (.int .i64 m.hi));have cR:=BR.cell;exact bodyPost_ret (by simp[results,Tryz.results37,go_sem,cR]) rfl ⟨rfl,((K.setNew (by simp<;>omega) _).setNew (by simp<;>omega) _)⟩
theorem fdiv_fit {x y:Int} (h:Fit1 x) (h0:y≠0):Fit1 (Int.fdiv x y)∧Fit1 (cdiv x y):=by
 unfold Fit1 at *;have hq:x.natAbs / y.natAbs≤x.natAbs:=Nat.div_le_self _ _
 have key:∀ V c:Int,c≠0→V.natAbs≤1152921504606846976→(V.natAbs / c.natAbs+if 0<V.natAbs % c.natAbs then 1 else 0)≤1152921504606846976:=fun V c hc hV=>by
  have hk:0<c.natAbs:=by omega
  have hm:=Nat.div_add_mod V.natAbs c.natAbs;have hq:V.natAbs / c.natAbs≤V.natAbs:=Nat.div_le_self _ _;split
  ·
   rename_i h;rcases Nat.lt_or_ge 1 c.natAbs with h1|h1
   ·
    have:=Nat.mul_le_mul_left (V.natAbs / c.natAbs) h1;have e:V.natAbs / c.natAbs * c.natAbs=c.natAbs * (V.natAbs / c.natAbs):=Nat.mul_comm _ _;omega
   ·
    have e:c.natAbs=1:=by omega
    rw[e] at h;have:=Nat.mod_one V.natAbs;omega
  · omega
 have k:=key x y h0 oM;have hq':x.natAbs / y.natAbs≤1152921504606846976:=by omega
 have pos:∀ n:Nat,n≤1152921504606846976→-1152921504606846976≤(n:Int)∧(n:Int)≤1152921504606846976:=fun n h=>by omega
 have neg:∀ n:Nat,n≤1152921504606846976→-1152921504606846976≤-(n:Int)∧-(n:Int)≤1152921504606846976:=fun n h=>by omega
 rcases Int.lt_trichotomy y 0 with hy|hy|hy
 ·
  rcases Int.le_total x 0 with hx|hx
  · obtain⟨e1,e2⟩:=div_same x y h0 (.inr ⟨hx,hy⟩);rw[e1,e2];exact⟨pos _ hq',pos _ k⟩
  · obtain⟨e1,e2⟩:=div_diff x y h0 (.inr ⟨hx,hy⟩);rw[e1,e2];exact⟨neg _ k,neg _ hq'⟩
 · exact absurd hy h0
 ·
  rcases Int.le_total x 0 with hx|hx
  · obtain⟨e1,e2⟩:=div_diff x y h0 (.inl ⟨hx,hy⟩);rw[e1,e2];exact⟨neg _ k,neg _ hq'⟩
  · obtain⟨e1,e2⟩:=div_same x y h0 (.inl ⟨hx,hy⟩);rw[e1,e2];exact⟨pos _ hq',pos _ k⟩
theorem span_Quot_any (a b:Sp) (ha:a.fit) (hb:b.fit) (h0:0<b.lo) (w:World) :
  Calls Tryz.prog 49 #[a,b] w fun e w'=>e=.returned (.tuple #[.agg #[(quotS a b).lo,(quotS a b).hi],(0:Int)])∧Kp w.heap.size none w w':=by
 have hp:=pairs_has ha.2.1 hb.2.1;have hn:∀ p∈pairsL a b,p.2≠0:=fun p h=>by have:=(hp p h).2;unfold Sp.has at this;omega
 have hx:∀ p∈pairsL a b,Fit1 p.1:=fun p h=>by have:=(hp p h).1;unfold Sp.fit at ha;unfold Sp.has at this;unfold Fit1;omega
 have hc:=fun w=>combine_quot a b Int.fdiv cdiv ha hb (fun p h=>does_quot p.1 p.2 (hx p h) (by have:=(hp p h).2;unfold Sp.fit at hb;unfold Sp.has at this;unfold Fit1;omega) (hn p h)) (fun p h=>fdiv_fit (hx p h) (hn p h)) w;have e1:minC Int.fdiv a b=(quotS a b).lo:=rfl;have e2:maxC cdiv a b=(quotS a b).hi:=rfl;rw[e1,e2] at hc
 have hi:∀ w,Calls Tryz.prog 95 #[b,(0:Int)] w fun e w'=>e=.returned (.bool false)∧Kp w.heap.size none w w':=fun w=>by
  have:=span_In_any b 0 hb w;rwa [show btw 0 b.lo b.hi=false from by simp[btw];omega] at this
 clear e1 e2 hp hn hx;generalize quotS a b=m at *;obtain⟨w1,hw1,A,B,R,K,hz⟩:=box3 w 29 a 29 b 29 #[(0:Int),(0:Int)];go_enter Tryz.func49,Tryz.ntmps49
 go_wp2_with fail
 rw[← hw1];clear hw1;refine mK (span_valid_any a b ha hb _) fun w2 k=>?_;replace A:=A.kpN k;replace B:=B.kpN k;replace R:=R.kpN k;replace K:=K.thenN k oM;have hzk:=k.size;clear k;have cA:=A.cell;have fA:=A.frozen;have cB:=B.cell;have fB:=B.frozen;have cR:=R.cell;have fR:=R.frozen;go_wp2_with fail
 refine mK (hi _) fun w3 k=>?_;clear cA fA cB fB cR fR;replace A:=A.kpN k;replace B:=B.kpN k;replace R:=R.kpN k;replace K:=K.thenN k oM;have hzk:=k.size;clear k;have cA:=A.cell;have fA:=A.frozen;have cB:=B.cell;have fB:=B.frozen;have cR:=R.cell;have fR:=R.frozen;go_wp2_with fail
 refine mK (hc _) fun w4 k=>?_;clear cA fA cB fB cR fR;replace A:=A.kpN k;replace B:=B.kpN k;replace R:=R.kpN k;replace K:=K.thenN k oM;have hzk:=k.size;clear k;have cA:=A.cell;have fA:=A.frozen;have cB:=B.cell;have fB:=B.frozen;have cR:=R.cell;have fR:=R.frozen;go_wp2_with fail
 clear cA fA cB fB cR fR;have BR:=((R.set_ 0 (.int .i64 m.lo)).set_ 1 (.int .i64 m.hi));have cR:=BR.cell;exact bodyPost_ret (by simp[results,Tryz.results49,go_sem,cR]) rfl ⟨rfl,((K.setNew (by simp<;>omega) _).setNew (by simp<;>omega) _)⟩
theorem span_Square_any (a:Sp) (ha:a.fit) (h1:-1073741824≤a.lo) (h2:a.hi≤1073741824) (w:World) :
  Calls Tryz.prog 48 #[a] w fun e w'=>e=.returned (.tuple #[.agg #[(squareS a).lo,(squareS a).hi],(0:Int)])∧Kp w.heap.size none w w':=by
 obtain⟨l,hl⟩:∃ l,l=max 0 (max a.lo (-a.hi)):=⟨_,rfl⟩;obtain⟨h,hh⟩:∃ h,h=max (-a.lo) a.hi:=⟨_,rfl⟩;have hs:squareS a=⟨l * l,h * h⟩:=by rw[hl,hh];rfl
 rw[hs];obtain⟨f1,f2,f3⟩:=ha;have w1:wrap64 (-a.hi)=-a.hi:=by unfold wrap64;omega
 have w2:wrap64 (-a.lo)=-a.lo:=by unfold wrap64;omega
 have el:(if (if 0<a.lo then a.lo else 0) < -a.hi then -a.hi else if 0<a.lo then a.lo else 0)=l:=by split<;>split<;>omega
 have eh:max (-a.lo) a.hi=h:=hh.symm;have bl:l≤h:=by omega
 have b0:0≤l:=by omega
 have bh:h≤1073741824:=by omega
 have m1:l * l≤h * h:=Int.mul_le_mul bl bl b0 oM;have m2:h * h≤1073741824 * 1073741824:=Int.mul_le_mul bh bh oM oM;have m0:0≤l * l:=Int.mul_nonneg b0 b0;have x1:wrap64 (l * l)=l * l:=by generalize l * l=z at *;unfold wrap64;omega
 have x2:wrap64 (h * h)=h * h:=by generalize h * h=z at *;unfold wrap64;omega
 have hends:=fun w=>span_ends_any (l * l) (h * h) ⟨by show _≤l * l;omega,by show l * l≤h * h;omega,by show h * h≤_;omega⟩ w;have hk:=fun w=>span_Check_any a ⟨f1,f2,f3⟩ w;have nh:¬ (1073741824:Int)<h:=by omega
 clear hl hh hs f1 f2 f3 bl b0 bh m1 m2 m0 h1 h2;obtain⟨p,hp⟩:∃ p,p=l * l:=⟨_,rfl⟩;obtain⟨q,hq⟩:∃ q,q=h * h:=⟨_,rfl⟩;rw[← hp,← hq] at hends ⊢;rw[← hp] at x1;rw[← hq] at x2;have y1:wrap64 (l * l)=p:=by rw[← hp];exact x1
 have y2:wrap64 (h * h)=q:=by rw[← hq];exact x2
 clear hp hq x1 x2;obtain⟨w1,hw1,A,R,K,hz⟩:=box2 w 29 a 29 #[(0:Int),(0:Int)];go_enter Tryz.func48,Tryz.ntmps48
 go_wp2_with fail
 rw[← hw1];clear hw1;refine mK (hk _) fun w2 k=>?_;replace A:=A.kpN k;replace R:=R.kpN k;replace K:=K.thenN k oM;have hzk:=k.size;clear k;have cA:=A.cell;have fA:=A.frozen;have cR:=R.cell;have fR:=R.frozen;go_wp2_with fail
 clear cA fA cR fR;obtain⟨S,hS0⟩:=cls_of (P:=fun w'=>Blk w' _ _ _∧Blk w' _ _ _∧Kp _ none _ w') w2 ⟨A,R,K⟩;try dsimp only at hS0
 have cA:=fun (x:Ev (S 0)) i=>((hS0 _).1 x.h).1.cell i;have cR:=fun (x:Ev (S 0)) i=>((hS0 _).1 x.h).2.1.cell i;replace A:=A.drew;replace R:=R.drew;replace K:=K.drew;have hevT:=ev_true;refine wro S [(0,0),(1,1),(2,0),(3,1),(4,0),(5,0),(6,0),(7,1),(8,0),(9,0),(10,1),(11,0),(12,0),(13,0)] [] ((hS0 _).2 ⟨A,R,K⟩) ?_;intro _hev;refine oX ?_;refine wpOrd_nil ?_;clear hevT _hev;clear cA cR hS0 S;generalize w2.drew=w3 at *;have cA:=A.cell;have fA:=A.frozen;have cR:=R.cell;have fR:=R.frozen;go_wp2_with fail
 refine mK (hends _) fun w4 k=>?_;clear cA fA cR fR;replace A:=A.kpN k;replace R:=R.kpN k;replace K:=K.thenN k oM;have hzk:=k.size;clear k;have cA:=A.cell;have fA:=A.frozen;have cR:=R.cell;have fR:=R.frozen;go_wp2_with fail
 clear cA fA cR fR;have BR:=((R.set_ 0 (.int .i64 p)).set_ 1 (.int .i64 q));have cR:=BR.cell;exact bodyPost_ret (by simp[results,Tryz.results48,go_sem,cR]) rfl ⟨rfl,((K.setNew (by simp<;>omega) _).setNew (by simp<;>omega) _)⟩
structure RootSt (n j out bit:Nat):Prop where
 jl:j≤32
 bt:bit=2 ^ j / 2
 mul:∃ m,out=2 ^ j * m
 lo:out * out≤n
 hi:n<(out+2 ^ j) * (out+2 ^ j)
 top:out+2 ^ j≤4294967296
theorem RootSt.start {n:Nat} (h:n<18446744073709551616):RootSt n 32 0 2147483648:=
 ⟨Nat.le_refl _,rfl,⟨0,rfl⟩,Nat.zero_le _,by rw[Nat.zero_add];exact h,by decide⟩
theorem RootSt.step {n j out bit:Nat} (h:RootSt n j out bit) (hb:0<bit) :
  out ||| bit=out+bit∧out+bit<4294967296∧((out+bit) * (out+bit)≤n→RootSt n (j-1) (out+bit) (bit / 2))∧(n<(out+bit) * (out+bit)→RootSt n (j-1) out (bit / 2)):=by
 obtain⟨h1,h2,⟨m,h3⟩,h4,h5,h6⟩:=h;cases j with
 | zero=>simp at h2;omega
 | succ i=>
  have e:2 ^ (i+1)=2 * 2 ^ i:=by rw[Nat.pow_succ,Nat.mul_comm]
  have hp:=Nat.two_pow_pos i;have hbit:bit=2 ^ i:=by rw[h2,e];omega
  refine⟨?_,by omega,fun hx=>⟨by omega,by rw[hbit];rfl,⟨2 * m+1,?_⟩,hx,?_,?_⟩,fun hx=>⟨by omega,by rw[hbit];rfl,⟨2 * m,?_⟩,h4,?_,?_⟩⟩
  · rw[h3];exact(Nat.two_pow_add_eq_or_of_lt (by rw[hbit,e];omega) m).symm
  · rw[h3,hbit,e,Nat.add_sub_cancel,Nat.mul_add,Nat.mul_one,Nat.mul_comm 2 (2 ^ i),Nat.mul_assoc]
  · rw[Nat.add_sub_cancel,← hbit,Nat.add_assoc,← Nat.two_mul,hbit,← e];exact h5
  · rw[Nat.add_sub_cancel,hbit];omega
  · rw[h3,e,Nat.add_sub_cancel,Nat.mul_comm 2 (2 ^ i),Nat.mul_assoc]
  · rw[Nat.add_sub_cancel,← hbit];exact hx
  · rw[Nat.add_sub_cancel];omega
theorem RootSt.done {n j out bit:Nat} (h:RootSt n j out bit) (hb:bit=0):out * out≤n∧n<(out+1) * (out+1):=by
 obtain⟨h1,h2,_,h4,h5,h6⟩:=h;cases j with
 | zero=>exact⟨h4,h5⟩
 | succ i=>
  have e:2 ^ (i+1)=2 * 2 ^ i:=by rw[Nat.pow_succ,Nat.mul_comm]
  have hp:=Nat.two_pow_pos i;omega
theorem root_one {n a b:Nat} (h1:a * a≤n) (h2:n<(a+1) * (a+1)) (h3:b * b≤n) (h4:n<(b+1) * (b+1)):a=b:=by
 rcases Nat.lt_trichotomy a b with h|h|h
 · have:=Nat.mul_le_mul (show a+1≤b from h) (show a+1≤b from h);omega
 · exact h
 · have:=Nat.mul_le_mul (show b+1≤a from h) (show b+1≤a from h);omega
def RootAt (n:Nat) (k:IntKind) (w:World) (vo vb:Value) (wr:World):Prop:=∃ j out bit:Nat,vo=.int k out∧vb=.int k bit∧RootSt n j out bit∧Kp w.heap.size none w wr
def RootN (n r:Nat):Prop:=r * r≤n∧n<(r+1) * (r+1)
theorem span_root_any (n:Nat) (hn:n<9223372036854775808) (w:World) :
  Calls Tryz.prog 85 #[.int .u64 n] w fun e w'=>(∃ r:Nat,e=.returned (.int .u64 r)∧RootN n r)∧Kp w.heap.size none w w':=by
 go_enter Tryz.func85,Tryz.ntmps85
 go_wp2_with fail
 go_loopw [3,4] (fun vo vb wr=>RootAt n .u64 w vo vb wr) (fun _ vb _=>(intOf vb).toNat)
 case atStart=>exact⟨32,0,2147483648,rfl,rfl,RootSt.start oM,Kp.refl _ _ _⟩
 case round=>
  obtain⟨j,out,bit,rfl,rfl,st,KK⟩:=hrel;by_cases hb:0<bit
  ·
   obtain⟨s1,s2,s3,s4⟩:=st.step hb;obtain⟨x,hx⟩:∃ x,x=out+bit:=⟨_,rfl⟩;obtain⟨y,hy⟩:∃ y,y=x * x:=⟨_,rfl⟩;obtain⟨b2,hb2⟩:∃ b2,b2=bit / 2:=⟨_,rfl⟩;have hb':(0:Int)<(bit:Int):=by omega
   have eor:bits .or .u64 (out:Int) (bit:Int)=(x:Int):=by rw[u64_or_nat _ _ oM oM,s1,hx]
   rw[← hx,← hy,← hb2] at s3 s4;rw[← hx] at s2
   have emul:IntKind.u64.wrap ((x:Int) * (x:Int))=(y:Int):=by
    have h5:x * x≤4294967295 * 4294967295:=Nat.mul_le_mul oM oM;have h6:(y:Int)=(x:Int) * (x:Int):=by rw[hy];push_cast;rfl
    rw[← h6,wrapu];omega
   have eb:(bit:Int) / 2=(b2:Int):=by omega
   have hlt:b2<bit:=by omega
   replace st:=Lib.hid st;by_cases hyn:y≤n
   ·
    have hyi:(y:Int)≤(n:Int):=by omega
    have st':=Lib.hid (s3 hyn);replace hlt:=Lib.hid hlt;clear s1 s2 s3 s4 hx hy hb2 hb hyn;go_wp2
    go_roundw
    case rel=>exact⟨j-1,x,b2,rfl,rfl,st'.out,KK⟩
    case measure=>exact(show (b2:Int).toNat<(bit:Int).toNat by have:=hlt.out;omega)
   ·
    have hyi:¬ (y:Int)≤(n:Int):=by omega
    have st':=Lib.hid (s4 oM);replace hlt:=Lib.hid hlt;clear s1 s2 s3 s4 hx hy hb2 hb hyn;go_wp2
    go_roundw
    case rel=>exact⟨j-1,out,b2,rfl,rfl,st'.out,KK⟩
    case measure=>exact(show (b2:Int).toNat<(bit:Int).toNat by have:=hlt.out;omega)
  ·
   have hb':¬ (0:Int)<(bit:Int):=by omega
   have hd:=Lib.hid (st.done oM);clear hb;go_wp2
   exact bodyPost_ret (by simp[results,Tryz.results85,go_sem]) rfl ⟨⟨out,rfl,hd.out⟩,KK⟩
theorem span_Root_any (n:Nat) (hn:n<9223372036854775808) (w:World) :
  Calls Tryz.prog 38 #[n] w fun e w'=>(∃ r:Nat,e=.returned (.int .i64 r)∧RootN n r)∧Kp w.heap.size none w w':=by
 have e2:¬ (n:Int)<0:=by omega
 have e1:IntKind.u64.wrap (n:Int)=(n:Int):=by rw[wrapu];omega
 go_enter Tryz.func38,Tryz.ntmps38
 go_wp2_with fail
 refine(span_root_any n hn _).mono ?_;rintro e w1 ⟨⟨r,rfl,h1,h2⟩,k1⟩
 have h3:r≤3037000499:=by
  rcases Nat.lt_or_ge 3037000499 r with h|h
  · have:=Nat.mul_le_mul (show 3037000500≤r from h) (show 3037000500≤r from h);omega
  · exact h
 have e3:wrap64 (r:Int)=(r:Int):=by unfold wrap64;omega
 replace h1:=Lib.hid h1;replace h2:=Lib.hid h2;go_wp2
 exact bodyPost_ret (by simp[results,Tryz.results38,go_sem]) rfl ⟨⟨r,rfl,h1.out,h2.out⟩,k1⟩
theorem isqN_of {n r:Nat} (h:RootN n r):r=isqN n:=root_one h.1 h.2 (isqN_spec n).1 (isqN_spec n).2
theorem span_Root_isq (n:Nat) (hn:n<9223372036854775808) (w:World) :
  Calls Tryz.prog 38 #[n] w fun e w'=>e=.returned (.int .i64 (isq (n:Int)))∧Kp w.heap.size none w w':=by
 refine(span_Root_any n hn w).mono ?_;rintro e w1 ⟨⟨r,rfl,h⟩,k⟩;refine⟨?_,k⟩;rw[isqN_of h];rfl
theorem rootN_le {n r:Nat} (h:RootN n r) (hn:n≤1152921504606846976):r≤1073741824:=by
 rcases Nat.lt_or_ge 1073741824 r with g|g
 ·
  have:=Nat.mul_le_mul (show 1073741825≤r from g) (show 1073741825≤r from g);have:=h.1;omega
 · exact g
theorem span_Roots_any (a:Sp) (ha:a.fit) (h0:0≤a.lo) (w:World) :
  Calls Tryz.prog 46 #[a] w fun e w'=>e=.returned (.tuple #[.agg #[(rootsS a).lo,(rootsS a).hi],(0:Int)])∧Kp w.heap.size none w w':=by
 obtain⟨f1,f2,f3⟩:=ha;obtain⟨l,hl⟩:=Int.eq_ofNat_of_zero_le h0;obtain⟨h,hh⟩:=Int.eq_ofNat_of_zero_le (show 0≤a.hi by omega);have rl:=fun w=>span_Root_isq l oM w;have rh:=fun w=>span_Root_isq h oM w;have bq:=rootN_le (isqN_spec h) oM;obtain⟨q,hq⟩:∃ q,q=isq (h:Int):=⟨_,rfl⟩;have hqb:0≤q∧q≤1073741824:=by rw[hq];unfold isq;rw[Int.toNat_natCast];omega
 have hqs:q * q≤a.hi:=by rw[hq,hh];exact(isq_root (n:=(h:Int)) oM).2.1
 have eL:(rootsS a).lo=isq (l:Int):=by unfold rootsS;rw[hl]
 have eH:(rootsS a).hi=if q * q<a.hi then q+1 else q:=by unfold rootsS rootUp;simp only;rw[hh,← hq]
 rw[eL,eH];rw[← hl] at rl;rw[← hh] at rh;rw[← hh] at hq;rw[← hl];have hck:=fun w=>span_Check_any a ⟨f1,f2,f3⟩ w;generalize isq a.lo=p at *;rw[← hq] at rh;have nn:¬ a.lo<0:=by omega
 have s1:0≤q * q:=Int.mul_nonneg hqb.1 hqb.1;have ww:wrap64 (q * q)=q * q:=by generalize q * q=z at *;unfold wrap64;omega
 have w1':wrap64 (q+1)=q+1:=by unfold wrap64;omega
 clear eL eH hq hl hh hqb hqs s1 f1 f2 f3 h0 bq;by_cases hlt:q * q<a.hi
 ·
  rw[if_pos hlt];obtain⟨w1,hw1,A,R,K,hz⟩:=box2 w 29 a 29 #[(0:Int),(0:Int)];go_enter Tryz.func46,Tryz.ntmps46
  go_wp2_with fail
  rw[← hw1];clear hw1;refine mK (hck _) fun w2 k=>?_;replace A:=A.kpN k;replace R:=R.kpN k;replace K:=K.thenN k oM;have hzk:=k.size;clear k;have cA:=A.cell;have fA:=A.frozen;have cR:=R.cell;have fR:=R.frozen;go_wp2_with fail
  refine mK (rh _) fun w3 k=>?_;clear cA fA cR fR;replace A:=A.kpN k;replace R:=R.kpN k;replace K:=K.thenN k oM;have hzk:=k.size;clear k;have cA:=A.cell;have fA:=A.frozen;have cR:=R.cell;have fR:=R.frozen;go_wp2_with fail
  refine mK (rl _) fun w4 k=>?_;clear cA fA cR fR;replace A:=A.kpN k;replace R:=R.kpN k;replace K:=K.thenN k oM;have hzk:=k.size;clear k;have cA:=A.cell;have fA:=A.frozen;have cR:=R.cell;have fR:=R.frozen;go_wp2_with fail
  clear cA fA cR fR;have BR:=((R.set_ 0 (.int .i64 p)).set_ 1 (.int .i64 (q+1)));have cR:=BR.cell;exact bodyPost_ret (by simp[results,Tryz.results46,go_sem,cR]) rfl ⟨rfl,((K.setNew (by simp<;>omega) _).setNew (by simp<;>omega) _)⟩
 ·
  rw[if_neg hlt];obtain⟨w1,hw1,A,R,K,hz⟩:=box2 w 29 a 29 #[(0:Int),(0:Int)];go_enter Tryz.func46,Tryz.ntmps46
  go_wp2_with fail
  rw[← hw1];clear hw1;refine mK (hck _) fun w2 k=>?_;replace A:=A.kpN k;replace R:=R.kpN k;replace K:=K.thenN k oM;have hzk:=k.size;clear k;have cA:=A.cell;have fA:=A.frozen;have cR:=R.cell;have fR:=R.frozen;go_wp2_with fail
  refine mK (rh _) fun w3 k=>?_;clear cA fA cR fR;replace A:=A.kpN k;replace R:=R.kpN k;replace K:=K.thenN k oM;have hzk:=k.size;clear k;have cA:=A.cell;have fA:=A.frozen;have cR:=R.cell;have fR:=R.frozen;go_wp2_with fail
  refine mK (rl _) fun w4 k=>?_;clear cA fA cR fR;replace A:=A.kpN k;replace R:=R.kpN k;replace K:=K.thenN k oM;have hzk:=k.size;clear k;have cA:=A.cell;have fA:=A.frozen;have cR:=R.cell;have fR:=R.frozen;go_wp2_with fail
  clear cA fA cR fR;have BR:=((R.set_ 0 (.int .i64 p)).set_ 1 (.int .i64 q));have cR:=BR.cell;exact bodyPost_ret (by simp[results,Tryz.results46,go_sem,cR]) rfl ⟨rfl,((K.setNew (by simp<;>omega) _).setNew (by simp<;>omega) _)⟩
end Go.Proofs.YtdhiappifnflpaaGreatDoor
