/- comes, Within, CheckArea: the walks of span, ninth part. The ring of numbers and its small makers: NewRing, Pick, PointOf, InSpan. What moves a small body: the walks of force, first part. -/
import Derived.Test.YtdhiappifnflpaaGreatM10
import Derived.Test.YtdhiappifnflpaaGreatM02
namespace Go.Proofs.YtdhiappifnflpaaGreat
open Go.RowKit
theorem words_lt (N M:Nat):(N / 18446744073709551616<M / 18446744073709551616∨(N / 18446744073709551616=M / 18446744073709551616∧N % 18446744073709551616<M % 18446744073709551616))↔N<M:=by omega
theorem natAbs_sq (c:Int):((c.natAbs * c.natAbs:Nat):Int)=c * c:=by
 rcases Int.natAbs_eq c with h|h
 · rw[Int.natCast_mul,← h]
 ·
  have:(c.natAbs:Int)=-c:=by omega
  rw[Int.natCast_mul,this];grind
theorem mul_bd {a b:Int} {A B:Nat} (ha:a.natAbs≤A) (hb:b.natAbs≤B):(a * b).natAbs≤A * B:=by rw[Int.natAbs_mul];exact Nat.mul_le_mul ha hb
structure Cm (p q:Pt) (r dx dy al lo cr rr:Int):Prop where
 hdx:dx=q.x-p.x
 hdy:dy=q.y-p.y
 hal:al=-(p.x * dx+p.y * dy)
 hlo:lo=dx * dx+dy * dy
 hcr:cr=p.x * q.y-p.y * q.x
 hrr:rr=r * r
theorem comes_case {p q:Pt} {r dx dy al lo cr rr:Int} (h:Cm p q r dx dy al lo cr rr):comesP p q r↔if al≤0 then n2 p≤rr else if lo≤al then n2 q≤rr else cr * cr≤rr * lo:=by
 obtain⟨rfl,rfl,rfl,rfl,rfl,rfl⟩:=h;exact Iff.rfl
structure CmN (p q:Pt) (r dx dy al cr:Int) (R L:Nat):Prop where
 g1:wrap64 (q.x-p.x)=dx
 g2:wrap64 (q.y-p.y)=dy
 eal:wrap64 (-wrap64 (wrap64 (p.x * dx)+wrap64 (p.y * dy)))=al
 elo:n2 ⟨dx,dy⟩=(L:Int)
 err:wrap64 (r * r)=(R:Int)
 ecr:wrap64 (wrap64 (p.x * q.y)-wrap64 (p.y * q.x))=cr
 uR:IntKind.u64.wrap (R:Int)=(R:Int)
 uL:IntKind.u64.wrap (L:Int)=(L:Int)
 Rl:R<18446744073709551616
 Ll:L<18446744073709551616
 cl:-9223372036854775808<cr∧cr<9223372036854775808
 sd:Sm ⟨dx,dy⟩
 res:comesP p q r↔if al≤0 then n2 p≤(R:Int) else if (L:Int)≤al then n2 q≤(R:Int) else ¬ R * L<cr.natAbs * cr.natAbs
theorem cmN_of (p q:Pt) (r:Int) (hp:Fr p) (hq:Fr q) (h0:0≤r) (h1:r≤268435456):∃ dx dy al cr R L,CmN p q r dx dy al cr R L:=by
 unfold Fr Fr1 at hp hq;obtain⟨R,hR⟩:=Int.eq_ofNat_of_zero_le (Int.mul_nonneg h0 h0);have sd:Sm ⟨q.x-p.x,q.y-p.y⟩:=⟨by show _≤q.x-p.x;omega,by show q.x-p.x≤_;omega,by show _≤q.y-p.y;omega,by show q.y-p.y≤_;omega⟩;obtain⟨n0,n1⟩:=n2_le sd;obtain⟨L,hL⟩:=Int.eq_ofNat_of_zero_le n0;have m1:=mul_bd (a:=p.x) (b:=q.x-p.x) (A:=268435456) (B:=536870912) (by omega) (by omega);have m2:=mul_bd (a:=p.y) (b:=q.y-p.y) (A:=268435456) (B:=536870912) (by omega) (by omega);have m3:=mul_bd (a:=p.x) (b:=q.y) (A:=268435456) (B:=268435456) (by omega) (by omega);have m4:=mul_bd (a:=p.y) (b:=q.x) (A:=268435456) (B:=268435456) (by omega) (by omega);have m5:=mul_bd (a:=r) (b:=r) (A:=268435456) (B:=268435456) (by omega) (by omega);simp only[Nat.reduceMul] at m1 m2 m3 m4 m5;refine⟨q.x-p.x,q.y-p.y,-(p.x * (q.x-p.x)+p.y * (q.y-p.y)),p.x * q.y-p.y * q.x,R,L,?_,?_,?_,hL,?_,?_,?_,?_,?_,?_,?_,sd,?_⟩
 · unfold wrap64;omega
 · unfold wrap64;omega
 ·
  generalize p.x * (q.x-p.x)=a at *;generalize p.y * (q.y-p.y)=b at *;have e1:wrap64 a=a:=by unfold wrap64;omega
  have e2:wrap64 b=b:=by unfold wrap64;omega
  have e3:wrap64 (a+b)=a+b:=by unfold wrap64;omega
  rw[e1,e2,e3];unfold wrap64;omega
 · rw[hR];rw[hR] at m5;unfold wrap64;omega
 ·
  generalize p.x * q.y=a at *;generalize p.y * q.x=b at *;have e1:wrap64 a=a:=by unfold wrap64;omega
  have e2:wrap64 b=b:=by unfold wrap64;omega
  rw[e1,e2];unfold wrap64;omega
 · rw[wrapu];rw[hR] at m5;omega
 · rw[wrapu];omega
 · rw[hR] at m5;omega
 · omega
 ·
  generalize p.x * q.y=a at *;generalize p.y * q.x=b at *;omega
 ·
  have key:=comes_case (p:=p) (q:=q) (r:=r) ⟨rfl,rfl,rfl,rfl,rfl,rfl⟩;rw[key,hR];have hL':(q.x-p.x) * (q.x-p.x)+(q.y-p.y) * (q.y-p.y)=(L:Int):=hL;rw[hL'];have e:=natAbs_sq (p.x * q.y-p.y * q.x);have e2:((R * L:Nat):Int)=(R:Int) * (L:Int):=by push_cast;rfl
  rw[← e,← e2];have e3:(((p.x * q.y-p.y * q.x).natAbs * (p.x * q.y-p.y * q.x).natAbs:Nat):Int)≤((R * L:Nat):Int)↔¬ R * L<(p.x * q.y-p.y * q.x).natAbs * (p.x * q.y-p.y * q.x).natAbs:=by omega
  rw[e3]
theorem span_lessN_any (N M:Nat) (w:World) :
  Calls Tryz.prog 120 #[.agg #[.int .u64 ((N / 18446744073709551616:Nat):Int),.int .u64 ((N % 18446744073709551616:Nat):Int)],.agg #[.int .u64 ((M / 18446744073709551616:Nat):Int),.int .u64 ((M % 18446744073709551616:Nat):Int)]] w fun e w'=>e=.returned (.bool (decide (N<M)))∧Kp w.heap.size none w w':=by
 refine(span_less_any _ _ _ _ w).mono ?_;rintro e w1 ⟨rfl,k⟩;refine⟨ret_bool ?_,k⟩;rw[Bool.eq_iff_iff];simp only[decide_eq_true_eq];exact words_lt N M
set_option maxHeartbeats 2000000 in
theorem span_comes_any (p q:Pt) (r:Int) (hp:Fr p) (hq:Fr q) (h0:0≤r) (h1:r≤268435456) (w:World) :
  Calls Tryz.prog 76 #[.agg #[.int .i64 p.x,.int .i64 p.y],.agg #[.int .i64 q.x,.int .i64 q.y],.int .i64 r] w fun e w'=>e=.returned (.bool (decide (comesP p q r)))∧Kp w.heap.size none w w':=by
 obtain⟨dx,dy,al,cr,R,L,⟨g1,g2,eal,elo,err,ecr,uR,uL,Rl,Ll,cl,sd,res⟩⟩:=cmN_of p q r hp hq h0 h1;unfold Fr Fr1 at hp hq;have cp:=fun w=>span_square_any p ⟨by omega,by omega,by omega,by omega⟩ w;have cq:=fun w=>span_square_any q ⟨by omega,by omega,by omega,by omega⟩ w;have cd:=fun w=>span_square_any ⟨dx,dy⟩ sd w;simp only at cd;rw[elo] at cd;have c1:=fun w=>span_size_any cr cl.1 cl.2 w;obtain⟨C,hC⟩:∃ C,C=cr.natAbs:=⟨_,rfl⟩;have hCl:C<18446744073709551616:=by omega
 rw[← hC] at c1 res;have c2:=fun w=>span_times_any R L Rl Ll w;have c3:=fun w=>span_times_any C C hCl hCl w;have c4:=fun w=>span_lessN_any (R * L) (C * C) w;obtain⟨b,hb⟩:∃ b,b=decide (comesP p q r):=⟨_,rfl⟩;rw[← hb]
 have res':b=if al≤0 then decide (n2 p≤(R:Int)) else if (L:Int)≤al then decide (n2 q≤(R:Int)) else !decide (R * L<C * C):=by
  rw[hb,Bool.eq_iff_iff,decide_eq_true_eq,res];split
  · simp
  · split<;>simp
 clear hp hq h0 h1 sd Rl Ll cl res hb hC hCl elo;generalize n2 p=np at *;generalize n2 q=nq at *;obtain⟨lt,hlt⟩:∃ lt,lt=decide (R * L<C * C):=⟨_,rfl⟩;rw[← hlt] at c4 res';generalize ((R * L / 18446744073709551616:Nat):Int)=t1 at *;generalize ((R * L % 18446744073709551616:Nat):Int)=t2 at *;generalize ((C * C / 18446744073709551616:Nat):Int)=t3 at *;generalize ((C * C % 18446744073709551616:Nat):Int)=t4 at *;clear hlt;replace res':=Lib.hid res';obtain⟨w1,hw1,P,Q,D,K,hz⟩:=box3 w 73 #[.int .i64 p.x,.int .i64 p.y] 73 #[.int .i64 q.x,.int .i64 q.y] 73 #[.int .i64 dx,.int .i64 dy];go_enter Tryz.func76,Tryz.ntmps76
 go_wp2_with fail
 rw[← hw1];clear hw1;obtain⟨S,hS0⟩:=cls_of (P:=fun w'=>Blk w' _ _ _∧Blk w' _ _ _∧Blk w' _ _ _∧Kp _ none _ w') w1 ⟨P,Q,D,K⟩;try dsimp only at hS0
 have cP:=fun (x:Ev (S 0)) i=>((hS0 _).1 x.h).1.cell i;have cQ:=fun (x:Ev (S 0)) i=>((hS0 _).1 x.h).2.1.cell i;have cD:=fun (x:Ev (S 0)) i=>((hS0 _).1 x.h).2.2.1.cell i;replace P:=P.drew;replace Q:=Q.drew;replace D:=D.drew;replace K:=K.drew;have hevT:=ev_true;refine wp_region_ord S [(0,0),(1,1),(2,0),(3,1),(4,0),(5,0),(6,1),(7,0),(8,1),(9,0),(10,0),(11,0),(12,1),(13,2),(14,0),(15,0)] [] (by kernel_rfl) (by kernel_rfl) ((hS0 _).2 ⟨P,Q,D,K⟩) ?_;intro _hev;iterate 13 (first|((first|refine oV ?_|refine oQ ?_);intro K hK;go_big_quiet_op;go_big_quiet_on)|refine oS ?_)
 refine oL ?_;intro Kc hKc;go_step;refine(cd _).mono ?_;rintro e w2 ⟨rfl,k⟩;replace P:=P.kpN k;replace Q:=Q.kpN k;replace D:=D.kpN k;replace K:=K.tN k;clear k;refine hKc _ _ ((hS0 _).2 ⟨P,Q,D,K⟩) ?_;clear hKc Kc;iterate 2 (first|((first|refine oV ?_|refine oQ ?_);intro K hK;go_big_quiet_op;go_big_quiet_on)|refine oS ?_)
 refine wpOrd_nil ?_;clear hevT _hev;clear cP cQ cD hS0 S;rw[eal];by_cases ha:al≤0
 ·
  have cP:=P.cell;have fP:=P.frozen;have cQ:=Q.cell;have fQ:=Q.frozen;have cD:=D.cell;have fD:=D.frozen;go_wp2_with fail
  refine(cp _).mono ?_;rintro e w3 ⟨rfl,k⟩;clear cP fP cQ fQ cD fD;replace P:=P.kpN k;replace Q:=Q.kpN k;replace D:=D.kpN k;replace K:=K.tN k;have hzk:=k.size;clear k;have cP:=P.cell;have fP:=P.frozen;have cQ:=Q.cell;have fQ:=Q.frozen;have cD:=D.cell;have fD:=D.frozen;go_wp2_with fail
  clear cP fP cQ fQ cD fD;go_ret
  refine⟨ret_bool ?_,K⟩;rw[res'.out,if_pos (by omega)]
 ·
  by_cases hb:(L:Int)≤al
  ·
   have cP:=P.cell;have fP:=P.frozen;have cQ:=Q.cell;have fQ:=Q.frozen;have cD:=D.cell;have fD:=D.frozen;go_wp2_with fail
   refine(cq _).mono ?_;rintro e w3 ⟨rfl,k⟩;clear cP fP cQ fQ cD fD;replace P:=P.kpN k;replace Q:=Q.kpN k;replace D:=D.kpN k;replace K:=K.tN k;have hzk:=k.size;clear k;have cP:=P.cell;have fP:=P.frozen;have cQ:=Q.cell;have fQ:=Q.frozen;have cD:=D.cell;have fD:=D.frozen;go_wp2_with fail
   clear cP fP cQ fQ cD fD;go_ret
   refine⟨ret_bool ?_,K⟩;rw[res'.out,if_neg (by omega),if_pos (by omega)]
  ·
   have cP:=P.cell;have fP:=P.frozen;have cQ:=Q.cell;have fQ:=Q.frozen;have cD:=D.cell;have fD:=D.frozen;go_wp2_with fail
   refine(c1 _).mono ?_;rintro e w3 ⟨rfl,k⟩;clear cP fP cQ fQ cD fD;replace P:=P.kpN k;replace Q:=Q.kpN k;replace D:=D.kpN k;replace K:=K.tN k;have hzk:=k.size;clear k;have cP:=P.cell;have fP:=P.frozen;have cQ:=Q.cell;have fQ:=Q.frozen;have cD:=D.cell;have fD:=D.frozen;go_wp2_with fail
   refine(c2 _).mono ?_;rintro e w4 ⟨rfl,k⟩;clear cP fP cQ fQ cD fD;replace P:=P.kpN k;replace Q:=Q.kpN k;replace D:=D.kpN k;replace K:=K.tN k;have hzk:=k.size;clear k;have cP:=P.cell;have fP:=P.frozen;have cQ:=Q.cell;have fQ:=Q.frozen;have cD:=D.cell;have fD:=D.frozen;go_wp2_with fail
   refine(c3 _).mono ?_;rintro e w5 ⟨rfl,k⟩;clear cP fP cQ fQ cD fD;replace P:=P.kpN k;replace Q:=Q.kpN k;replace D:=D.kpN k;replace K:=K.tN k;have hzk:=k.size;clear k;have cP:=P.cell;have fP:=P.frozen;have cQ:=Q.cell;have fQ:=Q.frozen;have cD:=D.cell;have fD:=D.frozen;go_wp2_with fail
   refine(c4 _).mono ?_;rintro e w6 ⟨rfl,k⟩;clear cP fP cQ fQ cD fD;replace P:=P.kpN k;replace Q:=Q.kpN k;replace D:=D.kpN k;replace K:=K.tN k;have hzk:=k.size;clear k;have cP:=P.cell;have fP:=P.frozen;have cQ:=Q.cell;have fQ:=Q.frozen;have cD:=D.cell;have fD:=D.frozen;go_wp2_with fail
   clear cP fP cQ fQ cD fD;go_ret
   refine⟨ret_bool ?_,K⟩;rw[res'.out,if_neg (by omega),if_neg (by omega)]
set_option maxHeartbeats 400000 in
theorem newRing_any (A:Option Addr) (cap:Nat) (nums:List Int) (w:World) (h:Rd none w 1 (fun x=>[Value.int .i64 x]) A nums.length nums) (hs:nums.length≤17592186044416) :
  Calls Tryz.prog 5 #[.slice A nums.length cap] w fun e w'=>∃ g,e=.returned (.pointer (some ⟨g,0,none⟩))∧w.heap.size≤g∧RingAt w' g nums 0∧Kp w.heap.size none w w':=by
 go_enter Tryz.func5,Tryz.ntmps5
 go_wp2
 go_ret
 refine⟨w.heap.size,rfl,Nat.le_refl _,⟨⟨A,cap,Blk.new w _ _,?_,?_⟩,hs⟩,(Kp.refl _ _ w).alloc (Nat.le_refl _) _⟩
 ·
  refine⟨rfl,fun hn=>?_⟩;obtain⟨b,o,e,hb,_,hc⟩:=h.2 hn;exact⟨b,o,e,by simp;omega,sne (by omega),fun i hi j v hv=>(World.cell?_alloc_lt w _ _ hb).trans (hc i hi j v hv)⟩
 ·
  intro hn ad e;obtain⟨b,o,e',hb,_,_⟩:=h.2 hn;rw[e] at e';injection e' with e'
  rw[e'];exact hb
theorem pick_any (g:Nat) (nums:List Int) (k:Nat) (a b:Int) (w:World) (h:RingAt w g nums k) (hk:k≤1000000) :
  Calls Tryz.prog 24 #[.pointer (some ⟨g,0,none⟩),.int .i64 a,.int .i64 b] w (RPost g nums (k+1) w fun v=>∃ x,v=.int .i64 x∧(x=a∨x=b)):=by
 go_enter Tryz.func24,Tryz.ntmps24
 go_wp2_with fail
 refine(next_any g nums k _ _ h hk (by omega) (by omega)).mono ?_;rintro e w1 ⟨v,rfl,⟨x,rfl,hx1,hx2⟩,hr1,hk1⟩;rcases (show x=0∨x=1 by omega) with rfl|rfl
 all_goals
  go_wp2
  go_ret
  first
   | exact⟨_,rfl,⟨_,rfl,.inl rfl⟩,hr1,hk1⟩
   | exact⟨_,rfl,⟨_,rfl,.inr rfl⟩,hr1,hk1⟩
theorem pointOf_any (g:Nat) (nums:List Int) (k:Nat) (n:Int) (w:World) (h:RingAt w g nums k) (hk:k≤900000) (h0:0≤n) (h1:n≤100000) :
  Calls Tryz.prog 21 #[.pointer (some ⟨g,0,none⟩),.int .i64 n] w (RPost g nums (k+2) w fun v=>∃ x y:Int,v=.agg #[.int .i64 x,.int .i64 y]∧(-n≤x∧x≤n)∧-n≤y∧y≤n):=by
 have hb0:=Blk.new w 73 #[.int .i64 0,.int .i64 0];have hne:=h.ne (Nat.le_refl _);go_enter Tryz.func21,Tryz.ntmps21
 go_wp2_with fail
 refine(next_any g nums k _ _ (h.alloc _) (by omega) (by omega) (by omega)).mono ?_;rintro e w1 ⟨v,rfl,⟨a,rfl,ha1,ha2⟩,hr1,hk1⟩;have hb1:=hb0.kp hk1 hb0.lt hne;go_wp2_with fail
 refine(next_any g nums (k+1) _ _ hr1 (by omega) (by omega) (by omega)).mono ?_;rintro e w2 ⟨v,rfl,⟨b,rfl,hb1',hb2'⟩,hr2,hk2⟩;have hb2:=hb1.kp hk2 hb1.lt hne;have c2:=hb2.cell;have f2:=hb2.frozen;have hg:g<w.heap.size:=h.lt;have K:=((((Kp.refl w.heap.size (some g) w).alloc (Nat.le_refl _) _).then_ hk1 (by simp)).then_ hk2 (by simp));go_wp2
 exact bodyPost_ret (v:=.agg #[.int .i64 (a-n),.int .i64 (b-n)]) (by simp[results,Tryz.results21,go_sem,c2]) rfl ⟨_,rfl,⟨_,_,rfl,by omega,by omega⟩,(hr2.big hg _).big hg _,(K.setNew (Nat.le_refl _) _).setNew (Nat.le_refl _) _⟩
theorem mod_bounds (n m:Int) (hm:0<m):0≤n % m∧n % m<m:=⟨Int.emod_nonneg _ (by omega),Int.emod_lt_of_pos _ hm⟩
theorem inSpan_any (lo hi v:Int) (w:World) (h1:-1152921504606846976≤lo) (h2:lo≤hi) (h3:hi≤1152921504606846976) (h4:hi-lo<1000000000000000000) :
  Calls Tryz.prog 64 #[.agg #[.int .i64 lo,.int .i64 hi],.int .i64 v] w fun e w'=>∃ x:Int,e=.returned (.int .i64 x)∧(lo≤x∧x≤hi)∧Kp w.heap.size none w w':=by
 have hm:=mod_bounds v (hi-lo+1) (by omega);have cc:=fun w=>(mod64_any v (hi-lo+1) w (by omega) (by omega)).mono (R':=fun e w'=>e=.returned (.int .i64 (v % (hi-lo+1)))∧Kp w.heap.size none w w') fun e w' ⟨a,b⟩=>⟨a,b ▸ Kp.refl _ _ _⟩;have e1:lo+v % (hi-lo+1)≤hi:=by omega
 have e2:lo≤lo+v % (hi-lo+1):=by omega
 generalize v % (hi-lo+1)=x at *;clear hm;obtain⟨w1,hw1,P,K,hz⟩:=box1 w 29 #[.int .i64 lo,.int .i64 hi];go_enter Tryz.func64,Tryz.ntmps64
 go_wp2_with fail
 rw[← hw1];clear hw1;obtain⟨S,hS0⟩:=cls_of (P:=fun w'=>Blk w' _ _ _∧Kp _ none _ w') w1 ⟨P,K⟩;try dsimp only at hS0
 have cP:=fun (x:Ev (S 0)) i=>((hS0 _).1 x.h).1.cell i;replace P:=P.drew;replace K:=K.drew;have hevT:=ev_true;refine wp_region_ord S [(0,0),(1,1),(2,0),(3,0),(4,1),(5,0),(6,1),(7,0),(8,0),(9,2),(10,0),(11,0)] [] (by kernel_rfl) (by kernel_rfl) ((hS0 _).2 ⟨P,K⟩) ?_;intro _hev;iterate 9 (first|((first|refine oV ?_|refine oQ ?_);intro K hK;go_big_quiet_op;go_big_quiet_on)|refine oS ?_)
 refine oL ?_;intro Kc hKc;go_step;refine(cc _).mono ?_;rintro e w2 ⟨rfl,k⟩;replace P:=P.kpN k;replace K:=K.tN k;clear k;refine hKc _ _ ((hS0 _).2 ⟨P,K⟩) ?_;clear hKc Kc;iterate 2 (first|((first|refine oV ?_|refine oQ ?_);intro K hK;go_big_quiet_op;go_big_quiet_on)|refine oS ?_)
 refine wpOrd_nil ?_;clear hevT _hev;clear cP hS0 S;go_wp2
 go_ret
 exact⟨_,rfl,⟨e2,e1⟩,K⟩
theorem cls_of2 {P:World→Prop} (w:World) (_:P w):∃ S:Nat→World→Prop,(∀ w',S 0 w'↔P w')∧∀ w',S 1 w'↔True:=⟨fun n w'=>if n=0 then P w' else True,fun _=>Iff.rfl,fun _=>Iff.rfl⟩
theorem force_one_any (n:Int) (w:World) :
  Calls Tryz.prog 189 #[.int .i64 n] w fun e w'=>e=.returned (.agg #[.int .i64 n,.int .i64 n])∧Kp w.heap.size none w w':=by
 go_enter Tryz.func189,Tryz.ntmps189
 go_wp2_with fail
 exact bodyPost_ret (by simp[results,Tryz.results189,go_sem]) rfl ⟨rfl,Kp.new1 _ _⟩
theorem force_alone_any (p:Pt) (w:World) :
  Calls Tryz.prog 158 #[.agg #[.int .i64 p.x,.int .i64 p.y]] w fun e w'=>e=.returned (.agg #[.int .i64 p.x,.int .i64 p.x,.int .i64 p.y,.int .i64 p.y])∧Kp w.heap.size none w w':=by
 obtain⟨w1,hw1,A,R,K,hz⟩:=box2 w 73 #[.int .i64 p.x,.int .i64 p.y] 167 #[.int .i64 0,.int .i64 0,.int .i64 0,.int .i64 0];go_enter Tryz.func158,Tryz.ntmps158
 go_wp2_with fail
 rw[← hw1];clear hw1;obtain⟨S,hS0,hS1⟩:=cls_of2 (P:=fun w'=>Blk w' _ _ _∧Kp _ none _ w') w1 ⟨A,K⟩;try dsimp only at hS0
 have cA:=fun (x:Ev (S 0)) i=>((hS0 _).1 x.h).1.cell i;replace A:=A.drew;replace K:=K.drew;replace R:=R.drew;have hevT:=ev_true;refine wp_region_ord S [(0,0),(1,1),(3,0),(4,1),(2,2),(5,2),(6,0),(7,3)] [7] (by kernel_rfl) (by kernel_rfl) ((hS0 _).2 ⟨A,K⟩) ?_;intro _hev;iterate 4 (first|((first|refine oV ?_|refine oQ ?_);intro K hK;go_big_quiet_op;go_big_quiet_on)|refine oS ?_)
 refine oL ?_;intro Kc hKc;go_step;refine(force_one_any p.x _).mono ?_;rintro e w2 ⟨rfl,k⟩;replace A:=A.kpN k;replace R:=R.kpN k;replace K:=K.tN k;clear k;refine hKc _ _ ((hS0 _).2 ⟨A,K⟩) ?_;clear hKc Kc;refine oL ?_;intro Kc hKc;go_step;refine(force_one_any p.y _).mono ?_;rintro e w3 ⟨rfl,k⟩;replace A:=A.kpN k;replace R:=R.kpN k;replace K:=K.tN k;clear k;refine hKc _ _ ((hS0 _).2 ⟨A,K⟩) ?_;clear hKc Kc;iterate 1 (first|((first|refine oV ?_|refine oQ ?_);intro K hK;go_big_quiet_op;go_big_quiet_on)|refine oS ?_)
 refine oA ?_;intro Kc hKc;have cR:=R.cell;have fR:=R.frozen;go_step;refine hKc _ _ ((hS1 _).2 trivial) ?_;clear hKc Kc cR fR;change wpOrd _ _ _ _ _ 1 _ _;refine wpOrd_nil ?_;clear hevT _hev;clear cA hS0 hS1 S;have BR:=((((R.set_ 0 (.int .i64 p.x)).set_ 1 (.int .i64 p.x)).set_ 2 (.int .i64 p.y)).set_ 3 (.int .i64 p.y));have cR:=BR.cell;go_wp2_with fail
 exact bodyPost_ret (by simp[results,Tryz.results158,go_sem,cR]) rfl ⟨rfl,((((K.setNew (by simp<;>omega) _).setNew (by simp<;>omega) _).setNew (by simp<;>omega) _).setNew (by simp<;>omega) _)⟩
theorem force_bounded_any (s:Sp) (low high:Int) (h1:low≤s.lo) (h2:s.lo≤s.hi) (h3:s.hi≤high) (w:World) :
  Calls Tryz.prog 101 #[.agg #[.int .i64 s.lo,.int .i64 s.hi],.int .i64 low,.int .i64 high] w fun e w'=>e=.returned (.int .i64 0)∧Kp w.heap.size none w w':=by
 have n1:¬ s.hi<s.lo:=by omega
 have n2:¬ s.lo<low:=by omega
 have n3:¬ high<s.hi:=by omega
 go_enter Tryz.func101,Tryz.ntmps101
 go_wp2
 go_ret
 exact⟨rfl,Kp.new1 _ _⟩
theorem fwithin_t {n lo hi:Int} (h1:lo≤n) (h2:n≤hi) (w:World):Calls Tryz.prog 102 #[.int .i64 n,.int .i64 lo,.int .i64 hi] w fun e w'=>e=.returned (.bool true)∧Kp w.heap.size none w w':=by
 have:=force_within_any n lo hi w;rwa [btw_t h1 h2] at this
theorem force_CheckDrift_any (d:Dr) (h:d.ok) (w:World) :
  Calls Tryz.prog 52 #[.agg #[.int .i64 d.light.lo,.int .i64 d.light.hi,.int .i64 d.heat.lo,.int .i64 d.heat.hi,.int .i64 d.gas]] w fun e w'=>e=.returned (.int .i64 0)∧Kp w.heap.size none w w':=by
 obtain⟨h1,h2,h3,h4,h5,h6,h7,h8⟩:=h;obtain⟨w1,hw1,D,K,hz⟩:=box1 w 31 #[.int .i64 d.light.lo,.int .i64 d.light.hi,.int .i64 d.heat.lo,.int .i64 d.heat.hi,.int .i64 d.gas];go_enter Tryz.func52,Tryz.ntmps52
 go_wp2_with fail
 rw[← hw1];clear hw1;refine(force_bounded_any d.light 0 1000 h1 h2 h3 _).mono ?_;rintro e w2 ⟨rfl,k⟩;replace D:=D.kpN k;replace K:=K.tN k;have hzk:=k.size;clear k;have cD:=D.cell;have fD:=D.frozen;go_wp2_with fail
 refine(force_bounded_any d.heat (-1000) 1000 h4 h5 h6 _).mono ?_;rintro e w3 ⟨rfl,k⟩;clear cD fD;replace D:=D.kpN k;replace K:=K.tN k;have hzk:=k.size;clear k;have cD:=D.cell;have fD:=D.frozen;go_wp2_with fail
 refine(fwithin_t h7 h8 _).mono ?_;rintro e w4 ⟨rfl,k⟩;clear cD fD;replace D:=D.kpN k;replace K:=K.tN k;have hzk:=k.size;clear k;have cD:=D.cell;have fD:=D.frozen;go_wp2_with fail
 clear cD fD;go_ret
 exact⟨rfl,K⟩
theorem force_minus_any (s:Sp) (h:s.fit) (w:World) :
  Calls Tryz.prog 213 #[.agg #[.int .i64 s.lo,.int .i64 s.hi]] w fun e w'=>e=.returned (.agg #[.int .i64 (negS s).lo,.int .i64 (negS s).hi])∧Kp w.heap.size none w w':=by
 obtain⟨h1,h2,h3⟩:=h;have e1:wrap64 (-s.hi)=-s.hi:=by unfold wrap64;omega
 have e2:wrap64 (-s.lo)=-s.lo:=by unfold wrap64;omega
 go_enter Tryz.func213,Tryz.ntmps213
 go_wp2_with fail
 exact bodyPost_ret (by simp[results,Tryz.results213,go_sem];exact⟨rfl,rfl⟩) rfl ⟨rfl,Kp.new2 _ _ _⟩
theorem force_sub_any (a b:Sp) (ha:a.fit) (hb:b.fit) (hr:(subS a b).fit) (w:World) :
  Calls Tryz.prog 250 #[.agg #[.int .i64 a.lo,.int .i64 a.hi],.agg #[.int .i64 b.lo,.int .i64 b.hi]] w fun e w'=>e=.returned (.agg #[.int .i64 (subS a b).lo,.int .i64 (subS a b).hi])∧Kp w.heap.size none w w':=by
 have hc:=fun w=>span_Sub_any a b ha hb hr w;clear hr;generalize subS a b=m at *;obtain⟨w1,hw1,A,B,R,K,hz⟩:=box3 w 29 #[.int .i64 a.lo,.int .i64 a.hi] 29 #[.int .i64 b.lo,.int .i64 b.hi] 29 #[.int .i64 0,.int .i64 0];go_enter Tryz.func250,Tryz.ntmps250
 go_wp2_with fail
 rw[← hw1];clear hw1;refine(hc _).mono ?_;rintro e w2 ⟨rfl,k⟩;replace A:=A.kpN k;replace B:=B.kpN k;replace R:=R.kpN k;replace K:=K.tN k;have hzk:=k.size;clear k;have pA:=A.cell;have pB:=B.cell;have pR:=R.cell;obtain⟨w9_,rfl,O,k9_,hzn⟩:=box1 w2 29 #[.int .i64 m.lo,.int .i64 m.hi];replace A:=A.kpN k9_;replace B:=B.kpN k9_;replace R:=R.kpN k9_;replace K:=K.thenN k9_ (by first|exact Nat.le_refl _|omega);clear k9_;have cA:=A.cell;have fA:=A.frozen;have cB:=B.cell;have fB:=B.frozen;have cR:=R.cell;have fR:=R.frozen;go_wp2_with fail
 clear cA fA pA cB fB pB cR fR pR;generalize (w2.alloc (.cells #[.int .i64 m.lo,.int .i64 m.hi] 29))=w3 at *;obtain⟨x,hx⟩:∃ q9,q9=w2.heap.size:=⟨_,rfl⟩;rw[← hx] at O ⊢;replace hx:=Lib.hid hx;have BR:=((R.set_ 0 (.int .i64 m.lo)).set_ 1 (.int .i64 m.hi));have cR:=BR.cell;exact bodyPost_ret (by simp[results,Tryz.results250,go_sem,cR]) rfl ⟨rfl,((K.setNew (by simp<;>omega) _).setNew (by simp<;>omega) _)⟩
theorem force_mul_any (a b:Sp) (ha:a.fit) (hb:b.fit) (hr:∀ x y,a.has x→b.has y→Fit1 (x * y)) (w:World) :
  Calls Tryz.prog 235 #[.agg #[.int .i64 a.lo,.int .i64 a.hi],.agg #[.int .i64 b.lo,.int .i64 b.hi]] w fun e w'=>e=.returned (.agg #[.int .i64 (mulS a b).lo,.int .i64 (mulS a b).hi])∧Kp w.heap.size none w w':=by
 have hc:=fun w=>span_Mul_any a b ha hb hr w;clear hr;generalize mulS a b=m at *;obtain⟨w1,hw1,A,B,R,K,hz⟩:=box3 w 29 #[.int .i64 a.lo,.int .i64 a.hi] 29 #[.int .i64 b.lo,.int .i64 b.hi] 29 #[.int .i64 0,.int .i64 0];go_enter Tryz.func235,Tryz.ntmps235
 go_wp2_with fail
 rw[← hw1];clear hw1;refine(hc _).mono ?_;rintro e w2 ⟨rfl,k⟩;replace A:=A.kpN k;replace B:=B.kpN k;replace R:=R.kpN k;replace K:=K.tN k;have hzk:=k.size;clear k;have pA:=A.cell;have pB:=B.cell;have pR:=R.cell;obtain⟨w9_,rfl,O,k9_,hzn⟩:=box1 w2 29 #[.int .i64 m.lo,.int .i64 m.hi];replace A:=A.kpN k9_;replace B:=B.kpN k9_;replace R:=R.kpN k9_;replace K:=K.thenN k9_ (by first|exact Nat.le_refl _|omega);clear k9_;have cA:=A.cell;have fA:=A.frozen;have cB:=B.cell;have fB:=B.frozen;have cR:=R.cell;have fR:=R.frozen;go_wp2_with fail
 clear cA fA pA cB fB pB cR fR pR;generalize (w2.alloc (.cells #[.int .i64 m.lo,.int .i64 m.hi] 29))=w3 at *;obtain⟨x,hx⟩:∃ q9,q9=w2.heap.size:=⟨_,rfl⟩;rw[← hx] at O ⊢;replace hx:=Lib.hid hx;have BR:=((R.set_ 0 (.int .i64 m.lo)).set_ 1 (.int .i64 m.hi));have cR:=BR.cell;exact bodyPost_ret (by simp[results,Tryz.results235,go_sem,cR]) rfl ⟨rfl,((K.setNew (by simp<;>omega) _).setNew (by simp<;>omega) _)⟩
theorem force_quot_any (a b:Sp) (ha:a.fit) (hb:b.fit) (hr:0<b.lo) (w:World) :
  Calls Tryz.prog 234 #[.agg #[.int .i64 a.lo,.int .i64 a.hi],.agg #[.int .i64 b.lo,.int .i64 b.hi]] w fun e w'=>e=.returned (.agg #[.int .i64 (quotS a b).lo,.int .i64 (quotS a b).hi])∧Kp w.heap.size none w w':=by
 have hc:=fun w=>span_Quot_any a b ha hb hr w;clear hr;generalize quotS a b=m at *;obtain⟨w1,hw1,A,B,R,K,hz⟩:=box3 w 29 #[.int .i64 a.lo,.int .i64 a.hi] 29 #[.int .i64 b.lo,.int .i64 b.hi] 29 #[.int .i64 0,.int .i64 0];go_enter Tryz.func234,Tryz.ntmps234
 go_wp2_with fail
 rw[← hw1];clear hw1;refine(hc _).mono ?_;rintro e w2 ⟨rfl,k⟩;replace A:=A.kpN k;replace B:=B.kpN k;replace R:=R.kpN k;replace K:=K.tN k;have hzk:=k.size;clear k;have pA:=A.cell;have pB:=B.cell;have pR:=R.cell;obtain⟨w9_,rfl,O,k9_,hzn⟩:=box1 w2 29 #[.int .i64 m.lo,.int .i64 m.hi];replace A:=A.kpN k9_;replace B:=B.kpN k9_;replace R:=R.kpN k9_;replace K:=K.thenN k9_ (by first|exact Nat.le_refl _|omega);clear k9_;have cA:=A.cell;have fA:=A.frozen;have cB:=B.cell;have fB:=B.frozen;have cR:=R.cell;have fR:=R.frozen;go_wp2_with fail
 clear cA fA pA cB fB pB cR fR pR;generalize (w2.alloc (.cells #[.int .i64 m.lo,.int .i64 m.hi] 29))=w3 at *;obtain⟨x,hx⟩:∃ q9,q9=w2.heap.size:=⟨_,rfl⟩;rw[← hx] at O ⊢;replace hx:=Lib.hid hx;have BR:=((R.set_ 0 (.int .i64 m.lo)).set_ 1 (.int .i64 m.hi));have cR:=BR.cell;exact bodyPost_ret (by simp[results,Tryz.results234,go_sem,cR]) rfl ⟨rfl,((K.setNew (by simp<;>omega) _).setNew (by simp<;>omega) _)⟩
theorem force_square_any (a:Sp) (ha:a.fit) (h1:-1073741824≤a.lo) (h2:a.hi≤1073741824) (w:World) :
  Calls Tryz.prog 247 #[.agg #[.int .i64 a.lo,.int .i64 a.hi]] w fun e w'=>e=.returned (.agg #[.int .i64 (squareS a).lo,.int .i64 (squareS a).hi])∧Kp w.heap.size none w w':=by
 have hc:=fun w=>span_Square_any a ha h1 h2 w;generalize squareS a=m at *;obtain⟨w1,hw1,A,R,K,hz⟩:=box2 w 29 #[.int .i64 a.lo,.int .i64 a.hi] 29 #[.int .i64 0,.int .i64 0];go_enter Tryz.func247,Tryz.ntmps247
 go_wp2_with fail
 rw[← hw1];clear hw1;refine(hc _).mono ?_;rintro e w2 ⟨rfl,k⟩;replace A:=A.kpN k;replace R:=R.kpN k;replace K:=K.tN k;have hzk:=k.size;clear k;have pA:=A.cell;have pR:=R.cell;obtain⟨w9_,rfl,O,k9_,hzn⟩:=box1 w2 29 #[.int .i64 m.lo,.int .i64 m.hi];replace A:=A.kpN k9_;replace R:=R.kpN k9_;replace K:=K.thenN k9_ (by first|exact Nat.le_refl _|omega);clear k9_;have cA:=A.cell;have fA:=A.frozen;have cR:=R.cell;have fR:=R.frozen;go_wp2_with fail
 clear cA fA pA cR fR pR;generalize (w2.alloc (.cells #[.int .i64 m.lo,.int .i64 m.hi] 29))=w3 at *;obtain⟨x,hx⟩:∃ q9,q9=w2.heap.size:=⟨_,rfl⟩;rw[← hx] at O ⊢;replace hx:=Lib.hid hx;have BR:=((R.set_ 0 (.int .i64 m.lo)).set_ 1 (.int .i64 m.hi));have cR:=BR.cell;exact bodyPost_ret (by simp[results,Tryz.results247,go_sem,cR]) rfl ⟨rfl,((K.setNew (by simp<;>omega) _).setNew (by simp<;>omega) _)⟩
theorem force_clamp_any (s:Sp) (w:World) :
  Calls Tryz.prog 252 #[.agg #[.int .i64 s.lo,.int .i64 s.hi]] w fun e w'=>e=.returned (.agg #[.int .i64 (clampS mp s).lo,.int .i64 (clampS mp s).hi])∧Kp w.heap.size none w w':=by
 go_enter Tryz.func252,Tryz.ntmps252
 go_wp2_with fail
 exact bodyPost_ret (by simp[results,Tryz.results252,go_sem];exact⟨rfl,rfl⟩) rfl ⟨rfl,Kp.new2 _ _ _⟩
def Sp.bd (s:Sp) (M:Int):Prop:=-M≤s.lo∧s.lo≤s.hi∧s.hi≤M
theorem Sp.bd.fit {s:Sp} {M:Int} (h:s.bd M) (hM:M≤1152921504606846976):s.fit:=by unfold Sp.bd at h;unfold Sp.fit;omega
theorem mulS_fit {a b:Sp} {A B:Nat} (ha:a.bd A) (hb:b.bd B) (h:A * B≤1152921504606846976):∀ x y,a.has x→b.has y→Fit1 (x * y):=by
 intro x y hx hy;unfold Sp.bd at ha hb;unfold Sp.has at hx hy;have:=mul_bd (a:=x) (b:=y) (A:=A) (B:=B) (by omega) (by omega);unfold Fit1;generalize x * y=z at *;generalize A * B=C at *;omega
theorem mulS_bd {a b:Sp} {A B:Nat} (ha:a.bd A) (hb:b.bd B):(mulS a b).bd ((A * B:Nat):Int):=by
 have key:∀ x y,a.has x→b.has y→-((A * B:Nat):Int)≤x * y∧x * y≤((A * B:Nat):Int):=by
  intro x y hx hy;unfold Sp.bd at ha hb;unfold Sp.has at hx hy;have:=mul_bd (a:=x) (b:=y) (A:=A) (B:=B) (by omega) (by omega);generalize x * y=z at *;generalize A * B=C at *;omega
 unfold Sp.bd at ha hb;have h1:=key a.lo b.lo ⟨by omega,by omega⟩ ⟨by omega,by omega⟩;have h2:=key a.lo b.hi ⟨by omega,by omega⟩ ⟨by omega,by omega⟩;have h3:=key a.hi b.lo ⟨by omega,by omega⟩ ⟨by omega,by omega⟩;have h4:=key a.hi b.hi ⟨by omega,by omega⟩ ⟨by omega,by omega⟩;have h5:=mulS_ok a b;refine⟨?_,h5,?_⟩
 · simp only[mulS,minC];omega
 · simp only[mulS,maxC];omega
theorem fdiv_bd {x y:Int} {M:Int} (h:-M≤x∧x≤M) (h0:0<y):(-M≤Int.fdiv x y∧Int.fdiv x y≤M)∧-M≤cdiv x y∧cdiv x y≤M:=by
 have key:∀ z:Int,-M≤z→z≤M→-M≤z / y∧z / y≤M:=fun z h1 h2=>by
  rcases Int.lt_or_le z 0 with g|g
  ·
   have a:=Int.ediv_mul_le z (show y≠0 by omega);refine⟨?_,?_⟩
   ·
    refine Int.le_ediv_of_mul_le h0 ?_;have:=Int.mul_le_mul_of_nonneg_left (show 1≤y by omega) (show 0≤M by omega);have e:-M * y=-(M * y):=by grind
    omega
   · have:=Int.ediv_neg_of_neg_of_pos g h0;omega
  ·
   have a:=Int.ediv_nonneg g (show 0≤y by omega);have b:=Int.ediv_le_self y g;omega
 unfold cdiv;rw[fdiv_pos x h0,fdiv_pos (-x) h0];have a:=key x h.1 h.2;have b:=key (-x) (by omega) (by omega);omega
theorem quotS_bd {a b:Sp} {M:Int} (ha:a.bd M) (h0:0<b.lo) (hb:b.lo≤b.hi):(quotS a b).bd M:=by
 unfold Sp.bd at ha;have h1:=fdiv_bd (x:=a.lo) (y:=b.lo) (M:=M) (by omega) h0;have h2:=fdiv_bd (x:=a.lo) (y:=b.hi) (M:=M) (by omega) (by omega);have h3:=fdiv_bd (x:=a.hi) (y:=b.lo) (M:=M) (by omega) h0;have h4:=fdiv_bd (x:=a.hi) (y:=b.hi) (M:=M) (by omega) (by omega);have h5:=quotS_ok a b;refine⟨?_,h5,?_⟩
 · simp only[quotS,minC];omega
 · simp only[quotS,maxC];omega
theorem force_part_any (a b:Sp) (A B:Nat) (ha:a.bd A) (hb:b.bd B) (h:A * B≤1152921504606846976) (hA:A≤1152921504606846976) (hB:B≤1152921504606846976) (w:World) :
  Calls Tryz.prog 214 #[.agg #[.int .i64 a.lo,.int .i64 a.hi],.agg #[.int .i64 b.lo,.int .i64 b.hi]] w fun e w'=>e=.returned (.agg #[.int .i64 (partS a b).lo,.int .i64 (partS a b).hi])∧Kp w.heap.size none w w':=by
 have c1:=fun w=>force_mul_any a b (ha.fit (by omega)) (hb.fit (by omega)) (mulS_fit ha hb h) w;have hm:=(mulS_bd ha hb).fit (by omega);have c2:=fun w=>force_quot_any (mulS a b) (oneS 1000) hm ⟨by decide,by decide,by decide⟩ (by decide) w;have e:quotS (mulS a b) (oneS 1000)=partS a b:=rfl;rw[e] at c2;generalize partS a b=p at *;clear e hm;generalize mulS a b=m at *;obtain⟨w1,hw1,A,B,R,K,hz⟩:=box3 w 29 #[.int .i64 a.lo,.int .i64 a.hi] 29 #[.int .i64 b.lo,.int .i64 b.hi] 29 #[.int .i64 0,.int .i64 0];go_enter Tryz.func214,Tryz.ntmps214
 go_wp2_with fail
 rw[← hw1];clear hw1;refine(c1 _).mono ?_;rintro e w2 ⟨rfl,k⟩;replace A:=A.kpN k;replace B:=B.kpN k;replace R:=R.kpN k;replace K:=K.tN k;have hzk:=k.size;clear k;have cA:=A.cell;have fA:=A.frozen;have cB:=B.cell;have fB:=B.frozen;have cR:=R.cell;have fR:=R.frozen;go_wp2_with fail
 refine(force_one_any 1000 _).mono ?_;rintro e w3 ⟨rfl,k⟩;clear cA fA cB fB cR fR;replace A:=A.kpN k;replace B:=B.kpN k;replace R:=R.kpN k;replace K:=K.tN k;have hzk:=k.size;clear k;have cA:=A.cell;have fA:=A.frozen;have cB:=B.cell;have fB:=B.frozen;have cR:=R.cell;have fR:=R.frozen;go_wp2_with fail
 refine(c2 _).mono ?_;rintro e w4 ⟨rfl,k⟩;clear cA fA cB fB cR fR;replace A:=A.kpN k;replace B:=B.kpN k;replace R:=R.kpN k;replace K:=K.tN k;have hzk:=k.size;clear k;have cA:=A.cell;have fA:=A.frozen;have cB:=B.cell;have fB:=B.frozen;have cR:=R.cell;have fR:=R.frozen;go_wp2_with fail
 clear cA fA cB fB cR fR;have BR:=((R.set_ 0 (.int .i64 p.lo)).set_ 1 (.int .i64 p.hi));have cR:=BR.cell;exact bodyPost_ret (by simp[results,Tryz.results214,go_sem,cR]) rfl ⟨rfl,((K.setNew (by simp<;>omega) _).setNew (by simp<;>omega) _)⟩
end Go.Proofs.YtdhiappifnflpaaGreat
