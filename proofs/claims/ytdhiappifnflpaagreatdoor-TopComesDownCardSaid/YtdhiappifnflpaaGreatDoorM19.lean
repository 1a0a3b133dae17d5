/- The reference's pulls, weakly: to, distances. The reference's pulls, weakly: scaled. Worlds in memory: the walks of sky, first part. -/
import Derived.Test.YtdhiappifnflpaaGreatDoorM18
import Derived.Test.YtdhiappifnflpaaGreatDoorM14
set_option maxRecDepth 100000
set_option maxHeartbeats 4000000
namespace Go.Proofs.YtdhiappifnflpaaGreatDoor
open Go.RowKit
def S2P (w:World) (e:Ending) (w':World):Prop:=(∃ s u:Sp,e=.returned (.tuple #[s,u])∧s.fit∧u.fit)∧Kp w.heap.size none w w'
def Fix (n:Int):Prop:=-1152921504606846976≤n∧n≤1152921504606846976
theorem fit_pt {n:Int} (h:Fix n):(⟨n,n⟩:Sp).fit:=⟨h.1,Int.le_refl _,h.2⟩
theorem span2_own {Q:World→Prop} {w w4:World} {r:Nat} {T:TypeId} {cs:Array Value} {n:Nat} {x0 x1:Int} (R:Blk w4 r T cs) (K:Kp n none w w4) (hr:n≤r)
  (h:∀ (s:Sp) w5,s.lo=x0→s.hi=x1→Blk w5 r T ((cs.setIfInBounds 0 (.int .i64 s.lo)).setIfInBounds 1 (.int .i64 s.hi))→Kp w4.heap.size (some r) w4 w5→w5.heap.size=w4.heap.size→Kp n none w w5→Q w5):Q ((w4.setCell ⟨r,0,none⟩ (.int .i64 x0)).setCell ⟨r,1,none⟩ (.int .i64 x1)):=
 h ⟨x0,x1⟩ _ rfl rfl ((R.set_ 0 _).set_ 1 _) (((Kp.refl _ (some r) w4).setRow (p:=⟨r,_,none⟩) rfl _).setRow (p:=⟨r,_,none⟩) rfl _) (by simp[World.setCell]) ((K.setNew hr _).setNew hr _)
theorem r3_distances (mu rad:Int) (V:Value) (a b:Sp) (hr:0≤rad∧rad≤1000) (ha:a.fit) (hb:b.fit) (w:World) :
  Calls Tryz.prog 185 #[.agg #[mu,rad,V],a,b] w (S2P w):=by
 have c1:=fun w=>r3_squared a ha w;have c2:=fun w=>r3_squared b hb w;obtain⟨z,hz⟩:∃ z:Int,z=rad * rad:=⟨_,rfl⟩
 have zb:0≤z∧z≤1000000:=by
  have h1:=Int.mul_nonneg hr.1 hr.1;have h2:=Int.mul_le_mul hr.2 hr.2 hr.1 (by omega:(0:Int)≤1000);omega
 have ez:wrap64 (rad * rad)=z:=by rw[← hz];unfold wrap64;omega
 clear hr ha hb hz;obtain⟨w1,hw1,P,A,B,R,U,K,hz⟩:=box5 w 43 #[mu,rad,V] 29 a 29 b 29 #[(0:Int),(0:Int)] 29 #[(0:Int),(0:Int)];go_enter Tryz.func185,Tryz.ntmps185
 go_wp2_with fail
 rw[← hw1];clear hw1;obtain⟨S,hS0,hS1⟩:=cls_of2 (P:=fun w'=>Blk w' _ _ _∧Blk w' _ _ _∧Kp _ _ _ w') w1 ⟨A,B,K⟩;try dsimp only at hS0
 have cA:=fun (x:Ev (S 0)) i=>((hS0 _).1 x.h).1.cell i;have cB:=fun (x:Ev (S 0)) i=>((hS0 _).1 x.h).2.1.cell i;replace A:=A.drew;replace B:=B.drew;replace K:=K.drew;replace R:=R.drew;replace P:=P.drew;replace U:=U.drew;have hevT:=ev_true;refine wro S [(0,1),(2,1),(1,2),(3,2),(4,2),(5,3)] [5] ((hS0 _).2 ⟨A,B,K⟩) ?_;intro _hev;refine oX ?_;refine oL ?_;intro Kc hKc;generalize w1.drew=wd9 at *;go_step;refine(c1 _).mono ?_;rintro e w2 ⟨⟨p,rfl,hp⟩,k⟩;replace A:=A.kpN k;replace B:=B.kpN k;replace R:=R.kpN k;replace P:=P.kpN k;replace U:=U.kpN k;replace K:=K.tN k;clear k;refine hKc _ _ ((hS0 _).2 ⟨A,B,K⟩) ?_;clear hKc Kc;refine oL ?_;intro Kc hKc;go_step;refine(c2 _).mono ?_;rintro e w3 ⟨⟨q,rfl,hq⟩,k⟩;replace A:=A.kpN k;replace B:=B.kpN k;replace R:=R.kpN k;replace P:=P.kpN k;replace U:=U.kpN k;replace K:=K.tN k;clear k;refine hKc _ _ ((hS0 _).2 ⟨A,B,K⟩) ?_;clear hKc Kc;refine oL ?_;intro Kc hKc;go_step;refine(r3_sum p q hp hq _).mono ?_;rintro e w4 ⟨⟨s,rfl,hs⟩,k⟩;replace A:=A.kpN k;replace B:=B.kpN k;replace R:=R.kpN k;replace P:=P.kpN k;replace U:=U.kpN k;replace K:=K.tN k;clear k;refine hKc _ _ ((hS0 _).2 ⟨A,B,K⟩) ?_;clear hKc Kc;refine oA ?_;intro Kc hKc;have cR:=R.cell;have fR:=R.frozen;go_step;obtain⟨w6,hwn,RB9,kst,hzst⟩:=R.st2 (.int .i64 s.lo) (.int .i64 s.hi);rw[← hwn];clear hwn cR fR;refine hKc _ _ ((hS1 _).2 trivial) ?_;clear hKc Kc;replace A:=A.kq kst;replace B:=B.kq kst;replace P:=P.kq kst;replace U:=U.kq kst;first|replace K:=K.thenOwn kst (Nat.le_refl _) oM|replace K:=K.then_ kst (Nat.le_refl _)
 replace R:=RB9;clear RB9 kst;simp only[sbt,sc0,scs] at R;change wpOrd _ _ _ _ _ 1 _ _;refine wpOrd_nil ?_;clear hevT _hev;clear cA cB hS0 hS1 S;have cP:=P.cell;go_upto_region 3 with(fail)
 obtain⟨m,hm⟩:∃ m,m=max 1 z:=⟨_,rfl⟩;rw[← hm];have hmb:1≤m∧m≤1000000:=by omega
 clear hm zb ez cP P;replace hmb:=Lib.hid hmb;have cR:=R.cell;have fR:=R.frozen;go_upto_region 4 with(fail)
 clear cR fR;refine span2_own (Q:=fun W=>Code.wp _ _ _ _ W) R K oM fun t w7 e1 e2 R7 kst hz7 K7=>?_
 have ht:t.fit:=by
  have:=hmb.out;unfold Sp.fit at hs ⊢;omega
 clear e1 e2;replace U:=U.kq kst;clear R K kst hs hmb hp hq;simp only[sbt,sc0,scs] at R7;have R:=R7;have K:=K7;have lU:=U.lt;clear R7 K7 A B;have cr:=fun w=>r1_Roots t ht w;have cR:=R.cell;have cU:=U.cell;have fU:=U.frozen;go_wp2_with fail
 refine(cr _).mono ?_;rintro e w8 ⟨⟨u,v,rfl,hu⟩,k⟩;clear cR cU fU cr;replace R:=R.kpN k;replace U:=U.kpN k;replace K:=K.tN k;clear k;have cU:=U.cell;have fU:=U.frozen;go_upto_region 5 with(fail)
 clear cU fU;refine span2_own (Q:=fun W=>Code.wp _ _ _ _ W) U K oM fun u' w9 e1 e2 U7 kst hz7 K7=>?_;obtain⟨⟩:u'=u:=by cases u';cases u;simp only at e1 e2;rw[e1,e2]
 clear e1 e2;replace R:=R.kq kst;simp only[sbt,sc0,scs] at U7;clear U K kst;have U:=U7;have K:=K7;clear U7 K7;obtain⟨S,hS0,hS1⟩:=cls_of2 (P:=fun w'=>Blk w' _ _ _∧Blk w' _ _ _∧Kp _ _ _ w') w9 ⟨R,U,K⟩;try dsimp only at hS0
 have cR:=fun (x:Ev (S 0)) i=>((hS0 _).1 x.h).1.cell i;have cU:=fun (x:Ev (S 0)) i=>((hS0 _).1 x.h).2.1.cell i;replace R:=R.drew;replace U:=U.drew;replace K:=K.drew;have hevT:=ev_true;refine wro S [(0,1),(1,1),(2,2),(3,3)] [3] ((hS0 _).2 ⟨R,U,K⟩) ?_;intro _hev;refine oX ?_;refine oL ?_;intro Kc hKc;generalize w9.drew=wd9 at *;have cS9:=R.cell;have fS9:=R.frozen;go_step;obtain⟨w11,hwn,RB9,kst,hzst⟩:=R.st2 (.int .i64 t.lo) (.int .i64 t.hi);rw[← hwn];clear hwn cS9 fS9;replace U:=U.kq kst;replace K:=K.thenOwn kst (Nat.le_refl _) oM;replace R:=RB9;clear RB9 kst hzst;simp only[sbt,sc0,scs] at R;refine hKc _ _ ((hS0 _).2 ⟨R,U,K⟩) ?_;clear hKc Kc;refine oA ?_;intro Kc hKc;have cR:=U.cell;have fR:=U.frozen;go_step;obtain⟨w12,hwn,RB9,kst,hzst⟩:=U.st2 (.int .i64 u.lo) (.int .i64 u.hi);rw[← hwn];clear hwn cR fR;refine hKc _ _ ((hS1 _).2 trivial) ?_;clear hKc Kc;replace R:=R.kq kst;first|replace K:=K.thenOwn kst (Nat.le_refl _) oM|replace K:=K.then_ kst (Nat.le_refl _)
 replace U:=RB9;clear RB9 kst;simp only[sbt,sc0,scs] at U;change wpOrd _ _ _ _ _ 1 _ _;refine wpOrd_nil ?_;clear hevT _hev;clear cR cU hS0 hS1 S;go_wp2_with fail
 have cR:=R.cell;have cU:=U.cell;exact bodyPost_ret (v:=.tuple #[.agg #[t.lo,t.hi],.agg #[u.lo,u.hi]]) (by simp[results,Tryz.results185,go_sem,cR,cU]) rfl ⟨⟨t,u,rfl,ht,hu⟩,K⟩
theorem r3_scaled (mu:Int) (a b:Sp) (w:World):Calls Tryz.prog 188 #[mu,a,b] w (S1P w):=by
 obtain⟨w1,hw1,A,B,R,O,K,hz⟩:=box4 w 29 a 29 b 29 #[(0:Int),(0:Int)] 29 #[(0:Int),(0:Int)];go_enter Tryz.func188,Tryz.ntmps188
 go_upto_region 3 with(fail)
 rw[← hw1];clear hw1;have cA:=A.cell;go_wp2_with fail
 clear cA;have X:=Blk.new w1 2 a;replace A:=A.alloc (.cells a 2);replace B:=B.alloc (.cells a 2);replace R:=R.alloc (.cells a 2);replace O:=O.alloc (.cells a 2);replace K:=K.alloc oM (.cells a 2);have hz2:(w1.alloc (.cells a 2)).heap.size=w.heap.size+5:=by simp[hz]
 rw[hz] at X;generalize w1.alloc (.cells a 2)=w2 at *;clear hz;go_loopw [8,22] (fun x y wr=>CoAt 29 (w.heap.size+3) w2 x y wr) (fun _ y _=>2-(intOf y).toNat)
 case atStart=>exact⟨true,0,⟨0,0⟩,rfl,rfl,by omega,fun _=>rfl,fun h=>by (cases h),O,Kp.refl _ _ _⟩
 case round=>
  clear O;obtain⟨f,i,o,rfl,rfl,hi,hf0,hf1,O,K2⟩:=hrel;replace B:=B.kp K2 oM oN;replace R:=R.kp K2 oM oN;replace X:=X.kp K2 oM oN;have hz3:=K2.size;by_cases hc:i<2
  ·
   obtain⟨x,hx⟩:∃ q9,q9=if i=0 then a.lo else a.hi:=⟨_,rfl⟩;have cX:wr.cell? ⟨w.heap.size+4,i,none⟩=some (.int .i64 x):=by rw[hx];exact(X.cell i).trans (pick2 _ _ i hc)
   clear hx;have cB:=B.cell;have hc2:(i:Int)<2:=by omega
   have hc3:¬ (i:Int)<0:=by omega
   replace hf0:=Lib.hid hf0;replace hf1:=Lib.hid hf1;go_wp2_with fail
   clear cX cB;have Y:=Blk.new wr 2 b;replace R:=R.alloc (.cells b 2);replace O:=O.alloc (.cells b 2);replace K2:=K2.alloc hz3 (.cells b 2);have hz4:(wr.alloc (.cells b 2)).heap.size=wr.heap.size+1:=by simp
   generalize wr.alloc (.cells b 2)=w3 at *;obtain⟨yb,hy⟩:∃ q9,q9=wr.heap.size:=⟨_,rfl⟩;rw[← hy] at Y hz4 hz3 ⊢;replace hy:=Lib.hid hy;clear B X;go_loopw [8,32] (fun x y wr=>CoAt 29 (w.heap.size+3) w3 x y wr) (fun _ y _=>2-(intOf y).toNat)
   case atStart=>exact⟨f,0,o,rfl,rfl,by omega,fun _=>rfl,hf1.out,O,Kp.refl _ _ _⟩
   case round=>
    clear O hf1;obtain⟨g,j,p,rfl,rfl,hj,hg0,hg1,O,K3⟩:=hrel;by_cases hd:j<2
    ·
     obtain⟨y,hy2⟩:∃ q9,q9=if j=0 then b.lo else b.hi:=⟨_,rfl⟩;have cY:=(K3.cell yb j oM oN).trans ((Y.cell j).trans (pick2 _ _ j hd));rw[← hy2] at cY;clear hy2;have hd2:(j:Int)<2:=by omega
     have hd3:¬ (j:Int)<0:=by omega
     replace hg0:=Lib.hid hg0;replace hg1:=Lib.hid hg1;replace hf0:=Lib.hid (fun _:Unit=>hf0);go_wp2_with fail
     clear cY;refine(r1_MulDiv mu x y _).mono ?_;rintro e w4 ⟨⟨lo,hi,v,rfl,hfit⟩,k⟩;unfold Sp.fit at hfit;dsimp only at hfit;replace hfit:=Lib.hid hfit;replace O:=O.kpN k;replace K3:=K3.tN k;clear k;by_cases hv:v=0
     ·
      subst hv;have cO:=O.cell;have fO:=O.frozen;cases g
      ·
       have hp:=hg1.out rfl;unfold Sp.fit at hp;replace hp:=Lib.hid hp;by_cases h1:lo<p.lo<;>by_cases h2:p.hi<hi
       ·
        go_wp2_with fail
        go_roundw
        case rel=>exact⟨false,j+1,⟨lo,hi⟩,rfl,by congr 1,by omega,fun h=>(by cases h),fun _=>(by have:=hp.out;have:=hfit.out;unfold Sp.fit;dsimp only;omega),(O.set_ 0 _).set_ 1 _,(K3.setRow (p:=⟨_,_,none⟩) rfl _).setRow (p:=⟨_,_,none⟩) rfl _⟩
        case measure=>simp[intOf];omega
       ·
        go_wp2_with fail
        go_roundw
        case rel=>exact⟨false,j+1,⟨lo,p.hi⟩,rfl,by congr 1,by omega,fun h=>(by cases h),fun _=>(by have:=hp.out;have:=hfit.out;unfold Sp.fit;dsimp only;omega),O.set_ 0 _,K3.setRow (p:=⟨_,_,none⟩) rfl _⟩
        case measure=>simp[intOf];omega
       ·
        go_wp2_with fail
        go_roundw
        case rel=>exact⟨false,j+1,⟨p.lo,hi⟩,rfl,by congr 1,by omega,fun h=>(by cases h),fun _=>(by have:=hp.out;have:=hfit.out;unfold Sp.fit;dsimp only;omega),O.set_ 1 _,K3.setRow (p:=⟨_,_,none⟩) rfl _⟩
        case measure=>simp[intOf];omega
       ·
        go_wp2_with fail
        go_roundw
        case rel=>exact⟨false,j+1,p,rfl,by congr 1,by omega,fun h=>(by cases h),fun _=>(by have:=hp.out;unfold Sp.fit;omega),O,K3⟩
        case measure=>simp[intOf];omega
      ·
       go_wp2_with fail
       go_roundw
       case rel=>exact⟨false,j+1,⟨lo,hi⟩,rfl,by congr 1,by omega,fun h=>(by cases h),fun _=>(by have:=hfit.out;unfold Sp.fit;dsimp only;omega),(O.set_ 0 _).set_ 1 _,(K3.setRow (p:=⟨_,_,none⟩) rfl _).setRow (p:=⟨_,_,none⟩) rfl _⟩
       case measure=>simp[intOf];omega
     ·
      by_cases hx0:x<0
      ·
       have cO:=O.cell;have fO:=O.frozen;cases g
       ·
        have hp:=hg1.out rfl;unfold Sp.fit at hp;replace hp:=Lib.hid hp;by_cases h1:(-1152921504606846976)<p.lo<;>by_cases h2:p.hi<(-1152921504606846976)
        ·
         go_wp2_with fail
         go_roundw
         case rel=>exact⟨false,j+1,⟨(-1152921504606846976),(-1152921504606846976)⟩,rfl,by congr 1,by omega,fun h=>(by cases h),fun _=>(by have:=hp.out;skip;unfold Sp.fit;dsimp only;omega),(O.set_ 0 _).set_ 1 _,(K3.setRow (p:=⟨_,_,none⟩) rfl _).setRow (p:=⟨_,_,none⟩) rfl _⟩
         case measure=>simp[intOf];omega
        ·
         go_wp2_with fail
         go_roundw
         case rel=>exact⟨false,j+1,⟨(-1152921504606846976),p.hi⟩,rfl,by congr 1,by omega,fun h=>(by cases h),fun _=>(by have:=hp.out;skip;unfold Sp.fit;dsimp only;omega),O.set_ 0 _,K3.setRow (p:=⟨_,_,none⟩) rfl _⟩
         case measure=>simp[intOf];omega
        ·
         go_wp2_with fail
         go_roundw
         case rel=>exact⟨false,j+1,⟨p.lo,(-1152921504606846976)⟩,rfl,by congr 1,by omega,fun h=>(by cases h),fun _=>(by have:=hp.out;skip;unfold Sp.fit;dsimp only;omega),O.set_ 1 _,K3.setRow (p:=⟨_,_,none⟩) rfl _⟩
         case measure=>simp[intOf];omega
        ·
         go_wp2_with fail
         go_roundw
         case rel=>exact⟨false,j+1,p,rfl,by congr 1,by omega,fun h=>(by cases h),fun _=>(by have:=hp.out;unfold Sp.fit;omega),O,K3⟩
         case measure=>simp[intOf];omega
       ·
        go_wp2_with fail
        go_roundw
        case rel=>exact⟨false,j+1,⟨(-1152921504606846976),(-1152921504606846976)⟩,rfl,by congr 1,by omega,fun h=>(by cases h),fun _=>(by skip;unfold Sp.fit;dsimp only;omega),(O.set_ 0 _).set_ 1 _,(K3.setRow (p:=⟨_,_,none⟩) rfl _).setRow (p:=⟨_,_,none⟩) rfl _⟩
        case measure=>simp[intOf];omega
      ·
       have cO:=O.cell;have fO:=O.frozen;cases g
       ·
        have hp:=hg1.out rfl;unfold Sp.fit at hp;replace hp:=Lib.hid hp;by_cases h1:1152921504606846976<p.lo<;>by_cases h2:p.hi<1152921504606846976
        ·
         go_wp2_with fail
         go_roundw
         case rel=>exact⟨false,j+1,⟨1152921504606846976,1152921504606846976⟩,rfl,by congr 1,by omega,fun h=>(by cases h),fun _=>(by have:=hp.out;skip;unfold Sp.fit;dsimp only;omega),(O.set_ 0 _).set_ 1 _,(K3.setRow (p:=⟨_,_,none⟩) rfl _).setRow (p:=⟨_,_,none⟩) rfl _⟩
         case measure=>simp[intOf];omega
        ·
         go_wp2_with fail
         go_roundw
         case rel=>exact⟨false,j+1,⟨1152921504606846976,p.hi⟩,rfl,by congr 1,by omega,fun h=>(by cases h),fun _=>(by have:=hp.out;skip;unfold Sp.fit;dsimp only;omega),O.set_ 0 _,K3.setRow (p:=⟨_,_,none⟩) rfl _⟩
         case measure=>simp[intOf];omega
        ·
         go_wp2_with fail
         go_roundw
         case rel=>exact⟨false,j+1,⟨p.lo,1152921504606846976⟩,rfl,by congr 1,by omega,fun h=>(by cases h),fun _=>(by have:=hp.out;skip;unfold Sp.fit;dsimp only;omega),O.set_ 1 _,K3.setRow (p:=⟨_,_,none⟩) rfl _⟩
         case measure=>simp[intOf];omega
        ·
         go_wp2_with fail
         go_roundw
         case rel=>exact⟨false,j+1,p,rfl,by congr 1,by omega,fun h=>(by cases h),fun _=>(by have:=hp.out;unfold Sp.fit;omega),O,K3⟩
         case measure=>simp[intOf];omega
       ·
        go_wp2_with fail
        go_roundw
        case rel=>exact⟨false,j+1,⟨1152921504606846976,1152921504606846976⟩,rfl,by congr 1,by omega,fun h=>(by cases h),fun _=>(by skip;unfold Sp.fit;dsimp only;omega),(O.set_ 0 _).set_ 1 _,(K3.setRow (p:=⟨_,_,none⟩) rfl _).setRow (p:=⟨_,_,none⟩) rfl _⟩
        case measure=>simp[intOf];omega
    ·
     obtain rfl:j=2:=by omega
     have:g=false:=by cases g;rfl;exact absurd (hg0 rfl) oM
     subst this;go_wp2_with fail
     go_roundw
     case rel=>exact⟨false,i+1,p,rfl,by congr 1,by omega,fun h=>(by cases h),fun _=>hg1 rfl,O,K2.trans ⟨K3.os,K3.tape,K3.output,K3.size,fun k hk hn=>K3.block k oM hn⟩⟩
     case measure=>simp[intOf];omega
  ·
   obtain rfl:i=2:=by omega
   have:f=false:=by cases f;rfl;exact absurd (hf0 rfl) oM
   subst this;have ho:=hf1 rfl;clear hf1 hf0;have cR:=R.cell;have fR:=R.frozen;have cO:=O.cell;go_wp2_with fail
   clear cR fR cO;have BR:=(R.set_ 0 (.int .i64 o.lo)).set_ 1 (.int .i64 o.hi);have cR:=BR.cell;replace K:=K.trans ⟨K2.os,K2.tape,K2.output,K2.size,fun k hk _=>K2.block k oM oN⟩;exact bodyPost_ret (v:=.agg #[o.lo,o.hi]) (by simp[results,Tryz.results188,go_sem,cR]) rfl ⟨⟨o,rfl,ho⟩,(K.setNew (by simp<;>omega) _).setNew (by simp<;>omega) _⟩
def encBd (x:Bd × Option Addr × Nat):List Value:=[.int .i64 x.1.mu,.int .i64 x.1.rad,.slice x.2.1 x.1.tr.length x.2.2]
def WdAt (row:Option Nat) (w:World) (A:Option Addr) (W:Wd):Prop:=
 ∃ l:List (Bd × Option Addr × Nat),l.map (·.1)=W.bs∧Rd row w 3 encBd A W.bs.length l∧∀ x∈l,Rd row w 2 encPt x.2.1 x.1.tr.length x.1.tr
section
variable {row:Option Nat} {w w':World} {A:Option Addr} {W:Wd}
theorem WdAt.kp (h:WdAt row w A W) (k:Kp w.heap.size row w w'):WdAt row w' A W:=by
 obtain⟨l,h1,h2,h3⟩:=h;exact⟨l,h1,h2.kp k,fun x hx=>(h3 x hx).kp k⟩
theorem WdAt.kpN (h:WdAt row w A W) (k:Kp w.heap.size none w w'):WdAt row w' A W:=h.kp (k.wide row)
theorem WdAt.free (h:WdAt row w A W):WdAt none w A W:=by
 obtain⟨l,h1,h2,h3⟩:=h;exact⟨l,h1,h2.free,fun x hx=>(h3 x hx).free⟩
theorem WdAt.drew (h:WdAt row w A W):WdAt row w.drew A W:=h
theorem WdAt.body (h:WdAt row w A W) (i:Nat) (hi:i<W.bs.length):∃ b o B c,A=some ⟨b,o,none⟩∧b<w.heap.size∧w.cell? ⟨b,o+i * 3,none⟩=some (.int .i64 W.bs[i].mu)∧w.cell? ⟨b,o+i * 3+1,none⟩=some (.int .i64 W.bs[i].rad) ∧
  w.cell? ⟨b,o+i * 3+2,none⟩=some (.slice B W.bs[i].tr.length c)∧Rd row w 2 encPt B W.bs[i].tr.length W.bs[i].tr:=by
 obtain⟨l,h1,h2,h3⟩:=h;obtain⟨b,o,rfl,hb,-,hc⟩:=h2.at_ oM;have hl:i<l.length:=by rw[h2.len];exact hi
 have e:W.bs[i]=l[i].1:=by simp only[← h1,List.getElem_map]
 have r:=h3 l[i] (List.getElem_mem hl);rw[e];refine⟨b,o,l[i].2.1,l[i].2.2,rfl,hb,?_,?_,?_,r⟩
 · have:=hc i hl 0 _ rfl;rwa [Nat.add_zero] at this
 · have:=hc i hl 1 _ rfl;rwa [← Nat.add_assoc] at this
 · have:=hc i hl 2 _ rfl;rwa [← Nat.add_assoc] at this
end
theorem sky_within_t {n lo hi:Int} (h1:lo≤n) (h2:n≤hi) (w:World):Calls Tryz.prog 120 #[n,lo,hi] w fun e w'=>e=.returned (.bool true)∧Kp w.heap.size none w w':=by
 have:=sky_within_any n lo hi w;rwa [btw_t h1 h2] at this
theorem sky_near_any (p:Pt) (m:Int) (hm:0≤m∧m≤1152921504606846976) (w:World) :
  Calls Tryz.prog 123 #[.agg #[p.x,p.y],m] w fun e w'=>e=.returned (.bool (btw p.x (-m) m&&btw p.y (-m) m))∧Kp w.heap.size none w w':=by
 have e1:wrap64 (-m)=-m:=by unfold wrap64;omega
 have c1:=fun w=>sky_within_any p.x (-m) m w;have c2:=fun w=>sky_within_any p.y (-m) m w;generalize btw p.x (-m) m=x at *;generalize btw p.y (-m) m=y at *;clear hm;obtain⟨w1,hw1,B,K,hz⟩:=box1 w 45 #[p.x,p.y];go_enter Tryz.func123,Tryz.ntmps123
 go_wp2_with fail
 rw[← hw1];clear hw1;refine mK (c1 _) fun w2 k=>?_;replace B:=B.kpN k;replace K:=K.thenN k oM;have hzk:=k.size;clear k;cases x
 ·
  have cB:=B.cell;have fB:=B.frozen;go_wp2_with fail
  clear cB fB;go_ret
  exact⟨rfl,K⟩
 ·
  have cB:=B.cell;have fB:=B.frozen;go_wp2_with fail
  refine mK (c2 _) fun w3 k=>?_;clear cB fB;replace B:=B.kpN k;replace K:=K.thenN k oM;have hzk:=k.size;clear k;have cB:=B.cell;have fB:=B.frozen;go_wp2_with fail
  clear cB fB;go_ret
  exact⟨by simp,K⟩
def NearP (p:Pt):Prop:=-33554432≤p.x∧p.x≤33554432∧-33554432≤p.y∧p.y≤33554432
theorem sky_near_t (p:Pt) (h:NearP p) (w:World) :
  Calls Tryz.prog 123 #[.agg #[p.x,p.y],(33554432:Int)] w fun e w'=>e=.returned (.bool true)∧Kp w.heap.size none w w':=by
 have:=sky_near_any p 33554432 oM w;rwa [btw_t h.1 h.2.1,btw_t h.2.2.1 h.2.2.2] at this
theorem checkBody1_any (p:Pt) (h:NearP p) (w:World) :
  Calls Tryz.prog 122 #[.agg #[p.x,p.y]] w fun e w'=>e=.returned (.bool false)∧Kp w.heap.size none w w':=by
 obtain⟨w1,hw1,B,K,hz⟩:=box1 w 45 #[p.x,p.y];go_enter Tryz.func122,Tryz.ntmps122
 go_wp2_with fail
 rw[← hw1];clear hw1;refine mK (sky_near_t p h _) fun w2 k=>?_;replace B:=B.kpN k;replace K:=K.thenN k oM;have hzk:=k.size;clear k;have cB:=B.cell;have fB:=B.frozen;go_wp2_with fail
 clear cB fB;go_ret
 exact⟨rfl,K⟩
theorem indexVec_any (A:Option Addr) (cap:Nat) (xs:List Pt) (w:World) (hr:Rd none w 2 encPt A xs.length xs) (hn:xs.length≤1000000) (hx:∀ x∈xs,NearP x) :
  Calls Tryz.prog 148 #[.slice A xs.length cap,.func (.func 122) #[] #[]] w fun e w'=>e=.returned (.int .i64 (-1))∧Kp w.heap.size none w w':=by
 go_enter Tryz.func148,Tryz.ntmps148
 go_wp2_with fail
 go_loopw [8] (fun v wr=>IdxAt xs.length w v wr) (fun v _=>(xs.length:Int).toNat-(intOf v).toNat)
 case atStart=>exact⟨0,rfl,Nat.zero_le _,Kp.refl _ _ _⟩
 case round=>
  obtain⟨i,rfl,hi,KK⟩:=hrel;by_cases h:i<xs.length
  ·
   obtain⟨b,o,rfl,hb,-,hc⟩:=(hr.kpN KK).at_ oM;have c0:=hc i h 0 _ rfl;have c1:=hc i h 1 _ rfl;rw[Nat.add_zero] at c0;rw[← Nat.add_assoc] at c1;have hxi:=hx _ (List.getElem_mem h);generalize xs[i]=x at *;have hii:(i:Int)<(xs.length:Int):=by omega
   have hi0:(0:Int)≤(i:Int):=by omega
   have hm:(xs.length:Int).toNat-((i+1:Nat):Int).toNat<(xs.length:Int).toNat-(i:Int).toNat:=by omega
   replace hm:=Lib.hid hm;clear hc hr hx;go_wp2_with fail
   refine mK (checkBody1_any x hxi _) fun w2 k=>?_;replace h:=Lib.hid h;go_wp2
   go_roundw
   case rel=>exact⟨i+1,by congr 1,h.out,KK.tN k⟩
   case measure=>exact hm.out
  ·
   obtain rfl:i=xs.length:=by omega
   go_wp2
   go_ret
   exact⟨rfl,KK⟩
theorem containsVec_any (A:Option Addr) (cap:Nat) (xs:List Pt) (w:World) (hr:Rd none w 2 encPt A xs.length xs) (hn:xs.length≤1000000) (hx:∀ x∈xs,NearP x) :
  Calls Tryz.prog 121 #[.slice A xs.length cap,.func (.func 122) #[] #[]] w fun e w'=>e=.returned (.bool false)∧Kp w.heap.size none w w':=by
 go_enter Tryz.func121,Tryz.ntmps121
 go_wp2_with fail
 refine mK (indexVec_any A cap xs _ hr hn hx) fun w1 k=>?_;go_wp2
 go_ret
 exact⟨rfl,k⟩
theorem Bd.ok.near {b:Bd} (h:b.ok):∀ p∈b.tr,NearP p:=fun p hp=>by have:=h.pl p hp;unfold NearP;omega
theorem checkBody_any (b:Bd) (B:Option Addr) (c:Nat) (w:World) (hb:b.ok) (hr:Rd none w 2 encPt B b.tr.length b.tr) :
  Calls Tryz.prog 78 #[.agg #[b.mu,b.rad,.slice B b.tr.length c]] w fun e w'=>e=.returned (.int .i64 0)∧Kp w.heap.size none w w':=by
 have c1:=fun w=>sky_within_t (n:=b.mu) (lo:=0) (hi:=1125899906842624) hb.mu0 (by have:=hb.mu1;omega) w;have c2:=fun w=>sky_within_t (n:=b.rad) (lo:=0) (hi:=1048576) hb.rad0 (by have:=hb.rad1;omega) w;have hn:=hb.near;have h0:=hb.tr0;have h1:=hb.tr1;have n0:((b.tr.length:Int)==0)=false:=by simp;intro e;rw[e] at h0;simp at h0
 have n1:¬ (4096:Int)<(b.tr.length:Int):=by omega
 have n2:¬ (b.tr.length:Int)=0:=by omega
 clear hb;obtain⟨w1,hw1,D,K,hz⟩:=box1 w 43 #[b.mu,b.rad,.slice B b.tr.length c];clear h0;go_enter Tryz.func78,Tryz.ntmps78
 go_wp2_with fail
 rw[← hw1];clear hw1;refine mK (c1 _) fun w2 k=>?_;replace D:=D.kpN k;replace K:=K.thenN k oM;have hzk:=k.size;clear k;have cD:=D.cell;have fD:=D.frozen;go_wp2_with fail
 refine mK (c2 _) fun w3 k=>?_;clear cD fD;replace D:=D.kpN k;replace K:=K.thenN k oM;have hzk:=k.size;clear k;have cD:=D.cell;have fD:=D.frozen;go_wp2_with fail
 refine mK (containsVec_any B c b.tr _ (hr.kpN K) oM hn) fun w4 k=>?_;clear cD fD;replace D:=D.kpN k;replace K:=K.thenN k oM;have hzk:=k.size;clear k;have cD:=D.cell;have fD:=D.frozen;go_wp2_with fail
 clear cD fD;go_ret
 exact⟨rfl,K⟩
theorem sky_CheckWorld_any (A:Option Addr) (c:Nat) (W:Wd) (w:World) (hW:W.ok) (hA:WdAt none w A W) :
  Calls Tryz.prog 34 #[.agg #[.slice A W.bs.length c,W.home]] w fun e w'=>e=.returned (.int .i64 0)∧Kp w.heap.size none w w':=by
 have h0:=hW.n0;have h1:=hW.n1;have h2:=hW.home;have hb:=hW.body;have n0:((W.bs.length:Int)==0)=false:=by simp;intro e;rw[e] at h0;simp at h0
 have n1:¬ (8:Int)<(W.bs.length:Int):=by omega
 have n2:¬ (W.bs.length:Int)=0:=by omega
 have n3:¬ (W.home:Int)<0:=by omega
 have n4:¬ (W.bs.length:Int)≤(W.home:Int):=by omega
 clear h0 h2 hW;obtain⟨w1,hw1,D,K,hz⟩:=box1 w 27 #[.slice A W.bs.length c,W.home];go_enter Tryz.func34,Tryz.ntmps34
 go_wp2_with fail
 rw[← hw1];clear hw1;go_loopw [19] (fun v wr=>∃ i:Nat,v=.int .i64 i∧i≤W.bs.length∧Blk wr w.heap.size 27 #[.slice A W.bs.length c,W.home]∧Kp w.heap.size none w wr) (fun v _=>(W.bs.length:Int).toNat-(intOf v).toNat)
 case atStart=>exact⟨0,rfl,Nat.zero_le _,D,K⟩
 case round=>
  obtain⟨i,rfl,hi,D,K⟩:=hrel;by_cases h:i<W.bs.length
  ·
   obtain⟨b,o,B,cc,rfl,hlt,e0,e1,e2,hr⟩:=(hA.kpN K).body i h;have hbi:=hb _ (List.getElem_mem h);generalize W.bs[i]=x at *;have hii:(i:Int)<(W.bs.length:Int):=by omega
   have hi0:(0:Int)≤(i:Int):=by omega
   have hm:(W.bs.length:Int).toNat-((i+1:Nat):Int).toNat<(W.bs.length:Int).toNat-(i:Int).toNat:=by omega
   replace hm:=Lib.hid hm;have k1:=Kp.new1 wr (.cells #[x.mu,x.rad,.slice B x.tr.length cc] 43);have hr1:=hr.kpN k1;clear hb hr hA;go_wp2_with fail
   refine mK (checkBody_any x B cc _ hbi hr1) fun w2 k=>?_;replace D:=(D.kpN k1).kpN k;replace K:=(K.tN k1).thenN k (Nat.le_refl _);clear k k1 hr1 hbi e0 e1 e2;replace h:=Lib.hid h;go_wp2
   go_roundw
   case rel=>exact⟨i+1,by congr 1,h.out,D,K⟩
   case measure=>exact hm.out
  ·
   obtain rfl:i=W.bs.length:=by omega
   clear hb hA;have cD:=D.cell;have fD:=D.frozen;go_wp2_with fail
   clear cD fD;go_ret
   exact⟨rfl,K⟩
theorem emod_idx (t:Int) (n:Nat) (hn:0<n) (ht:0≤t):0≤t % (n:Int)∧t % (n:Int)<(n:Int):=⟨Int.emod_nonneg _ oM,Int.emod_lt_of_pos _ oM⟩
theorem track_at_any (B:Option Addr) (c:Nat) (b:Bd) (t:Int) (w:World) (hb:b.ok) (ht:0≤t) (hr:Rd none w 2 encPt B b.tr.length b.tr) :
  Calls Tryz.prog 131 #[.slice B b.tr.length c,t] w fun e w'=>e=.returned (.agg #[(b.at t).x,(b.at t).y])∧Kp w.heap.size none w w':=by
 have h0:=hb.tr0;obtain⟨e1,e2⟩:=emod_idx t b.tr.length h0 ht;obtain⟨k,hk⟩:=Int.eq_ofNat_of_zero_le e1;have hkl:k<b.tr.length:=by omega
 obtain⟨bb,o,rfl,hlt,-,hc⟩:=hr.at_ h0;have c0:=hc k hkl 0 _ rfl;have c1:=hc k hkl 1 _ rfl;rw[Nat.add_zero] at c0;rw[← Nat.add_assoc] at c1
 have ea:b.at t=b.tr[k]:=by
  unfold Bd.at;rw[hk,Int.toNat_natCast,List.getD_eq_getElem?_getD,List.getElem?_eq_getElem hkl,Option.getD_some]
 rw[ea];generalize b.tr[k]=p at *;have et:t.tmod (b.tr.length:Int)=(k:Int):=by rw[Int.tmod_eq_emod_of_nonneg ht];exact hk
 have nz:((b.tr.length:Int)==0)=false:=by simp;intro e;rw[e] at h0;simp at h0
 have nz2:¬ (b.tr.length:Int)=0:=by omega
 have hi0:(0:Int)≤(k:Int):=by omega
 have hii:(k:Int)<(b.tr.length:Int):=by omega
 have wk:wrap64 (k:Int)=(k:Int):=by have:=hb.tr1;unfold wrap64;omega
 clear hc hr hb ea e1 e2 hk hkl;go_enter Tryz.func131,Tryz.ntmps131
 go_wp2_with fail
 exact bodyPost_ret (by simp[results,Tryz.results131,go_sem]) rfl ⟨rfl,Kp.new1 _ _⟩
theorem sky_At_any (A:Option Addr) (c:Nat) (W:Wd) (i:Nat) (t:Int) (w:World) (hW:W.ok) (hA:WdAt none w A W) (hi:i<W.bs.length) (ht:0≤t∧t≤1073741824) :
  Calls Tryz.prog 90 #[.agg #[.slice A W.bs.length c,W.home],i,t] w fun e w'=>e=.returned (.agg #[(W.bs[i].at t).x,(W.bs[i].at t).y])∧Kp w.heap.size none w w':=by
 have cw:=fun w h=>sky_CheckWorld_any A c W w hW h;have ct:=fun w=>sky_within_t ht.1 ht.2 w;have n3:¬ (i:Int)<0:=by omega
 have n4:¬ (W.bs.length:Int)≤(i:Int):=by omega
 have n5:¬ W.bs.length≤i:=by omega
 have hbi:=hW.body _ (List.getElem_mem hi);have h0:(0:Int)≤(i:Int):=by omega
 have h1:(i:Int)<(W.bs.length:Int):=by omega
 obtain⟨p,hp⟩:∃ q9,Hid (q9=W.bs[i].at t):=⟨_,Lib.hid rfl⟩;rw[← hp.out];clear hW;obtain⟨w1,hw1,D,R,K,hz⟩:=box2 w 27 #[.slice A W.bs.length c,W.home] 45 #[(0:Int),(0:Int)];go_enter Tryz.func90,Tryz.ntmps90
 go_wp2_with fail
 rw[← hw1];clear hw1;refine mK (cw _ (hA.kpN K)) fun w2 k=>?_;replace D:=D.kpN k;replace R:=R.kpN k;replace K:=K.thenN k oM;have hzk:=k.size;clear k;have cD:=D.cell;have fD:=D.frozen;have cR:=R.cell;have fR:=R.frozen;go_wp2_with fail
 refine mK (ct _) fun w3 k=>?_;clear cD fD cR fR;replace D:=D.kpN k;replace R:=R.kpN k;replace K:=K.thenN k oM;have hzk:=k.size;clear k;obtain⟨b,o,B,cc,rfl,hlt,e0,e1,e2,hr⟩:=(hA.kpN K).body i hi;have cc2:=fun w (h:Rd none w 2 encPt B W.bs[i].tr.length W.bs[i].tr)=>track_at_any B cc W.bs[i] t w hbi ht.1 h;rw[← hp.out] at cc2;clear e0 e1 hA hbi cw ct hp;generalize W.bs[i]=x at *;have cD:=D.cell;have fD:=D.frozen;have cR:=R.cell;have fR:=R.frozen;go_wp2_with fail
 refine mK (cc2 _ hr) fun w4 k=>?_;clear cD fD cR fR;replace D:=D.kpN k;replace R:=R.kpN k;replace K:=K.thenN k oM;have hzk:=k.size;clear k;have cD:=D.cell;have fD:=D.frozen;have cR:=R.cell;have fR:=R.frozen;go_wp2_with fail
 clear cD fD cR fR;have BR:=((R.set_ 0 (.int .i64 p.x)).set_ 1 (.int .i64 p.y));have cR:=BR.cell;exact bodyPost_ret (by simp[results,Tryz.results90,go_sem,cR]) rfl ⟨rfl,((K.setNew (by simp<;>omega) _).setNew (by simp<;>omega) _)⟩
end Go.Proofs.YtdhiappifnflpaaGreatDoor
