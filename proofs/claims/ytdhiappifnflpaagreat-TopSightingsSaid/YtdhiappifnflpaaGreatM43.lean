/- The reference's spans, weakly: corners. Fourth part. The reference's spans, weakly: products, quotients, squares, areas. Fifth part. The reference's spans and pulls, weakly: roots, and the small steps of the pulls. -/
import Derived.Test.YtdhiappifnflpaaGreatM42
import Derived.Test.YtdhiappifnflpaaGreatM23
import Derived.Deep.DeepCutAuto
import Derived.Test.YtdhiappifnflpaaGreatM11
set_option maxRecDepth 100000
set_option maxHeartbeats 4000000
namespace Go.Proofs.YtdhiappifnflpaaGreat
open Go.RowKit
def CoAt (T:TypeId) (ob:Nat) (w1:World) (a b:Value) (wr:World):Prop:=
 ∃ (f:Bool) (i:Nat) (o:Sp),a=.bool f∧b=.int .i64 i∧i≤2∧(f=true→i=0)∧(f=false→o.fit)∧Blk wr ob T o∧Kp w1.heap.size (some ob) w1 wr
theorem pick2 (x y:Int) (j:Nat) (h:j<2):(#[Value.int .i64 x,y]:Array Value)[j]?=some (.int .i64 (if j=0 then x else y)):=by
 rcases (show j=0∨j=1 by omega) with rfl|rfl<;>rfl
theorem pick2_fit {s:Sp} (h:s.fit) (j:Nat):-9223372036854775808<(if j=0 then s.lo else s.hi)∧(if j=0 then s.lo else s.hi)<9223372036854775808:=by
 unfold Sp.fit at h;split<;>omega
theorem r1_corners (a b:Sp) (dv:Bool) (ha:a.fit) (hb:b.fit) (w:World):Calls Tryz.prog 243 #[a,b,.bool dv] w (SpP w):=by
 have fa:=fun j=>pick2_fit ha j;have fb:=fun j=>pick2_fit hb j;clear ha hb;obtain⟨w1,hw1,A,B,R,O,K,hz⟩:=box4 w 29 a 29 b 29 #[(0:Int),(0:Int)] 29 #[(0:Int),(0:Int)];go_enter Tryz.func243,Tryz.ntmps243
 go_wp2_with fail
 rw[← hw1];clear hw1;have cA:=A.cell;go_wp2_with fail
 clear cA;have X:=Blk.new w1 2 a;replace A:=A.alloc (.cells a 2);replace B:=B.alloc (.cells a 2);replace R:=R.alloc (.cells a 2);replace O:=O.alloc (.cells a 2);replace K:=K.alloc oM (.cells a 2);have hz2:(w1.alloc (.cells a 2)).heap.size=w.heap.size+5:=by simp[hz]
 rw[hz] at X;generalize w1.alloc (.cells a 2)=w2 at *;clear hz;go_loopw [9,25] (fun x y wr=>CoAt 29 (w.heap.size+3) w2 x y wr) (fun _ y _=>2-(intOf y).toNat)
 case atStart=>exact⟨true,0,⟨0,0⟩,rfl,rfl,by omega,fun _=>rfl,fun h=>by (cases h),O,Kp.refl _ _ _⟩
 case round=>
  clear O;obtain⟨f,i,o,rfl,rfl,hi,hf0,hf1,O,K2⟩:=hrel;replace B:=B.kp K2 oM oN;replace R:=R.kp K2 oM oN;replace X:=X.kp K2 oM oN;have hz3:=K2.size;by_cases hc:i<2
  ·
   have cX:∀ w9,Kp w2.heap.size (some (w.heap.size+3)) w2 w9→True:=fun _ _=>trivial;clear cX;obtain⟨x,hx⟩:∃ q9,q9=if i=0 then a.lo else a.hi:=⟨_,rfl⟩;have fx:=fa i;have cX:wr.cell? ⟨w.heap.size+4,i,none⟩=some (.int .i64 x):=by rw[hx];exact(X.cell i).trans (pick2 _ _ i hc)
   rw[← hx] at fx;clear hx;have cB:=B.cell;have hc2:(i:Int)<2:=by omega
   have hc3:¬ (i:Int)<0:=by omega
   replace hf0:=Lib.hid hf0;replace hf1:=Lib.hid hf1;replace fx:=Lib.hid fx;go_wp2_with fail
   clear cX cB;have Y:=Blk.new wr 2 b;replace R:=R.alloc (.cells b 2);replace O:=O.alloc (.cells b 2);replace K2:=K2.alloc hz3 (.cells b 2);have hz4:(wr.alloc (.cells b 2)).heap.size=wr.heap.size+1:=by simp
   generalize wr.alloc (.cells b 2)=w3 at *;obtain⟨yb,hy⟩:∃ q9,q9=wr.heap.size:=⟨_,rfl⟩;rw[← hy] at Y hz4 hz3 ⊢;replace hy:=Lib.hid hy;clear B X;go_loopw [9,35] (fun x y wr=>CoAt 29 (w.heap.size+3) w3 x y wr) (fun _ y _=>2-(intOf y).toNat)
   case atStart=>exact⟨f,0,o,rfl,rfl,by omega,fun _=>rfl,hf1.out,O,Kp.refl _ _ _⟩
   case round=>
    clear O hf1;obtain⟨g,j,p,rfl,rfl,hj,hg0,hg1,O,K3⟩:=hrel;by_cases hd:j<2
    ·
     obtain⟨y,hy2⟩:∃ q9,q9=if j=0 then b.lo else b.hi:=⟨_,rfl⟩;have fy:=fb j;have cY:=(K3.cell yb j oM oN).trans ((Y.cell j).trans (pick2 _ _ j hd));rw[← hy2] at fy cY;clear hy2;have hd2:(j:Int)<2:=by omega
     have hd3:¬ (j:Int)<0:=by omega
     replace hg0:=Lib.hid hg0;replace hg1:=Lib.hid hg1;replace fy:=Lib.hid fy;replace hf0:=Lib.hid (fun _:Unit=>hf0);go_wp2_with fail
     clear cY;refine(r1_wideOf x y fx.out fy.out _).mono ?_;rintro e w4 ⟨⟨s,H,L,rfl,hH,hL⟩,k⟩;replace O:=O.kpN k;replace K3:=K3.tN k;clear k;replace hL:=Lib.hid hL;clear hH;have hz5:=K3.size;have V:=Blk.new w4 304 #[.bool s,.int .u64 H,.int .u64 L];have lO:=O.lt;replace O:=O.alloc (.cells #[.bool s,.int .u64 H,.int .u64 L] 304);replace K3:=K3.alloc oM (.cells #[.bool s,.int .u64 H,.int .u64 L] 304);obtain⟨vb,hvb⟩:∃ q9,q9=w4.heap.size:=⟨_,rfl⟩;have hz6:(w4.alloc (.cells #[.bool s,.int .u64 H,.int .u64 L] 304)).heap.size=w4.heap.size+1:=by simp
     cases dv
     ·
      have cV:=V.cell;go_wp2_with fail
      clear cV;generalize w4.alloc (.cells #[.bool s,.int .u64 H,.int .u64 L] 304)=w5 at *;refine(r1_quotient 1 s H L oM hL.out _).mono ?_;rintro e w6 ⟨⟨lo,hi,is,rfl,hfit⟩,k⟩;replace O:=O.kpN k;replace K3:=K3.tN k;clear k V;cases is
      ·
       have BR:=(R.kp K3 oM oN);have cR:=BR.cell;have fR:=BR.frozen;go_wp2_with fail
       clear cR fR;replace BR:=(BR.set_ 0 (.int .i64 0)).set_ 1 (.int .i64 0);have cR:=BR.cell;have KK:=K.trans ((K2.trans ⟨K3.os,K3.tape,K3.output,K3.size,fun k hk hn=>K3.block k oM hn⟩:Kp w2.heap.size (some (w.heap.size+3)) w2 w6) |> fun q=>(⟨q.os,q.tape,q.output,q.size,fun k hk _=>q.block k oM oN⟩:Kp w.heap.size none w2 w6));exact bodyPost_ret (v:=.tuple #[.agg #[(0:Int),(0:Int)],(14:Int)]) (by simp[results,Tryz.results243,go_sem,cR]) rfl ⟨⟨⟨0,0⟩,_,rfl,fit0⟩,(KK.setNew (by simp<;>omega) _).setNew (by simp<;>omega) _⟩
      ·
       replace hfit:=hfit rfl;have cO:=O.cell;have fO:=O.frozen;cases g
       ·
        have hp:=hg1.out rfl;unfold Sp.fit at hp hfit;dsimp only at hfit;replace hp:=Lib.hid hp;replace hfit:=Lib.hid hfit;by_cases h1:lo<p.lo<;>by_cases h2:p.hi<hi
        ·
         go_wp2_with fail
         go_roundw
         case rel=>exact⟨false,j+1,⟨lo,hi⟩,rfl,by congr 1,by omega,fun h=>(by cases h),fun _=>(by have:=hp.out;have:=hfit.out;unfold Sp.fit;dsimp only;omega),(O.set_ 0 _).set_ 1 _,(K3.setRow (p:=⟨_,_,none⟩) rfl _).setRow (p:=⟨_,_,none⟩) rfl _⟩
         case measure=>simp[intOf];omega
        ·
         go_wp2_with fail
         go_roundw
         case rel=>exact⟨false,j+1,⟨lo,p.hi⟩,rfl,by congr 1,by omega,fun h=>(by cases h),fun _=>(by have:=hp.out;have:=hfit.out;unfold Sp.fit;dsimp only;omega),O.set_ 0 _,K3.setRow (p:=⟨_,_,none⟩) rfl _⟩
         case measure=>simp[intOf];omega
        ·
         go_wp2_with fail
         go_roundw
         case rel=>exact⟨false,j+1,⟨p.lo,hi⟩,rfl,by congr 1,by omega,fun h=>(by cases h),fun _=>(by have:=hp.out;have:=hfit.out;unfold Sp.fit;dsimp only;omega),O.set_ 1 _,K3.setRow (p:=⟨_,_,none⟩) rfl _⟩
         case measure=>simp[intOf];omega
        ·
         go_wp2_with fail
         go_roundw
         case rel=>exact⟨false,j+1,p,rfl,by congr 1,by omega,fun h=>(by cases h),fun _=>(by have:=hp.out;unfold Sp.fit;omega),O,K3⟩
         case measure=>simp[intOf];omega
       ·
        go_wp2_with fail
        go_roundw
        case rel=>exact⟨false,j+1,⟨lo,hi⟩,rfl,by congr 1,by omega,fun h=>(by cases h),fun _=>hfit,(O.set_ 0 _).set_ 1 _,(K3.setRow (p:=⟨_,_,none⟩) rfl _).setRow (p:=⟨_,_,none⟩) rfl _⟩
        case measure=>simp[intOf];omega
     ·
      have cV:=V.cell;have fV:=V.frozen;go_wp2_with fail
      clear cV fV;generalize w4.alloc (.cells #[.bool s,.int .u64 H,.int .u64 L] 304)=w5 at *;refine(r1_wideOf x 1 fx.out oM _).mono ?_;rintro e w6 ⟨⟨s',H',L',rfl,hH',hL'⟩,k⟩;replace hL:=Lib.hid hL';clear hL' hH';replace O:=O.kpN k;replace V:=V.kpN k;replace K3:=K3.tN k;have hz7:=k.size;clear k;have cV:=V.cell;have fV:=V.frozen;obtain⟨w7,hw7,V7,kst,hz8⟩:=V.st3 (.bool s') (.int .u64 H') (.int .u64 L');simp only[sbt,sc0,scs] at V7;go_upto_region 13 with(fail)
      rw[← hw7];clear hw7 cV fV V;replace O:=O.kq kst;replace K3:=K3.thenOwn kst (Nat.le_refl _) oM;have cV:=V7.cell;go_wp2_with fail
      clear cV V7 kst;refine(r1_quotient y s' H' L' fy.out hL.out _).mono ?_;rintro e w9 ⟨⟨lo,hi,is,rfl,hfit⟩,k⟩;replace O:=O.kpN k;replace K3:=K3.tN k;clear k;cases is
      ·
       have BR:=(R.kp K3 oM oN);have cR:=BR.cell;have fR:=BR.frozen;go_wp2_with fail
       clear cR fR;replace BR:=(BR.set_ 0 (.int .i64 0)).set_ 1 (.int .i64 0);have cR:=BR.cell;have KK:=K.trans ((K2.trans ⟨K3.os,K3.tape,K3.output,K3.size,fun k hk hn=>K3.block k oM hn⟩:Kp w2.heap.size (some (w.heap.size+3)) w2 w9) |> fun q=>(⟨q.os,q.tape,q.output,q.size,fun k hk _=>q.block k oM oN⟩:Kp w.heap.size none w2 w9));exact bodyPost_ret (v:=.tuple #[.agg #[(0:Int),(0:Int)],(14:Int)]) (by simp[results,Tryz.results243,go_sem,cR]) rfl ⟨⟨⟨0,0⟩,_,rfl,fit0⟩,(KK.setNew (by simp<;>omega) _).setNew (by simp<;>omega) _⟩
      ·
       replace hfit:=hfit rfl;have cO:=O.cell;have fO:=O.frozen;cases g
       ·
        have hp:=hg1.out rfl;unfold Sp.fit at hp hfit;dsimp only at hfit;replace hp:=Lib.hid hp;replace hfit:=Lib.hid hfit;by_cases h1:lo<p.lo<;>by_cases h2:p.hi<hi
        ·
         go_wp2_with fail
         go_roundw
         case rel=>exact⟨false,j+1,⟨lo,hi⟩,rfl,by congr 1,by omega,fun h=>(by cases h),fun _=>(by have:=hp.out;have:=hfit.out;unfold Sp.fit;dsimp only;omega),(O.set_ 0 _).set_ 1 _,(K3.setRow (p:=⟨_,_,none⟩) rfl _).setRow (p:=⟨_,_,none⟩) rfl _⟩
         case measure=>simp[intOf];omega
        ·
         go_wp2_with fail
         go_roundw
         case rel=>exact⟨false,j+1,⟨lo,p.hi⟩,rfl,by congr 1,by omega,fun h=>(by cases h),fun _=>(by have:=hp.out;have:=hfit.out;unfold Sp.fit;dsimp only;omega),O.set_ 0 _,K3.setRow (p:=⟨_,_,none⟩) rfl _⟩
         case measure=>simp[intOf];omega
        ·
         go_wp2_with fail
         go_roundw
         case rel=>exact⟨false,j+1,⟨p.lo,hi⟩,rfl,by congr 1,by omega,fun h=>(by cases h),fun _=>(by have:=hp.out;have:=hfit.out;unfold Sp.fit;dsimp only;omega),O.set_ 1 _,K3.setRow (p:=⟨_,_,none⟩) rfl _⟩
         case measure=>simp[intOf];omega
        ·
         go_wp2_with fail
         go_roundw
         case rel=>exact⟨false,j+1,p,rfl,by congr 1,by omega,fun h=>(by cases h),fun _=>(by have:=hp.out;unfold Sp.fit;omega),O,K3⟩
         case measure=>simp[intOf];omega
       ·
        go_wp2_with fail
        go_roundw
        case rel=>exact⟨false,j+1,⟨lo,hi⟩,rfl,by congr 1,by omega,fun h=>(by cases h),fun _=>hfit,(O.set_ 0 _).set_ 1 _,(K3.setRow (p:=⟨_,_,none⟩) rfl _).setRow (p:=⟨_,_,none⟩) rfl _⟩
        case measure=>simp[intOf];omega
    ·
     obtain rfl:j=2:=by omega
     have:g=false:=by cases g;rfl;exact absurd (hg0 rfl) oM
     subst this;go_wp2_with fail
     go_roundw
     case rel=>exact⟨false,i+1,p,rfl,by congr 1,by omega,fun h=>(by cases h),fun _=>hg1 rfl,O,K2.trans ⟨K3.os,K3.tape,K3.output,K3.size,fun k hk hn=>K3.block k oM hn⟩⟩
     case measure=>simp[intOf];omega
  ·
   obtain rfl:i=2:=by omega
   have:f=false:=by cases f;rfl;exact absurd (hf0 rfl) oM
   subst this;have ho:=hf1 rfl;clear hf1 hf0;have cR:=R.cell;have fR:=R.frozen;have cO:=O.cell;go_wp2_with fail
   clear cR fR cO;have BR:=(R.set_ 0 (.int .i64 o.lo)).set_ 1 (.int .i64 o.hi);have cR:=BR.cell;replace K:=K.trans ⟨K2.os,K2.tape,K2.output,K2.size,fun k hk _=>K2.block k oM oN⟩;exact bodyPost_ret (v:=.tuple #[.agg #[o.lo,o.hi],(0:Int)]) (by simp[results,Tryz.results243,go_sem,cR]) rfl ⟨⟨o,_,rfl,ho⟩,(K.setNew (by simp<;>omega) _).setNew (by simp<;>omega) _⟩
theorem r1_Mul (a b:Sp) (ha:a.fit) (hb:b.fit) (w:World):Calls Tryz.prog 239 #[a,b] w (SpP w):=by
 have cc:=fun w=>r1_corners a b false ha hb w;clear ha hb;obtain⟨w1,hw1,A,B,R,K,hz⟩:=box3 w 29 a 29 b 29 #[(0:Int),(0:Int)];go_enter Tryz.func239,Tryz.ntmps239
 go_wp2_with fail
 rw[← hw1];clear hw1;refine(r1_both a b _).mono ?_;rintro e w2 ⟨⟨v,rfl⟩,k⟩;replace A:=A.kpN k;replace B:=B.kpN k;replace R:=R.kpN k;replace K:=K.thenN k oM;have hzk:=k.size;clear k;by_cases h:v=0
 ·
  subst h;have cA:=A.cell;have fA:=A.frozen;have cB:=B.cell;have fB:=B.frozen;have cR:=R.cell;have fR:=R.frozen;go_wp2_with fail
  refine(cc _).mono ?_;rintro e w3 ⟨⟨s,v2,rfl,hs⟩,k⟩;clear cA fA cB fB cR fR;replace A:=A.kpN k;replace B:=B.kpN k;replace R:=R.kpN k;replace K:=K.thenN k oM;have hzk:=k.size;clear k;have cR:=R.cell;have fR:=R.frozen;go_wp2_with fail
  clear cR fR;have BR:=(R.set_ 0 (.int .i64 s.lo)).set_ 1 (.int .i64 s.hi);have cR:=BR.cell;exact bodyPost_ret (v:=.tuple #[.agg #[s.lo,s.hi],v2]) (by simp[results,Tryz.results239,go_sem,cR]) rfl ⟨⟨s,_,rfl,hs⟩,(K.setNew (by simp<;>omega) _).setNew (by simp<;>omega) _⟩
 ·
  have cR:=R.cell;have fR:=R.frozen;go_wp2_with fail
  clear cR fR;have BR:=(R.set_ 0 (.int .i64 0)).set_ 1 (.int .i64 0);have cR:=BR.cell;exact bodyPost_ret (v:=.tuple #[.agg #[(0:Int),(0:Int)],v]) (by simp[results,Tryz.results239,go_sem,cR]) rfl ⟨⟨⟨0,0⟩,_,rfl,fit0⟩,(K.setNew (by simp<;>omega) _).setNew (by simp<;>omega) _⟩
theorem r1_Quot (a b:Sp) (ha:a.fit) (hb:b.fit) (w:World):Calls Tryz.prog 227 #[a,b] w (SpP w):=by
 have cc:=fun w=>r1_corners a b true ha hb w;clear ha hb;obtain⟨w1,hw1,A,B,R,K,hz⟩:=box3 w 29 a 29 b 29 #[(0:Int),(0:Int)];go_enter Tryz.func227,Tryz.ntmps227
 go_wp2_with fail
 rw[← hw1];clear hw1;refine(r1_both a b _).mono ?_;rintro e w2 ⟨⟨v,rfl⟩,k⟩;replace A:=A.kpN k;replace B:=B.kpN k;replace R:=R.kpN k;replace K:=K.thenN k oM;have hzk:=k.size;clear k;by_cases h:v=0
 ·
  subst h;by_cases h1:b.lo≤0
  ·
   by_cases h2:0≤b.hi
   ·
    have cB:=B.cell;have fB:=B.frozen;have cR:=R.cell;have fR:=R.frozen;go_wp2_with fail
    clear cB fB cR fR;have BR:=(R.set_ 0 (.int .i64 0)).set_ 1 (.int .i64 0);have cR:=BR.cell;exact bodyPost_ret (v:=.tuple #[.agg #[(0:Int),(0:Int)],(2:Int)]) (by simp[results,Tryz.results227,go_sem,cR]) rfl ⟨⟨⟨0,0⟩,_,rfl,fit0⟩,(K.setNew (by simp<;>omega) _).setNew (by simp<;>omega) _⟩
   ·
    have cA:=A.cell;have fA:=A.frozen;have cB:=B.cell;have fB:=B.frozen;have cR:=R.cell;have fR:=R.frozen;go_wp2_with fail
    refine(cc _).mono ?_;rintro e w3 ⟨⟨s,v2,rfl,hs⟩,k⟩;clear cA fA cB fB cR fR;replace A:=A.kpN k;replace B:=B.kpN k;replace R:=R.kpN k;replace K:=K.thenN k oM;have hzk:=k.size;clear k;have cR:=R.cell;have fR:=R.frozen;go_wp2_with fail
    clear cR fR;have BR:=(R.set_ 0 (.int .i64 s.lo)).set_ 1 (.int .i64 s.hi);have cR:=BR.cell;exact bodyPost_ret (v:=.tuple #[.agg #[s.lo,s.hi],v2]) (by simp[results,Tryz.results227,go_sem,cR]) rfl ⟨⟨s,_,rfl,hs⟩,(K.setNew (by simp<;>omega) _).setNew (by simp<;>omega) _⟩
  ·
   have cA:=A.cell;have fA:=A.frozen;have cB:=B.cell;have fB:=B.frozen;have cR:=R.cell;have fR:=R.frozen;go_wp2_with fail
   refine(cc _).mono ?_;rintro e w3 ⟨⟨s,v2,rfl,hs⟩,k⟩;clear cA fA cB fB cR fR;replace A:=A.kpN k;replace B:=B.kpN k;replace R:=R.kpN k;replace K:=K.thenN k oM;have hzk:=k.size;clear k;have cR:=R.cell;have fR:=R.frozen;go_wp2_with fail
   clear cR fR;have BR:=(R.set_ 0 (.int .i64 s.lo)).set_ 1 (.int .i64 s.hi);have cR:=BR.cell;exact bodyPost_ret (v:=.tuple #[.agg #[s.lo,s.hi],v2]) (by simp[results,Tryz.results227,go_sem,cR]) rfl ⟨⟨s,_,rfl,hs⟩,(K.setNew (by simp<;>omega) _).setNew (by simp<;>omega) _⟩
 ·
  have cR:=R.cell;have fR:=R.frozen;go_wp2_with fail
  clear cR fR;have BR:=(R.set_ 0 (.int .i64 0)).set_ 1 (.int .i64 0);have cR:=BR.cell;exact bodyPost_ret (v:=.tuple #[.agg #[(0:Int),(0:Int)],v]) (by simp[results,Tryz.results227,go_sem,cR]) rfl ⟨⟨⟨0,0⟩,_,rfl,fit0⟩,(K.setNew (by simp<;>omega) _).setNew (by simp<;>omega) _⟩
theorem r1_Square (a:Sp) (ha:a.fit) (w:World):Calls Tryz.prog 241 #[a] w (SpP w):=by
 obtain⟨f1,f2,f3⟩:=ha;have wa:wrap64 (-a.hi)=-a.hi:=by unfold wrap64;omega
 have wb:wrap64 (-a.lo)=-a.lo:=by unfold wrap64;omega
 have cc:=fun x y (h:(⟨x,y⟩:Sp).fit) w=>r1_corners ⟨x,y⟩ ⟨x,y⟩ false h h w;dsimp only at cc;have F:Hid (-1152921504606846976≤a.lo∧a.lo≤a.hi∧a.hi≤1152921504606846976):=Lib.hid ⟨f1,f2,f3⟩;clear f1 f2 f3;obtain⟨w1,hw1,A,R,K,hz⟩:=box2 w 29 a 29 #[(0:Int),(0:Int)];go_enter Tryz.func241,Tryz.ntmps241
 go_wp2_with fail
 rw[← hw1];clear hw1;refine(r1_Check a _).mono ?_;rintro e w2 ⟨⟨v,rfl⟩,k⟩;replace A:=A.kpN k;replace R:=R.kpN k;replace K:=K.thenN k oM;have hzk:=k.size;clear k;by_cases h9:v=0
 ·
  subst h9;have cA:=A.cell;go_wp2_with fail
  all_goals
   refine(cc _ _ (by have:=F.out;unfold Sp.fit;dsimp only;omega) _).mono ?_;rintro e w3 ⟨⟨s,v2,rfl,hs⟩,k⟩;replace R:=R.kpN k;replace K:=K.thenN k oM;have hz3:=k.size;clear k cA;have cR:=R.cell;have fR:=R.frozen;go_wp2_with fail
   clear cR fR;have BR:=(R.set_ 0 (.int .i64 s.lo)).set_ 1 (.int .i64 s.hi);have cR:=BR.cell;exact bodyPost_ret (v:=.tuple #[.agg #[s.lo,s.hi],v2]) (by simp[results,Tryz.results241,go_sem,cR]) rfl ⟨⟨s,_,rfl,hs⟩,(K.setNew (by simp<;>omega) _).setNew (by simp<;>omega) _⟩
 ·
  have cR:=R.cell;have fR:=R.frozen;go_wp2_with fail
  clear cR fR;have BR:=(R.set_ 0 (.int .i64 0)).set_ 1 (.int .i64 0);have cR:=BR.cell;exact bodyPost_ret (v:=.tuple #[.agg #[(0:Int),(0:Int)],v]) (by simp[results,Tryz.results241,go_sem,cR]) rfl ⟨⟨⟨0,0⟩,_,rfl,fit0⟩,(K.setNew (by simp<;>omega) _).setNew (by simp<;>omega) _⟩
theorem r1_CheckArea (a b:Sp) (w:World):Calls Tryz.prog 198 #[.agg #[a.lo,a.hi,b.lo,b.hi]] w (ErrP w):=by
 obtain⟨w1,hw1,A,K,hz⟩:=box1 w 167 #[a.lo,a.hi,b.lo,b.hi];go_enter Tryz.func198,Tryz.ntmps198
 go_wp2_with fail
 rw[← hw1];clear hw1;refine(r1_both a b _).mono ?_;rintro e w2 ⟨⟨v,rfl⟩,k⟩;replace A:=A.kpN k;replace K:=K.thenN k oM;have hzk:=k.size;clear k;by_cases h:v=0
 ·
  subst h;have cA:=A.cell;have fA:=A.frozen;go_wp2_with fail
  refine(r1_far a.lo _).mono ?_;rintro e w3 ⟨⟨x,rfl⟩,k⟩;clear cA fA;replace A:=A.kpN k;replace K:=K.thenN k oM;have hzk:=k.size;clear k;cases x
  ·
   have cA:=A.cell;have fA:=A.frozen;go_wp2_with fail
   clear cA fA;go_ret
   exact⟨⟨_,rfl⟩,K⟩
  ·
   have cA:=A.cell;have fA:=A.frozen;go_wp2_with fail
   refine(r1_far a.hi _).mono ?_;rintro e w3 ⟨⟨x,rfl⟩,k⟩;clear cA fA;replace A:=A.kpN k;replace K:=K.thenN k oM;have hzk:=k.size;clear k;cases x
   ·
    have cA:=A.cell;have fA:=A.frozen;go_wp2_with fail
    clear cA fA;go_ret
    exact⟨⟨_,rfl⟩,K⟩
   ·
    have cA:=A.cell;have fA:=A.frozen;go_wp2_with fail
    refine(r1_far b.lo _).mono ?_;rintro e w3 ⟨⟨x,rfl⟩,k⟩;clear cA fA;replace A:=A.kpN k;replace K:=K.thenN k oM;have hzk:=k.size;clear k;cases x
    ·
     have cA:=A.cell;have fA:=A.frozen;go_wp2_with fail
     clear cA fA;go_ret
     exact⟨⟨_,rfl⟩,K⟩
    ·
     have cA:=A.cell;have fA:=A.frozen;go_wp2_with fail
     refine(r1_far b.hi _).mono ?_;rintro e w3 ⟨⟨x,rfl⟩,k⟩;clear cA fA;replace A:=A.kpN k;replace K:=K.thenN k oM;have hzk:=k.size;clear k;cases x
     ·
      have cA:=A.cell;have fA:=A.frozen;go_wp2_with fail
      clear cA fA;go_ret
      exact⟨⟨_,rfl⟩,K⟩
     ·
      have cA:=A.cell;have fA:=A.frozen;go_wp2_with fail
      clear cA fA;go_ret
      exact⟨⟨_,rfl⟩,K⟩
 ·
  have cA:=A.cell;have fA:=A.frozen;go_wp2_with fail
  clear cA fA;go_ret
  exact⟨⟨_,rfl⟩,K⟩
def R3P (w:World) (e:Ending) (w':World):Prop:=(∃ (lo hi v:Int),e=.returned (.tuple #[lo,hi,v])∧(⟨lo,hi⟩:Sp).fit)∧Kp w.heap.size none w w'
theorem r1_MulDiv (a b c:Int) (w:World):Calls Tryz.prog 228 #[a,b,c] w (R3P w):=by
 have f0:(⟨0,0⟩:Sp).fit:=fit0;have fa:=fun h=>btw_of (n:=a) (lo:=-1152921504606846976) (hi:=1152921504606846976) h;have fb:=fun h=>btw_of (n:=b) (lo:=-1152921504606846976) (hi:=1152921504606846976) h;have fc:=fun h=>btw_of (n:=c) (lo:=-1152921504606846976) (hi:=1152921504606846976) h;have K:=Kp.refl w.heap.size none w;have ca:=fun w=>bolideref01_fits_any a w;have cb:=fun w=>bolideref01_fits_any b w;have cc:=fun w=>bolideref01_fits_any c w;generalize btw a _ _=x at *;generalize btw b _ _=y at *;generalize btw c _ _=z at *;replace fa:=Lib.hid fa;replace fb:=Lib.hid fb;replace fc:=Lib.hid fc;go_enter Tryz.func228,Tryz.ntmps228
 go_wp2_with fail
 refine mK (ca _) fun w1 k=>?_;replace K:=K.tN k;clear k;cases x
 ·
  go_wp2
  exact bodyPost_ret (v:=.tuple #[(0:Int),(0:Int),(2:Int)]) (by simp[results,Tryz.results228,go_sem]) rfl ⟨⟨_,_,_,rfl,f0⟩,K⟩
 go_wp2_with fail
 refine mK (cb _) fun w1 k=>?_;replace K:=K.tN k;clear k;cases y
 ·
  go_wp2
  exact bodyPost_ret (v:=.tuple #[(0:Int),(0:Int),(2:Int)]) (by simp[results,Tryz.results228,go_sem]) rfl ⟨⟨_,_,_,rfl,f0⟩,K⟩
 go_wp2_with fail
 refine mK (cc _) fun w1 k=>?_;replace K:=K.tN k;clear k;cases z
 ·
  go_wp2
  exact bodyPost_ret (v:=.tuple #[(0:Int),(0:Int),(2:Int)]) (by simp[results,Tryz.results228,go_sem]) rfl ⟨⟨_,_,_,rfl,f0⟩,K⟩
 by_cases hc:c=0
 ·
  go_wp2
  exact bodyPost_ret (v:=.tuple #[(0:Int),(0:Int),(2:Int)]) (by simp[results,Tryz.results228,go_sem]) rfl ⟨⟨_,_,_,rfl,f0⟩,K⟩
 go_wp2_with fail
 refine(r1_wideOf a b (by have:=fa.out trivial;omega) (by have:=fb.out trivial;omega) _).mono ?_;rintro e w1 ⟨⟨s,H,L,rfl,hH,hL⟩,k⟩;replace K:=K.tN k;replace hL:=Lib.hid hL;clear k hH;go_wp2_with fail
 refine(r1_quotient c s H L (by have:=fc.out trivial;omega) hL.out _).mono ?_;rintro e w1 ⟨⟨lo,hi,is,rfl,hf⟩,k⟩;replace K:=K.tN k;clear k;cases is
 ·
  go_wp2
  exact bodyPost_ret (v:=.tuple #[(0:Int),(0:Int),(14:Int)]) (by simp[results,Tryz.results228,go_sem]) rfl ⟨⟨_,_,_,rfl,f0⟩,K⟩
 ·
  replace hf:=Lib.hid (hf rfl);go_wp2
  exact bodyPost_ret (v:=.tuple #[lo,hi,(0:Int)]) (by simp[results,Tryz.results228,go_sem]) rfl ⟨⟨_,_,_,rfl,hf.out⟩,K⟩
theorem r1_Root (n:Nat) (hn:n<9223372036854775808) (w:World) :
  Calls Tryz.prog 242 #[n] w fun e w'=>(∃ r:Nat,e=.returned (.int .i64 r)∧RootN n r)∧Kp w.heap.size none w w':=by
 go_enter Tryz.func242,Tryz.ntmps242
 go_wp2_with fail
 go_loopw [3,4] (fun vo vb wr=>RootAt n .i64 w vo vb wr) (fun _ vb _=>(intOf vb).toNat)
 case atStart=>exact⟨32,0,2147483648,rfl,rfl,RootSt.start oM,Kp.refl _ _ _⟩
 case round=>
  obtain⟨j,out,bit,rfl,rfl,st,KK⟩:=hrel;by_cases hb:0<bit
  ·
   obtain⟨s1,s2,s3,s4⟩:=st.step hb;obtain⟨x,hx⟩:∃ x,x=out+bit:=⟨_,rfl⟩;obtain⟨y,hy⟩:∃ y,y=x * x:=⟨_,rfl⟩;obtain⟨b2,hb2⟩:∃ b2,b2=bit / 2:=⟨_,rfl⟩;have hb':(0:Int)<(bit:Int):=by omega
   have eadd:wrap64 ((out:Int)+(bit:Int))=(x:Int):=by unfold wrap64;omega
   rw[← hx,← hy,← hb2] at s3 s4;rw[← hx] at s2;have h6:(y:Int)=(x:Int) * (x:Int):=by rw[hy];push_cast;rfl
   have eb:(bit:Int) / 2=(b2:Int):=by omega
   have eb2:Int.tdiv (bit:Int) 2=(b2:Int):=by rw[hb2];rfl
   have hlt:b2<bit:=by omega
   have ew:=Lib.hid (show wrap64 (b2:Int)=(b2:Int) by unfold wrap64;omega);replace st:=Lib.hid st;by_cases hx5:x≤3037000499
   ·
    have hx5':(x:Int)≤3037000499:=by omega
    have emul:wrap64 ((x:Int) * (x:Int))=(y:Int):=by
     have h5:x * x≤3037000499 * 3037000499:=Nat.mul_le_mul oM oM;rw[← h6];unfold wrap64;omega
    replace emul:=Lib.hid emul;by_cases hyn:y≤n
    ·
     have hyi:(y:Int)≤(n:Int):=by omega
     have st':=Lib.hid (s3 hyn);replace hlt:=Lib.hid hlt;clear s1 s2 s3 s4 hx hy hb2 hb hyn h6 hx5;replace emul:=emul.out;go_wp2
     go_roundw
     case rel=>exact⟨j-1,x,b2,by rw[eadd],by rw[ew.out],st'.out,KK⟩
     case measure=>rw[ew.out];exact(show (b2:Int).toNat<(bit:Int).toNat by have:=hlt.out;omega)
    ·
     have hyi:¬ (y:Int)≤(n:Int):=by omega
     have st':=Lib.hid (s4 oM);replace hlt:=Lib.hid hlt;clear s1 s2 s3 s4 hx hy hb2 hb hyn h6 hx5;replace emul:=emul.out;go_wp2
     go_roundw
     case rel=>exact⟨j-1,out,b2,rfl,by rw[ew.out],st'.out,KK⟩
     case measure=>rw[ew.out];exact(show (b2:Int).toNat<(bit:Int).toNat by have:=hlt.out;omega)
   ·
    have hx5':¬ (x:Int)≤3037000499:=by omega
    have h5:=Nat.mul_le_mul (show 3037000500≤x by omega) (show 3037000500≤x by omega);rw[← hy] at h5;have h7:n<y:=Nat.lt_of_lt_of_le (Nat.lt_trans hn (by decide)) h5;have st':=Lib.hid (s4 h7);replace hlt:=Lib.hid hlt;clear s1 s2 s3 s4 hx hy hb2 hb h6 hx5 h5 h7;go_wp2
    go_roundw
    case rel=>exact⟨j-1,out,b2,rfl,by rw[ew.out],st'.out,KK⟩
    case measure=>rw[ew.out];exact(show (b2:Int).toNat<(bit:Int).toNat by have:=hlt.out;omega)
  ·
   have hb':¬ (0:Int)<(bit:Int):=by omega
   have hd:=Lib.hid (st.done oM);clear hb;go_wp2
   exact bodyPost_ret (by simp[results,Tryz.results242,go_sem]) rfl ⟨⟨out,rfl,hd.out⟩,KK⟩
theorem rootN_mono {m n r s:Nat} (h:RootN m r) (k:RootN n s) (hmn:m≤n):r≤s:=by
 rcases Nat.lt_or_ge s r with g|g
 ·
  have:=Nat.mul_le_mul (show s+1≤r from g) (show s+1≤r from g);have:=h.1;have:=k.2;omega
 · exact g
theorem r1_Roots (a:Sp) (ha:a.fit) (w:World):Calls Tryz.prog 226 #[a] w (SpP w):=by
 obtain⟨w1,hw1,A,R,K,hz⟩:=box2 w 29 a 29 #[(0:Int),(0:Int)];obtain⟨f1,f2,f3⟩:=ha;by_cases hn:a.lo<0
 ·
  clear f1 f2 f3;go_enter Tryz.func226,Tryz.ntmps226
  go_wp2_with fail
  rw[← hw1];clear hw1;refine(r1_Check a _).mono ?_;rintro e w2 ⟨⟨v,rfl⟩,k⟩;replace A:=A.kpN k;replace R:=R.kpN k;replace K:=K.thenN k oM;have hzk:=k.size;clear k;by_cases h:v=0
  ·
   subst h;have cA:=A.cell;have fA:=A.frozen;have cR:=R.cell;have fR:=R.frozen;go_wp2_with fail
   clear cA fA cR fR;have BR:=(R.set_ 0 (.int .i64 0)).set_ 1 (.int .i64 0);have cR:=BR.cell;exact bodyPost_ret (v:=.tuple #[.agg #[(0:Int),(0:Int)],(2:Int)]) (by simp[results,Tryz.results226,go_sem,cR]) rfl ⟨⟨⟨0,0⟩,_,rfl,fit0⟩,(K.setNew (by simp<;>omega) _).setNew (by simp<;>omega) _⟩
  ·
   have cR:=R.cell;have fR:=R.frozen;go_wp2_with fail
   clear cR fR;have BR:=(R.set_ 0 (.int .i64 0)).set_ 1 (.int .i64 0);have cR:=BR.cell;exact bodyPost_ret (v:=.tuple #[.agg #[(0:Int),(0:Int)],v]) (by simp[results,Tryz.results226,go_sem,cR]) rfl ⟨⟨⟨0,0⟩,_,rfl,fit0⟩,(K.setNew (by simp<;>omega) _).setNew (by simp<;>omega) _⟩
 ·
  obtain⟨l,hl⟩:=Int.eq_ofNat_of_zero_le (show 0≤a.lo by omega);obtain⟨m,hm⟩:=Int.eq_ofNat_of_zero_le (show 0≤a.hi by omega);have cl:=fun w=>r1_Root l oM w;have cm:=fun w=>r1_Root m oM w;rw[← hl] at cl;rw[← hm] at cm;have lm:l≤m:=by omega
  have mm:m≤1152921504606846976:=by omega
  replace lm:=Lib.hid lm;replace mm:=Lib.hid mm;clear hl hm f1 f2 f3;go_enter Tryz.func226,Tryz.ntmps226
  go_wp2_with fail
  rw[← hw1];clear hw1;refine(r1_Check a _).mono ?_;rintro e w2 ⟨⟨v,rfl⟩,k⟩;replace A:=A.kpN k;replace R:=R.kpN k;replace K:=K.thenN k oM;have hzk:=k.size;clear k;by_cases h:v=0
  ·
   subst h;have cA:=A.cell;have fA:=A.frozen;have cR:=R.cell;have fR:=R.frozen;go_wp2_with fail
   refine(cm _).mono ?_;rintro e w3 ⟨⟨q,rfl,hq⟩,k⟩;clear cA fA cR fR;replace A:=A.kpN k;replace R:=R.kpN k;replace K:=K.thenN k oM;have hzk:=k.size;clear k;have bq:=rootN_le hq mm.out;obtain⟨z,hz⟩:∃ z:Int,z=(q:Int) * (q:Int):=⟨_,rfl⟩
   have zb:0≤z∧z≤1152921504606846976:=by
    have:=hq.1;have:=mm.out;have e:((q * q:Nat):Int)=(q:Int) * q:=by push_cast;rfl
    omega
   have ww:wrap64 ((q:Int) * (q:Int))=z:=by rw[← hz];unfold wrap64;omega
   clear zb;replace hz:=Lib.hid hz;have w1':wrap64 ((q:Int)+1)=(q:Int)+1:=by unfold wrap64;omega
   replace w1':=Lib.hid w1';replace bq:=Lib.hid bq;replace hq:=Lib.hid hq;by_cases hlt:z<a.hi
   ·
    have cA:=A.cell;have fA:=A.frozen;have cR:=R.cell;have fR:=R.frozen;go_wp2_with fail
    refine(cl _).mono ?_;rintro e w4 ⟨⟨p,rfl,hp⟩,k⟩;clear cA fA cR fR;replace A:=A.kpN k;replace R:=R.kpN k;replace K:=K.thenN k oM;have hzk:=k.size;clear k;have pq:=Lib.hid (rootN_mono hp hq.out lm.out);clear hp;have cR:=R.cell;have fR:=R.frozen;go_wp2_with fail
    clear cR fR;simp only[w1'.out];have BR:=(R.set_ 0 (.int .i64 ((p:Int)))).set_ 1 (.int .i64 ((q:Int)+1));have cR:=BR.cell;exact bodyPost_ret (v:=.tuple #[.agg #[.int .i64 ((p:Int)),.int .i64 ((q:Int)+1)],(0:Int)]) (by simp[results,Tryz.results226,go_sem,cR]) rfl ⟨⟨⟨(p:Int),(q:Int)+1⟩,_,rfl,by have:=pq.out;have:=bq.out;unfold Sp.fit;dsimp only;omega⟩,(K.setNew (by simp<;>omega) _).setNew (by simp<;>omega) _⟩
   ·
    have cA:=A.cell;have fA:=A.frozen;have cR:=R.cell;have fR:=R.frozen;go_wp2_with fail
    refine(cl _).mono ?_;rintro e w4 ⟨⟨p,rfl,hp⟩,k⟩;clear cA fA cR fR;replace A:=A.kpN k;replace R:=R.kpN k;replace K:=K.thenN k oM;have hzk:=k.size;clear k;have pq:=Lib.hid (rootN_mono hp hq.out lm.out);clear hp;have cR:=R.cell;have fR:=R.frozen;go_wp2_with fail
    clear cR fR;have BR:=(R.set_ 0 (.int .i64 ((p:Int)))).set_ 1 (.int .i64 ((q:Int)));have cR:=BR.cell;exact bodyPost_ret (v:=.tuple #[.agg #[.int .i64 ((p:Int)),.int .i64 ((q:Int))],(0:Int)]) (by simp[results,Tryz.results226,go_sem,cR]) rfl ⟨⟨⟨(p:Int),(q:Int)⟩,_,rfl,by have:=pq.out;have:=bq.out;unfold Sp.fit;dsimp only;omega⟩,(K.setNew (by simp<;>omega) _).setNew (by simp<;>omega) _⟩
  ·
   have cR:=R.cell;have fR:=R.frozen;go_wp2_with fail
   clear cR fR;have BR:=(R.set_ 0 (.int .i64 0)).set_ 1 (.int .i64 0);have cR:=BR.cell;exact bodyPost_ret (v:=.tuple #[.agg #[(0:Int),(0:Int)],v]) (by simp[results,Tryz.results226,go_sem,cR]) rfl ⟨⟨⟨0,0⟩,_,rfl,fit0⟩,(K.setNew (by simp<;>omega) _).setNew (by simp<;>omega) _⟩
end Go.Proofs.YtdhiappifnflpaaGreat
