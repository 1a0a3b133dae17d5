/- The reference's spans, weakly: products, quotients, squares, areas. Fifth part. The reference's spans and pulls, weakly: roots, and the small steps of the pulls. The reference's pulls, weakly: small steps on spans. -/
import Derived.Test.YtdhiappifnflpaaGreatDoorM17
import Derived.Test.YtdhiappifnflpaaGreatDoorM13
set_option maxRecDepth 100000
set_option maxHeartbeats 1000000
namespace Go.Proofs.YtdhiappifnflpaaGreatDoor
open Go.RowKit
theorem r1_Mul (a b:Sp) (ha:a.fit) (hb:b.fit) (w:World):Calls Tryz.prog 211 #[a,b] w (SpP w):=by
 have cc:=fun w=>r1_corners a b false ha hb w;clear ha hb;obtain⟨w1,hw1,A,B,R,K,hz⟩:=box3 w 29 a 29 b 29 #[(0:Int),(0:Int)];go_enter Tryz.func211,Tryz.ntmps211
 go_wp2_with fail
 rw[← hw1];clear hw1;refine(r1_both a b _).mono ?_;rintro e w2 ⟨⟨v,rfl⟩,k⟩;replace A:=A.kpN k;replace B:=B.kpN k;replace R:=R.kpN k;replace K:=K.thenN k oM;have hzk:=k.size;clear k;by_cases h:v=0
 ·
  subst h;have cA:=A.cell;have fA:=A.frozen;have cB:=B.cell;have fB:=B.frozen;have cR:=R.cell;have fR:=R.frozen;go_wp2_with fail
  refine(cc _).mono ?_;rintro e w3 ⟨⟨s,v2,rfl,hs⟩,k⟩;clear cA fA cB fB cR fR;replace A:=A.kpN k;replace B:=B.kpN k;replace R:=R.kpN k;replace K:=K.thenN k oM;have hzk:=k.size;clear k;have cR:=R.cell;have fR:=R.frozen;go_wp2_with fail
  clear cR fR;have BR:=(R.set_ 0 (.int .i64 s.lo)).set_ 1 (.int .i64 s.hi);have cR:=BR.cell;exact bodyPost_ret (v:=.tuple #[.agg #[s.lo,s.hi],v2]) (by simp[results,Tryz.results211,go_sem,cR]) rfl ⟨⟨s,_,rfl,hs⟩,(K.setNew (by simp<;>omega) _).setNew (by simp<;>omega) _⟩
 ·
  have cR:=R.cell;have fR:=R.frozen;go_wp2_with fail
  clear cR fR;have BR:=(R.set_ 0 (.int .i64 0)).set_ 1 (.int .i64 0);have cR:=BR.cell;exact bodyPost_ret (v:=.tuple #[.agg #[(0:Int),(0:Int)],v]) (by simp[results,Tryz.results211,go_sem,cR]) rfl ⟨⟨⟨0,0⟩,_,rfl,fit0⟩,(K.setNew (by simp<;>omega) _).setNew (by simp<;>omega) _⟩
theorem r1_Quot (a b:Sp) (ha:a.fit) (hb:b.fit) (w:World):Calls Tryz.prog 202 #[a,b] w (SpP w):=by
 have cc:=fun w=>r1_corners a b true ha hb w;clear ha hb;obtain⟨w1,hw1,A,B,R,K,hz⟩:=box3 w 29 a 29 b 29 #[(0:Int),(0:Int)];go_enter Tryz.func202,Tryz.ntmps202
 go_wp2_with fail
 rw[← hw1];clear hw1;refine(r1_both a b _).mono ?_;rintro e w2 ⟨⟨v,rfl⟩,k⟩;replace A:=A.kpN k;replace B:=B.kpN k;replace R:=R.kpN k;replace K:=K.thenN k oM;have hzk:=k.size;clear k;by_cases h:v=0
 ·
  subst h;by_cases h1:b.lo≤0
  ·
   by_cases h2:0≤b.hi
   ·
    have cB:=B.cell;have fB:=B.frozen;have cR:=R.cell;have fR:=R.frozen;go_wp2_with fail
    clear cB fB cR fR;have BR:=(R.set_ 0 (.int .i64 0)).set_ 1 (.int .i64 0);have cR:=BR.cell;exact bodyPost_ret (v:=.tuple #[.agg #[(0:Int),(0:Int)],(2:Int)]) (by simp[results,Tryz.results202,go_sem,cR]) rfl ⟨⟨⟨0,0⟩,_,rfl,fit0⟩,(K.setNew (by simp<;>omega) _).setNew (by simp<;>omega) _⟩
   ·
    have cA:=A.cell;have fA:=A.frozen;have cB:=B.cell;have fB:=B.frozen;have cR:=R.cell;have fR:=R.frozen;go_wp2_with fail
    refine(cc _).mono ?_;rintro e w3 ⟨⟨s,v2,rfl,hs⟩,k⟩;clear cA fA cB fB cR fR;replace A:=A.kpN k;replace B:=B.kpN k;replace R:=R.kpN k;replace K:=K.thenN k oM;have hzk:=k.size;clear k;have cR:=R.cell;have fR:=R.frozen;go_wp2_with fail
    clear cR fR;have BR:=(R.set_ 0 (.int .i64 s.lo)).set_ 1 (.int .i64 s.hi);have cR:=BR.cell;exact bodyPost_ret (v:=.tuple #[.agg #[s.lo,s.hi],v2]) (by simp[results,Tryz.results202,go_sem,cR]) rfl ⟨⟨s,_,rfl,hs⟩,(K.setNew (by simp<;>omega) _).setNew (by simp<;>omega) _⟩
  ·
   have cA:=A.cell;have fA:=A.frozen;have cB:=B.cell;have fB:=B.frozen;have cR:=R.cell;have fR:=R.frozen;go_wp2_with fail
   refine(cc _).mono ?_;rintro e w3 ⟨⟨s,v2,rfl,hs⟩,k⟩;clear cA fA cB fB cR fR;replace A:=A.kpN k;replace B:=B.kpN k;replace R:=R.kpN k;replace K:=K.thenN k oM;have hzk:=k.size;clear k;have cR:=R.cell;have fR:=R.frozen;go_wp2_with fail
   clear cR fR;have BR:=(R.set_ 0 (.int .i64 s.lo)).set_ 1 (.int .i64 s.hi);have cR:=BR.cell;exact bodyPost_ret (v:=.tuple #[.agg #[s.lo,s.hi],v2]) (by simp[results,Tryz.results202,go_sem,cR]) rfl ⟨⟨s,_,rfl,hs⟩,(K.setNew (by simp<;>omega) _).setNew (by simp<;>omega) _⟩
 ·
  have cR:=R.cell;have fR:=R.frozen;go_wp2_with fail
  clear cR fR;have BR:=(R.set_ 0 (.int .i64 0)).set_ 1 (.int .i64 0);have cR:=BR.cell;exact bodyPost_ret (v:=.tuple #[.agg #[(0:Int),(0:Int)],v]) (by simp[results,Tryz.results202,go_sem,cR]) rfl ⟨⟨⟨0,0⟩,_,rfl,fit0⟩,(K.setNew (by simp<;>omega) _).setNew (by simp<;>omega) _⟩
theorem r1_Square (a:Sp) (ha:a.fit) (w:World):Calls Tryz.prog 213 #[a] w (SpP w):=by
 obtain⟨f1,f2,f3⟩:=ha;have wa:wrap64 (-a.hi)=-a.hi:=by unfold wrap64;omega
 have wb:wrap64 (-a.lo)=-a.lo:=by unfold wrap64;omega
 have cc:=fun x y (h:(⟨x,y⟩:Sp).fit) w=>r1_corners ⟨x,y⟩ ⟨x,y⟩ false h h w;dsimp only at cc;have F:Hid (-1152921504606846976≤a.lo∧a.lo≤a.hi∧a.hi≤1152921504606846976):=Lib.hid ⟨f1,f2,f3⟩;clear f1 f2 f3;obtain⟨w1,hw1,A,R,K,hz⟩:=box2 w 29 a 29 #[(0:Int),(0:Int)];go_enter Tryz.func213,Tryz.ntmps213
 go_wp2_with fail
 rw[← hw1];clear hw1;refine(r1_Check a _).mono ?_;rintro e w2 ⟨⟨v,rfl⟩,k⟩;replace A:=A.kpN k;replace R:=R.kpN k;replace K:=K.thenN k oM;have hzk:=k.size;clear k;by_cases h9:v=0
 ·
  subst h9;have cA:=A.cell;go_wp2_with fail
  all_goals
   refine(cc _ _ (by have:=F.out;unfold Sp.fit;dsimp only;omega) _).mono ?_;rintro e w3 ⟨⟨s,v2,rfl,hs⟩,k⟩;replace R:=R.kpN k;replace K:=K.thenN k oM;have hz3:=k.size;clear k cA;have cR:=R.cell;have fR:=R.frozen;go_wp2_with fail
   clear cR fR;have BR:=(R.set_ 0 (.int .i64 s.lo)).set_ 1 (.int .i64 s.hi);have cR:=BR.cell;exact bodyPost_ret (v:=.tuple #[.agg #[s.lo,s.hi],v2]) (by simp[results,Tryz.results213,go_sem,cR]) rfl ⟨⟨s,_,rfl,hs⟩,(K.setNew (by simp<;>omega) _).setNew (by simp<;>omega) _⟩
 ·
  have cR:=R.cell;have fR:=R.frozen;go_wp2_with fail
  clear cR fR;have BR:=(R.set_ 0 (.int .i64 0)).set_ 1 (.int .i64 0);have cR:=BR.cell;exact bodyPost_ret (v:=.tuple #[.agg #[(0:Int),(0:Int)],v]) (by simp[results,Tryz.results213,go_sem,cR]) rfl ⟨⟨⟨0,0⟩,_,rfl,fit0⟩,(K.setNew (by simp<;>omega) _).setNew (by simp<;>omega) _⟩
theorem r1_CheckArea (a b:Sp) (w:World):Calls Tryz.prog 180 #[.agg #[a.lo,a.hi,b.lo,b.hi]] w (ErrP w):=by
 obtain⟨w1,hw1,A,K,hz⟩:=box1 w 53 #[a.lo,a.hi,b.lo,b.hi];go_enter Tryz.func180,Tryz.ntmps180
 go_wp2_with fail
 rw[← hw1];clear hw1;refine(r1_both a b _).mono ?_;rintro e w2 ⟨⟨v,rfl⟩,k⟩;replace A:=A.kpN k;replace K:=K.thenN k oM;have hzk:=k.size;clear k;by_cases h:v=0
 ·
  subst h;have cA:=A.cell;have fA:=A.frozen;go_wp2_with fail
  refine(r1_far a.lo _).mono ?_;rintro e w3 ⟨⟨x,rfl⟩,k⟩;clear cA fA;replace A:=A.kpN k;replace K:=K.thenN k oM;have hzk:=k.size;clear k;cases x
  ·
   have cA:=A.cell;have fA:=A.frozen;go_wp2_with fail
   clear cA fA;go_ret
   exact⟨⟨_,rfl⟩,K⟩
  ·
   have cA:=A.cell;have fA:=A.frozen;go_wp2_with fail
   refine(r1_far a.hi _).mono ?_;rintro e w3 ⟨⟨x,rfl⟩,k⟩;clear cA fA;replace A:=A.kpN k;replace K:=K.thenN k oM;have hzk:=k.size;clear k;cases x
   ·
    have cA:=A.cell;have fA:=A.frozen;go_wp2_with fail
    clear cA fA;go_ret
    exact⟨⟨_,rfl⟩,K⟩
   ·
    have cA:=A.cell;have fA:=A.frozen;go_wp2_with fail
    refine(r1_far b.lo _).mono ?_;rintro e w3 ⟨⟨x,rfl⟩,k⟩;clear cA fA;replace A:=A.kpN k;replace K:=K.thenN k oM;have hzk:=k.size;clear k;cases x
    ·
     have cA:=A.cell;have fA:=A.frozen;go_wp2_with fail
     clear cA fA;go_ret
     exact⟨⟨_,rfl⟩,K⟩
    ·
     have cA:=A.cell;have fA:=A.frozen;go_wp2_with fail
     refine(r1_far b.hi _).mono ?_;rintro e w3 ⟨⟨x,rfl⟩,k⟩;clear cA fA;replace A:=A.kpN k;replace K:=K.thenN k oM;have hzk:=k.size;clear k;cases x
     ·
      have cA:=A.cell;have fA:=A.frozen;go_wp2_with fail
      clear cA fA;go_ret
      exact⟨⟨_,rfl⟩,K⟩
     ·
      have cA:=A.cell;have fA:=A.frozen;go_wp2_with fail
      clear cA fA;go_ret
      exact⟨⟨_,rfl⟩,K⟩
 ·
  have cA:=A.cell;have fA:=A.frozen;go_wp2_with fail
  clear cA fA;go_ret
  exact⟨⟨_,rfl⟩,K⟩
def R3P (w:World) (e:Ending) (w':World):Prop:=(∃ (lo hi v:Int),e=.returned (.tuple #[lo,hi,v])∧(⟨lo,hi⟩:Sp).fit)∧Kp w.heap.size none w w'
theorem r1_MulDiv (a b c:Int) (w:World):Calls Tryz.prog 203 #[a,b,c] w (R3P w):=by
 have f0:(⟨0,0⟩:Sp).fit:=fit0;have fa:=fun h=>btw_of (n:=a) (lo:=-1152921504606846976) (hi:=1152921504606846976) h;have fb:=fun h=>btw_of (n:=b) (lo:=-1152921504606846976) (hi:=1152921504606846976) h;have fc:=fun h=>btw_of (n:=c) (lo:=-1152921504606846976) (hi:=1152921504606846976) h;have K:=Kp.refl w.heap.size none w;have ca:=fun w=>bolideref01_fits_any a w;have cb:=fun w=>bolideref01_fits_any b w;have cc:=fun w=>bolideref01_fits_any c w;generalize btw a _ _=x at *;generalize btw b _ _=y at *;generalize btw c _ _=z at *;replace fa:=Lib.hid fa;replace fb:=Lib.hid fb;replace fc:=Lib.hid fc;go_enter Tryz.func203,Tryz.ntmps203
 go_wp2_with fail
 refine mK (ca _) fun w1 k=>?_;replace K:=K.tN k;clear k;cases x
 ·
  go_wp2
  exact bodyPost_ret (v:=.tuple #[(0:Int),(0:Int),(2:Int)]) (by simp[results,Tryz.results203,go_sem]) rfl ⟨⟨_,_,_,rfl,f0⟩,K⟩
 go_wp2_with fail
 refine mK (cb _) fun w1 k=>?_;replace K:=K.tN k;clear k;cases y
 ·
  go_wp2
  exact bodyPost_ret (v:=.tuple #[(0:Int),(0:Int),(2:Int)]) (by simp[results,Tryz.results203,go_sem]) rfl ⟨⟨_,_,_,rfl,f0⟩,K⟩
 go_wp2_with fail
 refine mK (cc _) fun w1 k=>?_;replace K:=K.tN k;clear k;cases z
 ·
  go_wp2
  exact bodyPost_ret (v:=.tuple #[(0:Int),(0:Int),(2:Int)]) (by simp[results,Tryz.results203,go_sem]) rfl ⟨⟨_,_,_,rfl,f0⟩,K⟩
 by_cases hc:c=0
 ·
  go_wp2
  exact bodyPost_ret (v:=.tuple #[(0:Int),(0:Int),(2:Int)]) (by simp[results,Tryz.results203,go_sem]) rfl ⟨⟨_,_,_,rfl,f0⟩,K⟩
 go_wp2_with fail
 refine(r1_wideOf a b (by have:=fa.out trivial;omega) (by have:=fb.out trivial;omega) _).mono ?_;rintro e w1 ⟨⟨s,H,L,rfl,hH,hL⟩,k⟩;replace K:=K.tN k;replace hL:=Lib.hid hL;clear k hH;go_wp2_with fail
 refine(r1_quotient c s H L (by have:=fc.out trivial;omega) hL.out _).mono ?_;rintro e w1 ⟨⟨lo,hi,is,rfl,hf⟩,k⟩;replace K:=K.tN k;clear k;cases is
 ·
  go_wp2
  exact bodyPost_ret (v:=.tuple #[(0:Int),(0:Int),(14:Int)]) (by simp[results,Tryz.results203,go_sem]) rfl ⟨⟨_,_,_,rfl,f0⟩,K⟩
 ·
  replace hf:=Lib.hid (hf rfl);go_wp2
  exact bodyPost_ret (v:=.tuple #[lo,hi,(0:Int)]) (by simp[results,Tryz.results203,go_sem]) rfl ⟨⟨_,_,_,rfl,hf.out⟩,K⟩
theorem r1_Root (n:Nat) (hn:n<9223372036854775808) (w:World) :
  Calls Tryz.prog 214 #[n] w fun e w'=>(∃ r:Nat,e=.returned (.int .i64 r)∧RootN n r)∧Kp w.heap.size none w w':=by
 go_enter Tryz.func214,Tryz.ntmps214
 go_wp2_with fail
 go_loopw [3,4] (fun vo vb wr=>RootAt n .i64 w vo vb wr) (fun _ vb _=>(intOf vb).toNat)
 case atStart=>exact⟨32,0,2147483648,rfl,rfl,RootSt.start oM,Kp.refl _ _ _⟩
 case round=>
  obtain⟨j,out,bit,rfl,rfl,st,KK⟩:=hrel;by_cases hb:0<bit
  ·
   obtain⟨s1,s2,s3,s4⟩:=st.step hb;obtain⟨x,hx⟩:∃ x,x=out+bit:=⟨_,rfl⟩;obtain⟨y,hy⟩:∃ y,y=x * x:=⟨_,rfl⟩;obtain⟨b2,hb2⟩:∃ b2,b2=bit / 2:=⟨_,rfl⟩;have hb':(0:Int)<(bit:Int):=by omega
   have eadd:wrap64 ((out:Int)+(bit:Int))=(x:Int):=by unfold wrap64;omega
   rw[← hx,← hy,← hb2] at s3 s4;rw[← hx] at s2;have h6:(y:Int)=(x:Int) * (x:Int):=by rw[hy];push_cast;rfl
   have eb:(bit:Int) / 2=(b2:Int):=by omega
   have eb2:Int.tdiv (bit:Int) 2=(b2:Int):=by rw[hb2];rfl
   have hlt:b2<bit:=by omega
   have ew:=Lib.hid (show wrap64 (b2:Int)=(b2:Int) by unfold wrap64;omega);replace st:=Lib.hid st;by_cases hx5:x≤3037000499
   ·
    have hx5':(x:Int)≤3037000499:=by omega
    have emul:wrap64 ((x:Int) * (x:Int))=(y:Int):=by
     have h5:x * x≤3037000499 * 3037000499:=Nat.mul_le_mul oM oM;rw[← h6];unfold wrap64;omega
    replace emul:=Lib.hid emul;by_cases hyn:y≤n
    ·
     have hyi:(y:Int)≤(n:Int):=by omega
     have st':=Lib.hid (s3 hyn);replace hlt:=Lib.hid hlt;clear s1 s2 s3 s4 hx hy hb2 hb hyn h6 hx5;replace emul:=emul.out;go_wp2
     go_roundw
     case rel=>exact⟨j-1,x,b2,by rw[eadd],by rw[ew.out],st'.out,KK⟩
     case measure=>rw[ew.out];exact(show (b2:Int).toNat<(bit:Int).toNat by have:=hlt.out;omega)
    ·
     have hyi:¬ (y:Int)≤(n:Int):=by omega
     have st':=Lib.hid (s4 oM);replace hlt:=Lib.hid hlt;clear s1 s2 s3 s4 hx hy hb2 hb hyn h6 hx5;replace emul:=emul.out;go_wp2
     go_roundw
     case rel=>exact⟨j-1,out,b2,rfl,by rw[ew.out],st'.out,KK⟩
     case measure=>rw[ew.out];exact(show (b2:Int).toNat<(bit:Int).toNat by have:=hlt.out;omega)
   ·
    have hx5':¬ (x:Int)≤3037000499:=by omega
    have h5:=Nat.mul_le_mul (show 3037000500≤x by omega) (show 3037000500≤x by omega);rw[← hy] at h5;have h7:n<y:=Nat.lt_of_lt_of_le (Nat.lt_trans hn (by decide)) h5;have st':=Lib.hid (s4 h7);replace hlt:=Lib.hid hlt;clear s1 s2 s3 s4 hx hy hb2 hb h6 hx5 h5 h7;go_wp2
    go_roundw
    case rel=>exact⟨j-1,out,b2,rfl,by rw[ew.out],st'.out,KK⟩
    case measure=>rw[ew.out];exact(show (b2:Int).toNat<(bit:Int).toNat by have:=hlt.out;omega)
  ·
   have hb':¬ (0:Int)<(bit:Int):=by omega
   have hd:=Lib.hid (st.done oM);clear hb;go_wp2
   exact bodyPost_ret (by simp[results,Tryz.results214,go_sem]) rfl ⟨⟨out,rfl,hd.out⟩,KK⟩
theorem rootN_mono {m n r s:Nat} (h:RootN m r) (k:RootN n s) (hmn:m≤n):r≤s:=by
 rcases Nat.lt_or_ge s r with g|g
 ·
  have:=Nat.mul_le_mul (show s+1≤r from g) (show s+1≤r from g);have:=h.1;have:=k.2;omega
 · exact g
theorem r1_Roots (a:Sp) (ha:a.fit) (w:World):Calls Tryz.prog 201 #[a] w (SpP w):=by
 obtain⟨w1,hw1,A,R,K,hz⟩:=box2 w 29 a 29 #[(0:Int),(0:Int)];obtain⟨f1,f2,f3⟩:=ha;by_cases hn:a.lo<0
 ·
  clear f1 f2 f3;go_enter Tryz.func201,Tryz.ntmps201
  go_wp2_with fail
  rw[← hw1];clear hw1;refine(r1_Check a _).mono ?_;rintro e w2 ⟨⟨v,rfl⟩,k⟩;replace A:=A.kpN k;replace R:=R.kpN k;replace K:=K.thenN k oM;have hzk:=k.size;clear k;by_cases h:v=0
  ·
   subst h;have cA:=A.cell;have fA:=A.frozen;have cR:=R.cell;have fR:=R.frozen;go_wp2_with fail
   clear cA fA cR fR;have BR:=(R.set_ 0 (.int .i64 0)).set_ 1 (.int .i64 0);have cR:=BR.cell;exact bodyPost_ret (v:=.tuple #[.agg #[(0:Int),(0:Int)],(2:Int)]) (by simp[results,Tryz.results201,go_sem,cR]) rfl ⟨⟨⟨0,0⟩,_,rfl,fit0⟩,(K.setNew (by simp<;>omega) _).setNew (by simp<;>omega) _⟩
  ·
   have cR:=R.cell;have fR:=R.frozen;go_wp2_with fail
   clear cR fR;have BR:=(R.set_ 0 (.int .i64 0)).set_ 1 (.int .i64 0);have cR:=BR.cell;exact bodyPost_ret (v:=.tuple #[.agg #[(0:Int),(0:Int)],v]) (by simp[results,Tryz.results201,go_sem,cR]) rfl ⟨⟨⟨0,0⟩,_,rfl,fit0⟩,(K.setNew (by simp<;>omega) _).setNew (by simp<;>omega) _⟩
 ·
  obtain⟨l,hl⟩:=Int.eq_ofNat_of_zero_le (show 0≤a.lo by omega);obtain⟨m,hm⟩:=Int.eq_ofNat_of_zero_le (show 0≤a.hi by omega);have cl:=fun w=>r1_Root l oM w;have cm:=fun w=>r1_Root m oM w;rw[← hl] at cl;rw[← hm] at cm;have lm:l≤m:=by omega
  have mm:m≤1152921504606846976:=by omega
  replace lm:=Lib.hid lm;replace mm:=Lib.hid mm;clear hl hm f1 f2 f3;go_enter Tryz.func201,Tryz.ntmps201
  go_wp2_with fail
  rw[← hw1];clear hw1;refine(r1_Check a _).mono ?_;rintro e w2 ⟨⟨v,rfl⟩,k⟩;replace A:=A.kpN k;replace R:=R.kpN k;replace K:=K.thenN k oM;have hzk:=k.size;clear k;by_cases h:v=0
  ·
   subst h;have cA:=A.cell;have fA:=A.frozen;have cR:=R.cell;have fR:=R.frozen;go_wp2_with fail
   refine(cm _).mono ?_;rintro e w3 ⟨⟨q,rfl,hq⟩,k⟩;clear cA fA cR fR;replace A:=A.kpN k;replace R:=R.kpN k;replace K:=K.thenN k oM;have hzk:=k.size;clear k;have bq:=rootN_le hq mm.out;obtain⟨z,hz⟩:∃ z:Int,z=(q:Int) * (q:Int):=⟨_,rfl⟩
   have zb:0≤z∧z≤1152921504606846976:=by
    have:=hq.1;have:=mm.out;have e:((q * q:Nat):Int)=(q:Int) * q:=by push_cast;rfl
    omega
   have ww:wrap64 ((q:Int) * (q:Int))=z:=by rw[← hz];unfold wrap64;omega
   clear zb;replace hz:=Lib.hid hz;have w1':wrap64 ((q:Int)+1)=(q:Int)+1:=by unfold wrap64;omega
   replace w1':=Lib.hid w1';replace bq:=Lib.hid bq;replace hq:=Lib.hid hq;by_cases hlt:z<a.hi
   ·
    have cA:=A.cell;have fA:=A.frozen;have cR:=R.cell;have fR:=R.frozen;go_wp2_with fail
    refine(cl _).mono ?_;rintro e w4 ⟨⟨p,rfl,hp⟩,k⟩;clear cA fA cR fR;replace A:=A.kpN k;replace R:=R.kpN k;replace K:=K.thenN k oM;have hzk:=k.size;clear k;have pq:=Lib.hid (rootN_mono hp hq.out lm.out);clear hp;have cR:=R.cell;have fR:=R.frozen;go_wp2_with fail
    clear cR fR;simp only[w1'.out];have BR:=(R.set_ 0 (.int .i64 ((p:Int)))).set_ 1 (.int .i64 ((q:Int)+1));have cR:=BR.cell;exact bodyPost_ret (v:=.tuple #[.agg #[.int .i64 ((p:Int)),.int .i64 ((q:Int)+1)],(0:Int)]) (by simp[results,Tryz.results201,go_sem,cR]) rfl ⟨⟨⟨(p:Int),(q:Int)+1⟩,_,rfl,by have:=pq.out;have:=bq.out;unfold Sp.fit;dsimp only;omega⟩,(K.setNew (by simp<;>omega) _).setNew (by simp<;>omega) _⟩
   ·
    have cA:=A.cell;have fA:=A.frozen;have cR:=R.cell;have fR:=R.frozen;go_wp2_with fail
    refine(cl _).mono ?_;rintro e w4 ⟨⟨p,rfl,hp⟩,k⟩;clear cA fA cR fR;replace A:=A.kpN k;replace R:=R.kpN k;replace K:=K.thenN k oM;have hzk:=k.size;clear k;have pq:=Lib.hid (rootN_mono hp hq.out lm.out);clear hp;have cR:=R.cell;have fR:=R.frozen;go_wp2_with fail
    clear cR fR;have BR:=(R.set_ 0 (.int .i64 ((p:Int)))).set_ 1 (.int .i64 ((q:Int)));have cR:=BR.cell;exact bodyPost_ret (v:=.tuple #[.agg #[.int .i64 ((p:Int)),.int .i64 ((q:Int))],(0:Int)]) (by simp[results,Tryz.results201,go_sem,cR]) rfl ⟨⟨⟨(p:Int),(q:Int)⟩,_,rfl,by have:=pq.out;have:=bq.out;unfold Sp.fit;dsimp only;omega⟩,(K.setNew (by simp<;>omega) _).setNew (by simp<;>omega) _⟩
  ·
   have cR:=R.cell;have fR:=R.frozen;go_wp2_with fail
   clear cR fR;have BR:=(R.set_ 0 (.int .i64 0)).set_ 1 (.int .i64 0);have cR:=BR.cell;exact bodyPost_ret (v:=.tuple #[.agg #[(0:Int),(0:Int)],v]) (by simp[results,Tryz.results201,go_sem,cR]) rfl ⟨⟨⟨0,0⟩,_,rfl,fit0⟩,(K.setNew (by simp<;>omega) _).setNew (by simp<;>omega) _⟩
def S1P (w:World) (e:Ending) (w':World):Prop:=(∃ s:Sp,e=.returned s∧s.fit)∧Kp w.heap.size none w w'
theorem r3_product (a b:Sp) (ha:a.fit) (hb:b.fit) (w:World):Calls Tryz.prog 198 #[a,b] w (S1P w):=by
 obtain⟨w1,hw1,A,B,R,K,hz⟩:=box3 w 29 a 29 b 29 #[(0:Int),(0:Int)];go_enter Tryz.func198,Tryz.ntmps198
 go_wp2_with fail
 rw[← hw1];clear hw1;refine(r1_Mul a b ha hb _).mono ?_;rintro e w2 ⟨⟨s,v,rfl,hs⟩,k⟩;replace A:=A.kpN k;replace B:=B.kpN k;replace R:=R.kpN k;replace K:=K.thenN k oM;have hzk:=k.size;clear k;have O:=Blk.new w2 29 #[s.lo,s.hi];replace R:=R.alloc (.cells #[s.lo,s.hi] 29);replace K:=K.alloc oM (.cells #[s.lo,s.hi] 29);clear A B;go_upto_region 2 with(fail)
 generalize w2.alloc (.cells #[s.lo,s.hi] 29)=w3 at *;have cO:=O.cell;have cR:=R.cell;have fR:=R.frozen;go_wp2_with fail
 clear cR fR;have BR:=(R.set_ 0 (.int .i64 s.lo)).set_ 1 (.int .i64 s.hi);have cR:=BR.cell;exact bodyPost_ret (v:=.agg #[s.lo,s.hi]) (by simp[results,Tryz.results198,go_sem,cR]) rfl ⟨⟨s,rfl,hs⟩,(K.setNew (by simp<;>omega) _).setNew (by simp<;>omega) _⟩
theorem r3_quotient (a b:Sp) (ha:a.fit) (hb:b.fit) (w:World):Calls Tryz.prog 187 #[a,b] w (S1P w):=by
 obtain⟨w1,hw1,A,B,R,K,hz⟩:=box3 w 29 a 29 b 29 #[(0:Int),(0:Int)];go_enter Tryz.func187,Tryz.ntmps187
 go_wp2_with fail
 rw[← hw1];clear hw1;refine(r1_Quot a b ha hb _).mono ?_;rintro e w2 ⟨⟨s,v,rfl,hs⟩,k⟩;replace A:=A.kpN k;replace B:=B.kpN k;replace R:=R.kpN k;replace K:=K.thenN k oM;have hzk:=k.size;clear k;have O:=Blk.new w2 29 #[s.lo,s.hi];replace R:=R.alloc (.cells #[s.lo,s.hi] 29);replace K:=K.alloc oM (.cells #[s.lo,s.hi] 29);clear A B;go_upto_region 2 with(fail)
 generalize w2.alloc (.cells #[s.lo,s.hi] 29)=w3 at *;have cO:=O.cell;have cR:=R.cell;have fR:=R.frozen;go_wp2_with fail
 clear cR fR;have BR:=(R.set_ 0 (.int .i64 s.lo)).set_ 1 (.int .i64 s.hi);have cR:=BR.cell;exact bodyPost_ret (v:=.agg #[s.lo,s.hi]) (by simp[results,Tryz.results187,go_sem,cR]) rfl ⟨⟨s,rfl,hs⟩,(K.setNew (by simp<;>omega) _).setNew (by simp<;>omega) _⟩
theorem r3_sum (a b:Sp) (ha:a.fit) (hb:b.fit) (w:World):Calls Tryz.prog 168 #[a,b] w (S1P w):=by
 obtain⟨w1,hw1,A,B,R,K,hz⟩:=box3 w 29 a 29 b 29 #[(0:Int),(0:Int)];go_enter Tryz.func168,Tryz.ntmps168
 go_wp2_with fail
 rw[← hw1];clear hw1;refine(r1_Add a b ha hb _).mono ?_;rintro e w2 ⟨⟨s,v,rfl,hs⟩,k⟩;replace A:=A.kpN k;replace B:=B.kpN k;replace R:=R.kpN k;replace K:=K.thenN k oM;have hzk:=k.size;clear k;have O:=Blk.new w2 29 #[s.lo,s.hi];replace R:=R.alloc (.cells #[s.lo,s.hi] 29);replace K:=K.alloc oM (.cells #[s.lo,s.hi] 29);clear A B;go_upto_region 2 with(fail)
 generalize w2.alloc (.cells #[s.lo,s.hi] 29)=w3 at *;have cO:=O.cell;have cR:=R.cell;have fR:=R.frozen;go_wp2_with fail
 clear cR fR;have BR:=(R.set_ 0 (.int .i64 s.lo)).set_ 1 (.int .i64 s.hi);have cR:=BR.cell;exact bodyPost_ret (v:=.agg #[s.lo,s.hi]) (by simp[results,Tryz.results168,go_sem,cR]) rfl ⟨⟨s,rfl,hs⟩,(K.setNew (by simp<;>omega) _).setNew (by simp<;>omega) _⟩
theorem r3_squared (a:Sp) (ha:a.fit) (w:World):Calls Tryz.prog 200 #[a] w (S1P w):=by
 obtain⟨w1,hw1,A,R,K,hz⟩:=box2 w 29 a 29 #[(0:Int),(0:Int)];go_enter Tryz.func200,Tryz.ntmps200
 go_wp2_with fail
 rw[← hw1];clear hw1;refine(r1_Square a ha _).mono ?_;rintro e w2 ⟨⟨s,v,rfl,hs⟩,k⟩;replace A:=A.kpN k;replace R:=R.kpN k;replace K:=K.thenN k oM;have hzk:=k.size;clear k;have O:=Blk.new w2 29 #[s.lo,s.hi];replace R:=R.alloc (.cells #[s.lo,s.hi] 29);replace K:=K.alloc oM (.cells #[s.lo,s.hi] 29);clear A;go_upto_region 2 with(fail)
 generalize w2.alloc (.cells #[s.lo,s.hi] 29)=w3 at *;have cO:=O.cell;have cR:=R.cell;have fR:=R.frozen;go_wp2_with fail
 clear cR fR;have BR:=(R.set_ 0 (.int .i64 s.lo)).set_ 1 (.int .i64 s.hi);have cR:=BR.cell;exact bodyPost_ret (v:=.agg #[s.lo,s.hi]) (by simp[results,Tryz.results200,go_sem,cR]) rfl ⟨⟨s,rfl,hs⟩,(K.setNew (by simp<;>omega) _).setNew (by simp<;>omega) _⟩
theorem fit_neg {a:Sp} (h:a.fit):(⟨-a.hi,-a.lo⟩:Sp).fit:=by unfold Sp.fit at *;dsimp only;omega
theorem r3_minus (a:Sp) (ha:a.fit) (w:World):Calls Tryz.prog 182 #[a] w (S1P w):=by
 have hs:=fit_neg ha;obtain⟨f1,f2,f3⟩:=ha;have wa:wrap64 (-a.hi)=-a.hi:=by unfold wrap64;omega
 have wb:wrap64 (-a.lo)=-a.lo:=by unfold wrap64;omega
 clear f1 f2 f3;obtain⟨w1,hw1,A,R,K,hz⟩:=box2 w 29 a 29 #[(0:Int),(0:Int)];go_enter Tryz.func182,Tryz.ntmps182
 go_upto_region 1 with(fail)
 rw[← hw1];clear hw1;have cA:=A.cell;have cR:=R.cell;have fR:=R.frozen;go_wp2_with fail
 clear cR fR;have BR:=(R.set_ 0 (.int .i64 (-a.hi))).set_ 1 (.int .i64 (-a.lo));have cR:=BR.cell;exact bodyPost_ret (v:=.agg #[.int .i64 (-a.hi),.int .i64 (-a.lo)]) (by simp[results,Tryz.results182,go_sem,cR]) rfl ⟨⟨⟨-a.hi,-a.lo⟩,rfl,hs⟩,(K.setNew (by simp<;>omega) _).setNew (by simp<;>omega) _⟩
theorem span2_fin {Q:World→Prop} {w w4:World} {r:Nat} {T:TypeId} {cs:Array Value} {n:Nat} {x0 x1:Int} (R:Blk w4 r T cs) (K:Kp n none w w4) (hr:n≤r)
  (h:∀ (s:Sp) w5,s.lo=x0→s.hi=x1→Blk w5 r T ((cs.setIfInBounds 0 (.int .i64 s.lo)).setIfInBounds 1 (.int .i64 s.hi))→Kp n none w w5→Q w5):Q ((w4.setCell ⟨r,0,none⟩ (.int .i64 x0)).setCell ⟨r,1,none⟩ (.int .i64 x1)):=
 h ⟨x0,x1⟩ _ rfl rfl ((R.set_ 0 _).set_ 1 _) ((K.setNew hr _).setNew hr _)
theorem r3_bounded (a:Sp) (ha:a.fit) (w:World):Calls Tryz.prog 186 #[a] w (S1P w):=by
 obtain⟨f1,f2,f3⟩:=ha;obtain⟨w1,hw1,A,R,K,hz⟩:=box2 w 29 a 29 #[(0:Int),(0:Int)];replace f2:=Lib.hid f2;clear f1 f3;go_enter Tryz.func186,Tryz.ntmps186
 go_upto_region 1 with(fail)
 rw[← hw1];clear hw1;have cA:=A.cell;have cR:=R.cell;have fR:=R.frozen;go_wp2_with fail
 all_goals
  clear cR fR cA;refine span2_fin (Q:=fun W=>bodyPost _ _ _ _ _ W) R K oM fun s w5 e1 e2 B5 K5=>?_;have cR:=B5.cell;have hs:Hid s.fit:=Lib.hid (by have:=f2.out;unfold Sp.fit;omega);clear e1 e2;refine bodyPost_ret (v:=.agg #[s.lo,s.hi]) ?_ rfl ⟨⟨s,rfl,hs.out⟩,K5⟩;simp[results,Tryz.results186,go_sem,cR]
theorem fit_k:(⟨1000,1000⟩:Sp).fit:=by unfold Sp.fit;dsimp only;omega
theorem r3_thousandth (a b:Sp) (ha:a.fit) (hb:b.fit) (w:World):Calls Tryz.prog 183 #[a,b] w (S1P w):=by
 obtain⟨w1,hw1,A,B,R,K,hz⟩:=box3 w 29 a 29 b 29 #[(0:Int),(0:Int)];go_enter Tryz.func183,Tryz.ntmps183
 go_wp2_with fail
 rw[← hw1];clear hw1;refine(r3_product a b ha hb _).mono ?_;rintro e w2 ⟨⟨s,rfl,hs⟩,k⟩;replace A:=A.kpN k;replace B:=B.kpN k;replace R:=R.kpN k;replace K:=K.thenN k oM;have hzk:=k.size;clear k;have cA:=A.cell;have fA:=A.frozen;have cB:=B.cell;have fB:=B.frozen;have cR:=R.cell;have fR:=R.frozen;go_wp2_with fail
 refine(r3_quotient s ⟨1000,1000⟩ hs fit_k _).mono ?_;rintro e w3 ⟨⟨u,rfl,hu⟩,k⟩;clear cA fA cB fB cR fR;replace A:=A.kpN k;replace B:=B.kpN k;replace R:=R.kpN k;replace K:=K.thenN k oM;have hzk:=k.size;clear k;have cR:=R.cell;have fR:=R.frozen;go_wp2_with fail
 clear cR fR;have BR:=(R.set_ 0 (.int .i64 u.lo)).set_ 1 (.int .i64 u.hi);have cR:=BR.cell;exact bodyPost_ret (v:=.agg #[u.lo,u.hi]) (by simp[results,Tryz.results183,go_sem,cR]) rfl ⟨⟨u,rfl,hu⟩,(K.setNew (by simp<;>omega) _).setNew (by simp<;>omega) _⟩
end Go.Proofs.YtdhiappifnflpaaGreatDoor
