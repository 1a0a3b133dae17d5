/-  -/
import Derived.Test.YtdhiappifnflpaaGreatDoorM01
set_option maxHeartbeats 400000
namespace Go.Proofs.YtdhiappifnflpaaGreatDoor
open Go.RowKit
theorem div64_zero (lo y:Nat) (w:World) (hlo:lo<18446744073709551616) (hy:y<18446744073709551616) (hy0:0<y) :
  Calls Tryz.prog 127 #[.int .u64 0,.int .u64 lo,.int .u64 y] w fun e w'=>e=.returned (.tuple #[.int .u64 ((lo / y:Nat):Int),.int .u64 ((lo % y:Nat):Int)])∧Kp w.heap.size none w w':=by
 have h1:((y:Int)==0)=false:=by simp;omega
 have h2:(0:Int)<(y:Int):=by omega
 obtain⟨q,hq⟩:∃ q,q=lo / y:=⟨_,rfl⟩;obtain⟨r,hr⟩:∃ r,r=lo % y:=⟨_,rfl⟩;rw[← hq,← hr];have hql:q≤lo:=by rw[hq];exact Nat.div_le_self _ _
 have h3:(lo:Int) / (y:Int)=(q:Int):=by rw[hq];rfl
 have h4:(lo:Int) % (y:Int)=(r:Int):=by rw[hr];rfl
 have h5:IntKind.u64.wrap (q:Int)=(q:Int):=by rw[wrapu];omega
 clear hq hr hql;go_enter Tryz.func127,Tryz.ntmps127
 go_wp2
 go_quiet (fail)
 go_wp2
 exact bodyPost_ret (by simp[results,Tryz.results127,go_sem,h4]) rfl ⟨rfl,Kp.drewN (Kp.refl _ _ _) _⟩
def GuessAt (v a b u c:Nat) (w:World) (vq vr:Value) (wr:World):Prop:=∃ q r:Nat,vq=.int .u64 q∧vr=.int .u64 r∧Guess v a b u c q r∧Kp w.heap.size none w wr
theorem div64_big (hi lo y:Nat) (w:World) (hh:0<hi) (hhy:hi<y) (hlo:lo<18446744073709551616) (hy:y<18446744073709551616) :
  Calls Tryz.prog 127 #[.int .u64 hi,.int .u64 lo,.int .u64 y] w fun e w'=>e=.returned (.tuple #[.int .u64 (((hi * 18446744073709551616+lo) / y:Nat):Int),.int .u64 (((hi * 18446744073709551616+lo) % y:Nat):Int)])∧Kp w.heap.size none w w':=by
 have h1:((y:Int)==0)=false:=by simp;omega
 have h2:(0:Int)<(y:Int):=by omega
 have h3:((hi:Int)==0)=false:=by simp;omega
 obtain⟨s,hs,hs1,hs2,hs3⟩:=norm_of y oM hy;obtain⟨n,hor⟩:=norm_shift hi lo y s hs hhy hlo hs2 hs3;obtain⟨v,hv⟩:∃ v,v=y * 2 ^ s:=⟨_,rfl⟩;obtain⟨t,ht⟩:∃ t,t=lo * 2 ^ s % 18446744073709551616:=⟨_,rfl⟩;obtain⟨u,hu⟩:∃ u,u=((hi * 2 ^ s) ||| (lo / 2 ^ (64-s))):=⟨_,rfl⟩;obtain⟨a,ha⟩:∃ a,a=v / 4294967296:=⟨_,rfl⟩;obtain⟨b,hb⟩:∃ b,b=v % 4294967296:=⟨_,rfl⟩;obtain⟨c,hc⟩:∃ c,c=t / 4294967296:=⟨_,rfl⟩;obtain⟨d,hd⟩:∃ d,d=t % 4294967296:=⟨_,rfl⟩;simp only[← hv,← ht,← hu,← ha,← hb,← hc,← hd] at n hs2 hs3;have eS:IntKind.u64.wrap (64-(Lib.bitLen y:Int))=(s:Int):=by rw[hs1,wrapu];omega
 obtain⟨s',hs'⟩:∃ s',s'=64-s:=⟨_,rfl⟩;obtain⟨L,hL⟩:∃ L,L=lo / 2 ^ (64-s):=⟨_,rfl⟩;obtain⟨H,hH⟩:∃ H,H=hi * 2 ^ s:=⟨_,rfl⟩;obtain⟨T,hT⟩:∃ T,T=lo * 2 ^ s:=⟨_,rfl⟩;obtain⟨q,hq⟩:∃ q,q=u / a:=⟨_,rfl⟩;obtain⟨r,hr⟩:∃ r,r=u-u / a * a:=⟨_,rfl⟩;obtain⟨P,hP⟩:∃ P,P=q * a:=⟨_,rfl⟩;have g0:=guess_start n.va n.al n.ah n.bl n.ul n.cl;rw[← hq] at g0 hr;rw[← hP] at hr g0;rw[← hr] at g0;rw[← hL,← hH] at hor hu;rw[← hu] at hor;have hLl:L≤lo:=by rw[hL];exact Nat.div_le_self _ _
 have hHu:H≤u:=by omega
 have hPu:P≤u:=by rw[hP,hq];exact Nat.div_mul_le_self _ _
 have vl:=n.vl;have ul:=n.ul;have eM:min s 64=s:=by omega
 have eM2:min s' 64=s':=by omega
 have eV:IntKind.u64.wrap ((y:Int) * 2 ^ s)=(v:Int):=by
  have:((v:Nat):Int)=(y:Int) * 2 ^ s:=by rw[hv];push_cast;rfl
  rw[← this,wrapu];omega
 have eA:(v:Int) / 4294967296=(a:Int):=by rw[ha];rfl
 have eB:bits .and .u64 (v:Int) 4294967295=(b:Int):=by
  have:=u64_and_nat v 4294967295 n.vl (by decide);rw[nat_mask32,← hb] at this;exact this
 have eSub:IntKind.u64.wrap (64-(s:Int))=(s':Int):=by rw[wrapu];omega
 have eH:IntKind.u64.wrap ((hi:Int) * 2 ^ s)=(H:Int):=by
  have:(H:Int)=(hi:Int) * 2 ^ s:=by rw[hH];push_cast;rfl
  rw[← this,wrapu];omega
 have eL:(lo:Int) / 2 ^ s'=(L:Int):=by rw[hL,hs'];push_cast;rfl
 have eU:bits .or .u64 (H:Int) (L:Int)=(u:Int):=by
  rw[u64_or_nat _ _ oM oM,← hu]
 have eT:IntKind.u64.wrap ((lo:Int) * 2 ^ s)=(t:Int):=by
  have:(T:Int)=(lo:Int) * 2 ^ s:=by rw[hT];push_cast;rfl
  rw[← hT] at ht;rw[← this,wrapu];omega
 have eC:(t:Int) / 4294967296=(c:Int):=by rw[hc];rfl
 have eD:bits .and .u64 (t:Int) 4294967295=(d:Int):=by
  have:=u64_and_nat t 4294967295 (by rw[ht];exact Nat.mod_lt _ (by decide)) (by decide);rw[nat_mask32,← hd] at this;exact this
 have al:=n.al;have ga:((a:Int)==0)=false:=by rw[beq_eq_false_iff_ne];omega
 have ga2:(0:Int)<(a:Int):=by omega
 have eQ:(u:Int) / (a:Int)=(q:Int):=by rw[hq];rfl
 have eQ2:Int.tdiv (u:Int) (a:Int)=(q:Int):=by rw[hq];rfl
 have eP:IntKind.u64.wrap ((q:Int) * (a:Int))=(P:Int):=by
  have:(P:Int)=(q:Int) * (a:Int):=by rw[hP];push_cast;rfl
  rw[← this,wrapu];omega
 have eR:IntKind.u64.wrap ((u:Int)-(P:Int))=(r:Int):=by rw[wrapu];omega
 obtain⟨Q1,hQ1⟩:∃ Q,Q=(u * 4294967296+c) / v:=⟨_,rfl⟩;obtain⟨R1,hR1⟩:∃ R,R=(u * 4294967296+c) % v:=⟨_,rfl⟩;replace hQ1:=Lib.hid hQ1;replace hR1:=Lib.hid hR1;obtain⟨Q0,hQ0⟩:∃ Q,Q=(R1 * 4294967296+d) / v:=⟨_,rfl⟩;obtain⟨R0,hR0⟩:∃ R,R=(R1 * 4294967296+d) % v:=⟨_,rfl⟩;have v0:0<v:=by omega
 obtain⟨k1,k2,eX1⟩:=un_rest hQ1.out hR1.out v0 n.vl;obtain⟨k3,k4,eX0⟩:=un_rest hQ0 hR0 v0 n.vl;obtain⟨o1,o0⟩:=digits _ _ _ _ _ _ _ _ _ _ _ hv v0 n.tot k2 k4 k3;obtain⟨O1,hO1⟩:∃ O,O=(hi * 18446744073709551616+lo) / y:=⟨_,rfl⟩;obtain⟨O0,hO0⟩:∃ O,O=(hi * 18446744073709551616+lo) % y:=⟨_,rfl⟩;rw[← hO1] at o1;rw[← hO0] at o0;rw[← hO1,← hO0];have hQ1l:Q1<4294967296:=by rw[hQ1.out];exact digit_lt v0 n.ul n.cl
 have hQ0l:Q0<4294967296:=by rw[hQ0];exact digit_lt v0 k1 n.dl
 have eO1:IntKind.u64.wrap (IntKind.u64.wrap ((Q1:Int) * 4294967296)+(Q0:Int))=(O1:Int):=by rw[← o1,wrapu,wrapu];omega
 have eO0:(R0:Int) / 2 ^ s=(O0:Int):=by rw[← o0];push_cast;rfl
 obtain⟨q2,hq2⟩:∃ q2,q2=R1 / a:=⟨_,rfl⟩;obtain⟨P2,hP2⟩:∃ P2,P2=q2 * a:=⟨_,rfl⟩;obtain⟨r2,hr2⟩:∃ r2,r2=R1-P2:=⟨_,rfl⟩;have g2:=guess_start n.va n.al n.ah n.bl k1 n.dl;rw[← hq2,← hP2,← hr2] at g2;have hP2u:P2≤R1:=by rw[hP2,hq2];exact Nat.div_mul_le_self _ _
 have eq2:(R1:Int) / (a:Int)=(q2:Int):=by rw[hq2];rfl
 have eq3:Int.tdiv (R1:Int) (a:Int)=(q2:Int):=by rw[hq2];rfl
 have eq4:IntKind.u64.wrap (q2:Int)=(q2:Int):=by have:=g2.hi;rw[wrapu];omega
 have eq5:IntKind.u64.wrap ((q2:Int) * (a:Int))=(P2:Int):=by
  have:(P2:Int)=(q2:Int) * (a:Int):=by rw[hP2];push_cast;rfl
  rw[← this,wrapu];omega
 have eq6:IntKind.u64.wrap ((R1:Int)-(P2:Int))=(r2:Int):=by rw[wrapu];omega
 replace hQ0:=Lib.hid hQ0;replace k1:=Lib.hid k1;replace g2:=Lib.hid g2;have o1':(Q1:Int) * 4294967296+(Q0:Int)=(O1:Int):=by omega
 have o2:=Lib.hid (show IntKind.u64.wrap (O1:Int)=(O1:Int) by rw[wrapu];omega);replace o1':=Lib.hid o1';clear k2 k3 k4 o1 o0 hO1 hO0 hQ1l hQ0l hq2 hP2 hr2 hR0 v0 hP2u;have eQw:IntKind.u64.wrap (q:Int)=(q:Int):=by have:=g0.hi;rw[wrapu];omega
 replace n:=Lib.hid n;replace g0:=Lib.hid g0;clear hs1 hs2 hs3 hor hv ht hu ha hb hc hd hs' hL hH hT hq hr hP hLl hHu hPu vl ul al;go_enter Tryz.func127,Tryz.ntmps127
 go_wp2_with (go_at_call 151;refine(Tryz.bits_LeadingZeros64 _ _ oM oM).mono ?_;rintro e w1 ⟨rfl,rfl⟩)
 go_loopw [15,16] (fun vq vr wr=>GuessAt v a b u c w1 vq vr wr) (fun vq _ _=>(intOf vq).toNat)
 case atStart=>exact⟨q,r,rfl,rfl,g0.out,Kp.refl _ _ _⟩
 case round=>
  obtain⟨q,r,rfl,rfl,g,KK⟩:=hrel;obtain⟨m,hm⟩:∃ m,m=q * b:=⟨_,rfl⟩;obtain⟨x,hx⟩:∃ x,x=4294967296 * r:=⟨_,rfl⟩;obtain⟨z,hz⟩:∃ z,z=x+c:=⟨_,rfl⟩;obtain⟨q',hq'⟩:∃ q',q'=q-1:=⟨_,rfl⟩;obtain⟨r',hr'⟩:∃ r',r'=r+a:=⟨_,rfl⟩;replace g:=Lib.hid g;have hrl:=g.out.rl;have al:=n.out.al;have ah:=n.out.ah;have cl':=n.out.cl
  have em:IntKind.u64.wrap ((q:Int) * (b:Int))=(m:Int):=by
   have h5:q * b≤4294967297 * 4294967295:=Nat.mul_le_mul g.out.hi (by have:=n.out.bl;omega);have h6:(m:Int)=(q:Int) * (b:Int):=by rw[hm];push_cast;rfl
   rw[← h6,wrapu];omega
  have ex:IntKind.u64.wrap (4294967296 * (r:Int))=(x:Int):=by rw[wrapu];omega
  have ez:IntKind.u64.wrap ((x:Int)+(c:Int))=(z:Int):=by rw[wrapu];omega
  have er:IntKind.u64.wrap ((r:Int)+(a:Int))=(r':Int):=by rw[wrapu];omega
  clear cl' al ah hrl;by_cases hq:4294967296≤q
  ·
   have hqi:(4294967296:Int)≤(q:Int):=by omega
   obtain⟨p0,p1⟩:=guess_more n.out.va n.out.ul n.out.cl g.out (Or.inl hq);have ge:=guess_step g.out.eq p0;rw[← hq',← hr'] at ge;have eq1:IntKind.u64.wrap ((q:Int)-1)=(q':Int):=by have:=g.out.hi;rw[wrapu];omega
   by_cases hrr:4294967296≤r'
   ·
    have hQ:=guess_break n.out.va n.out.al n.out.bl ge (by rw[hq'];exact p1) (by have:=g.out.hi;omega) hrr;have hrr':(4294967296:Int)≤(r':Int):=by omega
    clear ge p0 p1 hq' hr' hm hx hz hrr;rw[← hQ1.out] at hQ;subst hQ;clear eQw eP eR g0;go_wp2
    go_loopw [18,16] (fun vq vr wr=>GuessAt v a b R1 d w1 vq vr wr) (fun vq _ _=>(intOf vq).toNat)
    case atStart=>exact⟨q2,r2,rfl,rfl,g2.out,KK⟩
    case round=>
     obtain⟨q,r,rfl,rfl,g,KK⟩:=hrel;obtain⟨m,hm⟩:∃ m,m=q * b:=⟨_,rfl⟩;obtain⟨x,hx⟩:∃ x,x=4294967296 * r:=⟨_,rfl⟩;obtain⟨z,hz⟩:∃ z,z=x+d:=⟨_,rfl⟩;obtain⟨q',hq'⟩:∃ q',q'=q-1:=⟨_,rfl⟩;obtain⟨r',hr'⟩:∃ r',r'=r+a:=⟨_,rfl⟩;replace g:=Lib.hid g;have hrl:=g.out.rl;have al:=n.out.al;have ah:=n.out.ah;have cl':=n.out.dl
     have em:IntKind.u64.wrap ((q:Int) * (b:Int))=(m:Int):=by
      have h5:q * b≤4294967297 * 4294967295:=Nat.mul_le_mul g.out.hi (by have:=n.out.bl;omega);have h6:(m:Int)=(q:Int) * (b:Int):=by rw[hm];push_cast;rfl
      rw[← h6,wrapu];omega
     have ex:IntKind.u64.wrap (4294967296 * (r:Int))=(x:Int):=by rw[wrapu];omega
     have ez:IntKind.u64.wrap ((x:Int)+(d:Int))=(z:Int):=by rw[wrapu];omega
     have er:IntKind.u64.wrap ((r:Int)+(a:Int))=(r':Int):=by rw[wrapu];omega
     clear cl' al ah hrl;by_cases hq:4294967296≤q
     ·
      have hqi:(4294967296:Int)≤(q:Int):=by omega
      obtain⟨p0,p1⟩:=guess_more n.out.va k1.out n.out.dl g.out (Or.inl hq);have ge:=guess_step g.out.eq p0;rw[← hq',← hr'] at ge;have eq1:IntKind.u64.wrap ((q:Int)-1)=(q':Int):=by have:=g.out.hi;rw[wrapu];omega
      by_cases hrr:4294967296≤r'
      ·
       have hQ:=guess_break n.out.va n.out.al n.out.bl ge (by rw[hq'];exact p1) (by have:=g.out.hi;omega) hrr;have hrr':(4294967296:Int)≤(r':Int):=by omega
       clear ge p0 p1 hq' hr' hm hx hz hrr;rw[← hQ0.out] at hQ;subst hQ;go_wp2
       exact bodyPost_ret (by simp[results,Tryz.results127,go_sem,o1'.out,o2.out]) rfl ⟨rfl,KK⟩
      ·
       have hrr':¬ (4294967296:Int)≤(r':Int):=by omega
       have gg:Guess v a b _ _ q' r':=⟨ge,by rw[hq'];exact p1,by have:=g.out.hi;omega,by omega⟩;have hqq:=Lib.hid (show q'<q by omega);replace gg:=Lib.hid gg;clear ge p0 p1 hq' hr' hm hx hz hrr;go_wp2_with fail
       go_roundw
       case rel=>exact⟨q',r',rfl,rfl,gg.out,KK⟩
       case measure=>simp[intOf];have:=hqq.out;omega
     ·
      have hqi:¬ (4294967296:Int)≤(q:Int):=by omega
      by_cases hzm:z<m
      ·
       have hzi:(z:Int)<(m:Int):=by omega
       obtain⟨p0,p1⟩:=guess_more n.out.va k1.out n.out.dl g.out (Or.inr (by rw[← hm,← hx,← hz];exact hzm));have ge:=guess_step g.out.eq p0;rw[← hq',← hr'] at ge;have eq1:IntKind.u64.wrap ((q:Int)-1)=(q':Int):=by have:=g.out.hi;rw[wrapu];omega
       by_cases hrr:4294967296≤r'
       ·
        have hQ:=guess_break n.out.va n.out.al n.out.bl ge (by rw[hq'];exact p1) (by have:=g.out.hi;omega) hrr;have hrr':(4294967296:Int)≤(r':Int):=by omega
        clear ge p0 p1 hq' hr' hm hx hz hrr;rw[← hQ0.out] at hQ;subst hQ;go_wp2
        exact bodyPost_ret (by simp[results,Tryz.results127,go_sem,o1'.out,o2.out]) rfl ⟨rfl,KK⟩
       ·
        have hrr':¬ (4294967296:Int)≤(r':Int):=by omega
        have gg:Guess v a b _ _ q' r':=⟨ge,by rw[hq'];exact p1,by have:=g.out.hi;omega,by omega⟩;have hqq:=Lib.hid (show q'<q by omega);replace gg:=Lib.hid gg;clear ge p0 p1 hq' hr' hm hx hz hrr;go_wp2_with fail
        go_roundw
        case rel=>exact⟨q',r',rfl,rfl,gg.out,KK⟩
        case measure=>simp[intOf];have:=hqq.out;omega
      ·
       have hzi:¬ (z:Int)<(m:Int):=by omega
       have hQ:=guess_done n.out.va n.out.al g.out (by rw[← hm,← hx,← hz];omega);clear hm hx hz hq' hr';rw[← hQ0.out] at hQ;subst hQ;go_wp2
       exact bodyPost_ret (by simp[results,Tryz.results127,go_sem,o1'.out,o2.out]) rfl ⟨rfl,KK⟩
   ·
    have hrr':¬ (4294967296:Int)≤(r':Int):=by omega
    have gg:Guess v a b _ _ q' r':=⟨ge,by rw[hq'];exact p1,by have:=g.out.hi;omega,by omega⟩;have hqq:=Lib.hid (show q'<q by omega);replace gg:=Lib.hid gg;clear ge p0 p1 hq' hr' hm hx hz hrr;go_wp2_with fail
    go_roundw
    case rel=>exact⟨q',r',rfl,rfl,gg.out,KK⟩
    case measure=>simp[intOf];have:=hqq.out;omega
  ·
   have hqi:¬ (4294967296:Int)≤(q:Int):=by omega
   by_cases hzm:z<m
   ·
    have hzi:(z:Int)<(m:Int):=by omega
    obtain⟨p0,p1⟩:=guess_more n.out.va n.out.ul n.out.cl g.out (Or.inr (by rw[← hm,← hx,← hz];exact hzm));have ge:=guess_step g.out.eq p0;rw[← hq',← hr'] at ge;have eq1:IntKind.u64.wrap ((q:Int)-1)=(q':Int):=by have:=g.out.hi;rw[wrapu];omega
    by_cases hrr:4294967296≤r'
    ·
     have hQ:=guess_break n.out.va n.out.al n.out.bl ge (by rw[hq'];exact p1) (by have:=g.out.hi;omega) hrr;have hrr':(4294967296:Int)≤(r':Int):=by omega
     clear ge p0 p1 hq' hr' hm hx hz hrr;rw[← hQ1.out] at hQ;subst hQ;clear eQw eP eR g0;go_wp2
     go_loopw [18,16] (fun vq vr wr=>GuessAt v a b R1 d w1 vq vr wr) (fun vq _ _=>(intOf vq).toNat)
     case atStart=>exact⟨q2,r2,rfl,rfl,g2.out,KK⟩
     case round=>
      obtain⟨q,r,rfl,rfl,g,KK⟩:=hrel;obtain⟨m,hm⟩:∃ m,m=q * b:=⟨_,rfl⟩;obtain⟨x,hx⟩:∃ x,x=4294967296 * r:=⟨_,rfl⟩;obtain⟨z,hz⟩:∃ z,z=x+d:=⟨_,rfl⟩;obtain⟨q',hq'⟩:∃ q',q'=q-1:=⟨_,rfl⟩;obtain⟨r',hr'⟩:∃ r',r'=r+a:=⟨_,rfl⟩;replace g:=Lib.hid g;have hrl:=g.out.rl;have al:=n.out.al;have ah:=n.out.ah;have cl':=n.out.dl
      have em:IntKind.u64.wrap ((q:Int) * (b:Int))=(m:Int):=by
       have h5:q * b≤4294967297 * 4294967295:=Nat.mul_le_mul g.out.hi (by have:=n.out.bl;omega);have h6:(m:Int)=(q:Int) * (b:Int):=by rw[hm];push_cast;rfl
       rw[← h6,wrapu];omega
      have ex:IntKind.u64.wrap (4294967296 * (r:Int))=(x:Int):=by rw[wrapu];omega
      have ez:IntKind.u64.wrap ((x:Int)+(d:Int))=(z:Int):=by rw[wrapu];omega
      have er:IntKind.u64.wrap ((r:Int)+(a:Int))=(r':Int):=by rw[wrapu];omega
      clear cl' al ah hrl;by_cases hq:4294967296≤q
      ·
       have hqi:(4294967296:Int)≤(q:Int):=by omega
       obtain⟨p0,p1⟩:=guess_more n.out.va k1.out n.out.dl g.out (Or.inl hq);have ge:=guess_step g.out.eq p0;rw[← hq',← hr'] at ge;have eq1:IntKind.u64.wrap ((q:Int)-1)=(q':Int):=by have:=g.out.hi;rw[wrapu];omega
       by_cases hrr:4294967296≤r'
       ·
        have hQ:=guess_break n.out.va n.out.al n.out.bl ge (by rw[hq'];exact p1) (by have:=g.out.hi;omega) hrr;have hrr':(4294967296:Int)≤(r':Int):=by omega
        clear ge p0 p1 hq' hr' hm hx hz hrr;rw[← hQ0.out] at hQ;subst hQ;go_wp2
        exact bodyPost_ret (by simp[results,Tryz.results127,go_sem,o1'.out,o2.out]) rfl ⟨rfl,KK⟩
       ·
        have hrr':¬ (4294967296:Int)≤(r':Int):=by omega
        have gg:Guess v a b _ _ q' r':=⟨ge,by rw[hq'];exact p1,by have:=g.out.hi;omega,by omega⟩;have hqq:=Lib.hid (show q'<q by omega);replace gg:=Lib.hid gg;clear ge p0 p1 hq' hr' hm hx hz hrr;go_wp2_with fail
        go_roundw
        case rel=>exact⟨q',r',rfl,rfl,gg.out,KK⟩
        case measure=>simp[intOf];have:=hqq.out;omega
      ·
       have hqi:¬ (4294967296:Int)≤(q:Int):=by omega
       by_cases hzm:z<m
       ·
        have hzi:(z:Int)<(m:Int):=by omega
        obtain⟨p0,p1⟩:=guess_more n.out.va k1.out n.out.dl g.out (Or.inr (by rw[← hm,← hx,← hz];exact hzm));have ge:=guess_step g.out.eq p0;rw[← hq',← hr'] at ge;have eq1:IntKind.u64.wrap ((q:Int)-1)=(q':Int):=by have:=g.out.hi;rw[wrapu];omega
        by_cases hrr:4294967296≤r'
        ·
         have hQ:=guess_break n.out.va n.out.al n.out.bl ge (by rw[hq'];exact p1) (by have:=g.out.hi;omega) hrr;have hrr':(4294967296:Int)≤(r':Int):=by omega
         clear ge p0 p1 hq' hr' hm hx hz hrr;rw[← hQ0.out] at hQ;subst hQ;go_wp2
         exact bodyPost_ret (by simp[results,Tryz.results127,go_sem,o1'.out,o2.out]) rfl ⟨rfl,KK⟩
        ·
         have hrr':¬ (4294967296:Int)≤(r':Int):=by omega
         have gg:Guess v a b _ _ q' r':=⟨ge,by rw[hq'];exact p1,by have:=g.out.hi;omega,by omega⟩;have hqq:=Lib.hid (show q'<q by omega);replace gg:=Lib.hid gg;clear ge p0 p1 hq' hr' hm hx hz hrr;go_wp2_with fail
         go_roundw
         case rel=>exact⟨q',r',rfl,rfl,gg.out,KK⟩
         case measure=>simp[intOf];have:=hqq.out;omega
       ·
        have hzi:¬ (z:Int)<(m:Int):=by omega
        have hQ:=guess_done n.out.va n.out.al g.out (by rw[← hm,← hx,← hz];omega);clear hm hx hz hq' hr';rw[← hQ0.out] at hQ;subst hQ;go_wp2
        exact bodyPost_ret (by simp[results,Tryz.results127,go_sem,o1'.out,o2.out]) rfl ⟨rfl,KK⟩
    ·
     have hrr':¬ (4294967296:Int)≤(r':Int):=by omega
     have gg:Guess v a b _ _ q' r':=⟨ge,by rw[hq'];exact p1,by have:=g.out.hi;omega,by omega⟩;have hqq:=Lib.hid (show q'<q by omega);replace gg:=Lib.hid gg;clear ge p0 p1 hq' hr' hm hx hz hrr;go_wp2_with fail
     go_roundw
     case rel=>exact⟨q',r',rfl,rfl,gg.out,KK⟩
     case measure=>simp[intOf];have:=hqq.out;omega
   ·
    have hzi:¬ (z:Int)<(m:Int):=by omega
    have hQ:=guess_done n.out.va n.out.al g.out (by rw[← hm,← hx,← hz];omega);clear hm hx hz hq' hr';rw[← hQ1.out] at hQ;subst hQ;clear eQw eP eR g0;go_wp2
    go_loopw [18,16] (fun vq vr wr=>GuessAt v a b R1 d w1 vq vr wr) (fun vq _ _=>(intOf vq).toNat)
    case atStart=>exact⟨q2,r2,rfl,rfl,g2.out,KK⟩
    case round=>
     obtain⟨q,r,rfl,rfl,g,KK⟩:=hrel;obtain⟨m,hm⟩:∃ m,m=q * b:=⟨_,rfl⟩;obtain⟨x,hx⟩:∃ x,x=4294967296 * r:=⟨_,rfl⟩;obtain⟨z,hz⟩:∃ z,z=x+d:=⟨_,rfl⟩;obtain⟨q',hq'⟩:∃ q',q'=q-1:=⟨_,rfl⟩;obtain⟨r',hr'⟩:∃ r',r'=r+a:=⟨_,rfl⟩;replace g:=Lib.hid g;have hrl:=g.out.rl;have al:=n.out.al;have ah:=n.out.ah;have cl':=n.out.dl
     have em:IntKind.u64.wrap ((q:Int) * (b:Int))=(m:Int):=by
      have h5:q * b≤4294967297 * 4294967295:=Nat.mul_le_mul g.out.hi (by have:=n.out.bl;omega);have h6:(m:Int)=(q:Int) * (b:Int):=by rw[hm];push_cast;rfl
      rw[← h6,wrapu];omega
     have ex:IntKind.u64.wrap (4294967296 * (r:Int))=(x:Int):=by rw[wrapu];omega
     have ez:IntKind.u64.wrap ((x:Int)+(d:Int))=(z:Int):=by rw[wrapu];omega
     have er:IntKind.u64.wrap ((r:Int)+(a:Int))=(r':Int):=by rw[wrapu];omega
     clear cl' al ah hrl;by_cases hq:4294967296≤q
     ·
      have hqi:(4294967296:Int)≤(q:Int):=by omega
      obtain⟨p0,p1⟩:=guess_more n.out.va k1.out n.out.dl g.out (Or.inl hq);have ge:=guess_step g.out.eq p0;rw[← hq',← hr'] at ge;have eq1:IntKind.u64.wrap ((q:Int)-1)=(q':Int):=by have:=g.out.hi;rw[wrapu];omega
      by_cases hrr:4294967296≤r'
      ·
       have hQ:=guess_break n.out.va n.out.al n.out.bl ge (by rw[hq'];exact p1) (by have:=g.out.hi;omega) hrr;have hrr':(4294967296:Int)≤(r':Int):=by omega
       clear ge p0 p1 hq' hr' hm hx hz hrr;rw[← hQ0.out] at hQ;subst hQ;go_wp2
       exact bodyPost_ret (by simp[results,Tryz.results127,go_sem,o1'.out,o2.out]) rfl ⟨rfl,KK⟩
      ·
       have hrr':¬ (4294967296:Int)≤(r':Int):=by omega
       have gg:Guess v a b _ _ q' r':=⟨ge,by rw[hq'];exact p1,by have:=g.out.hi;omega,by omega⟩;have hqq:=Lib.hid (show q'<q by omega);replace gg:=Lib.hid gg;clear ge p0 p1 hq' hr' hm hx hz hrr;go_wp2_with fail
       go_roundw
       case rel=>exact⟨q',r',rfl,rfl,gg.out,KK⟩
       case measure=>simp[intOf];have:=hqq.out;omega
     ·
      have hqi:¬ (4294967296:Int)≤(q:Int):=by omega
      by_cases hzm:z<m
      ·
       have hzi:(z:Int)<(m:Int):=by omega
       obtain⟨p0,p1⟩:=guess_more n.out.va k1.out n.out.dl g.out (Or.inr (by rw[← hm,← hx,← hz];exact hzm));have ge:=guess_step g.out.eq p0;rw[← hq',← hr'] at ge;have eq1:IntKind.u64.wrap ((q:Int)-1)=(q':Int):=by have:=g.out.hi;rw[wrapu];omega
       by_cases hrr:4294967296≤r'
       ·
        have hQ:=guess_break n.out.va n.out.al n.out.bl ge (by rw[hq'];exact p1) (by have:=g.out.hi;omega) hrr;have hrr':(4294967296:Int)≤(r':Int):=by omega
        clear ge p0 p1 hq' hr' hm hx hz hrr;rw[← hQ0.out] at hQ;subst hQ;go_wp2
        exact bodyPost_ret (by simp[results,Tryz.results127,go_sem,o1'.out,o2.out]) rfl ⟨rfl,KK⟩
       ·
        have hrr':¬ (4294967296:Int)≤(r':Int):=by omega
        have gg:Guess v a b _ _ q' r':=⟨ge,by rw[hq'];exact p1,by have:=g.out.hi;omega,by omega⟩;have hqq:=Lib.hid (show q'<q by omega);replace gg:=Lib.hid gg;clear ge p0 p1 hq' hr' hm hx hz hrr;go_wp2_with fail
        go_roundw
        case rel=>exact⟨q',r',rfl,rfl,gg.out,KK⟩
        case measure=>simp[intOf];have:=hqq.out;omega
      ·
       have hzi:¬ (z:Int)<(m:Int):=by omega
       have hQ:=guess_done n.out.va n.out.al g.out (by rw[← hm,← hx,← hz];omega);clear hm hx hz hq' hr';rw[← hQ0.out] at hQ;subst hQ;go_wp2
       exact bodyPost_ret (by simp[results,Tryz.results127,go_sem,o1'.out,o2.out]) rfl ⟨rfl,KK⟩
theorem div64_any (hi lo y:Nat) (w:World) (hhy:hi<y) (hlo:lo<18446744073709551616) (hy:y<18446744073709551616) :
  Calls Tryz.prog 127 #[.int .u64 hi,.int .u64 lo,.int .u64 y] w fun e w'=>e=.returned (.tuple #[.int .u64 (((hi * 18446744073709551616+lo) / y:Nat):Int),.int .u64 (((hi * 18446744073709551616+lo) % y:Nat):Int)])∧Kp w.heap.size none w w':=by
 rcases Nat.eq_zero_or_pos hi with rfl|h
 ·
  have:=div64_zero lo y w hlo hy hhy;simpa using this
 · exact div64_big hi lo y w h hhy hlo hy
end Go.Proofs.YtdhiappifnflpaaGreatDoor
