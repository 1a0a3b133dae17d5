/- Covers: the walk of meet.cover for one round, whole. Covers: the walk of meet.Excluded for one round. Orbits: the walks of orbit, seventh part: Holds, In, inside, Within. Orbits: the walks of orbit, eighth part: inside, Within. Orbits: the walks of orbit, ninth part: Within. TopSightings: the walk. -/
import Derived.Test.YtdhiappifnflpaaGreatM51
import Derived.Test.YtdhiappifnflpaaGreatM36
import Derived.Test.YtdhiappifnflpaaGreatM22
import Derived.Deep.LoopGhost
import Derived.Test.YtdhiappifnflpaaGreatM48
import Derived.Test.YtdhiappifnflpaaGreatM49
import Derived.Test.YtdhiappifnflpaaGreatM34
import Derived.Test.YtdhiappifnflpaaGreatM50
set_option maxRecDepth 100000
set_option maxHeartbeats 16000000
namespace Go.Proofs.YtdhiappifnflpaaGreat
open Go.RowKit
def zCell (b:Bx):Cl:=⟨b,0,0⟩
def GoodC (W:Wd) (d:Dr) (n:Nat) (t:Int) (b:Bx) (cl:List Cl):Prop:=(cl.any fun c=>decide (c.k≠1))=!exclW W d n t b (splitB b)
def CovP (W:Wd) (d:Dr) (n:Nat) (t:Int) (b:Bx) (w:World) (e:Ending) (w':World):Prop:=∃ A cap cl,e=.returned (.slice A cl.length cap)∧Rd none w' 10 encCl A cl.length cl∧cl.length≤2∧GoodC W d n t b cl∧Kp w.heap.size none w w'
theorem fkI_miss (k:Fk):decide (fkI k≠1)=!decide (k=.miss):=by cases k<;>rfl
theorem good_one {W:Wd} {d:Dr} {n:Nat} {t:Int} {b:Bx} (h:fateW W d n t b≠.open∨splitB b=none) (p:Int):GoodC W d n t b [⟨b,fkI (fateW W d n t b),p⟩]:=by
 unfold GoodC;simp only[List.any_cons,List.any_nil,Bool.or_false];rw[fkI_miss];congr 1
 unfold exclW;cases hf:fateW W d n t b<;>cases hs:splitB b<;>simp_all
theorem good_two {W:Wd} {d:Dr} {n:Nat} {t:Int} {b x y:Bx} (h:fateW W d n t b=.open) (hs:splitB b=some (x,y)) (p q:Int):GoodC W d n t b [⟨x,fkI (fateW W d n t x),p⟩,⟨y,fkI (fateW W d n t y),q⟩]:=by
 unfold GoodC;simp only[List.any_cons,List.any_nil,Bool.or_false];have e:exclW W d n t b (splitB b)=(decide (fateW W d n t x=.miss)&&decide (fateW W d n t y=.miss)):=by unfold exclW;rw[h,hs]
 rw[fkI_miss,fkI_miss,e,Bool.not_and]
def nextC (b:Bx) (fk:Fk) (p:Int) (hv:Option (Bx × Bx)):List Cl:=match fk,hv with
 | .open,some (x,y)=>[zCell x,zCell y]
 | k,_=>[⟨b,fkI k,p⟩]
theorem nextC_two (b:Bx) (fk:Fk) (p:Int) (hv:Option (Bx × Bx)):(nextC b fk p hv=[⟨b,fkI fk,p⟩]∧(fk≠.open∨hv=none))∨∃ x y,fk=.open∧hv=some (x,y)∧nextC b fk p hv=[zCell x,zCell y]:=by
 cases fk<;>cases hv<;>simp[nextC]
 case open.some p=>exact⟨p.1,p.2,rfl,rfl,rfl⟩
def twoC (x y:Bx) (F:Bx→Fk) (i:Nat) (p q:Int):List Cl:=[if 1≤i then ⟨x,fkI (F x),p⟩ else zCell x,if 2≤i then ⟨y,fkI (F y),q⟩ else zCell y]
theorem twoC_step (x y:Bx) (F:Bx→Fk) (i:Nat) (p q:Int) (hi:i<2):∃ z,(z=x∨z=y)∧(twoC x y F i p q)[i]?=some (zCell z)∧∀ r,∃ p' q',(twoC x y F i p q).set i ⟨z,fkI (F z),r⟩=twoC x y F (i+1) p' q':=by
 match i,hi with
 | 0,_=>exact⟨x,.inl rfl,rfl,fun r=>⟨r,q,rfl⟩⟩
 | 1,_=>exact⟨y,.inr rfl,rfl,fun r=>⟨p,r,rfl⟩⟩
theorem Own.clAt {w:World} {B g n cap:Nat} {xs:List Cl} (h:Own w B 121 10 encCl (.slice (some ⟨g,0,none⟩) n cap) xs) {i:Nat} {y:Cl} (hi:xs[i]?=some y) :
  ∀ k u,(encCl y)[k]?=some u→w.cell? ⟨g,i * 10+k,none⟩=some u:=by
 obtain⟨A,cap',e,rd,-⟩:=h.rd0 (fun _=>rfl);simp only[Value.slice.injEq] at e;obtain⟨rfl,rfl,rfl⟩:=e;obtain⟨hl,rfl⟩:=List.getElem?_eq_some_iff.1 hi;obtain⟨b,o',e2,-,-,hcc⟩:=rd.at_ oM;simp only[Option.some.injEq,Addr.mk.injEq] at e2;obtain⟨rfl,rfl,-⟩:=e2;intro k u hk;have:=hcc i hl k u hk;rwa [Nat.zero_add] at this
theorem meet_cover_any (A:Option Addr) (c:Nat) (W:Wd) (d:Dr) (t:Int) (b:Bx) (n:Nat) (w:World) (hW:W.ok) (hA:WdAt none w A W) (hd:d.ok) (ht:0≤t∧t≤900000) (hn:n≤400) (hb:okBx b=true) :
  Calls Tryz.prog 57 #[.agg #[.slice A W.bs.length c,W.home],d,t,b,n,(1:Int)] w (CovP W d n t b w):=by
 have cf:=fun x hx mb db tb nb w hA M D T N=>meet_cover1_any A c W d t x n mb db tb nb w hW hA hd ht hn hx M D T N;have cs:=fun w=>orbit_Split_any b hb w;have hhv:Hid (∀ x y,splitB b=some (x,y)→okBx x=true∧okBx y=true):=Lib.hid (fun x y e=>(splitB_halves hb e).ok hb);have go1:=Lib.hid (fun h p=>good_one (W:=W) (d:=d) (n:=n) (t:=t) (b:=b) h p);have go2:=Lib.hid (fun x y h hs p q=>good_two (W:=W) (d:=d) (n:=n) (t:=t) (b:=b) (x:=x) (y:=y) h hs p q);have cfb:=cf b hb;replace cf:=Lib.hid cf;clear hW hd ht hn hb;have eg:=enters_of Tryz.func106 (by kernel_rfl) rfl;obtain⟨w1,hw1,M,D,T,X,N,K,hz⟩:=box5 w 27 #[.slice A W.bs.length c,W.home] 31 d 2 #[t] 33 b 3 #[n];go_enter Tryz.func57,Tryz.ntmps57
 go_upto_region 1 with(fail)
 rw[← hw1];clear hw1;have cX:=X.cell;go_wp2_with fail
 refine(cfb _ _ _ _ _ (hA.kpN K) M D T N).mono ?_;rintro e w2 ⟨pn,rfl,k⟩;clear cX;obtain⟨fk,hfk⟩:∃ fk,Hid (fk=fateW W d n t b):=⟨_,Lib.hid rfl⟩;rw[← hfk.out];replace M:=M.kpN k;replace D:=D.kpN k;replace T:=T.kpN k;replace X:=X.kpN k;replace N:=N.kpN k;replace K:=K.tN k;clear k cfb;have gN:=N.lt;have pM:=M.cell;have pD:=D.cell;have pT:=T.cell;have pX:=X.cell;have pN:=N.cell;obtain⟨w9_,rfl,LB,k9_,hzn⟩:=box1 w2 121 #[b.x.lo,b.x.hi,b.y.lo,b.y.hi,b.u.lo,b.u.hi,b.v.lo,b.v.hi,(fkI fk),pn];replace M:=M.kpN k9_;replace D:=D.kpN k9_;replace T:=T.kpN k9_;replace X:=X.kpN k9_;replace N:=N.kpN k9_;replace K:=K.thenN k9_ oU;clear k9_;have cM:=M.cell;have fM:=M.frozen;have cD:=D.cell;have fD:=D.frozen;have cT:=T.cell;have fT:=T.frozen;have cX:=X.cell;have fX:=X.frozen;have cN:=N.cell;have fN:=N.frozen;go_wp2_with fail
 clear cM fM pM cD fD pD cT fT pT cX fX pX cN fN pN;generalize (w2.alloc (.cells #[b.x.lo,b.x.hi,b.y.lo,b.y.hi,b.u.lo,b.u.hi,b.v.lo,b.v.hi,(fkI fk),pn] 121))=wl at *;obtain⟨lb,hx⟩:∃ q9,q9=w2.heap.size:=⟨_,rfl⟩;rw[← hx] at LB ⊢;replace hx:=Lib.hid hx;have hlb:w.heap.size+5≤lb:=by have:=hx.out;omega
 clear hx hzn hz gN;have hfk3:fkI fk=1∨fkI fk=2∨fkI fk=3:=by cases fk<;>simp[fkI]
 go_loopw [14,29] (fun v14 v29 wr=>((v29=.int .i64 0∧v14=.slice (some ⟨lb,0,none⟩) 1 1)∨(v29=.int .i64 1∧∃ A2 cap cl,v14=.slice A2 cl.length cap∧Rd none wr 10 encCl A2 cl.length cl∧cl.length≤2∧GoodC W d n t b cl))∧Kp wl.heap.size none wl wr) (fun _ v29 _=>1-(intOf v29).toNat)
 case atStart=>exact⟨.inl ⟨rfl,rfl⟩,Kp.refl _ _ _⟩
 case round=>
  obtain⟨hrel,KL⟩:=hrel;rcases hrel with⟨rfl,rfl⟩|⟨rfl,A2,cap,cl,rfl,rdc,hcl,hgood⟩
  case inr=>
   have Kf:=K.tN KL;replace hgood:=Lib.hid hgood;clear cs hhv go1 go2 cf KL;go_wp2
   go_ret
   exact⟨A2,cap,cl,rfl,rdc,hcl,hgood.out,Kf⟩
  have LB1:=LB.kpN KL;have cL:=LB1.cell;obtain⟨hv,hhe⟩:∃ hv,Hid (hv=splitB b):=⟨_,Lib.hid rfl⟩;rw[← hhe.out] at cs;go_wp2_with fail
  clear cL LB1;go_loopw [15,33] (fun v15 v33 wx=>((v33=.int .i64 0∧v15=.slice none 0 0)∨(v33=.int .i64 1∧Own wx wl.heap.size 121 10 encCl v15 (nextC b fk pn hv)))∧Kp wl.heap.size none wl wx) (fun _ v33 _=>1-(intOf v33).toNat)
  case atStart=>exact⟨.inl ⟨rfl,rfl⟩,KL⟩
  case round=>
   clear KL;obtain⟨hrel,KL⟩:=hrel;rcases hrel with⟨rfl,rfl⟩|⟨rfl,own⟩
   case inr=>
    rcases nextC_two b fk pn hv with⟨e1,e2⟩|⟨x1,y1,rfl,rfl,e1⟩
    ·
     rw[e1] at own;obtain⟨g3,cq,rfl,-,-⟩:=own.form (by simp);have gd:=go1.out (by rw[← hfk.out,← hhe.out];exact e2) pn;rw[← hfk.out] at gd;have rd:=Rd.blkL (enc:=encCl) (sz:=10) [⟨b,fkI fk,pn⟩] (fun _=>rfl) rfl (LB.kpN KL) none (by simp);have Kf:=K.tN KL;replace gd:=Lib.hid gd;replace rd:=Lib.hid rd;clear own e1 e2 LB go1 go2 hhv cf cs hfk hhe KL;simp only[List.length_cons,List.length_nil,Nat.zero_add];go_wp2
     go_ret
     exact⟨some ⟨lb,0,none⟩,1,[⟨b,fkI fk,pn⟩],rfl,rd.out,by simp,gd.out,Kf⟩
    rw[e1] at own;obtain⟨g3,cq,rfl,-,-⟩:=own.form (by simp);simp only[List.length_cons,List.length_nil,Nat.zero_add,Nat.reduceAdd] at own ⊢;have hxy:=hhv.out x1 y1 hhe.out.symm;have gd:=go2.out x1 y1 hfk.out.symm hhe.out.symm;have hxb:=Lib.hid hxy.1;have hyb:=Lib.hid hxy.2;replace gd:=Lib.hid gd;clear go1 go2 hhv hhe hfk e1 cs hfk3 hxy;go_wp2_with fail
    go_loopw [81] (fun v81 wy=>∃ (i:Nat) (p q:Int),v81=.int .i64 i∧i≤2∧Own wy wl.heap.size 121 10 encCl (.slice (some ⟨g3,0,none⟩) 2 cq) (twoC x1 y1 (fateW W d n t) i p q)∧Kp wl.heap.size none wl wy) (fun v _=>2-(intOf v).toNat)
    case atStart=>exact⟨0,0,0,rfl,by omega,own,KL⟩
    case round=>
     clear KL own;obtain⟨i,p,q,rfl,hi,own,KL⟩:=hrel;by_cases h2:i<2
     ·
      obtain⟨z,hzz,hz,hst⟩:=twoC_step x1 y1 (fateW W d n t) i p q h2;have hzb:okBx z=true:=hzz.elim (fun e=>e ▸ hxb.out) (fun e=>e ▸ hyb.out);have cfz:=cf.out z hzb;have hii:(i:Int)<2:=by omega
      have hg3:=(own.ge g3 rfl).1;obtain⟨of,hof⟩:∃ q9,q9=i * 10:=⟨_,rfl⟩;have it:=own.clAt hz;rw[← hof] at it;have c0:wr.cell? ⟨g3,of+0,none⟩=some (.int .i64 z.x.lo):=it 0 _ rfl;have c1:wr.cell? ⟨g3,of+1,none⟩=some (.int .i64 z.x.hi):=it 1 _ rfl;have c2:wr.cell? ⟨g3,of+2,none⟩=some (.int .i64 z.y.lo):=it 2 _ rfl;have c3:wr.cell? ⟨g3,of+3,none⟩=some (.int .i64 z.y.hi):=it 3 _ rfl;have c4:wr.cell? ⟨g3,of+4,none⟩=some (.int .i64 z.u.lo):=it 4 _ rfl;have c5:wr.cell? ⟨g3,of+5,none⟩=some (.int .i64 z.u.hi):=it 5 _ rfl;have c6:wr.cell? ⟨g3,of+6,none⟩=some (.int .i64 z.v.lo):=it 6 _ rfl;have c7:wr.cell? ⟨g3,of+7,none⟩=some (.int .i64 z.v.hi):=it 7 _ rfl;have c8:wr.cell? ⟨g3,of+8,none⟩=some (.int .i64 0):=it 8 _ rfl;have c9:wr.cell? ⟨g3,of+9,none⟩=some (.int .i64 0):=it 9 _ rfl;simp only[Nat.add_zero] at c0;clear it;have C:=Blk.new wr 121 #[z.x.lo,z.x.hi,z.y.lo,z.y.hi,z.u.lo,z.u.hi,z.v.lo,z.v.hi,(0:Int),(0:Int)];have kC:=Kp.new1 wr (.cells #[z.x.lo,z.x.hi,z.y.lo,z.y.hi,z.u.lo,z.u.hi,z.v.lo,z.v.hi,(0:Int),(0:Int)] 121);have KL1:=KL.tN kC;have own1:=own.kpN kC;have hl:=Lib.hid (List.getElem?_eq_some_iff.1 hz).1;clear KL kC own hzz hxb hyb;replace own1:=Lib.hid own1;replace hst:=Lib.hid hst;replace hz:=Lib.hid hz;replace hof:=hof.symm;replace cfz:=Lib.hid cfz;go_upto_region 18 with(fail)
      clear c0 c1 c2 c3 c4 c5 c6 c7 c8 c9;generalize wr.alloc (.cells #[z.x.lo,z.x.hi,z.y.lo,z.y.hi,z.u.lo,z.u.hi,z.v.lo,z.v.hi,(0:Int),(0:Int)] 121)=wa at *;obtain⟨cb,hcb⟩:∃ cb,cb=wr.heap.size:=⟨_,rfl⟩;rw[← hcb] at C ⊢;clear hcb;have cC:=C.cell;go_wp2_with fail
      refine(cfz.out _ _ _ _ _ (hA.kpN (K.tN KL1)) (M.kpN KL1) (D.kpN KL1) (T.kpN KL1) (N.kpN KL1)).mono ?_;rintro e w6 ⟨r,rfl,k6⟩;have own6:=own1.out.kpN k6;have KL6:=KL1.thenN k6 (Nat.le_refl _);clear own1 KL1 k6 cC C cfz;have st6:=own6.setCl i hl.out ⟨z,fkI (fateW W d n t z),r⟩;have fr:=fun j=>own6.frz (fun _=>rfl) j;have it:=own6.clAt hz.out;rw[hof] at st6 it;obtain⟨p',q',e6⟩:=hst.out r;have KL7:=KL6.grown st6.2 KL6.size (fun b9 e9=>by injection e9 with e9;omega);replace st6:=st6.1;rw[e6] at st6;clear hst e6 KL6 own6 hz hl;generalize hfz:fateW W d n t z=fz at *;clear hfz;have p0:w6.cell? ⟨g3,of+0,none⟩=some (.int .i64 z.x.lo):=it 0 _ rfl;have p1:w6.cell? ⟨g3,of+1,none⟩=some (.int .i64 z.x.hi):=it 1 _ rfl;have p2:w6.cell? ⟨g3,of+2,none⟩=some (.int .i64 z.y.lo):=it 2 _ rfl;have p3:w6.cell? ⟨g3,of+3,none⟩=some (.int .i64 z.y.hi):=it 3 _ rfl;have p4:w6.cell? ⟨g3,of+4,none⟩=some (.int .i64 z.u.lo):=it 4 _ rfl;have p5:w6.cell? ⟨g3,of+5,none⟩=some (.int .i64 z.u.hi):=it 5 _ rfl;have p6:w6.cell? ⟨g3,of+6,none⟩=some (.int .i64 z.v.lo):=it 6 _ rfl;have p7:w6.cell? ⟨g3,of+7,none⟩=some (.int .i64 z.v.hi):=it 7 _ rfl;have p8:w6.cell? ⟨g3,of+8,none⟩=some (.int .i64 0):=it 8 _ rfl;have p9:w6.cell? ⟨g3,of+9,none⟩=some (.int .i64 0):=it 9 _ rfl;simp only[Nat.add_zero] at p0;clear it;replace st6:=Lib.hid st6;replace KL7:=Lib.hid KL7;go_upto_region 20 with(fail)
      change Code.wp _ _ _ _ (putC w6 g3 of ⟨z,fkI fz,r⟩);generalize putC w6 g3 of ⟨z,fkI fz,r⟩=w7 at *;clear p0 p1 p2 p3 p4 p5 p6 p7 p8 p9 fr hof;go_wp2_with fail
      go_roundw
      case rel=>exact⟨i+1,p',q',rfl,by omega,st6.out,KL7.out⟩
      case measure=>simp[intOf];omega
     ·
      have hi2:i=2:=by omega
      subst hi2;have gd2:=gd.out p q;obtain⟨A3,c3,e3,rd,-⟩:=own.rd (row:=none) (fun _=>rfl) (fun b hb e=>by cases e);simp only[Value.slice.injEq] at e3;obtain⟨rfl,-,rfl⟩:=e3;replace gd2:=Lib.hid gd2;replace rd:=Lib.hid rd;clear own gd hxb hyb cf;go_wp2_with fail
      go_roundw
      case rel=>exact⟨.inr ⟨rfl,some ⟨g3,0,none⟩,cq,_,rfl,rd.out,by simp[twoC],gd2.out⟩,KL⟩
      case measure=>simp[intOf]
   have LB1:=LB.kpN KL;have cL:=LB1.cell;have C:=Blk.new wr 121 #[b.x.lo,b.x.hi,b.y.lo,b.y.hi,b.u.lo,b.u.hi,b.v.lo,b.v.hi,(fkI fk),pn];have kC:=Kp.new1 wr (.cells #[b.x.lo,b.x.hi,b.y.lo,b.y.hi,b.u.lo,b.u.hi,b.v.lo,b.v.hi,(fkI fk),pn] 121);go_wp2_with fail
   generalize wr.alloc (.cells #[b.x.lo,b.x.hi,b.y.lo,b.y.hi,b.u.lo,b.u.hi,b.v.lo,b.v.hi,(fkI fk),pn] 121)=wa at *;obtain⟨cb,hcb⟩:∃ cb,cb=wr.heap.size:=⟨_,rfl⟩;rw[← hcb] at C ⊢;replace KL:=KL.tN kC;clear hcb kC cL LB1;refine mK (cs _) fun w5 k=>?_;replace C:=C.kpN k;replace KL:=KL.tN k;have hCl:=C.lt;clear k hhe hfk go1 go2 hhv cf;cases hv with
   | none=>
    cases fk
    ·
     simp only[fkI] at C;have k2:=Kp.new2 w5 (.cells #[(0:Int),(0:Int),(0:Int),(0:Int),(0:Int),(0:Int),(0:Int),(0:Int)] 33) (.cells #[(0:Int),(0:Int),(0:Int),(0:Int),(0:Int),(0:Int),(0:Int),(0:Int)] 33);replace KL:=KL.tN k2;replace C:=C.kpN k2;have cC:=C.cell;unfold splitV;go_upto_region 11 with(fail)
     generalize (w5.alloc (.cells #[(0:Int),(0:Int),(0:Int),(0:Int),(0:Int),(0:Int),(0:Int),(0:Int)] 33)).alloc (.cells #[(0:Int),(0:Int),(0:Int),(0:Int),(0:Int),(0:Int),(0:Int),(0:Int)] 33)=w6 at *;clear k2;have Q:=Blk.new w6 121 #[b.x.lo,b.x.hi,b.y.lo,b.y.hi,b.u.lo,b.u.hi,b.v.lo,b.v.hi,(1:Int),pn];have KL1:=KL.thenN (Kp.new1 _ (.cells #[b.x.lo,b.x.hi,b.y.lo,b.y.hi,b.u.lo,b.u.hi,b.v.lo,b.v.hi,(1:Int),pn] 121)) (Nat.le_refl _);clear KL;go_wp2_with (at_builtin;go_loud (refine wpList_app1_Cell (by rfl) (.tmp 52) (.tmp 54) (by rfl) wl.heap.size (.slice none 0 0) [] _ 1 ⟨b,1,pn⟩ (by rfl) (by rfl) (Own.nil _ _ _ _ _) Q (by rfl) (by simp) KL1.size ?_);intro v' wf own' hg' hat)
     have KL:=KL1.grown hg' KL1.size (fun b9 e9=>by cases e9);clear Q hat hg' cC KL1;go_roundw
     case rel=>exact⟨.inr ⟨rfl,own'⟩,KL⟩
     case measure=>simp[intOf]
    ·
     simp only[fkI] at C;have k2:=Kp.new2 w5 (.cells #[(0:Int),(0:Int),(0:Int),(0:Int),(0:Int),(0:Int),(0:Int),(0:Int)] 33) (.cells #[(0:Int),(0:Int),(0:Int),(0:Int),(0:Int),(0:Int),(0:Int),(0:Int)] 33);replace KL:=KL.tN k2;replace C:=C.kpN k2;have cC:=C.cell;unfold splitV;go_upto_region 11 with(fail)
     generalize (w5.alloc (.cells #[(0:Int),(0:Int),(0:Int),(0:Int),(0:Int),(0:Int),(0:Int),(0:Int)] 33)).alloc (.cells #[(0:Int),(0:Int),(0:Int),(0:Int),(0:Int),(0:Int),(0:Int),(0:Int)] 33)=w6 at *;clear k2;have Q:=Blk.new w6 121 #[b.x.lo,b.x.hi,b.y.lo,b.y.hi,b.u.lo,b.u.hi,b.v.lo,b.v.hi,(3:Int),pn];have KL1:=KL.thenN (Kp.new1 _ (.cells #[b.x.lo,b.x.hi,b.y.lo,b.y.hi,b.u.lo,b.u.hi,b.v.lo,b.v.hi,(3:Int),pn] 121)) (Nat.le_refl _);clear KL;go_wp2_with (at_builtin;go_loud (refine wpList_app1_Cell (by rfl) (.tmp 52) (.tmp 54) (by rfl) wl.heap.size (.slice none 0 0) [] _ 1 ⟨b,3,pn⟩ (by rfl) (by rfl) (Own.nil _ _ _ _ _) Q (by rfl) (by simp) KL1.size ?_);intro v' wf own' hg' hat)
     have KL:=KL1.grown hg' KL1.size (fun b9 e9=>by cases e9);clear Q hat hg' cC KL1;go_roundw
     case rel=>exact⟨.inr ⟨rfl,own'⟩,KL⟩
     case measure=>simp[intOf]
    ·
     simp only[fkI] at C;have k2:=Kp.new2 w5 (.cells #[(0:Int),(0:Int),(0:Int),(0:Int),(0:Int),(0:Int),(0:Int),(0:Int)] 33) (.cells #[(0:Int),(0:Int),(0:Int),(0:Int),(0:Int),(0:Int),(0:Int),(0:Int)] 33);replace KL:=KL.tN k2;replace C:=C.kpN k2;have cC:=C.cell;unfold splitV;go_upto_region 11 with(fail)
     generalize (w5.alloc (.cells #[(0:Int),(0:Int),(0:Int),(0:Int),(0:Int),(0:Int),(0:Int),(0:Int)] 33)).alloc (.cells #[(0:Int),(0:Int),(0:Int),(0:Int),(0:Int),(0:Int),(0:Int),(0:Int)] 33)=w6 at *;clear k2;have Q:=Blk.new w6 121 #[b.x.lo,b.x.hi,b.y.lo,b.y.hi,b.u.lo,b.u.hi,b.v.lo,b.v.hi,(2:Int),pn];have KL1:=KL.thenN (Kp.new1 _ (.cells #[b.x.lo,b.x.hi,b.y.lo,b.y.hi,b.u.lo,b.u.hi,b.v.lo,b.v.hi,(2:Int),pn] 121)) (Nat.le_refl _);clear KL;go_wp2_with (at_builtin;go_loud (refine wpList_app1_Cell (by rfl) (.tmp 52) (.tmp 54) (by rfl) wl.heap.size (.slice none 0 0) [] _ 1 ⟨b,2,pn⟩ (by rfl) (by rfl) (Own.nil _ _ _ _ _) Q (by rfl) (by simp) KL1.size ?_);intro v' wf own' hg' hat)
     have KL:=KL1.grown hg' KL1.size (fun b9 e9=>by cases e9);clear Q hat hg' cC KL1;go_roundw
     case rel=>exact⟨.inr ⟨rfl,own'⟩,KL⟩
     case measure=>simp[intOf]
   | some p=>
    obtain⟨x1,y1⟩:=p;cases fk
    ·
     simp only[fkI] at C;have k2:=Kp.new2 w5 (.cells x1 33) (.cells y1 33);replace KL:=KL.tN k2;replace C:=C.kpN k2;have cC:=C.cell;unfold splitV;go_upto_region 11 with(fail)
     generalize (w5.alloc (.cells x1 33)).alloc (.cells y1 33)=w6 at *;clear k2;have Q:=Blk.new w6 121 #[b.x.lo,b.x.hi,b.y.lo,b.y.hi,b.u.lo,b.u.hi,b.v.lo,b.v.hi,(1:Int),pn];have KL1:=KL.thenN (Kp.new1 _ (.cells #[b.x.lo,b.x.hi,b.y.lo,b.y.hi,b.u.lo,b.u.hi,b.v.lo,b.v.hi,(1:Int),pn] 121)) (Nat.le_refl _);clear KL;go_wp2_with (at_builtin;go_loud (refine wpList_app1_Cell (by rfl) (.tmp 52) (.tmp 54) (by rfl) wl.heap.size (.slice none 0 0) [] _ 1 ⟨b,1,pn⟩ (by rfl) (by rfl) (Own.nil _ _ _ _ _) Q (by rfl) (by simp) KL1.size ?_);intro v' wf own' hg' hat)
     have KL:=KL1.grown hg' KL1.size (fun b9 e9=>by cases e9);clear Q hat hg' cC KL1;go_roundw
     case rel=>exact⟨.inr ⟨rfl,own'⟩,KL⟩
     case measure=>simp[intOf]
    ·
     simp only[fkI] at C;have X1:=(Blk.new w5 33 x1).alloc (.cells y1 33);have Y1:=Blk.newAt (w5.alloc (.cells x1 33)) 33 y1 (n:=w5.heap.size+1) (by simp);have k2:=Kp.new2 w5 (.cells x1 33) (.cells y1 33);replace KL:=KL.tN k2;replace C:=C.kpN k2;have cC:=C.cell;unfold splitV;go_upto_region 12 with(fail)
     generalize (w5.alloc (.cells x1 33)).alloc (.cells y1 33)=w6 at *;generalize w5.heap.size=xb at *;clear k2 cC C;obtain⟨S0,hS⟩:∃ S0:World→Prop,S0=fun w'=>Blk w' xb 33 x1∧Blk w' (xb+1) 33 y1:=⟨_,rfl⟩;have hS0:∀ w',S0 w'↔(Blk w' xb 33 x1∧Blk w' (xb+1) 33 y1):=fun w'=>by rw[hS]
     clear hS;have cX1:=fun (q:Ev S0) i=>((hS0 _).1 q.h).1.cell i;have cY1:=fun (q:Ev S0) i=>((hS0 _).1 q.h).2.cell i;have hevT:=ev_true;refine wp_region_tr S0 (.st 0 0 (.st 1 0 (.st 2 0 (.st 3 0 (.st 4 0 (.st 5 0 (.st 6 1 (.st 7 0 (.st 8 1 (.st 9 0 (.st 10 2 (.st 11 2 (.st 12 0 .nil))))))))))))) (by kernel_rfl) (by kernel_rfl) ((hS0 _).2 ⟨X1.drew,Y1.drew⟩) ?_;intro _hev;refine tX ?_;refine wpTr_l rfl rfl ?_;intro K hK;replace X1:=X1.drew;replace Y1:=Y1.drew;replace KL:=KL.drew;generalize w6.drew=wd at *;go_step;have Q:=Blk.new wd 121 (.int .i64 x1.x.lo::.int .i64 x1.x.hi::.int .i64 x1.y.lo::.int .i64 x1.y.hi::.int .i64 x1.u.lo::.int .i64 x1.u.hi::.int .i64 x1.v.lo::.int .i64 x1.v.hi::.int .i64 0::.int .i64 0::.int .i64 y1.x.lo::.int .i64 y1.x.hi::.int .i64 y1.y.lo::.int .i64 y1.y.hi::.int .i64 y1.u.lo::.int .i64 y1.u.hi::.int .i64 y1.v.lo::.int .i64 y1.v.hi::.int .i64 0::.int .i64 0::[]:List Value).toArray;have kq:=Kp.new1 wd (.cells (.int .i64 x1.x.lo::.int .i64 x1.x.hi::.int .i64 x1.y.lo::.int .i64 x1.y.hi::.int .i64 x1.u.lo::.int .i64 x1.u.hi::.int .i64 x1.v.lo::.int .i64 x1.v.hi::.int .i64 0::.int .i64 0::.int .i64 y1.x.lo::.int .i64 y1.x.hi::.int .i64 y1.y.lo::.int .i64 y1.y.hi::.int .i64 y1.u.lo::.int .i64 y1.u.hi::.int .i64 y1.v.lo::.int .i64 y1.v.hi::.int .i64 0::.int .i64 0::[]:List Value).toArray 121);replace X1:=X1.kpN kq;replace Y1:=Y1.kpN kq;replace KL:=KL.tN kq;refine hK _ _ ((hS0 _).2 ⟨X1,Y1⟩) ?_;clear hK K kq;obtain⟨qb,hqb⟩:∃ q9,q9=wd.heap.size:=⟨_,rfl⟩;generalize wd.alloc (.cells (.int .i64 x1.x.lo::.int .i64 x1.x.hi::.int .i64 x1.y.lo::.int .i64 x1.y.hi::.int .i64 x1.u.lo::.int .i64 x1.u.hi::.int .i64 x1.v.lo::.int .i64 x1.v.hi::.int .i64 0::.int .i64 0::.int .i64 y1.x.lo::.int .i64 y1.x.hi::.int .i64 y1.y.lo::.int .i64 y1.y.hi::.int .i64 y1.u.lo::.int .i64 y1.u.hi::.int .i64 y1.v.lo::.int .i64 y1.v.hi::.int .i64 0::.int .i64 0::[]:List Value).toArray 121)=we at *;rw[← hqb] at Q ⊢;replace hqb:=Lib.hid hqb;refine wpTr_l rfl rfl ?_;intro K hK;refine wp_app_Cells (.tmp 61) (.tmp 66) (by rfl) wl.heap.size (.slice none 0 0) [] qb 2 2 [zCell x1,zCell y1] (by rfl) (by rfl) rfl (Own.nil _ _ _ _ _) Q rfl (by simp) KL.size ?_;intro v' wf own' hg' hat;dsimp only[Act.put];simp only[sbt,sc0,scs];have KL1:=KL.grown hg' KL.size (fun b9 e9=>by cases e9);refine hK _ _ ((hS0 _).2 ⟨X1.grownX hg' (fun b9 e9=>by cases e9),Y1.grownX hg' (fun b9 e9=>by cases e9)⟩) ?_;clear hK K hat hg' Q KL;refine tX ?_;refine wpTr_nil ?_;clear hevT _hev;clear cX1 cY1 hS0 S0 X1 Y1;go_wp2_with fail
     go_roundw
     case rel=>exact⟨.inr ⟨rfl,own'⟩,KL1⟩
     case measure=>simp[intOf]
    ·
     simp only[fkI] at C;have k2:=Kp.new2 w5 (.cells x1 33) (.cells y1 33);replace KL:=KL.tN k2;replace C:=C.kpN k2;have cC:=C.cell;unfold splitV;go_upto_region 11 with(fail)
     generalize (w5.alloc (.cells x1 33)).alloc (.cells y1 33)=w6 at *;clear k2;have Q:=Blk.new w6 121 #[b.x.lo,b.x.hi,b.y.lo,b.y.hi,b.u.lo,b.u.hi,b.v.lo,b.v.hi,(2:Int),pn];have KL1:=KL.thenN (Kp.new1 _ (.cells #[b.x.lo,b.x.hi,b.y.lo,b.y.hi,b.u.lo,b.u.hi,b.v.lo,b.v.hi,(2:Int),pn] 121)) (Nat.le_refl _);clear KL;go_wp2_with (at_builtin;go_loud (refine wpList_app1_Cell (by rfl) (.tmp 52) (.tmp 54) (by rfl) wl.heap.size (.slice none 0 0) [] _ 1 ⟨b,2,pn⟩ (by rfl) (by rfl) (Own.nil _ _ _ _ _) Q (by rfl) (by simp) KL1.size ?_);intro v' wf own' hg' hat)
     have KL:=KL1.grown hg' KL1.size (fun b9 e9=>by cases e9);clear Q hat hg' cC KL1;go_roundw
     case rel=>exact⟨.inr ⟨rfl,own'⟩,KL⟩
     case measure=>simp[intOf]
theorem excl1_any (x:Cl) (w:World):Calls Tryz.prog 58 #[.agg #[x.b.x.lo,x.b.x.hi,x.b.y.lo,x.b.y.hi,x.b.u.lo,x.b.u.hi,x.b.v.lo,x.b.v.hi,x.k,x.p]] w fun e w'=>e=.returned (.bool (decide (x.k≠1)))∧Kp w.heap.size none w w':=by
 have e9:(x.k !=1)=decide (x.k≠1):=by by_cases h:x.k=1<;>simp[h]
 rw[← e9];clear e9;obtain⟨w1,hw1,C,K,hz⟩:=box1 w 121 #[x.b.x.lo,x.b.x.hi,x.b.y.lo,x.b.y.hi,x.b.u.lo,x.b.u.hi,x.b.v.lo,x.b.v.hi,x.k,x.p];go_enter Tryz.func58,Tryz.ntmps58
 go_upto_region 1 with(fail)
 rw[← hw1];clear hw1;have cC:=C.cell;go_wp2
 go_ret
 exact⟨rfl,K⟩
theorem excl1_pred (xs:List Cl) (w:World):PredK 58 #[] oneCell (fun x=>decide (x.k≠1)) xs w:=fun W x _ _=>excl1_any x W
def ExAt (P:Bx→Bool) (W:Wd) (d:Dr) (l:List Bx) (A:Option Addr) (c:Nat) (w:World) (v:Value) (wr:World):Prop:=
 ∃ i:Nat,v=.int .i64 i∧i≤l.length∧(l.take i).all P=true∧Blk wr w.heap.size 27 #[.slice A W.bs.length c,W.home]∧Blk wr (w.heap.size+1) 31 d∧Kp w.heap.size none w wr
theorem exAll_snoc {α:Type} {P:α→Bool} {l:List α} {i:Nat} (h:i<l.length) (ha:(l.take i).all P=true) (hp:P l[i]=true):(l.take (i+1)).all P=true:=by
 rw[List.take_succ_eq_append_getElem h,List.all_append,ha];simpa using hp
theorem exAll_out {α:Type} {P:α→Bool} {l:List α} {i:Nat} (h:i<l.length) (hp:P l[i]=false):l.all P=false:=by
 cases e:l.all P with
 | false=>rfl
 | true=>rw[List.all_eq_true.1 e _ (List.getElem_mem h)] at hp;cases hp
theorem meet_Excluded_any (A:Option Addr) (c:Nat) (W:Wd) (d:Dr) (t:Int) (L:Option Addr) (m:Nat) (l:List Bx) (n:Nat) (w:World) (hW:W.ok) (hA:WdAt none w A W) (hd:d.ok) (ht:0≤t∧t≤900000) (hn:1≤n∧n≤400)
  (hr:Rd none w 8 encBx L l.length l) (hl:l.length≤100) (hb:∀ b∈l,okBx b=true) :
  Calls Tryz.prog 20 #[.agg #[.slice A W.bs.length c,W.home],d,t,.slice L l.length m,n,(1:Int)] w fun e w'=>e=.returned (.tuple #[.bool (l.all fun b=>exclW W d n t b (splitB b)),(0:Int)])∧Kp w.heap.size none w w':=by
 have ca:=fun w h=>meet_asked_any A c W d t n w hW h hd ⟨ht.1,by omega⟩ oM;have cc:=fun w h=>orbit_CheckSet_any L m l w h oM hb;have cr:=fun w=>meet_rounded_any 1 oM w;have cov:=fun b hb w h=>meet_cover_any A c W d t b n w hW h hd ht hn.2 hb;have cn:=fun A cap cl w hr hl=>containsCell_any 58 #[] (fun x=>decide (x.k≠1)) (enters_of Tryz.func58 (by kernel_rfl) rfl) A cap cl w (excl1_pred cl w) hr hl;obtain⟨P,hP⟩:∃ P:Bx→Bool,Hid (P=fun b=>exclW W d n t b (splitB b)):=⟨_,Lib.hid rfl⟩;rw[← hP.out];have hPb:∀ b,exclW W d n t b (splitB b)=P b:=fun b=>by rw[hP.out]
 clear hP;unfold CovP GoodC at cov;simp only[hPb] at cov;replace cov:=Lib.hid cov;replace cn:=Lib.hid cn;clear hW hd ht hn hPb;obtain⟨w1,hw1,D,F,K,hz⟩:=box2 w 27 #[.slice A W.bs.length c,W.home] 31 d;go_enter Tryz.func20,Tryz.ntmps20
 go_wp2_with fail
 rw[← hw1];clear hw1;refine mK (ca _ (hA.kpN K)) fun w2 k=>?_;replace D:=D.kpN k;replace F:=F.kpN k;replace K:=K.thenN k oM;have hzk:=k.size;clear k;have cD:=D.cell;have fD:=D.frozen;have cF:=F.cell;have fF:=F.frozen;go_wp2_with fail
 refine mK (cc _ (hr.kpN K)) fun w3 k=>?_;clear cD fD cF fF;replace D:=D.kpN k;replace F:=F.kpN k;replace K:=K.thenN k oM;have hzk:=k.size;clear k;have cD:=D.cell;have fD:=D.frozen;have cF:=F.cell;have fF:=F.frozen;go_wp2_with fail
 refine mK (cr _) fun w4 k=>?_;clear cD fD cF fF;replace D:=D.kpN k;replace F:=F.kpN k;replace K:=K.thenN k oM;have hzk:=k.size;clear k;clear ca cc cr;go_wp2_with fail
 go_loopw [36] (fun v wr=>ExAt P W d l A c w v wr) (fun v _=>(l.length:Int).toNat-(intOf v).toNat)
 case atStart=>exact⟨0,rfl,Nat.zero_le _,rfl,D,F,K⟩
 case round=>
  obtain⟨i,rfl,hi,ha,D1,F1,K1⟩:=hrel;clear D F K;have D:=D1;have F:=F1;have K:=K1;clear D1 F1 K1;by_cases h:i<l.length
  ·
   obtain⟨b,o,rfl,hlt,c0,c1,c2,c3,c4,c5,c6,c7⟩:=hr.bx h;have d0:=(K.cell b _ hlt (by simp)).trans c0;have d1:=(K.cell b _ hlt (by simp)).trans c1;have d2:=(K.cell b _ hlt (by simp)).trans c2;have d3:=(K.cell b _ hlt (by simp)).trans c3;have d4:=(K.cell b _ hlt (by simp)).trans c4;have d5:=(K.cell b _ hlt (by simp)).trans c5;have d6:=(K.cell b _ hlt (by simp)).trans c6;have d7:=(K.cell b _ hlt (by simp)).trans c7;have hii:(i:Int)<(l.length:Int):=by omega
   have hi0:(0:Int)≤(i:Int):=by omega
   have hm:(l.length:Int).toNat-((i+1:Nat):Int).toNat<(l.length:Int).toNat-(i:Int).toNat:=by omega
   replace hm:=Lib.hid hm;have cv:=cov.out l[i] (hb _ (List.getElem_mem h));have hs:=exAll_snoc (P:=P) h ha;have ho:=exAll_out (P:=P) h;obtain⟨pv,hpv⟩:∃ q9,Hid (q9=P l[i]):=⟨_,Lib.hid rfl⟩;rw[← hpv.out] at cv hs ho;clear hpv c0 c1 c2 c3 c4 c5 c6 c7 hb cov ha;generalize l[i]=x at *;replace hs:=Lib.hid hs;replace ho:=Lib.hid ho;replace cv:=Lib.hid cv;replace h:=Lib.hid h;have pD:=D.cell;have pF:=F.cell;obtain⟨w9_,rfl,X,k9_,hzn⟩:=box1 wr 33 x;replace D:=D.kpN k9_;replace F:=F.kpN k9_;replace K:=K.thenN k9_ oU;clear k9_;have cD:=D.cell;have fD:=D.frozen;have cF:=F.cell;have fF:=F.frozen;go_wp2_with fail
   clear cD fD pD cF fF pF;generalize (wr.alloc (.cells x 33))=w2 at *;obtain⟨z,hx⟩:∃ q9,q9=wr.heap.size:=⟨_,rfl⟩;rw[← hx] at X ⊢;replace hx:=Lib.hid hx;clear hx hzn d0 d1 d2 d3 d4 d5 d6 d7;have cX:=X.cell;have cD:=D.cell;have fD:=D.frozen;have cF:=F.cell;have fF:=F.frozen;go_wp2_with fail
   refine(cv.out _ (hA.kpN K)).mono ?_;rintro e w6 ⟨A2,cap2,cl,rfl,rd,hcl,gd,k⟩;clear cD fD cF fF;replace D:=D.kpN k;replace F:=F.kpN k;replace K:=K.thenN k oM;have hzk:=k.size;clear k;have cq:=cn.out A2 cap2 cl w6 rd oM;rw[gd] at cq;clear gd rd hcl cX X cn cv;go_wp2_with fail
   refine cq.mono ?_;rintro e w7 ⟨rfl,k7⟩;replace D:=D.kpN k7;replace F:=F.kpN k7;replace K:=K.tN k7;clear cq k7;cases pv with
   | false=>
    have ho:=Lib.hid (ho.out (by trivial));clear hs;go_wp2
    exact bodyPost_ret (v:=.tuple #[.bool false,(0:Int)]) (by simp[results,Tryz.results20,go_sem]) rfl ⟨by simp[ho.out],K⟩
   | true=>
    clear ho;go_wp2_with fail
    go_roundw
    case rel=>exact⟨i+1,rfl,h.out,hs.out (by trivial),D,F,K⟩
    case measure=>have:=h.out;simp[intOf];omega
  ·
   have he:i=l.length:=by omega
   subst he;rw[List.take_length] at ha;replace ha:=Lib.hid ha;clear h hi;go_wp2
   exact bodyPost_ret (v:=.tuple #[.bool true,(0:Int)]) (by simp[results,Tryz.results20,go_sem]) rfl ⟨by simp[ha.out],K⟩
def holdsB (b:Bx) (s:St):Bool:=btw s.x b.x.lo b.x.hi&&(btw s.y b.y.lo b.y.hi&&(btw s.u b.u.lo b.u.hi&&btw s.v b.v.lo b.v.hi))
theorem holdsB_iff {b:Bx} {s:St}:holdsB b s=true↔b.has s:=by
 simp only[holdsB,btw,Bx.has,Sp.has,Bool.and_eq_true,decide_eq_true_eq]
def fst4 (x0 x1 x2 x3:Bool) (i:Nat):Prop:=(0<i→x0=true)∧(1<i→x1=true)∧(2<i→x2=true)∧(3<i→x3=true)
theorem orbit_Holds_any (b:Bx) (s:St) (w:World) :
  Calls Tryz.prog 42 #[b,s] w fun e w'=>e=.returned (.bool (holdsB b s))∧Kp w.heap.size none w w':=by
 have co:=fun w=>orbit_of_any b w;unfold spansC at co;have i0:=index4s_0;have i1:=index4s_1;have i2:=index4s_2;have i3:=index4s_3;have c0:=fun w=>orbit_within_any s.x b.x.lo b.x.hi w;have c1:=fun w=>orbit_within_any s.y b.y.lo b.y.hi w;have c2:=fun w=>orbit_within_any s.u b.u.lo b.u.hi w;have c3:=fun w=>orbit_within_any s.v b.v.lo b.v.hi w;unfold holdsB;generalize btw s.x b.x.lo b.x.hi=x0 at *;generalize btw s.y b.y.lo b.y.hi=x1 at *;generalize btw s.u b.u.lo b.u.hi=x2 at *;generalize btw s.v b.v.lo b.v.hi=x3 at *;obtain⟨w1,hw1,B,C,N,K,hz⟩:=box3 w 33 b 55 s 125 s;go_enter Tryz.func42,Tryz.ntmps42
 go_wp2_with fail
 rw[← hw1];clear hw1;refine mK (co _) fun w3 k=>?_;replace B:=B.kpN k;replace N:=N.kpN k;replace K:=K.thenN k oM;have hzk:=k.size;clear k;clear hzk;have cB:=B.cell;have fB:=B.frozen;have cN:=N.cell;have fN:=N.frozen;go_wp2_with fail
 clear cB fB cN fN;go_loopw [19] (fun v wr=>∃ i:Nat,v=.int .i64 i∧i≤4∧fst4 x0 x1 x2 x3 i∧Blk wr (w.heap.size+2) 125 s∧Kp w.heap.size none w wr) (fun v _=>4-(intOf v).toNat)
 case atStart=>exact⟨0,rfl,by omega,⟨fun h=>by omega,fun h=>by omega,fun h=>by omega,fun h=>by omega⟩,N,K⟩
 case round=>
  obtain⟨i,rfl,hi,ho,N1,KK⟩:=hrel;clear K B N co;have N:=N1;have K:=KK;have hzs:=K.size;clear N1 KK;have hi':i=0∨i=1∨i=2∨i=3∨i=4:=by omega
  unfold fst4 at ho;rcases hi' with rfl|hi'
  ·
   rw[show ((0:Nat):Int)=(0:Int) from rfl];clear hi;have pN:=N.cell;obtain⟨w9_,rfl,Y,k9_,hzn⟩:=box1 wr 29 b.x;replace N:=N.kpN k9_;replace K:=K.thenN k9_ oU;clear k9_;have cN:=N.cell;have fN:=N.frozen;go_wp2_with fail
   clear cN fN pN;generalize (wr.alloc (.cells b.x 29))=w5 at *;obtain⟨y,hx⟩:∃ q9,q9=wr.heap.size:=⟨_,rfl⟩;rw[← hx] at Y ⊢;replace hx:=Lib.hid hx;clear hx hzn;cases x0
   ·
    clear ho;obtain⟨S,hS0,hS1⟩:=cls_of2 (P:=fun w'=>Blk w' _ _ _∧Blk w' _ _ _∧Kp _ _ _ w') w5 ⟨N,Y,K⟩;try dsimp only at hS0
    have cN:=fun (x:Ev (S 0)) i=>((hS0 _).1 x.h).1.cell i;have cY:=fun (x:Ev (S 0)) i=>((hS0 _).1 x.h).2.1.cell i;replace N:=N.drew;replace Y:=Y.drew;replace K:=K.drew;have hevT:=ev_true;refine wro S [(0,0),(1,0),(2,1),(3,0),(4,1),(5,0),(6,1),(7,2),(8,0)] [] ((hS0 _).2 ⟨N,Y,K⟩) ?_;intro _hev;refine oX ?_;refine oL ?_;intro Kc hKc;generalize w5.drew=wd9 at *;go_step;refine mK (c0 _) fun w6 k=>?_;replace N:=N.kpN k;replace Y:=Y.kpN k;replace K:=K.tN k;clear k;refine hKc _ _ ((hS0 _).2 ⟨N,Y,K⟩) ?_;clear hKc Kc;refine oX ?_;refine wpOrd_nil ?_;clear hevT _hev;clear cN cY hS0 hS1 S;go_wp2
    go_ret
    exact⟨by simp,K⟩
   ·
    have hn:fst4 true x1 x2 x3 (0+1):=by unfold fst4;refine⟨fun h=>?_,fun h=>?_,fun h=>?_,fun h=>?_⟩<;>first|rfl|exact ho.1 oM|exact ho.2.1 oM|exact ho.2.2.1 oM|exact ho.2.2.2 oM|omega
    clear ho;replace hn:=Lib.hid hn;obtain⟨S,hS0,hS1⟩:=cls_of2 (P:=fun w'=>Blk w' _ _ _∧Blk w' _ _ _∧Kp _ _ _ w') w5 ⟨N,Y,K⟩;try dsimp only at hS0
    have cN:=fun (x:Ev (S 0)) i=>((hS0 _).1 x.h).1.cell i;have cY:=fun (x:Ev (S 0)) i=>((hS0 _).1 x.h).2.1.cell i;replace N:=N.drew;replace Y:=Y.drew;replace K:=K.drew;have hevT:=ev_true;refine wro S [(0,0),(1,0),(2,1),(3,0),(4,1),(5,0),(6,1),(7,2),(8,0)] [] ((hS0 _).2 ⟨N,Y,K⟩) ?_;intro _hev;refine oX ?_;refine oL ?_;intro Kc hKc;generalize w5.drew=wd9 at *;go_step;refine mK (c0 _) fun w6 k=>?_;replace N:=N.kpN k;replace Y:=Y.kpN k;replace K:=K.tN k;clear k;refine hKc _ _ ((hS0 _).2 ⟨N,Y,K⟩) ?_;clear hKc Kc;refine oX ?_;refine wpOrd_nil ?_;clear hevT _hev;clear cN cY hS0 hS1 S;go_wp2
    go_roundw
    case rel=>exact⟨0+1,rfl,by omega,hn.out,N,K⟩
    case measure=>simp[intOf]
  rcases hi' with rfl|hi'
  ·
   rw[show ((1:Nat):Int)=(1:Int) from rfl];clear hi;have pN:=N.cell;obtain⟨w9_,rfl,Y,k9_,hzn⟩:=box1 wr 29 b.y;replace N:=N.kpN k9_;replace K:=K.thenN k9_ oU;clear k9_;have cN:=N.cell;have fN:=N.frozen;go_wp2_with fail
   clear cN fN pN;generalize (wr.alloc (.cells b.y 29))=w5 at *;obtain⟨y,hx⟩:∃ q9,q9=wr.heap.size:=⟨_,rfl⟩;rw[← hx] at Y ⊢;replace hx:=Lib.hid hx;clear hx hzn;cases x1
   ·
    clear ho;obtain⟨S,hS0,hS1⟩:=cls_of2 (P:=fun w'=>Blk w' _ _ _∧Blk w' _ _ _∧Kp _ _ _ w') w5 ⟨N,Y,K⟩;try dsimp only at hS0
    have cN:=fun (x:Ev (S 0)) i=>((hS0 _).1 x.h).1.cell i;have cY:=fun (x:Ev (S 0)) i=>((hS0 _).1 x.h).2.1.cell i;replace N:=N.drew;replace Y:=Y.drew;replace K:=K.drew;have hevT:=ev_true;refine wro S [(0,0),(1,0),(2,1),(3,0),(4,1),(5,0),(6,1),(7,2),(8,0)] [] ((hS0 _).2 ⟨N,Y,K⟩) ?_;intro _hev;refine oX ?_;refine oL ?_;intro Kc hKc;generalize w5.drew=wd9 at *;go_step;refine mK (c1 _) fun w6 k=>?_;replace N:=N.kpN k;replace Y:=Y.kpN k;replace K:=K.tN k;clear k;refine hKc _ _ ((hS0 _).2 ⟨N,Y,K⟩) ?_;clear hKc Kc;refine oX ?_;refine wpOrd_nil ?_;clear hevT _hev;clear cN cY hS0 hS1 S;go_wp2
    go_ret
    exact⟨by simp,K⟩
   ·
    have hn:fst4 x0 true x2 x3 (1+1):=by unfold fst4;refine⟨fun h=>?_,fun h=>?_,fun h=>?_,fun h=>?_⟩<;>first|rfl|exact ho.1 oM|exact ho.2.1 oM|exact ho.2.2.1 oM|exact ho.2.2.2 oM|omega
    clear ho;replace hn:=Lib.hid hn;obtain⟨S,hS0,hS1⟩:=cls_of2 (P:=fun w'=>Blk w' _ _ _∧Blk w' _ _ _∧Kp _ _ _ w') w5 ⟨N,Y,K⟩;try dsimp only at hS0
    have cN:=fun (x:Ev (S 0)) i=>((hS0 _).1 x.h).1.cell i;have cY:=fun (x:Ev (S 0)) i=>((hS0 _).1 x.h).2.1.cell i;replace N:=N.drew;replace Y:=Y.drew;replace K:=K.drew;have hevT:=ev_true;refine wro S [(0,0),(1,0),(2,1),(3,0),(4,1),(5,0),(6,1),(7,2),(8,0)] [] ((hS0 _).2 ⟨N,Y,K⟩) ?_;intro _hev;refine oX ?_;refine oL ?_;intro Kc hKc;generalize w5.drew=wd9 at *;go_step;refine mK (c1 _) fun w6 k=>?_;replace N:=N.kpN k;replace Y:=Y.kpN k;replace K:=K.tN k;clear k;refine hKc _ _ ((hS0 _).2 ⟨N,Y,K⟩) ?_;clear hKc Kc;refine oX ?_;refine wpOrd_nil ?_;clear hevT _hev;clear cN cY hS0 hS1 S;go_wp2
    go_roundw
    case rel=>exact⟨1+1,rfl,by omega,hn.out,N,K⟩
    case measure=>simp[intOf]
  rcases hi' with rfl|hi'
  ·
   rw[show ((2:Nat):Int)=(2:Int) from rfl];clear hi;have pN:=N.cell;obtain⟨w9_,rfl,Y,k9_,hzn⟩:=box1 wr 29 b.u;replace N:=N.kpN k9_;replace K:=K.thenN k9_ oU;clear k9_;have cN:=N.cell;have fN:=N.frozen;go_wp2_with fail
   clear cN fN pN;generalize (wr.alloc (.cells b.u 29))=w5 at *;obtain⟨y,hx⟩:∃ q9,q9=wr.heap.size:=⟨_,rfl⟩;rw[← hx] at Y ⊢;replace hx:=Lib.hid hx;clear hx hzn;cases x2
   ·
    clear ho;obtain⟨S,hS0,hS1⟩:=cls_of2 (P:=fun w'=>Blk w' _ _ _∧Blk w' _ _ _∧Kp _ _ _ w') w5 ⟨N,Y,K⟩;try dsimp only at hS0
    have cN:=fun (x:Ev (S 0)) i=>((hS0 _).1 x.h).1.cell i;have cY:=fun (x:Ev (S 0)) i=>((hS0 _).1 x.h).2.1.cell i;replace N:=N.drew;replace Y:=Y.drew;replace K:=K.drew;have hevT:=ev_true;refine wro S [(0,0),(1,0),(2,1),(3,0),(4,1),(5,0),(6,1),(7,2),(8,0)] [] ((hS0 _).2 ⟨N,Y,K⟩) ?_;intro _hev;refine oX ?_;refine oL ?_;intro Kc hKc;generalize w5.drew=wd9 at *;go_step;refine mK (c2 _) fun w6 k=>?_;replace N:=N.kpN k;replace Y:=Y.kpN k;replace K:=K.tN k;clear k;refine hKc _ _ ((hS0 _).2 ⟨N,Y,K⟩) ?_;clear hKc Kc;refine oX ?_;refine wpOrd_nil ?_;clear hevT _hev;clear cN cY hS0 hS1 S;go_wp2
    go_ret
    exact⟨by simp,K⟩
   ·
    have hn:fst4 x0 x1 true x3 (2+1):=by unfold fst4;refine⟨fun h=>?_,fun h=>?_,fun h=>?_,fun h=>?_⟩<;>first|rfl|exact ho.1 oM|exact ho.2.1 oM|exact ho.2.2.1 oM|exact ho.2.2.2 oM|omega
    clear ho;replace hn:=Lib.hid hn;obtain⟨S,hS0,hS1⟩:=cls_of2 (P:=fun w'=>Blk w' _ _ _∧Blk w' _ _ _∧Kp _ _ _ w') w5 ⟨N,Y,K⟩;try dsimp only at hS0
    have cN:=fun (x:Ev (S 0)) i=>((hS0 _).1 x.h).1.cell i;have cY:=fun (x:Ev (S 0)) i=>((hS0 _).1 x.h).2.1.cell i;replace N:=N.drew;replace Y:=Y.drew;replace K:=K.drew;have hevT:=ev_true;refine wro S [(0,0),(1,0),(2,1),(3,0),(4,1),(5,0),(6,1),(7,2),(8,0)] [] ((hS0 _).2 ⟨N,Y,K⟩) ?_;intro _hev;refine oX ?_;refine oL ?_;intro Kc hKc;generalize w5.drew=wd9 at *;go_step;refine mK (c2 _) fun w6 k=>?_;replace N:=N.kpN k;replace Y:=Y.kpN k;replace K:=K.tN k;clear k;refine hKc _ _ ((hS0 _).2 ⟨N,Y,K⟩) ?_;clear hKc Kc;refine oX ?_;refine wpOrd_nil ?_;clear hevT _hev;clear cN cY hS0 hS1 S;go_wp2
    go_roundw
    case rel=>exact⟨2+1,rfl,by omega,hn.out,N,K⟩
    case measure=>simp[intOf]
  rcases hi' with rfl|hi'
  ·
   rw[show ((3:Nat):Int)=(3:Int) from rfl];clear hi;have pN:=N.cell;obtain⟨w9_,rfl,Y,k9_,hzn⟩:=box1 wr 29 b.v;replace N:=N.kpN k9_;replace K:=K.thenN k9_ oU;clear k9_;have cN:=N.cell;have fN:=N.frozen;go_wp2_with fail
   clear cN fN pN;generalize (wr.alloc (.cells b.v 29))=w5 at *;obtain⟨y,hx⟩:∃ q9,q9=wr.heap.size:=⟨_,rfl⟩;rw[← hx] at Y ⊢;replace hx:=Lib.hid hx;clear hx hzn;cases x3
   ·
    clear ho;obtain⟨S,hS0,hS1⟩:=cls_of2 (P:=fun w'=>Blk w' _ _ _∧Blk w' _ _ _∧Kp _ _ _ w') w5 ⟨N,Y,K⟩;try dsimp only at hS0
    have cN:=fun (x:Ev (S 0)) i=>((hS0 _).1 x.h).1.cell i;have cY:=fun (x:Ev (S 0)) i=>((hS0 _).1 x.h).2.1.cell i;replace N:=N.drew;replace Y:=Y.drew;replace K:=K.drew;have hevT:=ev_true;refine wro S [(0,0),(1,0),(2,1),(3,0),(4,1),(5,0),(6,1),(7,2),(8,0)] [] ((hS0 _).2 ⟨N,Y,K⟩) ?_;intro _hev;refine oX ?_;refine oL ?_;intro Kc hKc;generalize w5.drew=wd9 at *;go_step;refine mK (c3 _) fun w6 k=>?_;replace N:=N.kpN k;replace Y:=Y.kpN k;replace K:=K.tN k;clear k;refine hKc _ _ ((hS0 _).2 ⟨N,Y,K⟩) ?_;clear hKc Kc;refine oX ?_;refine wpOrd_nil ?_;clear hevT _hev;clear cN cY hS0 hS1 S;go_wp2
    go_ret
    exact⟨by simp,K⟩
   ·
    have hn:fst4 x0 x1 x2 true (3+1):=by unfold fst4;refine⟨fun h=>?_,fun h=>?_,fun h=>?_,fun h=>?_⟩<;>first|rfl|exact ho.1 oM|exact ho.2.1 oM|exact ho.2.2.1 oM|exact ho.2.2.2 oM|omega
    clear ho;replace hn:=Lib.hid hn;obtain⟨S,hS0,hS1⟩:=cls_of2 (P:=fun w'=>Blk w' _ _ _∧Blk w' _ _ _∧Kp _ _ _ w') w5 ⟨N,Y,K⟩;try dsimp only at hS0
    have cN:=fun (x:Ev (S 0)) i=>((hS0 _).1 x.h).1.cell i;have cY:=fun (x:Ev (S 0)) i=>((hS0 _).1 x.h).2.1.cell i;replace N:=N.drew;replace Y:=Y.drew;replace K:=K.drew;have hevT:=ev_true;refine wro S [(0,0),(1,0),(2,1),(3,0),(4,1),(5,0),(6,1),(7,2),(8,0)] [] ((hS0 _).2 ⟨N,Y,K⟩) ?_;intro _hev;refine oX ?_;refine oL ?_;intro Kc hKc;generalize w5.drew=wd9 at *;go_step;refine mK (c3 _) fun w6 k=>?_;replace N:=N.kpN k;replace Y:=Y.kpN k;replace K:=K.tN k;clear k;refine hKc _ _ ((hS0 _).2 ⟨N,Y,K⟩) ?_;clear hKc Kc;refine oX ?_;refine wpOrd_nil ?_;clear hevT _hev;clear cN cY hS0 hS1 S;go_wp2
    go_roundw
    case rel=>exact⟨3+1,rfl,by omega,hn.out,N,K⟩
    case measure=>simp[intOf]
  subst hi';obtain⟨h0,h1,h2,h3⟩:=ho;have hx:Hid ((x0&&(x1&&(x2&&x3)))=true):=Lib.hid (by rw[h0 oM,h1 oM,h2 oM,h3 oM];rfl);clear h0 h1 h2 h3 c0 c1 c2 c3;go_wp2
  go_ret
  exact⟨ret_bool hx.out.symm,K⟩
theorem holds1_pred (B:Nat) (s:St) (xs:List Bx) (w:World) (hb:Blk w B 55 s):PredK 41 #[.pointer (some ⟨B,0,none⟩)] oneBox (fun b=>holdsB b s) xs w:=fun W x _ hk=>by
 have C:=hb.kpN hk;unfold oneBox;change Calls Tryz.prog 41 #[x,.pointer (some ⟨B,0,none⟩)] W fun e w'=>e=.returned (.bool (holdsB x s))∧Kp W.heap.size none W w';have hc:=fun w=>orbit_Holds_any x s w;generalize holdsB x s=r at *;have hB:=C.lt;have C1:=C.alloc (.cells x 33);have k1:=Kp.new1 W (.cells x 33);have cC:=C1.cell;have hne:B≠W.heap.size:=by omega
 go_enter Tryz.func41,Tryz.ntmps41
 go_wp2_with fail
 refine mK (hc _) fun w2 k=>?_;go_wp2
 go_ret
 exact⟨rfl,k1.thenN k (Nat.le_refl _)⟩
theorem orbit_In_any (A:Option Addr) (c:Nat) (l:List Bx) (s:St) (w:World) (hr:Rd none w 8 encBx A l.length l) (hl:l.length≤1000) :
  Calls Tryz.prog 13 #[.slice A l.length c,s] w fun e w'=>e=.returned (.bool (l.any fun b=>holdsB b s))∧Kp w.heap.size none w w':=by
 have S:=Blk.new w 55 s;have K:=Kp.new1 w (.cells s 55);have hc:=containsBox_any 41 #[.pointer (some ⟨w.heap.size,0,none⟩)] (fun b=>holdsB b s) (enters_of Tryz.func41 (by kernel_rfl) rfl) A c l _ (holds1_pred w.heap.size s l _ S) (hr.kpN K) oM;generalize (l.any fun b=>holdsB b s)=r at *;go_enter Tryz.func13,Tryz.ntmps13
 go_wp2_with fail
 refine hc.mono ?_;rintro e w2 ⟨rfl,k⟩;go_wp2
 go_ret
 exact⟨rfl,K.tN k⟩
def insS (a b:Sp):Bool:=decide (a.lo≤a.hi)&&(decide (b.lo≤a.lo)&&decide (a.hi≤b.hi))
def insB (a b:Bx):Bool:=insS a.x b.x&&(insS a.y b.y&&(insS a.u b.u&&insS a.v b.v))
theorem rd_drop {w:World} {b o k:Nat} {l:List St} (rd:Rd none w 4 encSt (some ⟨b,o,none⟩) l.length l) (hk:k<l.length) :
  Rd none w 4 encSt (some ⟨b,o+k * 4,none⟩) (l.drop k).length (l.drop k):=by
 obtain⟨b',o',e,hb,h4,hc⟩:=rd.2 oM;simp only[Option.some.injEq,Addr.mk.injEq] at e;obtain⟨rfl,rfl,-⟩:=e;refine⟨rfl,fun _=>⟨b,o+k * 4,rfl,hb,h4,fun i hi j v hv=>?_⟩⟩;rw[List.length_drop] at hi;rw[List.getElem_drop] at hv;have:=hc (k+i) oM j v hv;rw[Nat.add_mul] at this;rw[← this];congr 2
 omega
theorem law_TopSightings_any (A0:Option Addr) (cap:Nat) (nums:List Int) (watch:Int) (w:World) (h:Rd none w 1 (fun x=>[Value.int .i64 x]) A0 nums.length nums) (hnl:nums.length≤17592186044416) :
  Calls Tryz.prog 4 #[.slice A0 nums.length cap,watch] w fun e w'=>e=.returned (.bool true)∧Kp w.heap.size none w w':=by
 go_enter Tryz.func4,Tryz.ntmps4
 go_wp2_with fail
 refine(newRing_any A0 cap nums _ h hnl).mono ?_;rintro e w1 ⟨g,rfl,hg0,HR,K1⟩;clear h hnl;go_wp2_with fail
 refine(meetingOf_any g nums 0 _ HR oM).mono ?_;rintro e w2 ⟨v9,k',rfl,⟨A,c,W,d,t,b,n,rfl,hW,hA,hd,ht,hb,hn1,hn8⟩,hk',HR2,k2⟩;have hgz:=HR.lt;clear HR;have HR:=HR2;clear HR2;have K:=(K1.wide (some g)).then_ k2 (Nat.le_refl _);have hzk:=K.size;have hgl:=HR.lt;clear K1 k2;have M:=((Blk.new w2 27 #[.slice A W.bs.length c,W.home]).alloc (.cells d 31)).alloc (.cells b 33);have G:=(Blk.newAt (w2.alloc (.cells #[.slice A W.bs.length c,W.home] 27)) 31 d (n:=w2.heap.size+1) (by simp)).alloc (.cells b 33);have X:=Blk.newAt ((w2.alloc (.cells #[.slice A W.bs.length c,W.home] 27)).alloc (.cells d 31)) 33 b (n:=w2.heap.size+2) (by simp);have kz:=(Kp.new2 w2 (.cells #[.slice A W.bs.length c,W.home] 27) (.cells d 31)).alloc (by simp<;>omega) (.cells b 33);have hA3:=hA.kpN kz;have HR3:=HR.kpN kz;have K3:=K.tN kz;go_upto_region 3 with(fail)
 generalize ((w2.alloc (.cells #[.slice A W.bs.length c,W.home] 27)).alloc (.cells d 31)).alloc (.cells b 33)=w3 at *;obtain⟨mb,hmb⟩:∃ mb,mb=w2.heap.size:=⟨_,rfl⟩;rw[← hmb] at M G X ⊢;have hmg:g<mb:=by omega
 have hmw:w.heap.size≤mb:=by omega
 clear hmb kz hA HR K hgl hzk;have hA:=hA3;have HR:=HR3;have K:=K3;clear hA3 HR3 K3;have cM:=M.cell;have cG:=G.cell;have cX:=X.cell;go_wp2_with fail
 clear cM cG cX;refine(truth_any g nums k' A c W d t b n _ HR oM oM hW hA hd oM hb).mono ?_;rintro e w4 ⟨v9,k4,rfl,⟨L,cl,l,z,ok,rfl,hll,hlh,hbz,rdl,hT,hfr,hcl⟩,hk4,HR2,k⟩;have HRz:=HR.lt;clear HR;have HR:=HR2;replace M:=M.kq k;replace G:=G.kq k;replace X:=X.kq k;replace hA:=hA.kp k;replace K:=K.then_ k (Nat.le_refl _);replace rdl:=rdl.rowOf hfr (show g<_ from HRz);clear HR2 k hfr;have hl10:l.length≤10:=by omega
 replace hll:=Lib.hid hll;replace hcl:=Lib.hid hcl;replace hlh:=Lib.hid hlh;cases ok with
 | false=>
  go_wp2_with fail
  refine mK (awake_any _) fun w5 k=>?_;go_wp2
  go_ret
  exact⟨rfl,(K.tN k).narrow hg0⟩
 | true=>
 replace hT:=hT rfl;have hok:=hT.1;go_wp2_with fail
 refine(mod_any watch (n:Int) _ oM oM).mono ?_;rintro e we ⟨rfl,rfl⟩;obtain⟨kw,hkw⟩:∃ i:Nat,watch % (n:Int)=(i:Int):=⟨(watch % (n:Int)).toNat,by have:=Int.emod_nonneg watch (show (n:Int)≠0 by omega);omega⟩;have hkn:kw<n:=by have:=Int.emod_lt_of_pos watch (show 0<(n:Int) by omega);omega
 simp only[hkw];clear hkw;have cM:=M.cell;go_wp2_with fail
 clear cM;have cw:∀ w,RingAt w g nums k4→WdAt (some g) w A W→Rd (some g) w 4 encSt L l.length l→Calls Tryz.prog 9 #[.pointer (some ⟨g,0,none⟩),.agg #[.slice A W.bs.length c,W.home],t,.slice L l.length cl,kw] w (RPostB g nums (k4+100+10 * (kw+1)) w (WatP g A c W t l kw)):=fun w h1 h2 h3=>watched_any g nums k4 A c W t L cl l kw w h1 oM hW h2 oM h3 oM hok oM;refine(cw _ HR hA rdl).mono ?_;rintro e w5 ⟨v9,k5,rfl,⟨S,B,e1,C,f1,G9,m9,gs,rfl,rfl,hS,hSA,rdg,hgl,hgs⟩,hk5,HR2,k⟩;clear HR;have HR:=HR2;replace M:=M.kq k;replace G:=G.kq k;replace X:=X.kq k;replace rdl:=rdl.kp k;replace K:=K.then_ k (Nat.le_refl _);clear HR2 k hA;have hXl:=X.lt;replace HR:=HR.alloc (.cells #[.slice A S.W.bs.length c,S.W.home,.slice B S.st.length e1,.slice C S.ct.length f1] 43);have hzk:=K.size;have k5:=Kp.new1 w5 (.cells #[.slice A S.W.bs.length c,S.W.home,.slice B S.st.length e1,.slice C S.ct.length f1] 43);have hSA5:=hSA.kpN k5;have rdg5:=rdg.kpN k5;have rdl5:=rdl.kpN k5;have pM:=M.cell;have pG:=G.cell;have pX:=X.cell;obtain⟨w9_,rfl,SB,k9_,hzn⟩:=box1 w5 43 #[.slice A S.W.bs.length c,S.W.home,.slice B S.st.length e1,.slice C S.ct.length f1];replace M:=M.kpN k9_;replace G:=G.kpN k9_;replace X:=X.kpN k9_;replace K:=K.thenN k9_ oU;clear k9_;have cM:=M.cell;have fM:=M.frozen;have cG:=G.cell;have fG:=G.frozen;have cX:=X.cell;have fX:=X.frozen;go_wp2_with fail
 clear cM fM pM cG fG pG cX fX pX;generalize (w5.alloc (.cells #[.slice A S.W.bs.length c,S.W.home,.slice B S.st.length e1,.slice C S.ct.length f1] 43))=w6 at *;obtain⟨sb,hx⟩:∃ q9,q9=w5.heap.size:=⟨_,rfl⟩;rw[← hx] at SB ⊢;replace hx:=Lib.hid hx;have hsb:mb+2<sb:=by have:=hx.out;omega
 clear hx hzn hzk k5 hSA rdg rdl;have hg6:g<w6.heap.size:=HR.lt;have KO:=K;clear K;have K:=Kp.refl w6.heap.size (some g) w6;have cc:=fun (q:Int) (h1:0≤q) (h2:q<6) w=>(show Calls Tryz.prog 10 #[b,.int .i64 (1+q)] w fun e w'=>∃ v,e=.returned v∧CellP b (1+q).toNat w v w' from by have:=cellsOf_any b (1+q).toNat w hb oM;rwa [show (((1+q).toNat:Nat):Int)=1+q from by omega] at this);obtain⟨S,hS0,hS1⟩:=cls_of2 (P:=fun w'=>Blk w' _ _ _∧Kp _ _ _ w') w6 ⟨X,K⟩;try dsimp only at hS0
 have cX:=fun (x:Ev (S 0)) i=>((hS0 _).1 x.h).1.cell i;replace X:=X.drew;replace K:=K.drew;replace M:=M.drew;replace G:=G.drew;replace SB:=SB.drew;replace HR:=HR.drew;have hevT:=ev_true;refine wro S [(0,1),(1,0),(2,2),(3,0),(4,2),(5,0)] [] ((hS0 _).2 ⟨X,K⟩) ?_;intro _hev;refine oX ?_;refine oL ?_;intro Kc hKc;generalize w6.drew=wd9 at *;go_step;refine(next_any g nums k5 6 _ HR oM oM oM).mono ?_;rintro e w7 ⟨v9,rfl,⟨q,rfl,hq0,hq1⟩,HR9,k⟩;replace X:=X.kq k;replace M:=M.kq k;replace G:=G.kq k;replace SB:=SB.kq k;replace K:=K.then_ k (Nat.le_refl _);replace HR:=HR9;clear k HR9;have hzr_w7:=K.size;refine hKc _ _ ((hS0 _).2 ⟨X,K⟩) ?_;clear hKc Kc;refine oX ?_;refine oL ?_;intro Kc hKc;go_step;refine(cc q hq0 hq1 _).mono ?_;rintro e w8 ⟨v8,rfl,A8,c8,st8,rfl,rds,hP,hsl,hfs,k⟩;replace X:=X.kpN k;replace M:=M.kpN k;replace G:=G.kpN k;replace SB:=SB.kpN k;replace HR:=HR.kpN k;replace K:=K.tN k;clear k;refine hKc _ _ ((hS0 _).2 ⟨X,K⟩) ?_;clear hKc Kc;refine oX ?_;refine wpOrd_nil ?_;clear hevT _hev;clear cX hS0 hS1 S;clear cc;have hSA:=hSA5.kp K;have rdg:=rdg5.kp K;have rdl:=rdl5.kp K;have hsbl:=SB.lt;replace K:=KO.then_ K (Nat.le_refl _);clear hSA5 rdg5 rdl5 KO X;have hs8:st8.length≤8:=by omega
 clear hsl hq0 hq1;have rds':=rds.rowOf (g:=g) hfs oM;clear rds hfs;have rds:=rds';clear rds';have h1g:gs.length≤64:=by omega
 obtain⟨u9,hu9⟩:∃ u9,Hid (u9=updW S.W d (S.exB gs) kw t st8):=⟨_,Lib.hid rfl⟩;have cu:=fun w h1 h2 h3=>orbit_Update_any A B C c e1 f1 S d t G9 m9 gs A8 c8 st8 kw w hS h1 hd oM oM h2 h1g (fun x hx=>(hgs x hx).1) h3 oM (hP.ok hb);rw[← hu9.out] at cu;have hkl:kw<l.length:=by have:=hll.out;omega
 obtain⟨z0,rl0,hl0⟩:∃ z0 r,l=z0::r:=by
  cases l with
  | nil=>have:=hll.out;simp at this
  | cons a r=>exact⟨a,r,rfl⟩
 have hz0:z=z0:=by have:=hlh.out;rw[hl0] at this;injection this with this;exact this.symm
 subst hz0;have hn0:nth l 0=z:=by rw[hl0];rfl
 have hlaw:=fun now (e:updW S.W d (S.exB gs) kw t st8=some now)=>sightings_law hS.W hd hT hll.out (by rw[hn0];exact hbz) hb splitB hP (ex:=S.exB gs) (k:=kw) oM (fun i c _ hc=>Sky.exB_sound (S:=S) (l:=gs) (t:=t) (s:=l) (n:=kw) (fun x hx=>(hgs x hx).2) i c hc) e;replace hlaw:=Lib.hid hlaw;clear hl0 hn0 hbz hP hT;have hw8g:=HR.lt;have cS:=SB.cell;have cG:=G.cell;replace hgl:=Lib.hid hgl;replace hkl:=Lib.hid hkl;go_wp2_with fail
 clear cS cG;refine(cu _ hSA.free rdg.free rds.free).mono ?_;rintro e w10 hU;clear cu rds HR SB;cases u9 with
 | none=>
  obtain⟨k,hU⟩:=hU;have hU':e=.returned (.tuple #[.slice none 0 0,(14:Int)]):=hU;subst hU';go_wp2_with fail
  refine mK (awake_any _) fun w5 k2=>?_;go_wp2
  go_ret
  exact⟨rfl,((K.tN k).thenN k2 (Nat.le_refl _)).narrow hg0⟩
 | some now=>
 obtain⟨k,A10,c10,he,rdn⟩:=hU;subst he;obtain⟨hin0,hokn,hlen,hfin⟩:=hlaw.out now hu9.out.symm;have hln8:now.length≤8:=by omega
 obtain⟨zk,hzk⟩:∃ zk,zk=l[kw]'hkl.out:=⟨_,rfl⟩;have hnk:nth l kw=zk:=by subst hzk;simp[nth,List.getD_eq_getElem?_getD,hkl.out]
 have hin:Hid ((now.any fun b=>holdsB b zk)=true):=Lib.hid (by
  obtain⟨c,hc,hcz⟩:=hin0;exact List.any_eq_true.2 ⟨c,hc,holdsB_iff.2 (hnk ▸ hcz)⟩)
 replace M:=M.kpN k;replace G:=G.kpN k;replace rdl:=rdl.kpN k;replace K:=K.tN k;have hA:=hSA.1.kpN k;clear k hSA rdg hin0 hnk hlaw hu9;obtain⟨bl,ol,hL,hlt,hbg,hcc⟩:=rdl.at_ (by have:=hll.out;omega)
 have hez:∀ j v,(encSt zk)[j]?=some v→w10.cell? ⟨bl,ol+kw * 4+j,none⟩=some v:=fun j v hv=>by
  have:=hcc kw hkl.out j v (by rw[← hzk];exact hv);rwa [← Nat.add_assoc] at this
 have e0:=hez 0 _ rfl;have e1:=hez 1 _ rfl;have e2:=hez 2 _ rfl;have e3:=hez 3 _ rfl;rw[Nat.add_zero] at e0;have hki:(kw:Int)<(l.length:Int):=by have:=hkl.out;omega
 have hk0:¬ (kw:Int)<0:=by omega
 replace hok:=Lib.hid hok;replace hL:=Lib.hid hL;replace hokn:=Lib.hid hokn;replace hfin:=Lib.hid hfin;replace hgs:=Lib.hid hgs;clear hez hcc hzk;rw[hL.out];go_wp2_with fail
 refine mK (orbit_In_any A10 c10 now zk _ rdn oM) fun w11 k=>?_;rw[hin.out];replace M:=M.kpN k;replace G:=G.kpN k;replace rdl:=rdl.kpN k;replace rdn:=rdn.kpN k;replace hA:=hA.kpN k;replace K:=K.tN k;clear k e0 e1 e2 e3 hlt hbg hin;obtain⟨tk,htk⟩:∃ tk,tk=t+(kw:Int):=⟨_,rfl⟩;obtain⟨nk,hnk⟩:∃ nk,nk=n-kw:=⟨_,rfl⟩;have wt:wrap64 (t+(kw:Int))=tk:=by unfold wrap64;omega
 have wn:wrap64 ((n:Int)-(kw:Int))=(nk:Int):=by unfold wrap64;omega
 have hfin2:=hfin.out;rw[← htk,← hnk] at hfin2;have cx:=fun w h1 h2=>meet_Excluded_any A c S.W d tk A10 c10 now nk w hS.W h1 hd oM oM h2 oM hokn.out;obtain⟨x9,hx9⟩:∃ x9,Hid (x9=now.all fun b=>exclW S.W d nk tk b (splitB b)):=⟨_,Lib.hid rfl⟩;rw[← hx9.out] at cx;have ch:=fun B m w h1 h2=>meet_Hit_any A c S.W tk B m (l.drop kw) w hS.W h1 oM h2 (by rw[List.length_drop];omega) (fun s hs=>hok.out s (List.mem_of_mem_drop hs));have hend:x9=true→¬ HitsW S.W tk (l.drop kw):=fun e=>hfin2 (fun c hc=>by rw[hx9.out] at e;exact List.all_eq_true.1 e c hc) (fun c x y hc e=>splitB_halves (hokn.out c hc) e);clear hfin hfin2 hx9 hokn;replace hend:=Lib.hid hend;replace htk:=Lib.hid htk;replace hnk:=Lib.hid hnk;replace ch:=Lib.hid ch;replace hlen:=Lib.hid hlen;clear hd hb hgs hS cw hzr_w7 hk4 hk5 hk' hs8 h1g hXl hsb hmg hmw hgz HRz hg6 hw8g hsbl hll;replace cx:=Lib.hid cx;replace hkn:=Lib.hid hkn;replace hki:=Lib.hid hki;replace ht:=Lib.hid ht;replace hl10:=Lib.hid hl10;replace hln8:=Lib.hid hln8;clear hk0 hn1 hn8;go_upto_region 14 with(fail)
 have cM:=M.cell;have cG:=G.cell;replace K:=Lib.hid K;replace hA:=Lib.hid hA;replace rdn:=Lib.hid rdn;replace rdl:=Lib.hid rdl;replace M:=Lib.hid M;replace G:=Lib.hid G;go_wp2_with fail
 clear cM cG;refine mK (cx.out _ hA.out.free rdn.out) fun w12 k=>?_;replace M:=M.out.kpN k;replace rdl:=rdl.out.kpN k;replace hA:=hA.out.kpN k;have KO:=Lib.hid (K.out.thenN k (Nat.le_refl _));rw[hL.out] at rdl;have rdk:=rd_drop rdl.free hkl.out;replace ch:=ch.out;simp only[List.length_drop] at ch rdk;clear k K G rdn cx rdl wn;have K:=Kp.refl w12.heap.size none w12;go_upto_region 15 with(fail)
 obtain⟨S,hS0,hS1⟩:=cls_of2 (P:=fun w'=>Blk w' _ _ _∧Kp w12.heap.size none w12 w') w12 ⟨M,K⟩;try dsimp only at hS0
 have cM:=fun (x:Ev (S 0)) i=>((hS0 _).1 x.h).1.cell i;replace M:=M.drew;replace K:=K.drew;replace ch:=Lib.hid ch;replace rdk:=Lib.hid rdk;have hevT:=ev_true;refine wro S [(0,1),(1,0),(2,0),(3,0),(4,0),(5,0),(6,2),(7,2),(8,0)] [] ((hS0 _).2 ⟨M,K⟩) ?_;intro _hev;refine oX ?_;refine oL ?_;intro Kc hKc;generalize w12.drew=wd at *;have hkc:=hkl.out;have hlc:=hcl.out;have hkle:kw≤l.length:=by omega
 have hkcl:kw≤cl:=by omega
 clear cM;replace wt:=Lib.hid wt;replace hS0:=Lib.hid hS0;go_step;refine hKc _ _ (hS0.out _ |>.2 ⟨M,K⟩) ?_;clear hKc Kc hkc hlc hkle hkcl;have rdk2:=rdk.out.kpN K;refine oL ?_;intro Kc hKc;go_step;rw[wt.out];refine(ch.out (some ⟨bl,ol+kw * 4,none⟩) (cl-kw) _ (hA.kpN K).free rdk2).mono ?_;rintro e w13 ⟨⟨v,rfl,hv⟩,k⟩;replace K:=K.tN k;refine hKc _ _ (hS0.out _ |>.2 ⟨M.kpN k,K⟩) ?_;clear hKc Kc k rdk2 rdk ch hA M hS0 hS1;refine oX ?_;refine wpOrd_nil ?_;clear hevT _hev;have hKf:=Lib.hid ((KO.out.thenN K (Nat.le_refl _)).narrow hg0);clear K KO;cases x9 with
 | false=>
  clear hv hend;go_wp2_with fail
  refine mK (awake_any _) fun wd k=>?_;go_wp2
  go_ret
  exact⟨rfl,hKf.out.thenN k (Nat.le_refl _)⟩
 | true=>
  have hno:=hend.out (by trivial)
  have hv1:v=-1:=by
   rcases hv with⟨h1,-⟩|⟨i,h1,h2,h3⟩
   · exact h1
   · exact absurd ⟨i,h2,h3⟩ hno
  subst hv1;clear hv hend hno;go_wp2_with fail
  refine mK (awake_any _) fun wd k=>?_;go_wp2
  go_ret
  exact⟨rfl,hKf.out.thenN k (Nat.le_refl _)⟩
end Go.Proofs.YtdhiappifnflpaaGreat
