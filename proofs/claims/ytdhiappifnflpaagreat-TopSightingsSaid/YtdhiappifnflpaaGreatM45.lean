/- The reference's differences of spans, exactly (a drawn region that allocates freely wants a value known ahead). The reference's pulls, weakly: the pull of one body. -/
import Derived.Test.YtdhiappifnflpaaGreatM44
import Derived.Test.YtdhiappifnflpaaGreatM21
set_option maxRecDepth 100000
set_option maxHeartbeats 4000000
namespace Go.Proofs.YtdhiappifnflpaaGreat
open Go.RowKit
def resS (x y:Int):Sp:=if (btw x (-1152921504606846976) 1152921504606846976&&btw y (-1152921504606846976) 1152921504606846976)=true then ⟨x,y⟩ else ⟨0,0⟩
theorem resS_fit {x y:Int} (h:x≤y):(resS x y).fit:=by
 unfold resS;split
 ·
  rename_i k;rw[Bool.and_eq_true] at k;have h1:=btw_of k.1;have h2:=btw_of k.2;exact⟨h1.1,h,h2.2⟩
 · exact fit0
def lessS (a b:Sp):Sp:=resS (a.lo-b.hi) (a.hi-b.lo)
theorem lessS_fit {a b:Sp} (ha:a.fit) (hb:b.fit):(lessS a b).fit:=resS_fit (by unfold Sp.fit at ha hb;omega)
def ResX (s:Sp) (w:World) (e:Ending) (w':World):Prop:=(∃ v:Int,e=.returned (.tuple #[s,v]))∧Kp w.heap.size none w w'
theorem r1_Check_t (s:Sp) (h:s.fit) (w:World):Calls Tryz.prog 237 #[s] w fun e w'=>e=.returned (.int .i64 0)∧Kp w.heap.size none w w':=by
 have c1:=fun w=>bolideref01_fits_any s.lo w;have c2:=fun w=>bolideref01_fits_any s.hi w;rw[btw_t h.1 (Int.le_trans h.2.1 h.2.2)] at c1;rw[btw_t (Int.le_trans h.1 h.2.1) h.2.2] at c2;have h4:¬ s.hi<s.lo:=by have:=h.2.1;omega
 clear h;obtain⟨w1,hw1,B,K,hz⟩:=box1 w 29 s;go_enter Tryz.func237,Tryz.ntmps237
 go_wp2_with fail
 rw[← hw1];clear hw1;refine mK (c1 _) fun w2 k=>?_;replace B:=B.kpN k;replace K:=K.thenN k oM;have hzk:=k.size;clear k;have cB:=B.cell;have fB:=B.frozen;go_wp2_with fail
 refine mK (c2 _) fun w3 k=>?_;clear cB fB;replace B:=B.kpN k;replace K:=K.thenN k oM;have hzk:=k.size;clear k;have cB:=B.cell;have fB:=B.frozen;go_wp2_with fail
 clear cB fB;go_ret
 exact⟨rfl,K⟩
theorem r1_both_t (a b:Sp) (ha:a.fit) (hb:b.fit) (w:World):Calls Tryz.prog 221 #[a,b] w fun e w'=>e=.returned (.int .i64 0)∧Kp w.heap.size none w w':=by
 obtain⟨w1,hw1,A,B,K,hz⟩:=box2 w 29 a 29 b;go_enter Tryz.func221,Tryz.ntmps221
 go_wp2_with fail
 rw[← hw1];clear hw1;refine mK (r1_Check_t a ha _) fun w2 k=>?_;replace A:=A.kpN k;replace B:=B.kpN k;replace K:=K.thenN k oM;have hzk:=k.size;clear k;have cA:=A.cell;have fA:=A.frozen;have cB:=B.cell;have fB:=B.frozen;go_wp2_with fail
 refine mK (r1_Check_t b hb _) fun w3 k=>?_;clear cA fA cB fB;replace A:=A.kpN k;replace B:=B.kpN k;replace K:=K.thenN k oM;have hzk:=k.size;clear k;go_wp2
 go_ret
 exact⟨rfl,K⟩
theorem r1_result_x (a b:Int) (w:World):Calls Tryz.prog 229 #[a,b] w (ResX (resS a b) w):=by
 obtain⟨s,hs⟩:∃ s,s=resS a b:=⟨_,rfl⟩;rw[← hs];unfold resS at hs;have ca:=fun w=>bolideref01_fits_any a w;have cb:=fun w=>bolideref01_fits_any b w;generalize btw a (-1152921504606846976) 1152921504606846976=x at *;generalize btw b (-1152921504606846976) 1152921504606846976=y at *;cases x
 ·
  simp only[Bool.false_and,Bool.false_eq_true,if_false] at hs;subst hs;clear cb;obtain⟨w1,hw1,R,K,hz⟩:=box1 w 29 #[(0:Int),(0:Int)];go_enter Tryz.func229,Tryz.ntmps229
  go_wp2_with fail
  rw[← hw1];clear hw1;refine mK (ca _) fun w2 k=>?_;replace R:=R.kpN k;replace K:=K.thenN k oM;have hzk:=k.size;clear k;have cR:=R.cell;have fR:=R.frozen;go_wp2_with fail
  clear cR fR;have BR:=(R.set_ 0 (.int .i64 0)).set_ 1 (.int .i64 0);have cR:=BR.cell;exact bodyPost_ret (v:=.tuple #[.agg #[(0:Int),(0:Int)],(14:Int)]) (by simp[results,Tryz.results229,go_sem,cR]) rfl ⟨⟨_,rfl⟩,(K.setNew (by simp<;>omega) _).setNew (by simp<;>omega) _⟩
 ·
  cases y
  ·
   simp only[Bool.and_false,Bool.false_eq_true,if_false] at hs;subst hs;obtain⟨w1,hw1,R,K,hz⟩:=box1 w 29 #[(0:Int),(0:Int)];go_enter Tryz.func229,Tryz.ntmps229
   go_wp2_with fail
   rw[← hw1];clear hw1;refine mK (ca _) fun w2 k=>?_;replace R:=R.kpN k;replace K:=K.thenN k oM;have hzk:=k.size;clear k;have cR:=R.cell;have fR:=R.frozen;go_wp2_with fail
   refine mK (cb _) fun w3 k=>?_;clear cR fR;replace R:=R.kpN k;replace K:=K.thenN k oM;have hzk:=k.size;clear k;have cR:=R.cell;have fR:=R.frozen;go_wp2_with fail
   clear cR fR;have BR:=(R.set_ 0 (.int .i64 0)).set_ 1 (.int .i64 0);have cR:=BR.cell;exact bodyPost_ret (v:=.tuple #[.agg #[(0:Int),(0:Int)],(14:Int)]) (by simp[results,Tryz.results229,go_sem,cR]) rfl ⟨⟨_,rfl⟩,(K.setNew (by simp<;>omega) _).setNew (by simp<;>omega) _⟩
  ·
   simp only[Bool.and_self,if_true] at hs;subst hs;obtain⟨w1,hw1,R,K,hz⟩:=box1 w 29 #[(0:Int),(0:Int)];go_enter Tryz.func229,Tryz.ntmps229
   go_wp2_with fail
   rw[← hw1];clear hw1;refine mK (ca _) fun w2 k=>?_;replace R:=R.kpN k;replace K:=K.thenN k oM;have hzk:=k.size;clear k;have cR:=R.cell;have fR:=R.frozen;go_wp2_with fail
   refine mK (cb _) fun w3 k=>?_;clear cR fR;replace R:=R.kpN k;replace K:=K.thenN k oM;have hzk:=k.size;clear k;have cR:=R.cell;have fR:=R.frozen;go_wp2_with fail
   clear cR fR;have BR:=(R.set_ 0 (.int .i64 a)).set_ 1 (.int .i64 b);have cR:=BR.cell;exact bodyPost_ret (v:=.tuple #[.agg #[a,b],(0:Int)]) (by simp[results,Tryz.results229,go_sem,cR]) rfl ⟨⟨_,rfl⟩,(K.setNew (by simp<;>omega) _).setNew (by simp<;>omega) _⟩
theorem r1_Sub_x (a b:Sp) (ha:a.fit) (hb:b.fit) (w:World):Calls Tryz.prog 240 #[a,b] w (ResX (lessS a b) w):=by
 have c1:=fun w=>r1_both_t a b ha hb w;have cc:=fun w=>r1_result_x (a.lo-b.hi) (a.hi-b.lo) w;unfold Sp.fit at ha hb;have e1:wrap64 (a.lo-b.hi)=a.lo-b.hi:=by unfold wrap64;omega
 have e2:wrap64 (a.hi-b.lo)=a.hi-b.lo:=by unfold wrap64;omega
 clear ha hb;change ∀ w,Calls _ _ _ w (ResX (lessS a b) w) at cc;generalize lessS a b=s at *;obtain⟨w1,hw1,A,B,R,K,hz⟩:=box3 w 29 a 29 b 29 #[(0:Int),(0:Int)];go_enter Tryz.func240,Tryz.ntmps240
 go_wp2_with fail
 rw[← hw1];clear hw1;refine mK (c1 _) fun w2 k=>?_;replace A:=A.kpN k;replace B:=B.kpN k;replace R:=R.kpN k;replace K:=K.thenN k oM;have hzk:=k.size;clear k;have cA:=A.cell;have cB:=B.cell;go_wp2_with fail
 rw[e1,e2];refine(cc _).mono ?_;rintro e w3 ⟨⟨v2,rfl⟩,k⟩;replace R:=R.kpN k;replace K:=K.thenN k oM;have hz3:=k.size;clear k cA cB cc e1 e2;have cR:=R.cell;have fR:=R.frozen;go_wp2_with fail
 clear cR fR;have BR:=(R.set_ 0 (.int .i64 s.lo)).set_ 1 (.int .i64 s.hi);have cR:=BR.cell;exact bodyPost_ret (v:=.tuple #[.agg #[s.lo,s.hi],v2]) (by simp[results,Tryz.results240,go_sem,cR]) rfl ⟨⟨_,rfl⟩,(K.setNew (by simp<;>omega) _).setNew (by simp<;>omega) _⟩
theorem r3_less_x (a b:Sp) (ha:a.fit) (hb:b.fit) (w:World):Calls Tryz.prog 224 #[a,b] w fun e w'=>e=.returned (.agg #[(lessS a b).lo,(lessS a b).hi])∧Kp w.heap.size none w w':=by
 have c1:=fun w=>r1_Sub_x a b ha hb w;generalize lessS a b=s at *;clear ha hb;obtain⟨w1,hw1,A,B,R,K,hz⟩:=box3 w 29 a 29 b 29 #[(0:Int),(0:Int)];go_enter Tryz.func224,Tryz.ntmps224
 go_wp2_with fail
 rw[← hw1];clear hw1;refine(c1 _).mono ?_;rintro e w2 ⟨⟨v,rfl⟩,k⟩;replace A:=A.kpN k;replace B:=B.kpN k;replace R:=R.kpN k;replace K:=K.thenN k oM;have hzk:=k.size;clear k;have O:=Blk.new w2 29 #[s.lo,s.hi];replace R:=R.alloc (.cells #[s.lo,s.hi] 29);replace K:=K.alloc oM (.cells #[s.lo,s.hi] 29);clear A B;go_upto_region 2 with(fail)
 generalize w2.alloc (.cells #[s.lo,s.hi] 29)=w3 at *;have cO:=O.cell;have cR:=R.cell;have fR:=R.frozen;go_wp2_with fail
 clear cR fR;have BR:=((R.set_ 0 (.int .i64 s.lo)).set_ 1 (.int .i64 s.hi));have cR:=BR.cell;exact bodyPost_ret (by simp[results,Tryz.results224,go_sem,cR]) rfl ⟨rfl,((K.setNew (by simp<;>omega) _).setNew (by simp<;>omega) _)⟩
theorem r3_to_x (x y:Int) (a b:Sp) (hx:Fix x) (hy:Fix y) (ha:a.fit) (hb:b.fit) (w:World) :
  Calls Tryz.prog 202 #[.agg #[x,y],.agg #[a.lo,a.hi,b.lo,b.hi]] w fun e w'=>e=.returned (.tuple #[.agg #[(lessS ⟨x,x⟩ a).lo,(lessS ⟨x,x⟩ a).hi],.agg #[(lessS ⟨y,y⟩ b).lo,(lessS ⟨y,y⟩ b).hi]])∧Kp w.heap.size none w w':=by
 have c1:=fun w=>r3_less_x ⟨x,x⟩ a (fit_pt hx) ha w;have c2:=fun w=>r3_less_x ⟨y,y⟩ b (fit_pt hy) hb w;dsimp only at c1 c2;generalize lessS ⟨x,x⟩ a=s at *;generalize lessS ⟨y,y⟩ b=u at *;clear hx hy ha hb;obtain⟨w1,hw1,P,A,R,U,K,hz⟩:=box4 w 73 #[x,y] 167 #[a.lo,a.hi,b.lo,b.hi] 29 #[(0:Int),(0:Int)] 29 #[(0:Int),(0:Int)];go_enter Tryz.func202,Tryz.ntmps202
 go_wp2_with fail
 rw[← hw1];clear hw1;obtain⟨S,hS0,hS1⟩:=cls_of2 (P:=fun w'=>Blk w' _ _ _∧Blk w' _ _ _∧Kp _ _ _ w') w1 ⟨P,A,K⟩;try dsimp only at hS0
 have cP:=fun (x:Ev (S 0)) i=>((hS0 _).1 x.h).1.cell i;have cA:=fun (x:Ev (S 0)) i=>((hS0 _).1 x.h).2.1.cell i;replace P:=P.drew;replace A:=A.drew;replace K:=K.drew;replace U:=U.drew;replace R:=R.drew;have hevT:=ev_true;refine wro S [(0,0),(1,1),(2,0),(3,1),(4,0),(5,0),(6,1),(8,0),(9,1),(10,0),(11,1),(12,0),(13,0),(14,1),(7,2),(15,2),(16,2),(17,3)] [17] ((hS0 _).2 ⟨P,A,K⟩) ?_;intro _hev;refine oX ?_;refine oL ?_;intro Kc hKc;generalize w1.drew=wd9 at *;go_step;refine mK (c1 _) fun w2 k=>?_;replace P:=P.kpN k;replace A:=A.kpN k;replace U:=U.kpN k;replace R:=R.kpN k;replace K:=K.tN k;clear k;refine hKc _ _ ((hS0 _).2 ⟨P,A,K⟩) ?_;clear hKc Kc;refine oL ?_;intro Kc hKc;go_step;refine mK (c2 _) fun w3 k=>?_;replace P:=P.kpN k;replace A:=A.kpN k;replace U:=U.kpN k;replace R:=R.kpN k;replace K:=K.tN k;clear k;refine hKc _ _ ((hS0 _).2 ⟨P,A,K⟩) ?_;clear hKc Kc;refine oL ?_;intro Kc hKc;have cS9:=R.cell;have fS9:=R.frozen;go_step;obtain⟨w4,hwn,RB9,kst,hzst⟩:=R.st2 (.int .i64 s.lo) (.int .i64 s.hi);rw[← hwn];clear hwn cS9 fS9;replace P:=P.kq kst;replace A:=A.kq kst;replace U:=U.kq kst;replace K:=K.thenOwn kst (Nat.le_refl _) oM;replace R:=RB9;clear RB9 kst hzst;simp only[sbt,sc0,scs] at R;refine hKc _ _ ((hS0 _).2 ⟨P,A,K⟩) ?_;clear hKc Kc;refine oA ?_;intro Kc hKc;have cR:=U.cell;have fR:=U.frozen;go_step;obtain⟨w6,hwn,RB9,kst,hzst⟩:=U.st2 (.int .i64 u.lo) (.int .i64 u.hi);rw[← hwn];clear hwn cR fR;refine hKc _ _ ((hS1 _).2 trivial) ?_;clear hKc Kc;replace P:=P.kq kst;replace A:=A.kq kst;replace R:=R.kq kst;first|replace K:=K.thenOwn kst (Nat.le_refl _) oM|replace K:=K.then_ kst (Nat.le_refl _)
 replace U:=RB9;clear RB9 kst;simp only[sbt,sc0,scs] at U;change wpOrd _ _ _ _ _ 1 _ _;refine wpOrd_nil ?_;clear hevT _hev;clear cP cA hS0 hS1 S;go_wp2_with fail
 have cR:=R.cell;have cU:=U.cell;exact bodyPost_ret (v:=.tuple #[.agg #[s.lo,s.hi],.agg #[u.lo,u.hi]]) (by simp[results,Tryz.results202,go_sem,cR,cU]) rfl ⟨rfl,K⟩
def ArP (w:World) (e:Ending) (w':World):Prop:=(∃ a b:Sp,e=.returned (.agg #[a.lo,a.hi,b.lo,b.hi])∧a.fit∧b.fit)∧Kp w.heap.size none w w'
theorem r3_one (A:Option Addr) (c:Nat) (W:Wd) (i:Nat) (t:Int) (a b:Sp) (w:World) (hW:W.ok) (hA:WdAt none w A W) (hi:i<W.bs.length) (ht:0≤t∧t≤1073741824) (ha:a.fit) (hb:b.fit) :
  Calls Tryz.prog 182 #[.agg #[.slice A W.bs.length c,W.home],i,t,.agg #[a.lo,a.hi,b.lo,b.hi]] w (ArP w):=by
 have ca:=fun w h=>r2_At_any A c W i t w hW h hi ht;have hx:=hW.body _ (List.getElem_mem hi);have hp:=hx.pl _ (Bd.at_mem hx.tr0 t);have h0:(0:Int)≤(i:Int):=by omega
 have h1:(i:Int)<(W.bs.length:Int):=by omega
 have hrad:0≤W.bs[i].rad∧W.bs[i].rad≤1000:=⟨hx.rad0,by have:=hx.rad1;omega⟩;clear hW hx;obtain⟨w1,hw1,Dw,E,R,K,hz⟩:=box3 w 27 #[.slice A W.bs.length c,W.home] 167 #[a.lo,a.hi,b.lo,b.hi] 167 #[(0:Int),(0:Int),(0:Int),(0:Int)];obtain⟨bb,o,B,cc,rfl,hlt,e0,e1,e2,hr⟩:=(hA.kpN K).body i hi;generalize W.bs[i].at t=p at *;generalize W.bs[i]=x at *;have ct:=fun w=>r3_to_x p.x p.y a b (by unfold Fix;omega) (by unfold Fix;omega) ha hb w;have fs:=lessS_fit (fit_pt (n:=p.x) (by unfold Fix;omega)) ha;have fu:=lessS_fit (fit_pt (n:=p.y) (by unfold Fix;omega)) hb;clear hp hr;generalize lessS ⟨p.x,p.x⟩ a=s at *;generalize lessS ⟨p.y,p.y⟩ b=u at *;clear ha hb;go_enter Tryz.func182,Tryz.ntmps182
 go_upto_region 1 with(fail)
 rw[← hw1];clear hw1;have cDw:=Dw.cell;go_upto_region 2 with(fail)
 clear cDw e0 e1 e2;have X:=Blk.new w1 77 #[x.mu,x.rad,.slice B x.tr.length cc];have pE:=E.lt;replace Dw:=Dw.alloc (.cells #[x.mu,x.rad,.slice B x.tr.length cc] 77);replace E:=E.alloc (.cells #[x.mu,x.rad,.slice B x.tr.length cc] 77);replace R:=R.alloc (.cells #[x.mu,x.rad,.slice B x.tr.length cc] 77);replace K:=K.alloc oM (.cells #[x.mu,x.rad,.slice B x.tr.length cc] 77);have hz2:(w1.alloc (.cells #[x.mu,x.rad,.slice B x.tr.length cc] 77)).heap.size=w.heap.size+4:=by simp[hz]
 rw[hz] at X;generalize w1.alloc (.cells #[x.mu,x.rad,.slice B x.tr.length cc] 77)=w2 at *;clear hz pE;have hA2:=hA.kpN K;clear hA;refine wp_region_inv (Γ:=GF) [none,none,none,none,none,none,none,none,none,none,some 9,some 10,none,none,none,none,none,none,none,some 6,some 0,some 1,some 2,some 3,some 4,some 5,some 7,some 8] [[],[],[],[0,1,2],[],[0,1,2,3,4],[0,1,2,3,4,5],[0,1,2,3,4,5,6],[0,1,2,3,4,5,6],[],[],[0,1,2,3,4,5,6,7,9,10],[0,1,2,3,4,5,6,7,8,9,10,11]] [[1,2,4,9,10],[0,2,4,9,10],[0,1,4,9,10],[0,1,2,4,9,10],[0,1,2,3,9,10],[0,1,2,3,4,9,10],[0,1,2,3,4,5,9,10],[0,1,2,3,4,5,6,8,9,10],[0,1,2,3,4,5,6,7,9,10,11],[0,1,2,3,4,5,6,7,8,10],[0,1,2,3,4,5,6,7,8,9],[0,1,2,3,4,5,6,7,8,9,10],[0,1,2,3,4,5,6,7,8,9,10,11]] (fun γ=>[.agg #[.slice (some ⟨bb,o,none⟩) W.bs.length c,W.home],.int .i64 i,.int .i64 t,.agg #[p.x,p.y],.agg #[a.lo,a.hi,b.lo,b.hi],.tuple #[.agg #[s.lo,s.hi],.agg #[u.lo,u.hi]],.tuple #[.agg #[s.lo,s.hi],.agg #[u.lo,u.hi]],.agg #[s.lo,s.hi],.agg #[u.lo,u.hi],.pointer (some ⟨γ.n1,0,none⟩),.pointer (some ⟨γ.n2,0,none⟩),undef,undef]) (fun γ=>[none,none,none,none,none,none,none,none,none,none,some (.pointer (some ⟨γ.n1,0,none⟩)),some (.pointer (some ⟨γ.n2,0,none⟩)),none,none,none,none,none,none,none,some (.tuple #[.agg #[s.lo,s.hi],.agg #[u.lo,u.hi]]),some (.agg #[.slice (some ⟨bb,o,none⟩) W.bs.length c,W.home]),some (.int .i64 i),some (.int .i64 t),some (.agg #[p.x,p.y]),some (.agg #[a.lo,a.hi,b.lo,b.hi]),some (.tuple #[.agg #[s.lo,s.hi],.agg #[u.lo,u.hi]]),some (.agg #[s.lo,s.hi]),some (.agg #[u.lo,u.hi])]) ?A2_1 (fun n D γ w=>Kp w2.heap.size none w2 w∧FreeB 29 γ.n1 γ.c1 w2.heap.size (#[(if γ.s1=true then .int .i64 s.lo else .int .i64 0),(if γ.s1=true then .int .i64 s.hi else .int .i64 0)]) w∧FreeB 29 γ.n2 γ.c2 w2.heap.size (#[(if γ.s2=true then .int .i64 u.lo else .int .i64 0),(if γ.s2=true then .int .i64 u.hi else .int .i64 0)]) w∧(γ.c1=true→γ.c2=true→γ.n1≠γ.n2)) (fun k γ w=>match k with|9=>γ.c1=true|10=>γ.c2=true|11=>γ.s1=true|12=>γ.s2=true|_=>True) ⟨0,0,false,false,false,false⟩ (by kernel_rfl) (fun _=>rfl) ?hA2_1 (by kernel_rfl) ?hB02_1 ?hop2_1 ?hend2_1
 case hA2_1=>intro γ;dsimp only[fullV];rfl
 case hB02_1=>
  exact⟨(Kp.refl _ none _).drew,fun e=>(by cases e),fun e=>(by cases e),fun e _=>(by cases e)⟩
 case hop2_1=>
  intro hA;refine⟨?_,oKv hA,oKv hA,?_,?_,?_,oKv hA,oKv hA,oKv hA,?_,?_,?_,?_,trivial⟩
  ·
   refine oKv hA (h:=?_);intro n D γ w hB hU K hK;try dsimp only at hB
   try dsimp only
   have cDw:=fun i=>(Dw.kpN hB.1).cell i;have cE:=fun i=>(E.kpN hB.1).cell i;have cR:=fun i=>(R.kpN hB.1).cell i;have cX:=fun i=>(X.kpN hB.1).cell i;clear hB hU;go_step;exact hK _ rfl
  ·
   refine opOk_l hA (fun _=>rfl) ?_;intro n D γ w hn hD hB hU K hK;try dsimp only at hB
   clear hU;replace hn:n<13:=hn;try dsimp only
   have K9:=hB.1;go_step;refine mK (ca _ (hA2.kpN K9)) fun w5 k5=>?_;refine hK _ _ γ rfl ⟨hB.1.thenN k5 (Nat.le_refl _),(hB.2.1).kpN k5,(hB.2.2.1).kpN k5,hB.2.2.2⟩ trivial ?_;exact dA
  ·
   refine oKv hA (h:=?_);intro n D γ w hB hU K hK;try dsimp only at hB
   try dsimp only
   have cDw:=fun i=>(Dw.kpN hB.1).cell i;have cE:=fun i=>(E.kpN hB.1).cell i;have cR:=fun i=>(R.kpN hB.1).cell i;have cX:=fun i=>(X.kpN hB.1).cell i;clear hB hU;go_step;exact hK _ rfl
  ·
   refine opOk_l hA (fun _=>rfl) ?_;intro n D γ w hn hD hB hU K hK;try dsimp only at hB
   clear hU;replace hn:n<13:=hn;try dsimp only
   have K9:=hB.1;go_step;refine mK (ct _) fun w5 k5=>?_;refine hK _ _ γ rfl ⟨hB.1.thenN k5 (Nat.le_refl _),(hB.2.1).kpN k5,(hB.2.2.1).kpN k5,hB.2.2.2⟩ trivial ?_;exact dA
  ·
   refine opOk_l hA (fun _=>rfl) ?_;intro n D γ w hn hD hB hU K hK;try dsimp only at hB
   clear hU;replace hn:n<13:=hn;try dsimp only
   go_step;obtain⟨w5,hw5⟩:∃ w5,w5=w.alloc (.cells #[(0:Int),(0:Int)] 29):=⟨_,rfl⟩;have k5:Kp w.heap.size none w w5:=hw5 ▸ Kp.new1 _ _;have hBn:Blk w5 w.heap.size 29 #[(0:Int),(0:Int)]:=hw5 ▸ Blk.new _ _ _;rw[← hw5];refine hK _ _ { γ with n1:=w.heap.size,c1:=true,s1:=false } rfl ⟨hB.1.thenN k5 (Nat.le_refl _),fun _=>⟨hBn,hB.1.size⟩,(hB.2.2.1).kpN k5,fun _ hc9=>(by have:=(hB.2.2.1 hc9).1.lt;show w.heap.size≠γ.n2;omega)⟩ rfl ?_;exact dA
  ·
   refine opOk_l hA (fun _=>rfl) ?_;intro n D γ w hn hD hB hU K hK;try dsimp only at hB
   clear hU;replace hn:n<13:=hn;try dsimp only
   go_step;obtain⟨w5,hw5⟩:∃ w5,w5=w.alloc (.cells #[(0:Int),(0:Int)] 29):=⟨_,rfl⟩;have k5:Kp w.heap.size none w w5:=hw5 ▸ Kp.new1 _ _;have hBn:Blk w5 w.heap.size 29 #[(0:Int),(0:Int)]:=hw5 ▸ Blk.new _ _ _;rw[← hw5];refine hK _ _ { γ with n2:=w.heap.size,c2:=true,s2:=false } rfl ⟨hB.1.thenN k5 (Nat.le_refl _),(hB.2.1).kpN k5,fun _=>⟨hBn,hB.1.size⟩,fun hc9 _=>(by have:=(hB.2.1 hc9).1.lt;show γ.n1≠w.heap.size;omega)⟩ rfl ?_;exact dA
  ·
   refine opOk_l hA (fun _=>rfl) ?_;intro n D γ w hn hD hB hU K hK;try dsimp only at hB
   replace hU:(γ.c1=true)∧(γ.c2=true):=⟨hU.2.2.2.2.2.2.2.2.1,hU.2.2.2.2.2.2.2.2.2.1⟩;replace hn:n<13:=hn;try dsimp only
   obtain⟨O9,g9⟩:=hB.2.1 hU.1;have cO:=O9.cell;have fO:=O9.frozen;go_step;obtain⟨w5,hw5,R9,kst,hzst⟩:=O9.st2 (.int .i64 s.lo) (.int .i64 s.hi);rw[← hw5];simp only[sbt,sc0,scs] at R9;refine hK _ _ { γ with s1:=true } rfl ⟨hB.1.thenOwn kst (Nat.le_refl _) g9,fun _=>⟨R9,g9⟩,(fun hc9=>⟨((hB.2.2.1 hc9).1).kp kst ((hB.2.2.1 hc9).1).lt (sne ((hB.2.2.2 hU.1 hc9).symm)),(hB.2.2.1 hc9).2⟩),hB.2.2.2⟩ rfl ?_;exact dA
  ·
   refine opOk_l hA (fun _=>rfl) ?_;intro n D γ w hn hD hB hU K hK;try dsimp only at hB
   replace hU:(γ.c1=true)∧(γ.c2=true)∧(γ.s1=true):=⟨hU.2.2.2.2.2.2.2.2.2.1,hU.2.2.2.2.2.2.2.2.2.2.1,hU.2.2.2.2.2.2.2.2.2.2.2.1⟩;replace hn:n<13:=hn;try dsimp only
   obtain⟨O9,g9⟩:=hB.2.2.1 hU.2.1;have cO:=O9.cell;have fO:=O9.frozen;go_step;obtain⟨w5,hw5,R9,kst,hzst⟩:=O9.st2 (.int .i64 u.lo) (.int .i64 u.hi);rw[← hw5];simp only[sbt,sc0,scs] at R9;refine hK _ _ { γ with s2:=true } rfl ⟨hB.1.thenOwn kst (Nat.le_refl _) g9,(fun hc9=>⟨((hB.2.1 hc9).1).kp kst ((hB.2.1 hc9).1).lt (sne (hB.2.2.2 hc9 hU.2.1)),(hB.2.1 hc9).2⟩),fun _=>⟨R9,g9⟩,hB.2.2.2⟩ rfl ?_;exact dA
 case hend2_1=>
  intro n D γ w hn hD hB hF;replace hF:=fun k (hk:k<13)=>hF k hk;replace hF:=(⟨hF 9 (by decide),hF 10 (by decide),hF 11 (by decide),hF 12 (by decide)⟩:_∧_∧_∧_);try dsimp only at hB
  try dsimp only at hF
  replace hn:n≤13:=hn;try dsimp only
  obtain⟨np,nq,c1_9,c2_9,s1_9,s2_9⟩:=γ;dsimp only at hB hF ⊢;obtain⟨rfl,rfl,rfl,rfl⟩:=hF;obtain⟨K9,f1_9,f2_9,ne9⟩:=hB;obtain⟨P,gP⟩:=f1_9 rfl;simp only[reduceIte] at P;obtain⟨Q,gQ⟩:=f2_9 rfl;simp only[reduceIte] at Q;have ne:=ne9 rfl rfl;clear ne9;clear f1_9 f2_9;clear hD hn;have gDw:=Dw.lt;have gE:=E.lt;have gR:=R.lt;have gX:=X.lt;replace Dw:=Dw.kpN K9;replace E:=E.kpN K9;replace R:=R.kpN K9;replace X:=X.kpN K9;replace K:=K.trans (K9.mono K.size);clear K9;rename World=>w3;have hzk:=K.size;have q1:w.heap.size+4≤np:=by omega
  have q2:w.heap.size+4≤nq:=by omega
  have z3:w.heap.size+4≤w3.heap.size:=by have:=X.lt;omega
  have cX:=X.cell;have cP:=P.cell;have cQ:=Q.cell;go_wp2_with fail
  refine(r3_distances x.mu x.rad (.slice B x.tr.length cc) s u hrad fs fu _).mono ?_;rintro e w4 ⟨⟨d1,d2,rfl,f1,f2⟩,k⟩;clear cX cP cQ ca ct hA2 Dw E;replace X:=X.kpN k;replace P:=P.kpN k;replace Q:=Q.kpN k;replace R:=R.kpN k;replace K:=K.tN k;have z4:=k.size;clear k;have pR:=R.cell;have pX:=X.cell;have pP:=P.cell;have pQ:=Q.cell;obtain⟨w9_,rfl,M,N,k9_,hzn⟩:=box2 w4 29 #[d1.lo,d1.hi] 29 #[d2.lo,d2.hi];replace R:=R.kpN k9_;replace X:=X.kpN k9_;replace P:=P.kpN k9_;replace Q:=Q.kpN k9_;replace K:=K.thenN k9_ oU;clear k9_;have cR:=R.cell;have fR:=R.frozen;have cX:=X.cell;have fX:=X.frozen;have cP:=P.cell;have fP:=P.frozen;have cQ:=Q.cell;have fQ:=Q.frozen;go_wp2_with fail
  clear cR fR pR cX fX pX cP fP pP cQ fQ pQ;generalize ((w4.alloc (.cells #[d1.lo,d1.hi] 29)).alloc (.cells #[d2.lo,d2.hi] 29))=w5 at *;obtain⟨y,hx⟩:∃ q9,q9=w4.heap.size:=⟨_,rfl⟩;rw[← hx] at M N ⊢;replace hx:=Lib.hid hx;have hyw:w.heap.size+4≤y:=by have:=hx.out;omega
  clear hx hzn z3 z4 hzk gX gP gQ gE gDw gR;obtain⟨S,hS0,hS1⟩:=cls_of2 (P:=fun w'=>Blk w' _ _ _∧Blk w' _ _ _∧Blk w' _ _ _∧Blk w' _ _ _∧Blk w' _ _ _∧Kp _ _ _ w') w5 ⟨X,P,Q,M,N,K⟩;try dsimp only at hS0
  have cX:=fun (x:Ev (S 0)) i=>((hS0 _).1 x.h).1.cell i;have cP:=fun (x:Ev (S 0)) i=>((hS0 _).1 x.h).2.1.cell i;have cQ:=fun (x:Ev (S 0)) i=>((hS0 _).1 x.h).2.2.1.cell i;have cM:=fun (x:Ev (S 0)) i=>((hS0 _).1 x.h).2.2.2.1.cell i;have cN:=fun (x:Ev (S 0)) i=>((hS0 _).1 x.h).2.2.2.2.1.cell i;replace X:=X.drew;replace P:=P.drew;replace Q:=Q.drew;replace M:=M.drew;replace N:=N.drew;replace K:=K.drew;replace R:=R.drew;have hevT:=ev_true;refine wro S [(0,0),(1,1),(2,1),(3,1),(5,1),(8,0),(9,1),(10,1),(11,1),(13,1),(4,2),(6,2),(7,2),(12,2),(14,2),(15,2),(16,0),(17,3)] [17] ((hS0 _).2 ⟨X,P,Q,M,N,K⟩) ?_;intro _hev;refine oX ?_;refine oL ?_;intro Kc hKc;generalize w5.drew=wd9 at *;go_step;refine(r3_scaled x.mu s d1 _).mono ?_;rintro e w6 ⟨⟨g1,rfl,hg1⟩,k⟩;replace X:=X.kpN k;replace P:=P.kpN k;replace Q:=Q.kpN k;replace M:=M.kpN k;replace N:=N.kpN k;replace R:=R.kpN k;replace K:=K.tN k;clear k;refine hKc _ _ ((hS0 _).2 ⟨X,P,Q,M,N,K⟩) ?_;clear hKc Kc;refine oL ?_;intro Kc hKc;go_step;refine(r3_quotient g1 d2 hg1 f2 _).mono ?_;rintro e w7 ⟨⟨g2,rfl,hg2⟩,k⟩;replace X:=X.kpN k;replace P:=P.kpN k;replace Q:=Q.kpN k;replace M:=M.kpN k;replace N:=N.kpN k;replace R:=R.kpN k;replace K:=K.tN k;clear k;refine hKc _ _ ((hS0 _).2 ⟨X,P,Q,M,N,K⟩) ?_;clear hKc Kc;refine oL ?_;intro Kc hKc;go_step;refine(r3_bounded g2 hg2 _).mono ?_;rintro e w8 ⟨⟨g3,rfl,hg3⟩,k⟩;replace X:=X.kpN k;replace P:=P.kpN k;replace Q:=Q.kpN k;replace M:=M.kpN k;replace N:=N.kpN k;replace R:=R.kpN k;replace K:=K.tN k;clear k;refine hKc _ _ ((hS0 _).2 ⟨X,P,Q,M,N,K⟩) ?_;clear hKc Kc;refine oL ?_;intro Kc hKc;go_step;refine(r3_scaled x.mu u d1 _).mono ?_;rintro e w9 ⟨⟨k1,rfl,hk1⟩,k⟩;replace X:=X.kpN k;replace P:=P.kpN k;replace Q:=Q.kpN k;replace M:=M.kpN k;replace N:=N.kpN k;replace R:=R.kpN k;replace K:=K.tN k;clear k;refine hKc _ _ ((hS0 _).2 ⟨X,P,Q,M,N,K⟩) ?_;clear hKc Kc;refine oL ?_;intro Kc hKc;go_step;refine(r3_quotient k1 d2 hk1 f2 _).mono ?_;rintro e w10 ⟨⟨k2,rfl,hk2⟩,k⟩;replace X:=X.kpN k;replace P:=P.kpN k;replace Q:=Q.kpN k;replace M:=M.kpN k;replace N:=N.kpN k;replace R:=R.kpN k;replace K:=K.tN k;clear k;refine hKc _ _ ((hS0 _).2 ⟨X,P,Q,M,N,K⟩) ?_;clear hKc Kc;refine oL ?_;intro Kc hKc;go_step;refine(r3_bounded k2 hk2 _).mono ?_;rintro e w11 ⟨⟨k3,rfl,hk3⟩,k⟩;replace X:=X.kpN k;replace P:=P.kpN k;replace Q:=Q.kpN k;replace M:=M.kpN k;replace N:=N.kpN k;replace R:=R.kpN k;replace K:=K.tN k;clear k;refine hKc _ _ ((hS0 _).2 ⟨X,P,Q,M,N,K⟩) ?_;clear hKc Kc;refine oX ?_;refine oA ?_;intro Kc hKc;have cR:=R.cell;have fR:=R.frozen;go_step;obtain⟨w12,hwn,RB9,kst,hzst⟩:=R.st4 (.int .i64 g3.lo) (.int .i64 g3.hi) (.int .i64 k3.lo) (.int .i64 k3.hi);rw[← hwn];clear hwn cR fR;refine hKc _ _ ((hS1 _).2 trivial) ?_;clear hKc Kc;replace X:=X.kq kst;replace P:=P.kq kst;replace Q:=Q.kq kst;replace M:=M.kq kst;replace N:=N.kq kst;first|replace K:=K.thenOwn kst (Nat.le_refl _) oM|replace K:=K.then_ kst (Nat.le_refl _)
  replace R:=RB9;clear RB9 kst;simp only[sbt,sc0,scs] at R;change wpOrd _ _ _ _ _ 1 _ _;refine wpOrd_nil ?_;clear hevT _hev;clear cX cP cQ cM cN hS0 hS1 S;go_wp2_with fail
  have cR:=R.cell;exact bodyPost_ret (v:=.agg #[g3.lo,g3.hi,k3.lo,k3.hi]) (by simp[results,Tryz.results182,go_sem,cR]) rfl ⟨⟨g3,k3,rfl,hg3,hk3⟩,K⟩
end Go.Proofs.YtdhiappifnflpaaGreat
