/- Orbits: the walks of orbit, first part: Pull, states, successors. Orbits: the walks of orbit, second part: Truth. -/
import Derived.Test.YtdhiappifnflpaaGreatM16
namespace Go.Proofs.YtdhiappifnflpaaGreat
open Go.RowKit
def NearS (s:St):Prop:=-33554432≤s.x∧s.x≤33554432∧-33554432≤s.y∧s.y≤33554432∧-1048576≤s.u∧s.u≤1048576∧-1048576≤s.v∧s.v≤1048576
theorem okSt_near {s:St} (h:okSt s=true):NearS s:=by unfold okSt at h;unfold NearS;exact of_decide_eq_true h
set_option maxHeartbeats 1000000 in
theorem force_Pull_any (A:Option Addr) (c:Nat) (W:Wd) (d:Dr) (t:Int) (s:St) (w:World) (hW:W.ok) (hA:WdAt none w A W) (hd:d.ok) (ht:0≤t∧t≤1073741824) (hs:NearS s) :
  Calls Tryz.prog 111 #[.agg #[.slice A W.bs.length c,.int .i64 W.home],.agg #[.int .i64 d.light.lo,.int .i64 d.light.hi,.int .i64 d.heat.lo,.int .i64 d.heat.hi,.int .i64 d.gas],.int .i64 t,.agg #[.int .i64 s.x,.int .i64 s.y]] w fun e w'=>e=.returned (.tuple #[.agg #[.int .i64 (overA mp d (aloneA s) (W.hvs t)).x.lo,.int .i64 (overA mp d (aloneA s) (W.hvs t)).x.hi,.int .i64 (overA mp d (aloneA s) (W.hvs t)).y.lo,.int .i64 (overA mp d (aloneA s) (W.hvs t)).y.hi],.int .i64 0])∧Kp w.heap.size none w w':=by
 have c1:=fun w=>force_alone_any ⟨s.x,s.y⟩ w;have c2:=fun w h=>force_Over_any A c W d t (aloneA s) w hW h hd ht (by obtain⟨h1,h2,h3,h4,-⟩:=hs;unfold Ar.bd Sp.bd aloneA oneS;simp only;omega);generalize overA mp d (aloneA s) (W.hvs t)=u at *;simp only[aloneA,oneS] at c1 c2;obtain⟨w1,hw1,D,F,P,R,K,hz⟩:=box4 w 27 #[.slice A W.bs.length c,.int .i64 W.home] 31 #[.int .i64 d.light.lo,.int .i64 d.light.hi,.int .i64 d.heat.lo,.int .i64 d.heat.hi,.int .i64 d.gas] 73 #[.int .i64 s.x,.int .i64 s.y] 167 #[.int .i64 0,.int .i64 0,.int .i64 0,.int .i64 0];go_enter Tryz.func111,Tryz.ntmps111
 go_wp2_with fail
 rw[← hw1];clear hw1;obtain⟨S,hS0,hS1⟩:=cls_of2 (P:=fun w'=>Blk w' _ _ _∧Blk w' _ _ _∧Blk w' _ _ _∧Kp _ _ _ w') w1 ⟨D,F,P,K⟩;try dsimp only at hS0
 have cD:=fun (x:Ev (S 0)) i=>((hS0 _).1 x.h).1.cell i;have cF:=fun (x:Ev (S 0)) i=>((hS0 _).1 x.h).2.1.cell i;have cP:=fun (x:Ev (S 0)) i=>((hS0 _).1 x.h).2.2.1.cell i;replace D:=D.drew;replace F:=F.drew;replace P:=P.drew;replace K:=K.drew;replace R:=R.drew;have hevT:=ev_true;refine wp_region_ord S [(0,1),(1,1),(2,0),(3,1),(4,2),(5,2),(6,0),(7,0),(8,3),(9,0)] [8] (by kernel_rfl) (by kernel_rfl) ((hS0 _).2 ⟨D,F,P,K⟩) ?_;intro _hev;iterate 4 (first|((first|refine oV ?_|refine oQ ?_);intro K hK;go_big_quiet_op;go_big_quiet_on)|refine oS ?_)
 refine oL ?_;intro Kc hKc;generalize w1.drew=wd9 at *;go_step;refine(c1 _).mono ?_;rintro e w2 ⟨rfl,k⟩;replace D:=D.kpN k;replace F:=F.kpN k;replace P:=P.kpN k;replace R:=R.kpN k;replace K:=K.tN k;clear k;refine hKc _ _ ((hS0 _).2 ⟨D,F,P,K⟩) ?_;clear hKc Kc;refine oL ?_;intro Kc hKc;go_step;refine(c2 _ (hA.kpN K)).mono ?_;rintro e w3 ⟨rfl,k⟩;replace D:=D.kpN k;replace F:=F.kpN k;replace P:=P.kpN k;replace R:=R.kpN k;replace K:=K.tN k;clear k;refine hKc _ _ ((hS0 _).2 ⟨D,F,P,K⟩) ?_;clear hKc Kc;iterate 2 (first|((first|refine oV ?_|refine oQ ?_);intro K hK;go_big_quiet_op;go_big_quiet_on)|refine oS ?_)
 refine oA ?_;intro Kc hKc;have cR:=R.cell;have fR:=R.frozen;go_step;obtain⟨w9,hwn,RB9,kst,hzst⟩:=R.st4 (.int .i64 u.x.lo) (.int .i64 u.x.hi) (.int .i64 u.y.lo) (.int .i64 u.y.hi);rw[← hwn];clear hwn cR fR;refine hKc _ _ ((hS1 _).2 trivial) ?_;clear hKc Kc;replace D:=D.kq kst (by omega);replace F:=F.kq kst (by omega);replace P:=P.kq kst (by omega);first|replace K:=K.thenOwn kst (Nat.le_refl _) (by omega)|replace K:=K.then_ kst (Nat.le_refl _)
 replace R:=RB9;clear RB9 kst;simp only[sbt,sc0,scs] at R;change wpOrd _ _ _ _ _ 1 _ _;iterate 1 (first|((first|refine oV ?_|refine oQ ?_);intro K hK;go_big_quiet_op;go_big_quiet_on)|refine oS ?_)
 refine wpOrd_nil ?_;clear hevT _hev;clear cD cF cP hS0 hS1 S;have cR:=R.cell;go_wp2_with fail
 exact bodyPost_ret (v:=.tuple #[.agg #[.int .i64 u.x.lo,.int .i64 u.x.hi,.int .i64 u.y.lo,.int .i64 u.y.hi],.int .i64 0]) (by simp[results,Tryz.results111,go_sem,cR]) rfl ⟨rfl,K⟩
def errSt (s:St):Int:=if okSt s=true then 0 else 2
theorem orbit_CheckState_any (s:St) (w:World) :
  Calls Tryz.prog 66 #[.agg #[.int .i64 s.x,.int .i64 s.y,.int .i64 s.u,.int .i64 s.v]] w fun e w'=>e=.returned (.int .i64 (errSt s))∧Kp w.heap.size none w w':=by
 have c1:=fun w=>orbit_within_any s.x (-33554432) 33554432 w;have c2:=fun w=>orbit_within_any s.y (-33554432) 33554432 w;have c3:=fun w=>orbit_within_any s.u (-1048576) 1048576 w;have c4:=fun w=>orbit_within_any s.v (-1048576) 1048576 w
 have e:okSt s=(btw s.x (-33554432) 33554432&&btw s.y (-33554432) 33554432&&btw s.u (-1048576) 1048576&&btw s.v (-1048576) 1048576):=by
  rw[Bool.eq_iff_iff];simp only[okSt,btw,Bool.and_eq_true,decide_eq_true_eq];omega
 unfold errSt;rw[e];clear e;generalize btw s.x (-33554432) 33554432=x1 at *;generalize btw s.y (-33554432) 33554432=x2 at *;generalize btw s.u (-1048576) 1048576=x3 at *;generalize btw s.v (-1048576) 1048576=x4 at *;obtain⟨w1,hw1,B,K,hz⟩:=box1 w 55 #[.int .i64 s.x,.int .i64 s.y,.int .i64 s.u,.int .i64 s.v];go_enter Tryz.func66,Tryz.ntmps66
 go_wp2_with fail
 rw[← hw1];clear hw1;refine(c1 _).mono ?_;rintro e w2 ⟨rfl,k⟩;replace B:=B.kpN k;replace K:=K.tN k;have hzk:=k.size;clear k;cases x1
 ·
  have cB:=B.cell;have fB:=B.frozen;go_wp2_with fail
  clear cB fB;go_ret
  exact⟨rfl,K⟩
 ·
  have cB:=B.cell;have fB:=B.frozen;go_wp2_with fail
  refine(c2 _).mono ?_;rintro e w3 ⟨rfl,k⟩;clear cB fB;replace B:=B.kpN k;replace K:=K.tN k;have hzk:=k.size;clear k;cases x2
  ·
   have cB:=B.cell;have fB:=B.frozen;go_wp2_with fail
   clear cB fB;go_ret
   exact⟨rfl,K⟩
  ·
   have cB:=B.cell;have fB:=B.frozen;go_wp2_with fail
   refine(c3 _).mono ?_;rintro e w4 ⟨rfl,k⟩;clear cB fB;replace B:=B.kpN k;replace K:=K.tN k;have hzk:=k.size;clear k;cases x3
   ·
    have cB:=B.cell;have fB:=B.frozen;go_wp2_with fail
    clear cB fB;go_ret
    exact⟨rfl,K⟩
   ·
    have cB:=B.cell;have fB:=B.frozen;go_wp2_with fail
    refine(c4 _).mono ?_;rintro e w5 ⟨rfl,k⟩;clear cB fB;replace B:=B.kpN k;replace K:=K.tN k;have hzk:=k.size;clear k;cases x4
    ·
     have cB:=B.cell;have fB:=B.frozen;go_wp2_with fail
     clear cB fB;go_ret
     exact⟨rfl,K⟩
    ·
     have cB:=B.cell;have fB:=B.frozen;go_wp2_with fail
     clear cB fB;go_ret
     exact⟨rfl,K⟩
theorem orbit_checkWorld_any (A:Option Addr) (c:Nat) (W:Wd) (d:Dr) (w:World) (hW:W.ok) (hA:WdAt none w A W) (hd:d.ok) :
  Calls Tryz.prog 65 #[.agg #[.slice A W.bs.length c,.int .i64 W.home],.agg #[.int .i64 d.light.lo,.int .i64 d.light.hi,.int .i64 d.heat.lo,.int .i64 d.heat.hi,.int .i64 d.gas]] w fun e w'=>e=.returned (.int .i64 0)∧Kp w.heap.size none w w':=by
 have cw:=fun w h=>sky_CheckWorld_any A c W w hW h;have cd:=fun w=>force_CheckDrift_any d hd w;clear hW hd;obtain⟨w1,hw1,D,F,K,hz⟩:=box2 w 27 #[.slice A W.bs.length c,.int .i64 W.home] 31 #[.int .i64 d.light.lo,.int .i64 d.light.hi,.int .i64 d.heat.lo,.int .i64 d.heat.hi,.int .i64 d.gas];go_enter Tryz.func65,Tryz.ntmps65
 go_wp2_with fail
 rw[← hw1];clear hw1;refine(cw _ (hA.kpN K)).mono ?_;rintro e w2 ⟨rfl,k⟩;replace D:=D.kpN k;replace F:=F.kpN k;replace K:=K.tN k;have hzk:=k.size;clear k;have cD:=D.cell;have fD:=D.frozen;have cF:=F.cell;have fF:=F.frozen;go_wp2_with fail
 refine(cd _).mono ?_;rintro e w3 ⟨rfl,k⟩;clear cD fD cF fF;replace D:=D.kpN k;replace F:=F.kpN k;replace K:=K.tN k;have hzk:=k.size;clear k;have cD:=D.cell;have fD:=D.frozen;have cF:=F.cell;have fF:=F.frozen;go_wp2_with fail
 clear cD fD cF fF;go_ret
 exact⟨rfl,K⟩
def folB (W:Wd) (d:Dr) (t:Int) (s n:St):Bool:=
 btw (n.u-s.u) (overA mp d (aloneA s) (W.hvs t)).x.lo (overA mp d (aloneA s) (W.hvs t)).x.hi&&(btw (n.v-s.v) (overA mp d (aloneA s) (W.hvs t)).y.lo (overA mp d (aloneA s) (W.hvs t)).y.hi&&(n.x==s.x+n.u&&n.y==s.y+n.v))
theorem folB_iff {W:Wd} {d:Dr} {t:Int} {s n:St}:folB W d t s n=true↔Follows mp d (W.hvs t) s n:=by
 simp only[folB,btw,Follows,Sp.has,Bool.and_eq_true,decide_eq_true_eq,beq_iff_eq]
set_option maxHeartbeats 1000000 in
theorem orbit_follows_any (A:Option Addr) (c:Nat) (W:Wd) (d:Dr) (t:Int) (s n:St) (w:World) (hW:W.ok) (hA:WdAt none w A W) (hd:d.ok) (ht:0≤t∧t≤1073741824) (hs:NearS s) (hn:NearS n) :
  Calls Tryz.prog 67 #[.agg #[.slice A W.bs.length c,.int .i64 W.home],.agg #[.int .i64 d.light.lo,.int .i64 d.light.hi,.int .i64 d.heat.lo,.int .i64 d.heat.hi,.int .i64 d.gas],.int .i64 t,.agg #[.int .i64 s.x,.int .i64 s.y,.int .i64 s.u,.int .i64 s.v],.agg #[.int .i64 n.x,.int .i64 n.y,.int .i64 n.u,.int .i64 n.v]] w fun e w'=>e=.returned (.bool (folB W d t s n))∧Kp w.heap.size none w w':=by
 have cp:=fun w h=>force_Pull_any A c W d t s w hW h hd ht hs;unfold folB;generalize overA mp d (aloneA s) (W.hvs t)=u at *;have e1:wrap64 (n.u-s.u)=n.u-s.u:=by unfold NearS at hs hn;unfold wrap64;omega
 have e2:wrap64 (n.v-s.v)=n.v-s.v:=by unfold NearS at hs hn;unfold wrap64;omega
 have e3:wrap64 (s.x+n.u)=s.x+n.u:=by unfold NearS at hs hn;unfold wrap64;omega
 have e4:wrap64 (s.y+n.v)=s.y+n.v:=by unfold NearS at hs hn;unfold wrap64;omega
 have c1:=fun w=>orbit_within_any (n.u-s.u) u.x.lo u.x.hi w;have c2:=fun w=>orbit_within_any (n.v-s.v) u.y.lo u.y.hi w;generalize btw (n.u-s.u) u.x.lo u.x.hi=x1 at *;generalize btw (n.v-s.v) u.y.lo u.y.hi=x2 at *;clear hW hd hs hn ht;obtain⟨w1,hw1,D,F,B,C,K,hz⟩:=box4 w 27 #[.slice A W.bs.length c,.int .i64 W.home] 31 #[.int .i64 d.light.lo,.int .i64 d.light.hi,.int .i64 d.heat.lo,.int .i64 d.heat.hi,.int .i64 d.gas] 55 #[.int .i64 s.x,.int .i64 s.y,.int .i64 s.u,.int .i64 s.v] 55 #[.int .i64 n.x,.int .i64 n.y,.int .i64 n.u,.int .i64 n.v];go_enter Tryz.func67,Tryz.ntmps67
 go_wp2_with fail
 rw[← hw1];clear hw1;refine(cp _ (hA.kpN K)).mono ?_;rintro e w2 ⟨rfl,k⟩;replace D:=D.kpN k;replace F:=F.kpN k;replace B:=B.kpN k;replace C:=C.kpN k;replace K:=K.tN k;have hzk:=k.size;clear k;have pD:=D.cell;have pF:=F.cell;have pB:=B.cell;have pC:=C.cell;obtain⟨w9_,rfl,U,k9_,hzn⟩:=box1 w2 167 #[.int .i64 u.x.lo,.int .i64 u.x.hi,.int .i64 u.y.lo,.int .i64 u.y.hi];replace D:=D.kpN k9_;replace F:=F.kpN k9_;replace B:=B.kpN k9_;replace C:=C.kpN k9_;replace K:=K.thenN k9_ (by first|exact Nat.le_refl _|omega);clear k9_;have cD:=D.cell;have fD:=D.frozen;have cF:=F.cell;have fF:=F.frozen;have cB:=B.cell;have fB:=B.frozen;have cC:=C.cell;have fC:=C.frozen;go_wp2_with fail
 clear cD fD pD cF fF pF cB fB pB cC fC pC;generalize (w2.alloc (.cells #[.int .i64 u.x.lo,.int .i64 u.x.hi,.int .i64 u.y.lo,.int .i64 u.y.hi] 167))=w3 at *;obtain⟨x,hx⟩:∃ q9,q9=w2.heap.size:=⟨_,rfl⟩;rw[← hx] at U ⊢;replace hx:=Lib.hid hx;clear hx hzn hzk hz;have cU:=U.cell;have fU:=U.frozen;have cB:=B.cell;have fB:=B.frozen;have cC:=C.cell;have fC:=C.frozen;go_wp2_with fail
 refine(c1 _).mono ?_;rintro e w4 ⟨rfl,k⟩;clear cU fU cB fB cC fC;replace U:=U.kpN k;replace B:=B.kpN k;replace C:=C.kpN k;replace K:=K.tN k;have hzk:=k.size;clear k;cases x1
 ·
  have cB:=B.cell;have fB:=B.frozen;go_wp2_with fail
  clear cB fB;go_ret
  exact⟨rfl,K⟩
 ·
  have cU:=U.cell;have fU:=U.frozen;have cB:=B.cell;have fB:=B.frozen;have cC:=C.cell;have fC:=C.frozen;go_wp2_with fail
  refine(c2 _).mono ?_;rintro e w5 ⟨rfl,k⟩;clear cU fU cB fB cC fC;replace U:=U.kpN k;replace B:=B.kpN k;replace C:=C.kpN k;replace K:=K.tN k;have hzk:=k.size;clear k;cases x2
  ·
   have cB:=B.cell;have fB:=B.frozen;go_wp2_with fail
   clear cB fB;go_ret
   exact⟨rfl,K⟩
  ·
   cases h1:n.x==s.x+n.u
   ·
    have cB:=B.cell;have fB:=B.frozen;have cC:=C.cell;have fC:=C.frozen;go_wp2_with fail
    clear cB fB cC fC;go_ret
    exact⟨by simp_all,K⟩
   ·
    cases h2:n.y==s.y+n.v
    ·
     have cB:=B.cell;have fB:=B.frozen;have cC:=C.cell;have fC:=C.frozen;go_wp2_with fail
     clear cB fB cC fC;go_ret
     exact⟨by simp_all,K⟩
    ·
     have cB:=B.cell;have fB:=B.frozen;have cC:=C.cell;have fC:=C.frozen;go_wp2_with fail
     clear cB fB cC fC;go_ret
     exact⟨by simp_all,K⟩
theorem wpOrd_s2 {P:Program} {l:List Oper} {S:Nat→World→Prop} {Q:Act→World→Prop} {p i k:Nat} {r:List (Nat × Nat)} {a:Act} {w:World} {o:Oper} {d:Option Nat} (hk:k≠3)
  (ho:nthOp l i=some o) (hw:Region.wanted o (yielded l.toArray a.tmps)=false) (hd:o.dst=d)
  (h : ∀ K : Act → Prop, (∀ a, wpOrd P l S Q r p a w → K a) → Oper.quiet P { dst := d, op := .move (.const undef), type := 0, pos := "", after := #[], guard := none } a (fun w' => w' = w) K) :
  wpOrd P l S Q ((i,k)::r) p a w:=by
 refine wpOrd_s hk ho hw ?_;obtain⟨v,h1,h2⟩:=h _ fun _ h=>h;have h3:Oper.quietUpon P (fun w'=>w'=w) w v (.ok (.value undef) w):=h1 w rfl;obtain⟨_,h4⟩:=h3;subst h4 hd;exact h2
def encSt (s:St):List Value:=[.int .i64 s.x,.int .i64 s.y,.int .i64 s.u,.int .i64 s.v]
def OkT (W:Wd) (d:Dr) (t:Int) (l:List St) (i:Nat):Prop:=(∀ j (h:j<l.length),j<i→okSt l[j]=true)∧∀ j (h:j+1<l.length),j+1<i→Follows mp d (W.hvs (t+j)) l[j] l[j+1]
theorem OkT.all {W:Wd} {d:Dr} {t:Int} {l:List St} (h:OkT W d t l l.length):TruthW W d t l:=
 ⟨fun s hs=>by obtain⟨j,hj,rfl⟩:=List.getElem_of_mem hs;exact h.1 j hj hj,fun j hj=>h.2 j hj hj⟩
theorem OkT.next0 {W:Wd} {d:Dr} {t:Int} {l:List St} (hl:0<l.length) (o:okSt l[0]=true):OkT W d t l 1:=
 ⟨fun j _ hj=>by (obtain rfl:j=0:=(by omega));exact o,fun j _ hj=>by omega⟩
theorem OkT.next {W:Wd} {d:Dr} {t:Int} {l:List St} {k:Nat} (h:OkT W d t l (k+1)) (hk:k+1<l.length) (o:okSt l[k+1]=true) (f:folB W d (t+k) l[k] l[k+1]=true):OkT W d t l (k+2):=by
 refine⟨fun j hj hji=>?_,fun j hj hji=>?_⟩
 ·
  by_cases e:j=k+1
  · subst e;exact o
  · exact h.1 j hj (by omega)
 ·
  by_cases e:j=k
  · subst e;exact folB_iff.1 f
  · exact h.2 j hj (by omega)
theorem errSt_ne {s:St} (h:okSt s=false):errSt s=2:=by unfold errSt;simp[h]
theorem errSt_eq {s:St} (h:okSt s=true):errSt s=0:=by unfold errSt;simp[h]
def TrAt (W:Wd) (d:Dr) (t:Int) (l:List St) (A:Option Addr) (c:Nat) (w:World) (v:Value) (wr:World):Prop:=
 ∃ i:Nat,v=.int .i64 i∧i≤l.length∧OkT W d t l i∧Blk wr w.heap.size 27 #[.slice A W.bs.length c,.int .i64 W.home]∧Blk wr (w.heap.size+1) 31 #[.int .i64 d.light.lo,.int .i64 d.light.hi,.int .i64 d.heat.lo,.int .i64 d.heat.hi,.int .i64 d.gas]∧Kp w.heap.size none w wr
set_option maxRecDepth 100000 in
set_option maxHeartbeats 4000000 in
theorem orbit_Truth_any (A:Option Addr) (c:Nat) (W:Wd) (d:Dr) (t:Int) (B:Option Addr) (m:Nat) (l:List St) (w:World) (hW:W.ok) (hA:WdAt none w A W) (hd:d.ok) (ht:0≤t∧t≤1000000) (hr:Rd none w 4 encSt B l.length l) (hl:l.length≤1000) :
  Calls Tryz.prog 27 #[.agg #[.slice A W.bs.length c,.int .i64 W.home],.agg #[.int .i64 d.light.lo,.int .i64 d.light.hi,.int .i64 d.heat.lo,.int .i64 d.heat.hi,.int .i64 d.gas],.int .i64 t,.slice B l.length m] w fun e w'=>(∃ v:Int,e=.returned (.int .i64 v)∧(v=-1→TruthW W d t l))∧Kp w.heap.size none w w':=by
 have cw:=fun w h=>orbit_checkWorld_any A c W d w hW h hd;have ct:=fun w=>orbit_within_any t 0 1073741824 w;rw[btw_t (by omega) (by omega)] at ct;have e1:wrap64 (t+(l.length:Int))=t+(l.length:Int):=by unfold wrap64;omega
 have e2:wrap64 (t+(l.length:Int)-1)=t+(l.length:Int)-1:=by unfold wrap64;omega
 have n1:¬ 1073741824<t+(l.length:Int)-1:=by omega
 obtain⟨w1,hw1,D,F,K,hz⟩:=box2 w 27 #[.slice A W.bs.length c,.int .i64 W.home] 31 #[.int .i64 d.light.lo,.int .i64 d.light.hi,.int .i64 d.heat.lo,.int .i64 d.heat.hi,.int .i64 d.gas];go_enter Tryz.func27,Tryz.ntmps27
 go_wp2_with fail
 rw[← hw1];clear hw1;refine(cw _ (hA.kpN K)).mono ?_;rintro e w2 ⟨rfl,k⟩;replace D:=D.kpN k;replace F:=F.kpN k;replace K:=K.tN k;have hzk:=k.size;clear k;have cD:=D.cell;have fD:=D.frozen;have cF:=F.cell;have fF:=F.frozen;go_wp2_with fail
 refine(ct _).mono ?_;rintro e w3 ⟨rfl,k⟩;clear cD fD cF fF;replace D:=D.kpN k;replace F:=F.kpN k;replace K:=K.tN k;have hzk:=k.size;clear k;clear cw ct;have cD:=D.cell;have fD:=D.frozen;have cF:=F.cell;have fF:=F.frozen;go_wp2_with fail
 clear cD fD cF fF;go_loopw [30] (fun v wr=>TrAt W d t l A c w v wr) (fun v _=>(l.length:Int).toNat-(intOf v).toNat)
 case atStart=>exact⟨0,rfl,Nat.zero_le _,⟨fun j _ h=>by omega,fun j _ h=>by omega⟩,D,F,K⟩
 case round=>
  obtain⟨i,rfl,hi,hT,D1,F1,K1⟩:=hrel;clear D F K e1 e2 n1;have D:=D1;have F:=F1;have K:=K1;clear D1 F1 K1;have hz0:=K.size;by_cases h:i<l.length
  ·
   obtain⟨b,o,rfl,hb,-,hc⟩:=hr.at_ (by omega);have c0:=hc i h 0 _ rfl;have c1:=hc i h 1 _ rfl;have c2:=hc i h 2 _ rfl;have c3:=hc i h 3 _ rfl;rw[Nat.add_zero] at c0;rw[← Nat.add_assoc] at c1 c2 c3;have d0:=(K.cell b _ hb (by simp)).trans c0;have d1:=(K.cell b _ hb (by simp)).trans c1;have d2:=(K.cell b _ hb (by simp)).trans c2;have d3:=(K.cell b _ hb (by simp)).trans c3;have hii:(i:Int)<(l.length:Int):=by omega
   have hi0:(0:Int)≤(i:Int):=by omega
   have hm:(l.length:Int).toNat-((i+1:Nat):Int).toNat<(l.length:Int).toNat-(i:Int).toNat:=by omega
   replace hm:=Lib.hid hm;have cs:=fun w=>orbit_CheckState_any l[i] w;have pD:=D.cell;have pF:=F.cell;obtain⟨w9_,rfl,X,k9_,hzn⟩:=box1 wr 55 #[.int .i64 l[i].x,.int .i64 l[i].y,.int .i64 l[i].u,.int .i64 l[i].v];replace D:=D.kpN k9_;replace F:=F.kpN k9_;replace K:=K.thenN k9_ (by first|exact Nat.le_refl _|omega);clear k9_;have cD:=D.cell;have fD:=D.frozen;have cF:=F.cell;have fF:=F.frozen;go_wp2_with fail
   clear cD fD pD cF fF pF;generalize (wr.alloc (.cells #[.int .i64 l[i].x,.int .i64 l[i].y,.int .i64 l[i].u,.int .i64 l[i].v] 55))=w2 at *;obtain⟨x,hx⟩:∃ q9,q9=wr.heap.size:=⟨_,rfl⟩;rw[← hx] at X ⊢;replace hx:=Lib.hid hx;have hxw:w.heap.size<x:=by have:=hx.out;have:=F.lt;omega
   clear hx hzn hzk hz d0 d1 d2 d3;obtain⟨s,hs⟩:∃ q9,Hid (q9=l[i]):=⟨_,Lib.hid rfl⟩;rw[← hs.out] at X cs;cases ho:okSt s
   ·
    rw[errSt_ne ho] at cs;have hb2:(!((2:Int)==0))=true:=rfl;obtain⟨S,hS0,hS1⟩:=cls_of2 (P:=fun w'=>Blk w' _ _ _∧Blk w' _ _ _∧Blk w' _ _ _∧Kp _ _ _ w') w2 ⟨D,F,X,K⟩;try dsimp only at hS0
    have cD:=fun (x:Ev (S 0)) i=>((hS0 _).1 x.h).1.cell i;have cF:=fun (x:Ev (S 0)) i=>((hS0 _).1 x.h).2.1.cell i;have cX:=fun (x:Ev (S 0)) i=>((hS0 _).1 x.h).2.2.1.cell i;replace D:=D.drew;replace F:=F.drew;replace X:=X.drew;replace K:=K.drew;have hevT:=ev_true;refine wp_region_ord S [(0,1),(1,2),(2,0),(3,0),(4,0),(5,0),(6,0),(7,1),(8,1),(9,0),(10,0),(11,0),(12,0),(13,0),(14,0),(15,0),(16,0),(17,1),(18,1),(19,2),(20,0),(21,0),(22,0)] [] (by kernel_rfl) (by kernel_rfl) ((hS0 _).2 ⟨D,F,X,K⟩) ?_;intro _hev;iterate 1 (first|((first|refine oV ?_|refine oQ ?_);intro K hK;go_big_quiet_op;go_big_quiet_on)|refine oS ?_)
    refine oL ?_;intro Kc hKc;generalize w2.drew=wd9 at *;go_step;refine(cs _).mono ?_;rintro e w3 ⟨rfl,k⟩;replace D:=D.kpN k;replace F:=F.kpN k;replace X:=X.kpN k;replace K:=K.tN k;clear k;refine hKc _ _ ((hS0 _).2 ⟨D,F,X,K⟩) ?_;clear hKc Kc;(first|refine oV ?_|refine oQ ?_);intro K hK;go_big_quiet_op;go_big_quiet_on
    (first|refine oV ?_|refine oQ ?_);intro K hK;go_big_quiet_op;go_big_quiet_on
    iterate 15 (refine wpOrd_s2 (by decide) rfl rfl rfl ?_;intro K hK;go_big_quiet_op;go_big_quiet_on)
    refine wpOrd_s2 (by decide) rfl rfl rfl ?_;intro Kc hKc;go_big_quiet_op
    go_big_quiet_on
    iterate 2 (refine wpOrd_s2 (by decide) rfl rfl rfl ?_;intro K hK;go_big_quiet_op;go_big_quiet_on)
    (first|refine oV ?_|refine oQ ?_);intro K hK;go_big_quiet_op;go_big_quiet_on
    refine wpOrd_nil ?_;clear hevT _hev;clear cD cF cX hS0 hS1 S;go_wp2
    go_ret
    exact⟨⟨_,rfl,fun e=>by omega⟩,K⟩
   ·
    rw[errSt_eq ho] at cs;by_cases h0:i=0
    ·
     subst h0;obtain⟨S,hS0,hS1⟩:=cls_of2 (P:=fun w'=>Blk w' _ _ _∧Blk w' _ _ _∧Blk w' _ _ _∧Kp _ _ _ w') w2 ⟨D,F,X,K⟩;try dsimp only at hS0
     have cD:=fun (x:Ev (S 0)) i=>((hS0 _).1 x.h).1.cell i;have cF:=fun (x:Ev (S 0)) i=>((hS0 _).1 x.h).2.1.cell i;have cX:=fun (x:Ev (S 0)) i=>((hS0 _).1 x.h).2.2.1.cell i;replace D:=D.drew;replace F:=F.drew;replace X:=X.drew;replace K:=K.drew;have hevT:=ev_true;refine wp_region_ord S [(0,1),(1,2),(2,0),(3,0),(4,0),(5,0),(6,0),(7,1),(8,1),(9,0),(10,0),(11,0),(12,0),(13,0),(14,0),(15,0),(16,0),(17,1),(18,1),(19,2),(20,0),(21,0),(22,0)] [] (by kernel_rfl) (by kernel_rfl) ((hS0 _).2 ⟨D,F,X,K⟩) ?_;intro _hev;iterate 1 (first|((first|refine oV ?_|refine oQ ?_);intro K hK;go_big_quiet_op;go_big_quiet_on)|refine oS ?_)
     refine oL ?_;intro Kc hKc;generalize w2.drew=wd9 at *;go_step;refine(cs _).mono ?_;rintro e w3 ⟨rfl,k⟩;replace D:=D.kpN k;replace F:=F.kpN k;replace X:=X.kpN k;replace K:=K.tN k;clear k;refine hKc _ _ ((hS0 _).2 ⟨D,F,X,K⟩) ?_;clear hKc Kc;(first|refine oV ?_|refine oQ ?_);intro K hK;go_big_quiet_op;go_big_quiet_on
     (first|refine oV ?_|refine oQ ?_);intro K hK;go_big_quiet_op;go_big_quiet_on
     (first|refine oV ?_|refine oQ ?_);intro K hK;go_big_quiet_op;go_big_quiet_on
     (first|refine oV ?_|refine oQ ?_);intro K hK;go_big_quiet_op;go_big_quiet_on
     (first|refine oV ?_|refine oQ ?_);intro K hK;go_big_quiet_op;go_big_quiet_on
     iterate 12 (refine wpOrd_s2 (by decide) rfl rfl rfl ?_;intro K hK;go_big_quiet_op;go_big_quiet_on)
     refine wpOrd_s2 (by decide) rfl rfl rfl ?_;intro Kc hKc;go_big_quiet_op
     go_big_quiet_on
     refine wpOrd_s2 (by decide) rfl rfl rfl ?_;intro K hK;go_big_quiet_op;go_big_quiet_on;(first|refine oV ?_|refine oQ ?_);intro K hK;go_big_quiet_op;go_big_quiet_on
     (first|refine oV ?_|refine oQ ?_);intro K hK;go_big_quiet_op;go_big_quiet_on
     refine wpOrd_nil ?_;clear hevT _hev;clear cD cF cX hS0 hS1 S;replace h:=Lib.hid h;go_wp2
     go_roundw
     case rel=>exact⟨1,rfl,h.out,OkT.next0 h.out (hs.out ▸ ho),D,F,K⟩
     case measure=>exact hm.out
    ·
     obtain⟨k,hk⟩:∃ k,Hid (i=k+1):=⟨i-1,Lib.hid (by omega)⟩;have hkl:k<l.length:=by have:=hk.out;omega
     have c10:=hc k hkl 0 _ rfl;have c11:=hc k hkl 1 _ rfl;have c12:=hc k hkl 2 _ rfl;have c13:=hc k hkl 3 _ rfl;rw[Nat.add_zero] at c10;rw[← Nat.add_assoc] at c11 c12 c13;have hkk:(k:Int)<(l.length:Int):=by omega
     have hk0:(0:Int)≤(k:Int):=by omega
     have g0:wrap64 ((i:Int)-1)=(k:Int):=by have:=hk.out;unfold wrap64;omega
     have g1:wrap64 (t+(i:Int))=t+(i:Int):=by have:=hk.out;unfold wrap64;omega
     have g2:wrap64 (t+(i:Int)-1)=t+(k:Int):=by have:=hk.out;unfold wrap64;omega
     have gp:0<i:=by omega
     have g3:(i:Int)-1=(k:Int):=by have:=hk.out;omega
     have g4:t+(i:Int)-1=t+(k:Int):=by have:=hk.out;omega
     have hok:=hT.1 k hkl (by have:=hk.out;omega);have cf:=fun w hA=>orbit_follows_any A c W d (t+(k:Int)) l[k] s w hW hA hd (by omega) (okSt_near hok) (okSt_near ho);obtain⟨p,hp⟩:∃ q9,Hid (q9=l[k]):=⟨_,Lib.hid rfl⟩;rw[← hp.out] at cf c10 c11 c12 c13;obtain⟨fb,hfb⟩:∃ q9,Hid (q9=folB W d (t+(k:Int)) p s):=⟨_,Lib.hid rfl⟩;rw[← hfb.out] at cf;replace hok:=Lib.hid hok;replace hT:=Lib.hid hT;clear hc;replace h0:=Lib.hid h0;replace hi:=Lib.hid hi;obtain⟨S,hS0,hS1⟩:=cls_of2 (P:=fun w'=>Blk w' _ _ _∧Blk w' _ _ _∧Blk w' _ _ _∧Kp _ _ _ w') w2 ⟨D,F,X,K⟩;try dsimp only at hS0
     have cD:=fun (x:Ev (S 0)) i=>((hS0 _).1 x.h).1.cell i;have cF:=fun (x:Ev (S 0)) i=>((hS0 _).1 x.h).2.1.cell i;have cX:=fun (x:Ev (S 0)) i=>((hS0 _).1 x.h).2.2.1.cell i;have c10:=fun (x:Ev (S 0))=>((((hS0 _).1 x.h).2.2.2).cell _ _ hb (by first|(simp;done)|exact sne (by omega))).trans c10;have c11:=fun (x:Ev (S 0))=>((((hS0 _).1 x.h).2.2.2).cell _ _ hb (by first|(simp;done)|exact sne (by omega))).trans c11;have c12:=fun (x:Ev (S 0))=>((((hS0 _).1 x.h).2.2.2).cell _ _ hb (by first|(simp;done)|exact sne (by omega))).trans c12;have c13:=fun (x:Ev (S 0))=>((((hS0 _).1 x.h).2.2.2).cell _ _ hb (by first|(simp;done)|exact sne (by omega))).trans c13;replace D:=D.drew;replace F:=F.drew;replace X:=X.drew;replace K:=K.drew;have hevT:=ev_true;refine wp_region_ord S [(0,1),(1,2),(2,0),(3,0),(4,0),(5,0),(6,0),(7,1),(8,1),(9,0),(10,0),(11,0),(12,0),(13,0),(14,0),(15,0),(16,0),(17,1),(18,1),(19,2),(20,0),(21,0),(22,0)] [] (by kernel_rfl) (by kernel_rfl) ((hS0 _).2 ⟨D,F,X,K⟩) ?_;intro _hev;iterate 1 (first|((first|refine oV ?_|refine oQ ?_);intro K hK;go_big_quiet_op;go_big_quiet_on)|refine oS ?_)
     refine oL ?_;intro Kc hKc;generalize w2.drew=wd9 at *;go_step;refine(cs _).mono ?_;rintro e w3 ⟨rfl,k⟩;replace D:=D.kpN k;replace F:=F.kpN k;replace X:=X.kpN k;replace K:=K.tN k;clear k;refine hKc _ _ ((hS0 _).2 ⟨D,F,X,K⟩) ?_;clear hKc Kc;iterate 17 (first|((first|refine oV ?_|refine oQ ?_);intro K hK;go_big_quiet_op;go_big_quiet_on)|refine oS ?_)
     refine oL ?_;intro Kc hKc;go_step;refine(cf _ (hA.kpN K)).mono ?_;rintro e w4 ⟨rfl,k⟩;replace D:=D.kpN k;replace F:=F.kpN k;replace X:=X.kpN k;replace K:=K.tN k;clear k;refine hKc _ _ ((hS0 _).2 ⟨D,F,X,K⟩) ?_;clear hKc Kc;iterate 3 (first|((first|refine oV ?_|refine oQ ?_);intro K hK;go_big_quiet_op;go_big_quiet_on)|refine oS ?_)
     refine wpOrd_nil ?_;clear hevT _hev;clear c10 c11 c12 c13;clear cD cF cX hS0 hS1 S;cases fb
     ·
      go_wp2
      go_ret
      exact⟨⟨_,rfl,fun e=>by omega⟩,K⟩
     ·
      replace h:=Lib.hid h;go_wp2
      go_roundw
      case rel=>
       have hk':=hk.out;have hT':=hT.out;subst hk';exact⟨k+2,by congr 1,h.out,hT'.next h.out (hs.out ▸ ho) (by rw[← hp.out,← hs.out];exact hfb.out.symm),D,F,K⟩
      case measure=>exact hm.out
  ·
   obtain rfl:i=l.length:=by omega
   clear hr hA;have cD:=D.cell;have fD:=D.frozen;go_wp2_with fail
   clear cD fD;go_ret
   exact⟨⟨_,rfl,fun _=>hT.all⟩,K⟩
end Go.Proofs.YtdhiappifnflpaaGreat
