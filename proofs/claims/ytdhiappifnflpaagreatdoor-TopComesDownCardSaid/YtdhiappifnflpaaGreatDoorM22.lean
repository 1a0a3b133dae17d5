/- What moves a small body: the walks of force, fifth part. What moves a small body: the walks of force, sixth part. What moves a small body: the walks of force, seventh part: the pulls of all bodies. What moves a small body: the walks of force, eighth part: sums of areas. -/
import Derived.Test.YtdhiappifnflpaaGreatDoorVh
import Derived.Test.YtdhiappifnflpaaGreatDoorM19
import Derived.Test.YtdhiappifnflpaaGreatDoorIz
import Derived.Deep.DeepCutAuto
set_option maxRecDepth 100000
set_option maxHeartbeats 4000000
namespace Go.Proofs.YtdhiappifnflpaaGreatDoor
open Go.RowKit
theorem distS_bd {h:Hv} {a:Ar} (hh:h.ok) (ha:a.bd 33554432):1≤(distS h a).lo∧(distS h a).lo≤(distS h a).hi∧(distS h a).hi≤2252336716597248:=by
 have hb:=toA_bd hh ha;have e1:=edge_bd hh;have q1:=squareS_bd hb.1;have q2:=squareS_bd hb.2;unfold distS addS;simp only;omega
theorem rootsS_bd {q:Sp} (h:1≤q.lo∧q.lo≤q.hi∧q.hi≤2252336716597248):1≤(rootsS q).lo∧(rootsS q).lo≤(rootsS q).hi∧(rootsS q).hi≤1073741825:=by
 have o:=rootsS_ok h.1 h.2.1;refine⟨o.1,o.2,?_⟩;have r:=isq_root (n:=q.hi) oM
 have:isq q.hi≤1073741824:=by
  rcases Int.lt_or_le 1073741824 (isq q.hi) with g|g
  ·
   have:=Int.mul_le_mul (show 1073741825≤isq q.hi by omega) (show 1073741825≤isq q.hi by omega) oM oM;have:=r.2.1;omega
  · exact g
 unfold rootsS rootUp;simp only;split<;>omega
theorem heavy_pull_any (h:Hv) (A:Option Addr) (n c:Nat) (a:Ar) (hh:h.ok) (ha:a.bd 33554432) (w:World) :
  Calls Tryz.prog 173 #[.agg #[h.mu,h.rad,.slice A n c,h.ax,h.ay],a] w fun e w'=>e=.returned (.agg #[(pullS mp h a).x.lo,(pullS mp h a).x.hi,(pullS mp h a).y.lo,(pullS mp h a).y.hi])∧Kp w.heap.size none w w':=by
 have ht:=fun w=>heavy_to_any h A n c a hh ha w;have hd:=fun w=>heavy_distances_any h A n c a hh ha w;have hb:=toA_bd hh ha;have db:=distS_bd hh ha;have rb:=rootsS_bd db;have t1:=fun w=>heavy_toward_any h A n c (h.toA a).x (distS h a) (rootsS (distS h a)) hh (by have:=hb.1;unfold Sp.bd at *;omega) oM oM w;have t2:=fun w=>heavy_toward_any h A n c (h.toA a).y (distS h a) (rootsS (distS h a)) hh (by have:=hb.2;unfold Sp.bd at *;omega) oM oM w;have e:pullS mp h a=⟨towardS h.mu mp (h.toA a).x (distS h a) (rootsS (distS h a)),towardS h.mu mp (h.toA a).y (distS h a) (rootsS (distS h a))⟩:=rfl;rw[e];simp only;clear e rb db hb hh ha;generalize towardS h.mu mp (h.toA a).x (distS h a) (rootsS (distS h a))=u1 at *;generalize towardS h.mu mp (h.toA a).y (distS h a) (rootsS (distS h a))=u2 at *;generalize rootsS (distS h a)=r at *;generalize distS h a=q at *;generalize h.toA a=v at *;obtain⟨w1,hw1,H,B,R,K,hz⟩:=box3 w 254 #[h.mu,h.rad,.slice A n c,h.ax,h.ay] 53 a 53 #[(0:Int),(0:Int),(0:Int),(0:Int)];go_enter Tryz.func173,Tryz.ntmps173
 go_wp2_with fail
 rw[← hw1];clear hw1;refine mK (hd _) fun w2 k=>?_;replace H:=H.kpN k;replace B:=B.kpN k;replace R:=R.kpN k;replace K:=K.thenN k oM;have hzk:=k.size;clear k;have pH:=H.cell;have pB:=B.cell;have pR:=R.cell;obtain⟨w9_,rfl,Q1,Q2,k9_,hzn⟩:=box2 w2 29 #[q.lo,q.hi] 29 #[r.lo,r.hi];replace H:=H.kpN k9_;replace B:=B.kpN k9_;replace R:=R.kpN k9_;replace K:=K.thenN k9_ oU;clear k9_;have cH:=H.cell;have fH:=H.frozen;have cB:=B.cell;have fB:=B.frozen;have cR:=R.cell;have fR:=R.frozen;go_wp2_with fail
 clear cH fH pH cB fB pB cR fR pR;generalize ((w2.alloc (.cells #[q.lo,q.hi] 29)).alloc (.cells #[r.lo,r.hi] 29))=w3 at *;obtain⟨x,hx⟩:∃ q9,q9=w2.heap.size:=⟨_,rfl⟩;rw[← hx] at Q1 Q2 ⊢;replace hx:=Lib.hid hx;have hxn:w.heap.size+3≤x:=by have:=hx.out;omega
 have hxz:x+2=w3.heap.size:=by have:=hx.out;omega
 clear hx hzn hzk hz;refine mK (ht _) fun w4 k=>?_;replace H:=H.kpN k;replace B:=B.kpN k;replace R:=R.kpN k;replace Q1:=Q1.kpN k;replace Q2:=Q2.kpN k;replace K:=K.tN k;have hk:=k.size;clear k;have hz4:w.heap.size≤w4.heap.size:=by omega
 have pH:=H.cell;have pB:=B.cell;have pR:=R.cell;have pQ1:=Q1.cell;have pQ2:=Q2.cell;obtain⟨w9_,rfl,V,k9_,hzn⟩:=box1 w4 53 #[v.x.lo,v.x.hi,v.y.lo,v.y.hi];replace H:=H.kpN k9_;replace B:=B.kpN k9_;replace R:=R.kpN k9_;replace Q1:=Q1.kpN k9_;replace Q2:=Q2.kpN k9_;replace K:=K.thenN k9_ oU;clear k9_;have cH:=H.cell;have fH:=H.frozen;have cB:=B.cell;have fB:=B.frozen;have cR:=R.cell;have fR:=R.frozen;have cQ1:=Q1.cell;have fQ1:=Q1.frozen;have cQ2:=Q2.cell;have fQ2:=Q2.frozen;go_wp2_with fail
 clear cH fH pH cB fB pB cR fR pR cQ1 fQ1 pQ1 cQ2 fQ2 pQ2;generalize (w4.alloc (.cells #[v.x.lo,v.x.hi,v.y.lo,v.y.hi] 53))=w5 at *;obtain⟨y,hx⟩:∃ q9,q9=w4.heap.size:=⟨_,rfl⟩;rw[← hx] at V ⊢;replace hx:=Lib.hid hx;have hyn:x+2≤y:=by have:=hx.out;omega
 clear hx hzn hk hz4;obtain⟨S,hS0,hS1⟩:=cls_of2 (P:=fun w'=>Blk w' _ _ _∧Blk w' _ _ _∧Blk w' _ _ _∧Blk w' _ _ _∧Blk w' _ _ _∧Kp _ _ _ w') w5 ⟨H,B,Q1,Q2,V,K⟩;try dsimp only at hS0
 have cH:=fun (x:Ev (S 0)) i=>((hS0 _).1 x.h).1.cell i;have cB:=fun (x:Ev (S 0)) i=>((hS0 _).1 x.h).2.1.cell i;have cQ1:=fun (x:Ev (S 0)) i=>((hS0 _).1 x.h).2.2.1.cell i;have cQ2:=fun (x:Ev (S 0)) i=>((hS0 _).1 x.h).2.2.2.1.cell i;have cV:=fun (x:Ev (S 0)) i=>((hS0 _).1 x.h).2.2.2.2.1.cell i;replace H:=H.drew;replace B:=B.drew;replace Q1:=Q1.drew;replace Q2:=Q2.drew;replace V:=V.drew;replace K:=K.drew;replace R:=R.drew;have hevT:=ev_true;refine wro S [(0,1),(1,0),(2,1),(3,1),(4,1),(6,1),(7,0),(8,1),(9,1),(10,1),(5,2),(11,2),(12,0),(13,3)] [13] ((hS0 _).2 ⟨H,B,Q1,Q2,V,K⟩) ?_;intro _hev;refine oX ?_;refine oL ?_;intro Kc hKc;generalize w5.drew=wd9 at *;go_step;refine mK (t1 _) fun w6 k=>?_;replace H:=H.kpN k;replace B:=B.kpN k;replace Q1:=Q1.kpN k;replace Q2:=Q2.kpN k;replace V:=V.kpN k;replace R:=R.kpN k;replace K:=K.tN k;clear k;refine hKc _ _ ((hS0 _).2 ⟨H,B,Q1,Q2,V,K⟩) ?_;clear hKc Kc;refine oL ?_;intro Kc hKc;go_step;refine mK (t2 _) fun w7 k=>?_;replace H:=H.kpN k;replace B:=B.kpN k;replace Q1:=Q1.kpN k;replace Q2:=Q2.kpN k;replace V:=V.kpN k;replace R:=R.kpN k;replace K:=K.tN k;clear k;refine hKc _ _ ((hS0 _).2 ⟨H,B,Q1,Q2,V,K⟩) ?_;clear hKc Kc;refine oX ?_;refine oA ?_;intro Kc hKc;have cR:=R.cell;have fR:=R.frozen;go_step;obtain⟨w9,hwn,RB9,kst,hzst⟩:=R.st4 (.int .i64 u1.lo) (.int .i64 u1.hi) (.int .i64 u2.lo) (.int .i64 u2.hi);rw[← hwn];clear hwn cR fR;refine hKc _ _ ((hS1 _).2 trivial) ?_;clear hKc Kc;replace H:=H.kq kst;replace B:=B.kq kst;replace Q1:=Q1.kq kst;replace Q2:=Q2.kq kst;replace V:=V.kq kst;first|replace K:=K.thenOwn kst (Nat.le_refl _) oM|replace K:=K.then_ kst (Nat.le_refl _)
 replace R:=RB9;clear RB9 kst;simp only[sbt,sc0,scs] at R;change wpOrd _ _ _ _ _ 1 _ _;refine wpOrd_nil ?_;clear hevT _hev;clear cH cB cQ1 cQ2 cV hS0 hS1 S;have cR:=R.cell;go_wp2_with fail
 exact bodyPost_ret (by simp[results,Tryz.results173,go_sem,cR]) rfl ⟨rfl,K⟩
theorem force_of_any (A:Option Addr) (c:Nat) (W:Wd) (i:Nat) (t:Int) (w:World) (hW:W.ok) (hA:WdAt none w A W) (hi:i<W.bs.length) (ht:0≤t∧t≤1073741824) :
  Calls Tryz.prog 172 #[.agg #[.slice A W.bs.length c,W.home],i,t] w fun e w'=>(∃ (B:Option Addr) (n k:Nat),e=.returned (.agg #[.int .i64 W.bs[i].mu,.int .i64 W.bs[i].rad,.slice B n k,(W.bs[i].at t).x,(W.bs[i].at t).y]))∧Kp w.heap.size none w w':=by
 have ca:=fun w h=>sky_At_any A c W i t w hW h hi ht;have h0:(0:Int)≤(i:Int):=by omega
 have h1:(i:Int)<(W.bs.length:Int):=by omega
 obtain⟨b,o,B,cc,rfl,hlt,e0,e1,e2,hr⟩:=hA.body i hi;generalize W.bs[i].at t=p at *;generalize W.bs[i]=x at *;obtain⟨w1,hw1,D,R,K,hz⟩:=box2 w 27 #[.slice (some ⟨b,o,none⟩) W.bs.length c,W.home] 254 #[(0:Int),(0:Int),.slice none 0 0,(0:Int),(0:Int)];go_enter Tryz.func172,Tryz.ntmps172
 go_wp2_with fail
 rw[← hw1];clear hw1;obtain⟨S,hS0,hS1⟩:=cls_of2 (P:=fun w'=>Blk w' _ _ _∧Kp _ _ _ w') w1 ⟨D,K⟩;try dsimp only at hS0
 have cD:=fun (x:Ev (S 0)) i=>((hS0 _).1 x.h).1.cell i;have d0:=fun (x:Ev (S 0))=>((((hS0 _).1 x.h).2).cell _ _ hlt oW).trans e0;have d1:=fun (x:Ev (S 0))=>((((hS0 _).1 x.h).2).cell _ _ hlt oW).trans e1;have d2:=fun (x:Ev (S 0))=>((((hS0 _).1 x.h).2).cell _ _ hlt oW).trans e2;replace D:=D.drew;replace K:=K.drew;replace R:=R.drew;have hevT:=ev_true;refine wro S [(0,0),(1,1),(2,0),(3,0),(4,1),(5,1),(6,0),(7,0),(8,2),(9,0),(10,3)] [10] ((hS0 _).2 ⟨D,K⟩) ?_;intro _hev;refine oX ?_;refine oL ?_;intro Kc hKc;generalize w1.drew=wd9 at *;go_step;refine mK (ca _ (hA.kpN K)) fun w2 k=>?_;replace D:=D.kpN k;replace R:=R.kpN k;replace K:=K.tN k;clear k;refine hKc _ _ ((hS0 _).2 ⟨D,K⟩) ?_;clear hKc Kc;refine oX ?_;refine oA ?_;intro Kc hKc;have cR:=R.cell;have fR:=R.frozen;go_step;obtain⟨w9,hwn,RB9,kst,hzst⟩:=R.st5 (.int .i64 x.mu) (.int .i64 x.rad) (.slice B x.tr.length cc) (.int .i64 p.x) (.int .i64 p.y);rw[← hwn];clear hwn cR fR;refine hKc _ _ ((hS1 _).2 trivial) ?_;clear hKc Kc;replace D:=D.kq kst;first|replace K:=K.thenOwn kst (Nat.le_refl _) oM|replace K:=K.then_ kst (Nat.le_refl _)
 replace R:=RB9;clear RB9 kst;simp only[sbt,sc0,scs] at R;change wpOrd _ _ _ _ _ 1 _ _;refine wpOrd_nil ?_;clear hevT _hev;clear d0 d1 d2;clear cD hS0 hS1 S;have cR:=R.cell;go_wp2_with fail
 exact bodyPost_ret (v:=.agg #[x.mu,x.rad,.slice B x.tr.length cc,p.x,p.y]) (by simp[results,Tryz.results172,go_sem,cR]) rfl ⟨⟨B,x.tr.length,cc,rfl⟩,K⟩
theorem Bd.hv_ok {b:Bd} (hb:b.ok) (t:Int):(b.hv t).ok:=by
 have:=hb.pl _ (Bd.at_mem hb.tr0 t);exact⟨hb.mu0,hb.mu1,hb.rad0,hb.rad1,this.1,this.2.1,this.2.2.1,this.2.2.2⟩
theorem split_at {α:Type} (L:List α) (i:Nat) (h:i<L.length):L=L.take i++L[i]::L.drop (i+1)∧L.take i++[L[i]]=L.take (i+1):=by
 refine⟨?_,(List.take_succ_eq_append_getElem h).symm⟩;rw[← List.drop_eq_getElem_cons h,List.take_append_drop]
def pullsL (W:Wd) (t:Int) (a:Ar):List (Nat × Ar):=W.bs.zipIdx.map fun q=>(q.2,pullS mp (q.1.hv t) a)
theorem pullsL_len (W:Wd) (t:Int) (a:Ar):(pullsL W t a).length=W.bs.length:=by simp[pullsL]
theorem pullsL_at (W:Wd) (t:Int) (a:Ar) (i:Nat) (h:i<(pullsL W t a).length) (h':i<W.bs.length):(pullsL W t a)[i]=(i,pullS mp (W.bs[i].hv t) a):=by
 simp[pullsL]
def HdL (p:Nat × Ar) (v:Array Value) (_:World):Prop:=v=#[.int .i64 (p.1:Int),.agg #[.int .i64 p.2.x.lo,.int .i64 p.2.x.hi,.int .i64 p.2.y.lo,.int .i64 p.2.y.hi]]
def St3 {α:Type} (J Jx:(Nat→Prop)→List α→World→Prop) (L:List α) (i:Nat) (d go:Bool) (w:World):Prop:=
 if d=true then (if go=true then J (fun _=>False) (L.take (i+1)) w else Jx (fun _=>False) (L.take (i+1)) w) else J (fun _=>False) (L.take i) w
theorem St3.keepN {α:Type} {J Jx:(Nat→Prop)→List α→World→Prop} {L:List α} {i:Nat} {d go:Bool} {w w':World} (hJ:AbideZ J) (hJx:AbideZ Jx) (h:St3 J Jx L i d go w) (k:Kp w.heap.size none w w'):St3 J Jx L i d go w':=by
 unfold St3 at *;split
 ·
  split
  · rename_i h1 h2;rw[if_pos h1,if_pos h2] at h;exact hJ.keepN h k
  · rename_i h1 h2;rw[if_pos h1,if_neg h2] at h;exact hJx.keepN h k
 · rename_i h1;rw[if_neg h1] at h;exact hJ.keepN h k
structure G3 where
 go:Bool
 B:Option Addr
 n:Nat
 k:Nat
theorem Kz.one {M x:Nat} {w w':World} (h:Kz M (fun k=>k=x) w w'):Kp M (some x) w w':=h.kp fun k _ e=>by rw[e]
theorem pulls_seq (w0:World) (A:Option Addr) (c:Nat) (W:Wd) (t:Int) (a:Ar) (wb tb ab x:Nat) (hW:W.ok) (hM:WdAt (some x) w0 A W) (ht:0≤t∧t≤1073741824) (ha:a.bd 33554432)
  (bW:Blk w0 wb 27 #[.slice A W.bs.length c,W.home]) (bT:Blk w0 tb 2 #[t]) (bA:Blk w0 ab 53 a) (nW:wb≠x) (nT:tb≠x) (nA:ab≠x) :
  SeqZ Tryz.prog 171 #[.pointer (some ⟨wb,0,none⟩),.pointer (some ⟨tb,0,none⟩),.pointer (some ⟨ab,0,none⟩)] HdL (pullsL W t a) (fun _=>False) (fun k=>k=x) w0.heap.size (fun w'=>Kz w0.heap.size (fun k=>k=x) w0 w'):=by
 intro l J Jx W0 hl hJ hJx hY h0 hP;change Calls Tryz.prog 171 #[.func (.yield l) #[] #[],.pointer (some ⟨wb,0,none⟩),.pointer (some ⟨tb,0,none⟩),.pointer (some ⟨ab,0,none⟩)] W0 (fun e W'=>(∃ v,e=.returned v)∧(J (fun _=>False) (pullsL W t a) W'∨∃ pre,Jx (fun _=>False) pre W'));replace hY:=Lib.hid hY;have hll:=pullsL_len W t a;have hi8:=hW.n1;obtain⟨L,hL⟩:∃ L,Hid (L=pullsL W t a):=⟨_,Lib.hid rfl⟩;have hat:=fun i h h'=>pullsL_at W t a i h h';rw[← hL.out] at hY hll ⊢;have cW:=fun i=>(bW.kp hP.one bW.lt (sne nW)).cell i;go_enter Tryz.func171,Tryz.ntmps171
 go_wp2_with fail
 clear cW;go_loopw [9] (fun v wr=>∃ i:Nat,v=.int .i64 i∧i≤W.bs.length∧J (fun _=>False) (L.take i) wr∧Kz w0.heap.size (fun k=>k=x) w0 wr) (fun v _=>(W.bs.length:Int).toNat-(intOf v).toNat)
 case atStart=>exact⟨0,rfl,Nat.zero_le _,h0,hP⟩
 case round=>
  obtain⟨i,rfl,hi,hj0,hk0⟩:=hrel;clear hP h0;by_cases h:i<W.bs.length
  ·
   have hii:(i:Int)<(W.bs.length:Int):=by omega
   have hi0:(0:Int)≤(i:Int):=by omega
   have hm:(W.bs.length:Int).toNat-((i+1:Nat):Int).toNat<(W.bs.length:Int).toNat-(i:Int).toNat:=by omega
   replace hm:=Lib.hid hm
   have hxs:L=L.take i++(i,pullS mp (W.bs[i].hv t) a)::L.drop (i+1)∧L.take i++[(i,pullS mp (W.bs[i].hv t) a)]=L.take (i+1):=by
    have e:=hat i (by rw[pullsL_len];exact h) h;have s:=split_at L i (by rw[hll];exact h)
    have e2:L[i]'(by rw[hll];exact h)=(i,pullS mp (W.bs[i].hv t) a):=by
     have:=hL.out;subst this;exact e
    rw[e2] at s;exact s
   have hok:=Bd.hv_ok (hW.body _ (List.getElem_mem h)) t;have hpl:=fun B n k w=>heavy_pull_any (W.bs[i].hv t) B n k a hok ha w;obtain⟨p,hp⟩:∃ p,Hid (p=pullS mp (W.bs[i].hv t) a):=⟨_,Lib.hid rfl⟩;rw[← hp.out] at hxs hpl;replace hxs:=Lib.hid hxs;have hof:=fun w hA=>force_of_any A c W i t w hW hA h ht;obtain⟨y,hy⟩:∃ y,Hid (y=W.bs[i]):=⟨_,Lib.hid rfl⟩;rw[← hy.out] at hof hpl;clear hp hok hat hll;replace h:=Lib.hid h;go_wp2_with fail
   refine wp_region_inv (Γ:=G3) [none,none,none,none,none,none,none,none,none,none,none,none,some 0,some 1,some 2,some 3,some 4,some 5,some 6,some 7,some 8,some 9] [[],[],[],[],[],[2,3,4],[],[2,3,4,5,6],[0,1,2,3,4,5,6,7],[0,1,2,3,4,5,6,7,8]] [[1,2,3,4,5,6,7],[0,2,3,4,5,6,7],[0,1,3,4,6],[0,1,2,4,6],[0,1,2,3,6],[0,1,2,3,4,6],[0,1,2,3,4,5],[0,1,2,3,4,5,6],[0,1,2,3,4,5,6,7],[0,1,2,3,4,5,6,7,8]] (fun γ=>[.func (.yield l) #[] #[],.int .i64 i,.agg #[.slice A W.bs.length c,W.home],.int .i64 i,.int .i64 t,.agg #[y.mu,y.rad,.slice γ.B γ.n γ.k,(y.at t).x,(y.at t).y],.agg a,.agg #[p.x.lo,p.x.hi,p.y.lo,p.y.hi],.bool γ.go,.bool (!γ.go)]) (fun γ=>[none,none,none,none,none,none,none,none,none,none,none,none,some (.func (.yield l) #[] #[]),some (.int .i64 i),some (.agg #[.slice A W.bs.length c,W.home]),some (.int .i64 i),some (.int .i64 t),some (.agg #[y.mu,y.rad,.slice γ.B γ.n γ.k,(y.at t).x,(y.at t).y]),some (.agg a),some (.agg #[p.x.lo,p.x.hi,p.y.lo,p.y.hi]),some (.bool γ.go),some (.bool (!γ.go))]) ?A3_1 (fun n D γ w=>St3 J Jx L i (D 8) γ.go w∧Kz w0.heap.size (fun k=>k=x) w0 w) (fun k γ w=>True) ⟨true,none,0,0⟩ (by kernel_rfl) (fun _=>rfl) ?hA3_1 (by kernel_rfl) ?hB03_1 ?hop3_1 ?hend3_1
   case hA3_1=>intro γ;dsimp only[fullV];rfl
   case hB03_1=>
    exact⟨hJ.keepN hj0 (Kp.refl _ none _).drew,hk0.thenN (Kp.refl _ none _).drew hk0.size⟩
   case hop3_1=>
    intro hA;refine⟨oKv hA,oKv hA,?_,oKv hA,?_,?_,?_,?_,?_,oKv hA,trivial⟩
    ·
     refine oKv hA (h:=?_);intro n D γ w hB hU K hK;try dsimp only at hB
     try dsimp only
     have c1:=fun i=>(bW.kp hB.2.one bW.lt (sne nW)).cell i;have c2:=fun i=>(bT.kp hB.2.one bT.lt (sne nT)).cell i;have c3:=fun i=>(bA.kp hB.2.one bA.lt (sne nA)).cell i;clear hB hU;go_step;exact hK _ rfl
    ·
     refine oKv hA (h:=?_);intro n D γ w hB hU K hK;try dsimp only at hB
     try dsimp only
     have c1:=fun i=>(bW.kp hB.2.one bW.lt (sne nW)).cell i;have c2:=fun i=>(bT.kp hB.2.one bT.lt (sne nT)).cell i;have c3:=fun i=>(bA.kp hB.2.one bA.lt (sne nA)).cell i;clear hB hU;go_step;exact hK _ rfl
    ·
     refine opOk_l hA (fun _=>rfl) ?_;intro n D γ w hn hD hB hU K hK;try dsimp only at hB
     clear hU;replace hn:n<10:=hn;try dsimp only
     go_step;refine(hof _ (hM.kp hB.2.one).free).mono ?_;rintro e w5 ⟨⟨B9,n9,k9,rfl⟩,k5⟩;refine hK _ _ { γ with B:=B9,n:=n9,k:=k9 } rfl ⟨hB.1.keepN hJ hJx k5,hB.2.thenN k5 hB.2.size⟩ trivial ?_;exact dA
    ·
     refine oKv hA (h:=?_);intro n D γ w hB hU K hK;try dsimp only at hB
     try dsimp only
     have c1:=fun i=>(bW.kp hB.2.one bW.lt (sne nW)).cell i;have c2:=fun i=>(bT.kp hB.2.one bT.lt (sne nT)).cell i;have c3:=fun i=>(bA.kp hB.2.one bA.lt (sne nA)).cell i;clear hB hU;go_step;exact hK _ rfl
    ·
     refine opOk_l hA (fun _=>rfl) ?_;intro n D γ w hn hD hB hU K hK;try dsimp only at hB
     clear hU;replace hn:n<10:=hn;try dsimp only
     go_step;refine mK (hpl γ.B γ.n γ.k _) fun w5 k5=>?_;refine hK _ _ γ rfl ⟨hB.1.keepN hJ hJx k5,hB.2.thenN k5 hB.2.size⟩ trivial ?_;exact dA
    ·
     refine opOk_y hA (fun _=>rfl) ?_;intro n D γ w hn hD hB hU K hK;try dsimp only at hB
     clear hU;replace hn:n<10:=hn;try dsimp only
     have hs:J (fun _=>False) (L.take i) w:=by
      have:=hB.1;rw[show D 8=false from hD] at this;exact this
     refine⟨l,#[.int .i64 (i:Int),.agg #[p.x.lo,p.x.hi,p.y.lo,p.y.hi]],by simp[go_sem],(hY.out _ _ (i,p) _ _ w hxs.out.1 hs rfl).mono ?_⟩;rintro e w5 (⟨rfl,hj,k5⟩|⟨rfl,hj,k5⟩)
     ·
      refine⟨_,rfl,?_⟩;rw[hxs.out.2] at hj;refine hK _ _ { γ with go:=true } rfl ⟨hj,hB.2.trans (k5.less hB.2.size (fun _ _ e=>e))⟩ trivial ?_;exact dA
     ·
      refine⟨_,rfl,?_⟩;rw[hxs.out.2] at hj;refine hK _ _ { γ with go:=false } rfl ⟨hj,hB.2.trans (k5.less hB.2.size (fun k hk e=>by rcases e with e|e;exact e;omega))⟩ trivial ?_;exact dA
   case hend3_1=>
    intro n D γ w hn hD hB hF;replace hF:=fun k (hk:k<10)=>hF k hk;try dsimp only at hB
    try dsimp only at hF
    replace hn:n≤10:=hn;try dsimp only
    have hs:=hB.1;have hkz:=hB.2;rw[show D 8=true from hD 8 (by decide)] at hs;obtain⟨go,B9,n9,k9⟩:=γ;clear hD hB hF hn;dsimp only at hs ⊢;cases go with
    | true=>
     replace hs:=Lib.hid hs;replace hkz:=Lib.hid hkz;go_wp2
     go_roundw
     case rel=>exact⟨i+1,by congr 1,h.out,hs.out,hkz.out⟩
     case measure=>exact hm.out
    | false=>
     replace hs:=Lib.hid hs;go_wp2
     exact bodyPost_ret (v:=.tuple #[]) (by simp[results,Tryz.results171,go_sem]) rfl ⟨⟨_,rfl⟩,.inr ⟨_,hs.out⟩⟩
  ·
   obtain rfl:i=W.bs.length:=by omega
   rw[← hll,List.take_length] at hj0;go_wp2
   exact bodyPost_end (v:=.tuple #[]) (by simp[results,Tryz.results171,go_sem]) rfl ⟨⟨_,rfl⟩,.inl hj0⟩
def zeroA:Ar:=⟨⟨0,0⟩,⟨0,0⟩⟩
def accA (l:List Ar):Ar:=l.foldl sumA zeroA
theorem accA_snoc (l:List Ar) (s:Ar):accA (l++[s])=sumA (accA l) s:=by unfold accA;rw[List.foldl_append];rfl
theorem accA_bd {M:Int} (hM:0≤M):∀ (l:List Ar),(∀ a∈l,a.bd M)→(accA l).bd ((l.length:Int) * M):=by
 intro l
 have key:∀ (l:List Ar) (o:Ar) (B:Int),o.bd B→(∀ a∈l,a.bd M)→(l.foldl sumA o).bd (B+(l.length:Int) * M):=by
  intro l;induction l with
  | nil=>intro o B ho _;simpa using ho
  | cons a r ih=>
   intro o B ho ha;have:=ih (sumA o a) (B+M) ⟨addS_bd ho.1 (ha a (by simp)).1,addS_bd ho.2 (ha a (by simp)).2⟩ (fun x hx=>ha x (by simp[hx]));have e:B+M+(r.length:Int) * M=B+((r.length+1:Nat):Int) * M:=by push_cast;grind
   rw[List.length_cons,List.foldl_cons,← e];exact this
 intro h;have:=key l zeroA 0 ⟨by unfold Sp.bd zeroA;simp,by unfold Sp.bd zeroA;simp⟩ h;rwa [Int.zero_add] at this
structure SumR (w0:World) (r x9 y9:Nat) (acc acc2 e:Ar) (d:Bool) (w:World):Prop where
 O:Blk w x9 53 (if d=true then acc2 else acc)
 X:Blk w y9 53 e
 R:Blk w r 53 #[(0:Int),(0:Int),(0:Int),(0:Int)]
 K:Kp w0.heap.size none w0 w
 g0:w0.heap.size≤r
 g1:r<x9
 g2:x9<y9
theorem SumR.kpN {w0:World} {r x9 y9:Nat} {acc acc2 e:Ar} {d:Bool} {w w':World} (h:SumR w0 r x9 y9 acc acc2 e d w) (k:Kp w.heap.size none w w'):SumR w0 r x9 y9 acc acc2 e d w':=
 ⟨h.O.kpN k,h.X.kpN k,h.R.kpN k,h.K.tN k,h.g0,h.g1,h.g2⟩
def SumAt (w0:World) (xs:List Ar) (T:TypeId) (v:Value) (wr:World):Prop:=∃ i:Nat,v=.int .i64 i∧i≤xs.length∧Blk wr (w0.heap.size+1) T #[(accA (xs.take i)).x.lo,(accA (xs.take i)).x.hi,(accA (xs.take i)).y.lo,(accA (xs.take i)).y.hi]∧Blk wr w0.heap.size T #[(0:Int),(0:Int),(0:Int),(0:Int)]∧Kp w0.heap.size none w0 wr
def SlB (w:World) (n x9:Nat) (p q:Sp):Prop:=Blk w n 29 #[p.lo,p.hi,q.lo,q.hi]∧x9<n
structure GS where
 n1:Nat
 n2:Nat
 c1:Bool
 c7:Bool
theorem SlB.kpN {w w':World} {n x9:Nat} {p q:Sp} (h:SlB w n x9 p q) (k:Kp w.heap.size none w w'):SlB w' n x9 p q:=⟨h.1.kpN k,h.2⟩
theorem SlB.kp {w w':World} {n x9:Nat} {p q:Sp} (h:SlB w n x9 p q) (k:Kp w.heap.size (some x9) w w'):SlB w' n x9 p q:=⟨h.1.kp k h.1.lt (sne (by have:=h.2;omega)),h.2⟩
theorem force_sum_any (A:Option Addr) (cap:Nat) (xs:List Ar) (M:Int) (w0:World) (hr:Rd none w0 4 encAr A xs.length xs) (hn:xs.length≤8) (hM:0≤M∧M≤1099511627776) (hx:∀ a∈xs,a.bd M) :
  Calls Tryz.prog 154 #[.slice A xs.length cap] w0 fun e w'=>e=.returned (.agg #[(accA xs).x.lo,(accA xs).x.hi,(accA xs).y.lo,(accA xs).y.hi])∧Kp w0.heap.size none w0 w':=by
 obtain⟨w1,hw1,R,O,K,hz⟩:=box2 w0 53 #[(0:Int),(0:Int),(0:Int),(0:Int)] 53 #[(0:Int),(0:Int),(0:Int),(0:Int)];go_enter Tryz.func154,Tryz.ntmps154
 go_wp2_with fail
 rw[← hw1];clear hw1;go_loopw [8] (fun v wr=>SumAt w0 xs 53 v wr) (fun v _=>(xs.length:Int).toNat-(intOf v).toNat)
 case atStart=>exact⟨0,rfl,Nat.zero_le _,O,R,K⟩
 case round=>
  obtain⟨i,rfl,hi,O1,R1,K1⟩:=hrel;clear O R K;have K:=K1;clear K1;have hz0:=K.size;by_cases h:i<xs.length
  ·
   obtain⟨b,o,rfl,hb,-,hc⟩:=(hr.kpN K).at_ oM;have c0:=hc i h 0 _ rfl;have c1:=hc i h 1 _ rfl;have c2:=hc i h 2 _ rfl;have c3:=hc i h 3 _ rfl;rw[Nat.add_zero] at c0;rw[← Nat.add_assoc] at c1 c2 c3;have hxi:=hx _ (List.getElem_mem h);have ba:=accA_bd hM.1 (xs.take i) (fun a ha=>hx a (List.mem_of_mem_take ha));rw[List.length_take,Nat.min_eq_left hi] at ba;have hiM:(i:Int) * M≤8 * 1099511627776:=Int.mul_le_mul oM hM.2 hM.1 oM;obtain⟨acc2,h2⟩:∃ q9,Hid (q9=accA (xs.take (i+1))):=⟨_,Lib.hid rfl⟩;have ea:acc2=sumA (accA (xs.take i)) xs[i]:=by rw[h2.out,List.take_succ_eq_append_getElem h,accA_snoc]
   generalize accA (xs.take i)=acc at *;generalize xs[i]=x at *;have m1:acc.bd 9007199254740992:=by unfold Ar.bd Sp.bd at *;omega
   have m2:x.bd 9007199254740992:=by unfold Ar.bd Sp.bd at *;omega
   have e1:addS acc.x x.x=acc2.x:=by rw[ea];rfl
   have e2:addS acc.y x.y=acc2.y:=by rw[ea];rfl
   have ad1:=fun (w:World) (n x9:Nat) (hB:SlB w n x9 acc.x x.x)=>force_add2 n acc.x x.x 9007199254740992 w _ hB.1 m1.1 m2.1 (by decide);have ad2:=fun (w:World) (n x9:Nat) (hB:SlB w n x9 acc.y x.y)=>force_add2 n acc.y x.y 9007199254740992 w _ hB.1 m1.2 m2.2 (by decide);rw[e1] at ad1;rw[e2] at ad2;have hii:(i:Int)<(xs.length:Int):=by omega
   have hi0:(0:Int)≤(i:Int):=by omega
   have hm:(xs.length:Int).toNat-((i+1:Nat):Int).toNat<(xs.length:Int).toNat-(i:Int).toNat:=by omega
   replace hm:=Lib.hid hm;have hlt:b<wr.heap.size:=hb;clear hc hr hx hxi ea e1 e2 m1 m2 ba hiM;have kd:=Kp.new1 wr (.cells #[x.x.lo,x.x.hi,x.y.lo,x.y.hi] 53);have d0:=(kd.cell b _ hlt (by simp)).trans c0;have d1:=(kd.cell b _ hlt (by simp)).trans c1;have d2:=(kd.cell b _ hlt (by simp)).trans c2;have d3:=(kd.cell b _ hlt (by simp)).trans c3;have hg:=O1.lt;have pO1:=O1.cell;have pR1:=R1.cell;obtain⟨w9_,rfl,X,k9_,hzn⟩:=box1 wr 53 #[x.x.lo,x.x.hi,x.y.lo,x.y.hi];replace O1:=O1.kpN k9_;replace R1:=R1.kpN k9_;replace K:=K.thenN k9_ oU;clear k9_;have cO1:=O1.cell;have fO1:=O1.frozen;have cR1:=R1.cell;have fR1:=R1.frozen;go_wp2_with fail
   clear cO1 fO1 pO1 cR1 fR1 pR1;generalize (wr.alloc (.cells #[x.x.lo,x.x.hi,x.y.lo,x.y.hi] 53))=w2 at *;obtain⟨y9,hx⟩:∃ q9,q9=wr.heap.size:=⟨_,rfl⟩;rw[← hx] at X ⊢;replace hx:=Lib.hid hx;have hgy:w0.heap.size+1<y9:=by have:=hx.out;omega
   clear c0 c1 c2 c3 d0 d1 d2 d3 hx hzn hg kd;replace h:=Lib.hid h;obtain⟨o9,ho9⟩:∃ q9,q9=w0.heap.size+1:=⟨_,rfl⟩;have H0:SumR w0 w0.heap.size o9 y9 acc acc2 x false w2:=⟨by rw[ho9];exact O1,X,R1,K,Nat.le_refl _,by omega,by omega⟩;rw[← ho9];clear O1 X R1 K hgy;replace ho9:=Lib.hid ho9;refine wp_region_inv (Γ:=GS) [none,none,none,none,none,none,none,none,none,none,none,none,some 0,some 1,some 2,some 3,some 4,some 5,some 6,some 7,some 8,some 9,some 10,some 11,some 12] [[],[0],[],[2],[0,1,2,3],[0,1,2,3,4],[],[6],[],[8],[6,7,8,9],[0,1,2,3,4,5,6,7,8,9,10],[0,1,2,3,4,5,6,7,8,9,10,11],[0,1,2,3,4,5,6,7,8,9,10,11,12]] [[2,3,6,7,8,9,10],[0,2,3,6,7,8,9,10],[0,1,6,7,8,9,10],[0,1,2,6,7,8,9,10],[0,1,2,3,6,7,8,9,10],[0,1,2,3,4,6,7,8,9,10],[0,1,2,3,4,5,8,9],[0,1,2,3,4,5,6,8,9],[0,1,2,3,4,5,6,7],[0,1,2,3,4,5,6,7,8],[0,1,2,3,4,5,6,7,8,9],[0,1,2,3,4,5,6,7,8,9,10],[0,1,2,3,4,5,6,7,8,9,10,11],[0,1,2,3,4,5,6,7,8,9,10,11,12]] (fun γ=>[.pointer (some ⟨o9,0,none⟩),.agg acc.x,.pointer (some ⟨y9,0,none⟩),.agg x.x,.slice (some ⟨γ.n1,0,none⟩) 2 2,.agg acc2.x,.pointer (some ⟨o9,2,none⟩),.agg acc.y,.pointer (some ⟨y9,2,none⟩),.agg x.y,.slice (some ⟨γ.n2,0,none⟩) 2 2,.agg acc2.y,.agg #[acc2.x.lo,acc2.x.hi,acc2.y.lo,acc2.y.hi],undef]) (fun γ=>[none,none,none,none,none,none,none,none,none,none,none,none,some (.pointer (some ⟨o9,0,none⟩)),some (.agg acc.x),some (.pointer (some ⟨y9,0,none⟩)),some (.agg x.x),some (.slice (some ⟨γ.n1,0,none⟩) 2 2),some (.agg acc2.x),some (.pointer (some ⟨o9,2,none⟩)),some (.agg acc.y),some (.pointer (some ⟨y9,2,none⟩)),some (.agg x.y),some (.slice (some ⟨γ.n2,0,none⟩) 2 2),some (.agg acc2.y),some (.agg #[acc2.x.lo,acc2.x.hi,acc2.y.lo,acc2.y.hi])]) ?A5_1 (fun n D γ w=>SumR w0 w0.heap.size o9 y9 acc acc2 x (D 13) w∧(γ.c1=true→D 1=true)∧(γ.c7=true→D 7=true)∧(D 13=true→γ.c1=true∧γ.c7=true)) (fun k γ w=>match k with|1=>γ.c1=true|4=>SlB w γ.n1 o9 acc.x x.x|7=>γ.c7=true|10=>SlB w γ.n2 o9 acc.y x.y|_=>True) ⟨0,0,false,false⟩ (by kernel_rfl) (fun _=>rfl) ?hA5_1 (by kernel_rfl) ?hB05_1 ?hop5_1 ?hend5_1
   case hA5_1=>intro γ;dsimp only[fullV];rfl
   case hB05_1=>
    exact⟨H0.kpN (Kp.refl _ none _).drew,fun e=>(by cases e),fun e=>(by cases e),fun e=>(by cases e)⟩
   case hop5_1=>
    intro hA;refine⟨oKv hA,?_,oKv hA,?_,?_,?_,oKv hA,?_,oKv hA,?_,?_,?_,oKv hA,?_,trivial⟩
    ·
     refine opOk_l hA (fun _=>rfl) ?_;intro n D γ w hn hD hB hU K hK;try dsimp only at hB
     clear hU;replace hn:n<14:=hn;try dsimp only
     have hc:D 13=false:=by
      cases hq:D 13 with
      | false=>rfl
      | true=>
       have q:=hB.2.1 (hB.2.2.2 hq).1;rw[hD] at q;cases q
     have cO:=fun i=>hB.1.O.cell i;simp only[hc,Bool.false_eq_true,if_false] at cO;go_step;refine hK _ _ { γ with c1:=true } rfl ⟨hB.1,fun _=>rfl,hB.2.2.1,fun e=>⟨rfl,(hB.2.2.2 e).2⟩⟩ rfl ?_;exact dA
    ·
     refine oKv hA (h:=?_);intro n D γ w hB hU K hK;try dsimp only at hB
     try dsimp only
     have cX:=fun i=>hB.1.X.cell i;clear hB hU;go_step;exact hK _ rfl
    ·
     refine opOk_l hA (fun _=>rfl) ?_;intro n D γ w hn hD hB hU K hK;try dsimp only at hB
     replace hU:(γ.c1=true):=hU.2.1;replace hn:n<14:=hn;try dsimp only
     go_step;obtain⟨w5,hw5⟩:∃ w5,w5=w.alloc (.cells #[acc.x.lo,acc.x.hi,x.x.lo,x.x.hi] 29):=⟨_,rfl⟩;have k5:Kp w.heap.size none w w5:=hw5 ▸ Kp.new1 _ _;have hBn:Blk w5 w.heap.size 29 #[acc.x.lo,acc.x.hi,x.x.lo,x.x.hi]:=hw5 ▸ Blk.new _ _ _;rw[← hw5];have go9:=hB.1.O.lt;have s10:SlB w γ.n2 o9 acc.y x.y→SlB w5 γ.n2 o9 acc.y x.y:=fun q=>q.kpN k5;refine hK _ _ { γ with n1:=w.heap.size } rfl ⟨hB.1.kpN k5,hB.2⟩ ⟨hBn,go9⟩ ?_;exact dA
    ·
     refine opOk_l hA (fun _=>rfl) ?_;intro n D γ w hn hD hB hU K hK;try dsimp only at hB
     replace hU:(γ.c1=true)∧(SlB w γ.n1 o9 acc.x x.x):=⟨hU.2.1,hU.2.2.2.2.1⟩;replace hn:n<14:=hn;try dsimp only
     go_step;refine mK (ad1 _ γ.n1 o9 hU.2) fun w5 k5=>?_;have s4:SlB w γ.n1 o9 acc.x x.x→SlB w5 γ.n1 o9 acc.x x.x:=fun q=>q.kpN k5;have s10:SlB w γ.n2 o9 acc.y x.y→SlB w5 γ.n2 o9 acc.y x.y:=fun q=>q.kpN k5;refine hK _ _ γ rfl ⟨hB.1.kpN k5,hB.2⟩ trivial ?_;exact dA
    ·
     refine opOk_l hA (fun _=>rfl) ?_;intro n D γ w hn hD hB hU K hK;try dsimp only at hB
     clear hU;replace hn:n<14:=hn;try dsimp only
     have hc:D 13=false:=by
      cases hq:D 13 with
      | false=>rfl
      | true=>
       have q:=hB.2.2.1 (hB.2.2.2 hq).2;rw[hD] at q;cases q
     have cO:=fun i=>hB.1.O.cell i;simp only[hc,Bool.false_eq_true,if_false] at cO;go_step;refine hK _ _ { γ with c7:=true } rfl ⟨hB.1,hB.2.1,fun _=>rfl,fun e=>⟨(hB.2.2.2 e).1,rfl⟩⟩ rfl ?_;exact dA
    ·
     refine oKv hA (h:=?_);intro n D γ w hB hU K hK;try dsimp only at hB
     try dsimp only
     have cX:=fun i=>hB.1.X.cell i;clear hB hU;go_step;exact hK _ rfl
    ·
     refine opOk_l hA (fun _=>rfl) ?_;intro n D γ w hn hD hB hU K hK;try dsimp only at hB
     replace hU:(γ.c7=true):=hU.2.1;replace hn:n<14:=hn;try dsimp only
     go_step;obtain⟨w5,hw5⟩:∃ w5,w5=w.alloc (.cells #[acc.y.lo,acc.y.hi,x.y.lo,x.y.hi] 29):=⟨_,rfl⟩;have k5:Kp w.heap.size none w w5:=hw5 ▸ Kp.new1 _ _;have hBn:Blk w5 w.heap.size 29 #[acc.y.lo,acc.y.hi,x.y.lo,x.y.hi]:=hw5 ▸ Blk.new _ _ _;rw[← hw5];have go9:=hB.1.O.lt;have s4:SlB w γ.n1 o9 acc.x x.x→SlB w5 γ.n1 o9 acc.x x.x:=fun q=>q.kpN k5;refine hK _ _ { γ with n2:=w.heap.size } rfl ⟨hB.1.kpN k5,hB.2⟩ ⟨hBn,go9⟩ ?_;exact dA
    ·
     refine opOk_l hA (fun _=>rfl) ?_;intro n D γ w hn hD hB hU K hK;try dsimp only at hB
     replace hU:(γ.c1=true)∧(SlB w γ.n1 o9 acc.x x.x)∧(γ.c7=true)∧(SlB w γ.n2 o9 acc.y x.y):=⟨hU.2.1,hU.2.2.2.2.1,hU.2.2.2.2.2.2.2.1,hU.2.2.2.2.2.2.2.2.2.2.1⟩;replace hn:n<14:=hn;try dsimp only
     go_step;refine mK (ad2 _ γ.n2 o9 hU.2.2.2) fun w5 k5=>?_;have s4:SlB w γ.n1 o9 acc.x x.x→SlB w5 γ.n1 o9 acc.x x.x:=fun q=>q.kpN k5;have s10:SlB w γ.n2 o9 acc.y x.y→SlB w5 γ.n2 o9 acc.y x.y:=fun q=>q.kpN k5;refine hK _ _ γ rfl ⟨hB.1.kpN k5,hB.2⟩ trivial ?_;exact dA
    ·
     refine opOk_l hA (fun _=>rfl) ?_;intro n D γ w hn hD hB hU K hK;try dsimp only at hB
     replace hU:(γ.c1=true)∧(SlB w γ.n1 o9 acc.x x.x)∧(γ.c7=true)∧(SlB w γ.n2 o9 acc.y x.y):=⟨hU.2.1,hU.2.2.2.2.1,hU.2.2.2.2.2.2.2.1,hU.2.2.2.2.2.2.2.2.2.2.1⟩;replace hn:n<14:=hn;try dsimp only
     have hO:=hB.1.O;rw[show D 13=false from hD,if_neg (by decide)] at hO;have cO:=hO.cell;have fO:=hO.frozen;go_step;obtain⟨w5,hw5,O9,kst,hzst⟩:=hO.st4 (.int .i64 acc2.x.lo) (.int .i64 acc2.x.hi) (.int .i64 acc2.y.lo) (.int .i64 acc2.y.hi);rw[← hw5];simp only[sbt,sc0,scs] at O9;have s4:SlB w γ.n1 o9 acc.x x.x→SlB w5 γ.n1 o9 acc.x x.x:=fun q=>q.kp kst;have s10:SlB w γ.n2 o9 acc.y x.y→SlB w5 γ.n2 o9 acc.y x.y:=fun q=>q.kp kst;have g0:=hB.1.g0;have g1:=hB.1.g1;have g2:=hB.1.g2;refine hK _ _ γ rfl ⟨⟨by show Blk w5 o9 _ (if true=true then _ else _);rw[if_pos rfl];exact O9,hB.1.X.kp kst hB.1.X.lt oN,hB.1.R.kp kst hB.1.R.lt oN,hB.1.K.thenOwn kst (Nat.le_refl _) oM,g0,g1,g2⟩,hB.2.1,hB.2.2.1,fun _=>⟨hU.1,hU.2.2.1⟩⟩ trivial ?_;exact dA
   case hend5_1=>
    intro n D γ w hn hD hB hF;replace hF:=fun k (hk:k<14)=>hF k hk;replace hF:=(⟨hF 1 (by decide),hF 4 (by decide),hF 7 (by decide),hF 10 (by decide)⟩:_∧_∧_∧_);try dsimp only at hB
    try dsimp only at hF
    replace hn:n≤14:=hn;try dsimp only
    have H1:=hB.1;rw[show D 13=true from hD 13 (by decide)] at H1;obtain⟨O,X,R,K,g0,g1,g2⟩:=H1;rw[if_pos rfl] at O;clear hB hD hF hn X g0 g1 g2;have e9:=ho9.out;clear ho9;subst e9;have O2:Blk w (w0.heap.size+1) 53 #[.int .i64 (accA (xs.take (i+1))).x.lo,.int .i64 (accA (xs.take (i+1))).x.hi,.int .i64 (accA (xs.take (i+1))).y.lo,.int .i64 (accA (xs.take (i+1))).y.hi]:=by rw[← h2.out];exact O
    clear O;replace O2:=Lib.hid O2;replace R:=Lib.hid R;go_wp2
    go_roundw
    case rel=>exact⟨i+1,by congr 1,h.out,O2.out,R.out,K⟩
    case measure=>exact hm.out
  ·
   obtain rfl:i=xs.length:=by omega
   rw[List.take_length] at O1;clear hx hr h hi;have cO1:=O1.cell;have fO1:=O1.frozen;have cR1:=R1.cell;have fR1:=R1.frozen;go_wp2_with fail
   clear cO1 fO1 cR1 fR1;have R:=R1;have BR:=((((R.set_ 0 (.int .i64 (accA xs).x.lo)).set_ 1 (.int .i64 (accA xs).x.hi)).set_ 2 (.int .i64 (accA xs).y.lo)).set_ 3 (.int .i64 (accA xs).y.hi));have cR:=BR.cell;exact bodyPost_ret (by simp[results,Tryz.results154,go_sem,cR]) rfl ⟨rfl,((((K.setNew (by simp<;>omega) _).setNew (by simp<;>omega) _).setNew (by simp<;>omega) _).setNew (by simp<;>omega) _)⟩
end Go.Proofs.YtdhiappifnflpaaGreatDoor
