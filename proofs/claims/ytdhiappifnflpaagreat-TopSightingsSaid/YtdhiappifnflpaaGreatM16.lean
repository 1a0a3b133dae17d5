/- What moves a small body: the walks of force, fifth part. Worlds in memory: the walks of sky, first part. What moves a small body: the walks of force, sixth part. -/
import Derived.Test.YtdhiappifnflpaaGreatVh
import Derived.Test.YtdhiappifnflpaaGreatM12
set_option maxHeartbeats 2000000
namespace Go.Proofs.YtdhiappifnflpaaGreat
open Go.RowKit
theorem distS_bd {h:Hv} {a:Ar} (hh:h.ok) (ha:a.bd 33554432):1≤(distS h a).lo∧(distS h a).lo≤(distS h a).hi∧(distS h a).hi≤2252336716597248:=by
 have hb:=toA_bd hh ha;have e1:=edge_bd hh;have q1:=squareS_bd hb.1;have q2:=squareS_bd hb.2;unfold distS addS;simp only;omega
theorem rootsS_bd {q:Sp} (h:1≤q.lo∧q.lo≤q.hi∧q.hi≤2252336716597248):1≤(rootsS q).lo∧(rootsS q).lo≤(rootsS q).hi∧(rootsS q).hi≤1073741825:=by
 have o:=rootsS_ok h.1 h.2.1;refine⟨o.1,o.2,?_⟩;have r:=isq_root (n:=q.hi) oM
 have:isq q.hi≤1073741824:=by
  rcases Int.lt_or_le 1073741824 (isq q.hi) with g|g
  ·
   have:=Int.mul_le_mul (show 1073741825≤isq q.hi by omega) (show 1073741825≤isq q.hi by omega) oM oM;have:=r.2.1;omega
  · exact g
 unfold rootsS rootUp;simp only;split<;>omega
theorem heavy_pull_any (h:Hv) (A:Option Addr) (n c:Nat) (a:Ar) (hh:h.ok) (ha:a.bd 33554432) (w:World) :
  Calls Tryz.prog 211 #[.agg #[h.mu,h.rad,.slice A n c,h.ax,h.ay],a] w fun e w'=>e=.returned (.agg #[(pullS mp h a).x.lo,(pullS mp h a).x.hi,(pullS mp h a).y.lo,(pullS mp h a).y.hi])∧Kp w.heap.size none w w':=by
 have ht:=fun w=>heavy_to_any h A n c a hh ha w;have hd:=fun w=>heavy_distances_any h A n c a hh ha w;have hb:=toA_bd hh ha;have db:=distS_bd hh ha;have rb:=rootsS_bd db;have t1:=fun w=>heavy_toward_any h A n c (h.toA a).x (distS h a) (rootsS (distS h a)) hh (by have:=hb.1;unfold Sp.bd at *;omega) oM oM w;have t2:=fun w=>heavy_toward_any h A n c (h.toA a).y (distS h a) (rootsS (distS h a)) hh (by have:=hb.2;unfold Sp.bd at *;omega) oM oM w;have e:pullS mp h a=⟨towardS h.mu mp (h.toA a).x (distS h a) (rootsS (distS h a)),towardS h.mu mp (h.toA a).y (distS h a) (rootsS (distS h a))⟩:=rfl;rw[e];simp only;clear e rb db hb hh ha;generalize towardS h.mu mp (h.toA a).x (distS h a) (rootsS (distS h a))=u1 at *;generalize towardS h.mu mp (h.toA a).y (distS h a) (rootsS (distS h a))=u2 at *;generalize rootsS (distS h a)=r at *;generalize distS h a=q at *;generalize h.toA a=v at *;obtain⟨w1,hw1,H,B,R,K,hz⟩:=box3 w 287 #[h.mu,h.rad,.slice A n c,h.ax,h.ay] 167 a 167 #[(0:Int),(0:Int),(0:Int),(0:Int)];go_enter Tryz.func211,Tryz.ntmps211
 go_wp2_with fail
 rw[← hw1];clear hw1;refine mK (hd _) fun w2 k=>?_;replace H:=H.kpN k;replace B:=B.kpN k;replace R:=R.kpN k;replace K:=K.thenN k oM;have hzk:=k.size;clear k;have pH:=H.cell;have pB:=B.cell;have pR:=R.cell;obtain⟨w9_,rfl,Q1,Q2,k9_,hzn⟩:=box2 w2 29 #[q.lo,q.hi] 29 #[r.lo,r.hi];replace H:=H.kpN k9_;replace B:=B.kpN k9_;replace R:=R.kpN k9_;replace K:=K.thenN k9_ oU;clear k9_;have cH:=H.cell;have fH:=H.frozen;have cB:=B.cell;have fB:=B.frozen;have cR:=R.cell;have fR:=R.frozen;go_wp2_with fail
 clear cH fH pH cB fB pB cR fR pR;generalize ((w2.alloc (.cells #[q.lo,q.hi] 29)).alloc (.cells #[r.lo,r.hi] 29))=w3 at *;obtain⟨x,hx⟩:∃ q9,q9=w2.heap.size:=⟨_,rfl⟩;rw[← hx] at Q1 Q2 ⊢;replace hx:=Lib.hid hx;have hxn:w.heap.size+3≤x:=by have:=hx.out;omega
 have hxz:x+2=w3.heap.size:=by have:=hx.out;omega
 clear hx hzn hzk hz;refine mK (ht _) fun w4 k=>?_;replace H:=H.kpN k;replace B:=B.kpN k;replace R:=R.kpN k;replace Q1:=Q1.kpN k;replace Q2:=Q2.kpN k;replace K:=K.tN k;have hk:=k.size;clear k;have hz4:w.heap.size≤w4.heap.size:=by omega
 have pH:=H.cell;have pB:=B.cell;have pR:=R.cell;have pQ1:=Q1.cell;have pQ2:=Q2.cell;obtain⟨w9_,rfl,V,k9_,hzn⟩:=box1 w4 167 #[v.x.lo,v.x.hi,v.y.lo,v.y.hi];replace H:=H.kpN k9_;replace B:=B.kpN k9_;replace R:=R.kpN k9_;replace Q1:=Q1.kpN k9_;replace Q2:=Q2.kpN k9_;replace K:=K.thenN k9_ oU;clear k9_;have cH:=H.cell;have fH:=H.frozen;have cB:=B.cell;have fB:=B.frozen;have cR:=R.cell;have fR:=R.frozen;have cQ1:=Q1.cell;have fQ1:=Q1.frozen;have cQ2:=Q2.cell;have fQ2:=Q2.frozen;go_wp2_with fail
 clear cH fH pH cB fB pB cR fR pR cQ1 fQ1 pQ1 cQ2 fQ2 pQ2;generalize (w4.alloc (.cells #[v.x.lo,v.x.hi,v.y.lo,v.y.hi] 167))=w5 at *;obtain⟨y,hx⟩:∃ q9,q9=w4.heap.size:=⟨_,rfl⟩;rw[← hx] at V ⊢;replace hx:=Lib.hid hx;have hyn:x+2≤y:=by have:=hx.out;omega
 clear hx hzn hk hz4;obtain⟨S,hS0,hS1⟩:=cls_of2 (P:=fun w'=>Blk w' _ _ _∧Blk w' _ _ _∧Blk w' _ _ _∧Blk w' _ _ _∧Blk w' _ _ _∧Kp _ _ _ w') w5 ⟨H,B,Q1,Q2,V,K⟩;try dsimp only at hS0
 have cH:=fun (x:Ev (S 0)) i=>((hS0 _).1 x.h).1.cell i;have cB:=fun (x:Ev (S 0)) i=>((hS0 _).1 x.h).2.1.cell i;have cQ1:=fun (x:Ev (S 0)) i=>((hS0 _).1 x.h).2.2.1.cell i;have cQ2:=fun (x:Ev (S 0)) i=>((hS0 _).1 x.h).2.2.2.1.cell i;have cV:=fun (x:Ev (S 0)) i=>((hS0 _).1 x.h).2.2.2.2.1.cell i;replace H:=H.drew;replace B:=B.drew;replace Q1:=Q1.drew;replace Q2:=Q2.drew;replace V:=V.drew;replace K:=K.drew;replace R:=R.drew;have hevT:=ev_true;refine wro S [(0,1),(1,0),(2,1),(3,1),(4,1),(6,1),(7,0),(8,1),(9,1),(10,1),(5,2),(11,2),(12,0),(13,3)] [13] ((hS0 _).2 ⟨H,B,Q1,Q2,V,K⟩) ?_;intro _hev;refine oX ?_;refine oL ?_;intro Kc hKc;generalize w5.drew=wd9 at *;go_step;refine mK (t1 _) fun w6 k=>?_;replace H:=H.kpN k;replace B:=B.kpN k;replace Q1:=Q1.kpN k;replace Q2:=Q2.kpN k;replace V:=V.kpN k;replace R:=R.kpN k;replace K:=K.tN k;clear k;refine hKc _ _ ((hS0 _).2 ⟨H,B,Q1,Q2,V,K⟩) ?_;clear hKc Kc;refine oL ?_;intro Kc hKc;go_step;refine mK (t2 _) fun w7 k=>?_;replace H:=H.kpN k;replace B:=B.kpN k;replace Q1:=Q1.kpN k;replace Q2:=Q2.kpN k;replace V:=V.kpN k;replace R:=R.kpN k;replace K:=K.tN k;clear k;refine hKc _ _ ((hS0 _).2 ⟨H,B,Q1,Q2,V,K⟩) ?_;clear hKc Kc;refine oX ?_;refine oA ?_;intro Kc hKc;have cR:=R.cell;have fR:=R.frozen;go_step;obtain⟨w9,hwn,RB9,kst,hzst⟩:=R.st4 (.int .i64 u1.lo) (.int .i64 u1.hi) (.int .i64 u2.lo) (.int .i64 u2.hi);rw[← hwn];clear hwn cR fR;refine hKc _ _ ((hS1 _).2 trivial) ?_;clear hKc Kc;replace H:=H.kq kst;replace B:=B.kq kst;replace Q1:=Q1.kq kst;replace Q2:=Q2.kq kst;replace V:=V.kq kst;first|replace K:=K.thenOwn kst (Nat.le_refl _) oM|replace K:=K.then_ kst (Nat.le_refl _)
 replace R:=RB9;clear RB9 kst;simp only[sbt,sc0,scs] at R;change wpOrd _ _ _ _ _ 1 _ _;refine wpOrd_nil ?_;clear hevT _hev;clear cH cB cQ1 cQ2 cV hS0 hS1 S;have cR:=R.cell;go_wp2_with fail
 exact bodyPost_ret (by simp[results,Tryz.results211,go_sem,cR]) rfl ⟨rfl,K⟩
def encBd (x:Bd × Option Addr × Nat):List Value:=[.int .i64 x.1.mu,.int .i64 x.1.rad,.slice x.2.1 x.1.tr.length x.2.2]
def WdAt (row:Option Nat) (w:World) (A:Option Addr) (W:Wd):Prop:=
 ∃ l:List (Bd × Option Addr × Nat),l.map (·.1)=W.bs∧Rd row w 3 encBd A W.bs.length l∧∀ x∈l,Rd row w 2 encPt x.2.1 x.1.tr.length x.1.tr
section
variable {row:Option Nat} {w w':World} {A:Option Addr} {W:Wd}
theorem WdAt.kp (h:WdAt row w A W) (k:Kp w.heap.size row w w'):WdAt row w' A W:=by
 obtain⟨l,h1,h2,h3⟩:=h;exact⟨l,h1,h2.kp k,fun x hx=>(h3 x hx).kp k⟩
theorem WdAt.kpN (h:WdAt row w A W) (k:Kp w.heap.size none w w'):WdAt row w' A W:=h.kp (k.wide row)
theorem WdAt.free (h:WdAt row w A W):WdAt none w A W:=by
 obtain⟨l,h1,h2,h3⟩:=h;exact⟨l,h1,h2.free,fun x hx=>(h3 x hx).free⟩
theorem WdAt.drew (h:WdAt row w A W):WdAt row w.drew A W:=h
theorem WdAt.body (h:WdAt row w A W) (i:Nat) (hi:i<W.bs.length):∃ b o B c,A=some ⟨b,o,none⟩∧b<w.heap.size∧w.cell? ⟨b,o+i * 3,none⟩=some (.int .i64 W.bs[i].mu)∧w.cell? ⟨b,o+i * 3+1,none⟩=some (.int .i64 W.bs[i].rad) ∧
  w.cell? ⟨b,o+i * 3+2,none⟩=some (.slice B W.bs[i].tr.length c)∧Rd row w 2 encPt B W.bs[i].tr.length W.bs[i].tr:=by
 obtain⟨l,h1,h2,h3⟩:=h;obtain⟨b,o,rfl,hb,-,hc⟩:=h2.at_ oM;have hl:i<l.length:=by rw[h2.len];exact hi
 have e:W.bs[i]=l[i].1:=by simp only[← h1,List.getElem_map]
 have r:=h3 l[i] (List.getElem_mem hl);rw[e];refine⟨b,o,l[i].2.1,l[i].2.2,rfl,hb,?_,?_,?_,r⟩
 · have:=hc i hl 0 _ rfl;rwa [Nat.add_zero] at this
 · have:=hc i hl 1 _ rfl;rwa [← Nat.add_assoc] at this
 · have:=hc i hl 2 _ rfl;rwa [← Nat.add_assoc] at this
end
theorem sky_within_t {n lo hi:Int} (h1:lo≤n) (h2:n≤hi) (w:World):Calls Tryz.prog 124 #[n,lo,hi] w fun e w'=>e=.returned (.bool true)∧Kp w.heap.size none w w':=by
 have:=sky_within_any n lo hi w;rwa [btw_t h1 h2] at this
theorem sky_near_any (p:Pt) (m:Int) (hm:0≤m∧m≤1152921504606846976) (w:World) :
  Calls Tryz.prog 79 #[.agg #[p.x,p.y],m] w fun e w'=>e=.returned (.bool (btw p.x (-m) m&&btw p.y (-m) m))∧Kp w.heap.size none w w':=by
 have e1:wrap64 (-m)=-m:=by unfold wrap64;omega
 have c1:=fun w=>sky_within_any p.x (-m) m w;have c2:=fun w=>sky_within_any p.y (-m) m w;generalize btw p.x (-m) m=x at *;generalize btw p.y (-m) m=y at *;clear hm;obtain⟨w1,hw1,B,K,hz⟩:=box1 w 73 #[p.x,p.y];go_enter Tryz.func79,Tryz.ntmps79
 go_wp2_with fail
 rw[← hw1];clear hw1;refine mK (c1 _) fun w2 k=>?_;replace B:=B.kpN k;replace K:=K.thenN k oM;have hzk:=k.size;clear k;cases x
 ·
  have cB:=B.cell;have fB:=B.frozen;go_wp2_with fail
  clear cB fB;go_ret
  exact⟨rfl,K⟩
 ·
  have cB:=B.cell;have fB:=B.frozen;go_wp2_with fail
  refine mK (c2 _) fun w3 k=>?_;clear cB fB;replace B:=B.kpN k;replace K:=K.thenN k oM;have hzk:=k.size;clear k;have cB:=B.cell;have fB:=B.frozen;go_wp2_with fail
  clear cB fB;go_ret
  exact⟨by simp,K⟩
def NearP (p:Pt):Prop:=-33554432≤p.x∧p.x≤33554432∧-33554432≤p.y∧p.y≤33554432
theorem sky_near_t (p:Pt) (h:NearP p) (w:World) :
  Calls Tryz.prog 79 #[.agg #[p.x,p.y],(33554432:Int)] w fun e w'=>e=.returned (.bool true)∧Kp w.heap.size none w w':=by
 have:=sky_near_any p 33554432 oM w;rwa [btw_t h.1 h.2.1,btw_t h.2.2.1 h.2.2.2] at this
theorem checkBody1_any (p:Pt) (h:NearP p) (w:World) :
  Calls Tryz.prog 149 #[.agg #[p.x,p.y]] w fun e w'=>e=.returned (.bool false)∧Kp w.heap.size none w w':=by
 obtain⟨w1,hw1,B,K,hz⟩:=box1 w 73 #[p.x,p.y];go_enter Tryz.func149,Tryz.ntmps149
 go_wp2_with fail
 rw[← hw1];clear hw1;refine mK (sky_near_t p h _) fun w2 k=>?_;replace B:=B.kpN k;replace K:=K.thenN k oM;have hzk:=k.size;clear k;have cB:=B.cell;have fB:=B.frozen;go_wp2_with fail
 clear cB fB;go_ret
 exact⟨rfl,K⟩
theorem indexVec_any (A:Option Addr) (cap:Nat) (xs:List Pt) (w:World) (hr:Rd none w 2 encPt A xs.length xs) (hn:xs.length≤1000000) (hx:∀ x∈xs,NearP x) :
  Calls Tryz.prog 176 #[.slice A xs.length cap,.func (.func 149) #[] #[]] w fun e w'=>e=.returned (.int .i64 (-1))∧Kp w.heap.size none w w':=by
 go_enter Tryz.func176,Tryz.ntmps176
 go_wp2_with fail
 go_loopw [8] (fun v wr=>IdxAt xs.length w v wr) (fun v _=>(xs.length:Int).toNat-(intOf v).toNat)
 case atStart=>exact⟨0,rfl,Nat.zero_le _,Kp.refl _ _ _⟩
 case round=>
  obtain⟨i,rfl,hi,KK⟩:=hrel;by_cases h:i<xs.length
  ·
   obtain⟨b,o,rfl,hb,-,hc⟩:=(hr.kpN KK).at_ oM;have c0:=hc i h 0 _ rfl;have c1:=hc i h 1 _ rfl;rw[Nat.add_zero] at c0;rw[← Nat.add_assoc] at c1;have hxi:=hx _ (List.getElem_mem h);generalize xs[i]=x at *;have hii:(i:Int)<(xs.length:Int):=by omega
   have hi0:(0:Int)≤(i:Int):=by omega
   have hm:(xs.length:Int).toNat-((i+1:Nat):Int).toNat<(xs.length:Int).toNat-(i:Int).toNat:=by omega
   replace hm:=Lib.hid hm;clear hc hr hx;go_wp2_with fail
   refine mK (checkBody1_any x hxi _) fun w2 k=>?_;replace h:=Lib.hid h;go_wp2
   go_roundw
   case rel=>exact⟨i+1,by congr 1,h.out,KK.tN k⟩
   case measure=>exact hm.out
  ·
   obtain rfl:i=xs.length:=by omega
   go_wp2
   go_ret
   exact⟨rfl,KK⟩
theorem containsVec_any (A:Option Addr) (cap:Nat) (xs:List Pt) (w:World) (hr:Rd none w 2 encPt A xs.length xs) (hn:xs.length≤1000000) (hx:∀ x∈xs,NearP x) :
  Calls Tryz.prog 148 #[.slice A xs.length cap,.func (.func 149) #[] #[]] w fun e w'=>e=.returned (.bool false)∧Kp w.heap.size none w w':=by
 go_enter Tryz.func148,Tryz.ntmps148
 go_wp2_with fail
 refine mK (indexVec_any A cap xs _ hr hn hx) fun w1 k=>?_;go_wp2
 go_ret
 exact⟨rfl,k⟩
theorem Bd.ok.near {b:Bd} (h:b.ok):∀ p∈b.tr,NearP p:=fun p hp=>by have:=h.pl p hp;unfold NearP;omega
theorem checkBody_any (b:Bd) (B:Option Addr) (c:Nat) (w:World) (hb:b.ok) (hr:Rd none w 2 encPt B b.tr.length b.tr) :
  Calls Tryz.prog 96 #[.agg #[b.mu,b.rad,.slice B b.tr.length c]] w fun e w'=>e=.returned (.int .i64 0)∧Kp w.heap.size none w w':=by
 have c1:=fun w=>sky_within_t (n:=b.mu) (lo:=0) (hi:=1125899906842624) hb.mu0 (by have:=hb.mu1;omega) w;have c2:=fun w=>sky_within_t (n:=b.rad) (lo:=0) (hi:=1048576) hb.rad0 (by have:=hb.rad1;omega) w;have hn:=hb.near;have h0:=hb.tr0;have h1:=hb.tr1;have n0:((b.tr.length:Int)==0)=false:=by simp;intro e;rw[e] at h0;simp at h0
 have n1:¬ (4096:Int)<(b.tr.length:Int):=by omega
 have n2:¬ (b.tr.length:Int)=0:=by omega
 clear hb;obtain⟨w1,hw1,D,K,hz⟩:=box1 w 77 #[b.mu,b.rad,.slice B b.tr.length c];clear h0;go_enter Tryz.func96,Tryz.ntmps96
 go_wp2_with fail
 rw[← hw1];clear hw1;refine mK (c1 _) fun w2 k=>?_;replace D:=D.kpN k;replace K:=K.thenN k oM;have hzk:=k.size;clear k;have cD:=D.cell;have fD:=D.frozen;go_wp2_with fail
 refine mK (c2 _) fun w3 k=>?_;clear cD fD;replace D:=D.kpN k;replace K:=K.thenN k oM;have hzk:=k.size;clear k;have cD:=D.cell;have fD:=D.frozen;go_wp2_with fail
 refine mK (containsVec_any B c b.tr _ (hr.kpN K) oM hn) fun w4 k=>?_;clear cD fD;replace D:=D.kpN k;replace K:=K.thenN k oM;have hzk:=k.size;clear k;have cD:=D.cell;have fD:=D.frozen;go_wp2_with fail
 clear cD fD;go_ret
 exact⟨rfl,K⟩
theorem sky_CheckWorld_any (A:Option Addr) (c:Nat) (W:Wd) (w:World) (hW:W.ok) (hA:WdAt none w A W) :
  Calls Tryz.prog 49 #[.agg #[.slice A W.bs.length c,W.home]] w fun e w'=>e=.returned (.int .i64 0)∧Kp w.heap.size none w w':=by
 have h0:=hW.n0;have h1:=hW.n1;have h2:=hW.home;have hb:=hW.body;have n0:((W.bs.length:Int)==0)=false:=by simp;intro e;rw[e] at h0;simp at h0
 have n1:¬ (8:Int)<(W.bs.length:Int):=by omega
 have n2:¬ (W.bs.length:Int)=0:=by omega
 have n3:¬ (W.home:Int)<0:=by omega
 have n4:¬ (W.bs.length:Int)≤(W.home:Int):=by omega
 clear h0 h2 hW;obtain⟨w1,hw1,D,K,hz⟩:=box1 w 27 #[.slice A W.bs.length c,W.home];go_enter Tryz.func49,Tryz.ntmps49
 go_wp2_with fail
 rw[← hw1];clear hw1;go_loopw [19] (fun v wr=>∃ i:Nat,v=.int .i64 i∧i≤W.bs.length∧Blk wr w.heap.size 27 #[.slice A W.bs.length c,W.home]∧Kp w.heap.size none w wr) (fun v _=>(W.bs.length:Int).toNat-(intOf v).toNat)
 case atStart=>exact⟨0,rfl,Nat.zero_le _,D,K⟩
 case round=>
  obtain⟨i,rfl,hi,D,K⟩:=hrel;by_cases h:i<W.bs.length
  ·
   obtain⟨b,o,B,cc,rfl,hlt,e0,e1,e2,hr⟩:=(hA.kpN K).body i h;have hbi:=hb _ (List.getElem_mem h);generalize W.bs[i]=x at *;have hii:(i:Int)<(W.bs.length:Int):=by omega
   have hi0:(0:Int)≤(i:Int):=by omega
   have hm:(W.bs.length:Int).toNat-((i+1:Nat):Int).toNat<(W.bs.length:Int).toNat-(i:Int).toNat:=by omega
   replace hm:=Lib.hid hm;have k1:=Kp.new1 wr (.cells #[x.mu,x.rad,.slice B x.tr.length cc] 77);have hr1:=hr.kpN k1;clear hb hr hA;go_wp2_with fail
   refine mK (checkBody_any x B cc _ hbi hr1) fun w2 k=>?_;replace D:=(D.kpN k1).kpN k;replace K:=(K.tN k1).thenN k (Nat.le_refl _);clear k k1 hr1 hbi e0 e1 e2;replace h:=Lib.hid h;go_wp2
   go_roundw
   case rel=>exact⟨i+1,by congr 1,h.out,D,K⟩
   case measure=>exact hm.out
  ·
   obtain rfl:i=W.bs.length:=by omega
   clear hb hA;have cD:=D.cell;have fD:=D.frozen;go_wp2_with fail
   clear cD fD;go_ret
   exact⟨rfl,K⟩
theorem emod_idx (t:Int) (n:Nat) (hn:0<n) (ht:0≤t):0≤t % (n:Int)∧t % (n:Int)<(n:Int):=⟨Int.emod_nonneg _ oM,Int.emod_lt_of_pos _ oM⟩
theorem track_at_any (B:Option Addr) (c:Nat) (b:Bd) (t:Int) (w:World) (hb:b.ok) (ht:0≤t) (hr:Rd none w 2 encPt B b.tr.length b.tr) :
  Calls Tryz.prog 167 #[.slice B b.tr.length c,t] w fun e w'=>e=.returned (.agg #[(b.at t).x,(b.at t).y])∧Kp w.heap.size none w w':=by
 have h0:=hb.tr0;obtain⟨e1,e2⟩:=emod_idx t b.tr.length h0 ht;obtain⟨k,hk⟩:=Int.eq_ofNat_of_zero_le e1;have hkl:k<b.tr.length:=by omega
 obtain⟨bb,o,rfl,hlt,-,hc⟩:=hr.at_ h0;have c0:=hc k hkl 0 _ rfl;have c1:=hc k hkl 1 _ rfl;rw[Nat.add_zero] at c0;rw[← Nat.add_assoc] at c1
 have ea:b.at t=b.tr[k]:=by
  unfold Bd.at;rw[hk,Int.toNat_natCast,List.getD_eq_getElem?_getD,List.getElem?_eq_getElem hkl,Option.getD_some]
 rw[ea];generalize b.tr[k]=p at *;have et:t.tmod (b.tr.length:Int)=(k:Int):=by rw[Int.tmod_eq_emod_of_nonneg ht];exact hk
 have nz:((b.tr.length:Int)==0)=false:=by simp;intro e;rw[e] at h0;simp at h0
 have nz2:¬ (b.tr.length:Int)=0:=by omega
 have hi0:(0:Int)≤(k:Int):=by omega
 have hii:(k:Int)<(b.tr.length:Int):=by omega
 have wk:wrap64 (k:Int)=(k:Int):=by have:=hb.tr1;unfold wrap64;omega
 clear hc hr hb ea e1 e2 hk hkl;go_enter Tryz.func167,Tryz.ntmps167
 go_wp2_with fail
 exact bodyPost_ret (by simp[results,Tryz.results167,go_sem]) rfl ⟨rfl,Kp.new1 _ _⟩
theorem sky_At_any (A:Option Addr) (c:Nat) (W:Wd) (i:Nat) (t:Int) (w:World) (hW:W.ok) (hA:WdAt none w A W) (hi:i<W.bs.length) (ht:0≤t∧t≤1073741824) :
  Calls Tryz.prog 150 #[.agg #[.slice A W.bs.length c,W.home],i,t] w fun e w'=>e=.returned (.agg #[(W.bs[i].at t).x,(W.bs[i].at t).y])∧Kp w.heap.size none w w':=by
 have cw:=fun w h=>sky_CheckWorld_any A c W w hW h;have ct:=fun w=>sky_within_t ht.1 ht.2 w;have n3:¬ (i:Int)<0:=by omega
 have n4:¬ (W.bs.length:Int)≤(i:Int):=by omega
 have n5:¬ W.bs.length≤i:=by omega
 have hbi:=hW.body _ (List.getElem_mem hi);have h0:(0:Int)≤(i:Int):=by omega
 have h1:(i:Int)<(W.bs.length:Int):=by omega
 obtain⟨p,hp⟩:∃ q9,Hid (q9=W.bs[i].at t):=⟨_,Lib.hid rfl⟩;rw[← hp.out];clear hW;obtain⟨w1,hw1,D,R,K,hz⟩:=box2 w 27 #[.slice A W.bs.length c,W.home] 73 #[(0:Int),(0:Int)];go_enter Tryz.func150,Tryz.ntmps150
 go_wp2_with fail
 rw[← hw1];clear hw1;refine mK (cw _ (hA.kpN K)) fun w2 k=>?_;replace D:=D.kpN k;replace R:=R.kpN k;replace K:=K.thenN k oM;have hzk:=k.size;clear k;have cD:=D.cell;have fD:=D.frozen;have cR:=R.cell;have fR:=R.frozen;go_wp2_with fail
 refine mK (ct _) fun w3 k=>?_;clear cD fD cR fR;replace D:=D.kpN k;replace R:=R.kpN k;replace K:=K.thenN k oM;have hzk:=k.size;clear k;obtain⟨b,o,B,cc,rfl,hlt,e0,e1,e2,hr⟩:=(hA.kpN K).body i hi;have cc2:=fun w (h:Rd none w 2 encPt B W.bs[i].tr.length W.bs[i].tr)=>track_at_any B cc W.bs[i] t w hbi ht.1 h;rw[← hp.out] at cc2;clear e0 e1 hA hbi cw ct hp;generalize W.bs[i]=x at *;have cD:=D.cell;have fD:=D.frozen;have cR:=R.cell;have fR:=R.frozen;go_wp2_with fail
 refine mK (cc2 _ hr) fun w4 k=>?_;clear cD fD cR fR;replace D:=D.kpN k;replace R:=R.kpN k;replace K:=K.thenN k oM;have hzk:=k.size;clear k;have cD:=D.cell;have fD:=D.frozen;have cR:=R.cell;have fR:=R.frozen;go_wp2_with fail
 clear cD fD cR fR;have BR:=((R.set_ 0 (.int .i64 p.x)).set_ 1 (.int .i64 p.y));have cR:=BR.cell;exact bodyPost_ret (by simp[results,Tryz.results150,go_sem,cR]) rfl ⟨rfl,((K.setNew (by simp<;>omega) _).setNew (by simp<;>omega) _)⟩
theorem force_of_any (A:Option Addr) (c:Nat) (W:Wd) (i:Nat) (t:Int) (w:World) (hW:W.ok) (hA:WdAt none w A W) (hi:i<W.bs.length) (ht:0≤t∧t≤1073741824) :
  Calls Tryz.prog 210 #[.agg #[.slice A W.bs.length c,W.home],i,t] w fun e w'=>(∃ (B:Option Addr) (n k:Nat),e=.returned (.agg #[.int .i64 W.bs[i].mu,.int .i64 W.bs[i].rad,.slice B n k,(W.bs[i].at t).x,(W.bs[i].at t).y]))∧Kp w.heap.size none w w':=by
 have ca:=fun w h=>sky_At_any A c W i t w hW h hi ht;have h0:(0:Int)≤(i:Int):=by omega
 have h1:(i:Int)<(W.bs.length:Int):=by omega
 obtain⟨b,o,B,cc,rfl,hlt,e0,e1,e2,hr⟩:=hA.body i hi;generalize W.bs[i].at t=p at *;generalize W.bs[i]=x at *;obtain⟨w1,hw1,D,R,K,hz⟩:=box2 w 27 #[.slice (some ⟨b,o,none⟩) W.bs.length c,W.home] 287 #[(0:Int),(0:Int),.slice none 0 0,(0:Int),(0:Int)];go_enter Tryz.func210,Tryz.ntmps210
 go_wp2_with fail
 rw[← hw1];clear hw1;obtain⟨S,hS0,hS1⟩:=cls_of2 (P:=fun w'=>Blk w' _ _ _∧Kp _ _ _ w') w1 ⟨D,K⟩;try dsimp only at hS0
 have cD:=fun (x:Ev (S 0)) i=>((hS0 _).1 x.h).1.cell i;have d0:=fun (x:Ev (S 0))=>((((hS0 _).1 x.h).2).cell _ _ hlt oW).trans e0;have d1:=fun (x:Ev (S 0))=>((((hS0 _).1 x.h).2).cell _ _ hlt oW).trans e1;have d2:=fun (x:Ev (S 0))=>((((hS0 _).1 x.h).2).cell _ _ hlt oW).trans e2;replace D:=D.drew;replace K:=K.drew;replace R:=R.drew;have hevT:=ev_true;refine wro S [(0,0),(1,1),(2,0),(3,0),(4,1),(5,1),(6,0),(7,0),(8,2),(9,0),(10,3)] [10] ((hS0 _).2 ⟨D,K⟩) ?_;intro _hev;refine oX ?_;refine oL ?_;intro Kc hKc;generalize w1.drew=wd9 at *;go_step;refine mK (ca _ (hA.kpN K)) fun w2 k=>?_;replace D:=D.kpN k;replace R:=R.kpN k;replace K:=K.tN k;clear k;refine hKc _ _ ((hS0 _).2 ⟨D,K⟩) ?_;clear hKc Kc;refine oX ?_;refine oA ?_;intro Kc hKc;have cR:=R.cell;have fR:=R.frozen;go_step;obtain⟨w9,hwn,RB9,kst,hzst⟩:=R.st5 (.int .i64 x.mu) (.int .i64 x.rad) (.slice B x.tr.length cc) (.int .i64 p.x) (.int .i64 p.y);rw[← hwn];clear hwn cR fR;refine hKc _ _ ((hS1 _).2 trivial) ?_;clear hKc Kc;replace D:=D.kq kst;first|replace K:=K.thenOwn kst (Nat.le_refl _) oM|replace K:=K.then_ kst (Nat.le_refl _)
 replace R:=RB9;clear RB9 kst;simp only[sbt,sc0,scs] at R;change wpOrd _ _ _ _ _ 1 _ _;refine wpOrd_nil ?_;clear hevT _hev;clear d0 d1 d2;clear cD hS0 hS1 S;have cR:=R.cell;go_wp2_with fail
 exact bodyPost_ret (v:=.agg #[x.mu,x.rad,.slice B x.tr.length cc,p.x,p.y]) (by simp[results,Tryz.results210,go_sem,cR]) rfl ⟨⟨B,x.tr.length,cc,rfl⟩,K⟩
theorem Bd.hv_ok {b:Bd} (hb:b.ok) (t:Int):(b.hv t).ok:=by
 have:=hb.pl _ (Bd.at_mem hb.tr0 t);exact⟨hb.mu0,hb.mu1,hb.rad0,hb.rad1,this.1,this.2.1,this.2.2.1,this.2.2.2⟩
end Go.Proofs.YtdhiappifnflpaaGreat
