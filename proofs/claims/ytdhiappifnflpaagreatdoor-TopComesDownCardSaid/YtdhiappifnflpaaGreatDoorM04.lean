/- What the kit makes of a ring: spans, rocks, stones. Stones of a rock, rocks inside a rock, rocks of one stone. Rocks of one stone; a new ring; small pure functions of the kit and of the law's own package. -/
import Derived.Test.YtdhiappifnflpaaGreatDoorM03
set_option maxHeartbeats 1000000
namespace Go.Proofs.YtdhiappifnflpaaGreatDoor.Bl
open Go.RowKit
structure Span where
 lo:Int
 hi:Int
structure Rock where
 size:Span
 dens:Span
 strong:Span
 spin:Span
 shape:Span
 pile:Bool
structure Fall where
 speed:Span
 slope:Span
structure Stone where
 size:Int
 dens:Int
 strong:Int
 spin:Int
 shape:Int
 pile:Bool
 speed:Int
 slope:Int
def Span.ok (s:Span) (lo hi:Int):Prop:=lo≤s.lo∧s.lo≤s.hi∧s.hi≤hi
def Span.has (s:Span) (n:Int):Prop:=s.lo≤n∧n≤s.hi
structure RockOk (k:Rock) (f:Fall):Prop where
 size:k.size.ok 1 1000
 dens:k.dens.ok 1 9000
 strong:k.strong.ok 0 1099511627776
 spin:k.spin.ok 0 1000
 shape:k.shape.ok 500 2000
 speed:f.speed.ok 1 8000
 slope:f.slope.ok 1 1000
structure StoneIn (s:Stone) (k:Rock) (f:Fall):Prop where
 size:k.size.has s.size
 dens:k.dens.has s.dens
 strong:k.strong.has s.strong
 spin:k.spin.has s.spin
 shape:k.shape.has s.shape
 pile:s.pile=k.pile
 speed:f.speed.has s.speed
 slope:f.slope.has s.slope
theorem spanIn_any (g:Nat) (nums:List Int) (k:Nat) (lo hi wide:Int) (w:World) (h:RingAt w g nums k) (hk:k≤900000) (h1:-1099511627776≤lo) (h2:lo≤hi) (h3:hi≤1099511627776) (h4:0≤wide) (h5:wide≤1099511627776) :
  Calls Tryz.prog 58 #[.pointer (some ⟨g,0,none⟩),lo,hi,wide] w
   (RPost g nums (k+2) w fun v=>∃ a b:Int,v=.agg #[a,b]∧lo≤a∧a≤b∧b≤hi):=by
 have hb0:=Blk.new w 29 #[(0:Int),(0:Int)];have hne:=h.ne (Nat.le_refl _);go_enter Tryz.func58,Tryz.ntmps58
 go_wp2_with fail
 refine(range_any g nums k _ _ _ (h.alloc _) oM oM oM oM oM).mono ?_;rintro e w1 ⟨v,rfl,⟨a,rfl,ha1,ha2⟩,hr1,hk1⟩;have hb1:=hb0.kp hk1 hb0.lt hne;go_wp2_with fail
 refine(range_any g nums (k+1) _ _ _ hr1 oM oM oM oM oM).mono ?_;rintro e w2 ⟨v,rfl,⟨b,rfl,hb1',hb2'⟩,hr2,hk2⟩;have hb2:=hb1.kp hk2 hb1.lt hne;have c2:=hb2.cell;have f2:=hb2.frozen;have hg:g<w.heap.size:=h.lt;have K:=((((Kp.refl w.heap.size (some g) w).alloc (Nat.le_refl _) _).then_ hk1 (by simp)).then_ hk2 (by simp));go_wp2
 all_goals first
  | (have hm:hi≤a+b:=(by assumption);exact bodyPost_ret (v:=.agg #[a,hi]) (by simp[results,Tryz.results58,go_sem,c2]) rfl ⟨_,rfl,⟨a,hi,rfl,ha1,ha2,Int.le_refl _⟩,(hr2.big hg _).big hg _,(K.setNew (Nat.le_refl _) _).setNew (Nat.le_refl _) _⟩)
  | (have hm:a+b<hi:=(by assumption);exact bodyPost_ret (v:=.agg #[a,.int .i64 (a+b)]) (by simp[results,Tryz.results58,go_sem,c2]) rfl ⟨_,rfl,⟨a,a+b,rfl,ha1,by omega,by omega⟩,(hr2.big hg _).big hg _,(K.setNew (Nat.le_refl _) _).setNew (Nat.le_refl _) _⟩)
  | exact bodyPost_ret (v:=.agg #[a,.int .i64 (min hi (a+b))]) (by simp[results,Tryz.results58,go_sem,c2]) rfl ⟨_,rfl,⟨a,min hi (a+b),rfl,ha1,by omega,by omega⟩,(hr2.big hg _).big hg _,(K.setNew (Nat.le_refl _) _).setNew (Nat.le_refl _) _⟩
theorem inside_any (g:Nat) (nums:List Int) (k:Nat) (lo hi:Int) (w:World) (h:RingAt w g nums k) (hk:k≤900000) (h1:-1099511627776≤lo) (h2:lo≤hi) (h3:hi≤1099511627776) :
  Calls Tryz.prog 59 #[.pointer (some ⟨g,0,none⟩),.agg #[lo,hi]] w
   (RPost g nums (k+2) w fun v=>∃ x:Int,v=.int .i64 x∧lo≤x∧x≤hi):=by
 have hb0:=Blk.new w 29 #[lo,hi];have hne:=h.ne (Nat.le_refl _);go_enter Tryz.func59,Tryz.ntmps59
 go_wp2_with fail
 refine(next_any g nums k _ _ (h.alloc _) oM oM oM).mono ?_;rintro e w1 ⟨v,rfl,⟨a,rfl,ha1,ha2⟩,hr1,hk1⟩;have hb1:=hb0.kp hk1 hb0.lt hne;go_wp2_with fail
 refine(next_any g nums (k+1) _ _ hr1 oM oM oM).mono ?_;rintro e w2 ⟨v,rfl,⟨b,rfl,hb1',hb2'⟩,hr2,hk2⟩;have hb2:=hb1.kp hk2 hb1.lt hne;have c2:=hb2.cell;have K:=((((Kp.refl w.heap.size (some g) w).alloc (Nat.le_refl _) _).then_ hk1 (by simp)).then_ hk2 (by simp));have m1:=Int.emod_nonneg (a * 1048576+b) (show hi-lo+1≠0 by omega);have m2:=Int.emod_lt_of_pos (a * 1048576+b) (show 0<hi-lo+1 by omega);go_wp2
 go_quiet (fail)
 go_wp2
 go_ret
 exact⟨_,rfl,⟨_,rfl,by omega,by omega⟩,hr2.drewN _,K.drewN _⟩
theorem pow_bd (x:Int) (h0:0≤x) (h1:x<36):∃ s:Int,wrap64 (2 ^ x.toNat)=s∧1≤s∧s≤34359738368:=by
 obtain⟨n,rfl⟩:=Int.eq_ofNat_of_zero_le h0;have h:∀ n:Nat,n<36→1≤wrap64 ((2:Int) ^ n)∧wrap64 ((2:Int) ^ n)≤34359738368:=by unfold wrap64;decide +kernel
 exact⟨_,rfl,h n oM⟩
theorem half_in (s:Int) (h0:1≤s) (h1:s≤34359738368):wrap64 (s.tdiv 2)=s / 2:=by
 rw[Int.tdiv_eq_ediv_of_nonneg oM];exact IntWalk.wrap64_in _ oM
theorem rockOf_any (g:Nat) (nums:List Int) (k:Nat) (w:World) (h:RingAt w g nums k) (hk:k≤800000) :
  Calls Tryz.prog 18 #[.pointer (some ⟨g,0,none⟩)] w
   (RPost g nums (k+16) w fun v=>∃ (r:Rock) (f:Fall),v=.tuple #[.agg #[r.size.lo,r.size.hi,r.dens.lo,r.dens.hi,r.strong.lo,r.strong.hi,r.spin.lo,r.spin.hi,r.shape.lo,r.shape.hi,.bool r.pile],.agg #[f.speed.lo,f.speed.hi,f.slope.lo,f.slope.hi]]∧RockOk r f∧r.strong.hi≤34359738368∧f.speed.hi≤5000):=by
 have ha:=(Blk.new w 70 #[(0:Int),(0:Int),(0:Int),(0:Int),(0:Int),(0:Int),(0:Int),(0:Int),(0:Int),(0:Int),.bool false]).alloc (.cells #[(0:Int),(0:Int),(0:Int),(0:Int)] 72);have hb:=Blk.newAt (w.alloc (.cells #[(0:Int),(0:Int),(0:Int),(0:Int),(0:Int),(0:Int),(0:Int),(0:Int),(0:Int),(0:Int),.bool false] 70)) 72 #[(0:Int),(0:Int),(0:Int),(0:Int)] (n:=w.heap.size+1) (by simp);have hne:=h.ne (Nat.le_refl _);have hne':=h.ne (Nat.le_succ w.heap.size);have hg:=h.lt;have K0:=(((Kp.refl w.heap.size (some g) w).alloc (Nat.le_refl _) (.cells #[(0:Int),(0:Int),(0:Int),(0:Int),(0:Int),(0:Int),(0:Int),(0:Int),(0:Int),(0:Int),.bool false] 70)).alloc (by simp) (.cells #[(0:Int),(0:Int),(0:Int),(0:Int)] 72));go_enter Tryz.func18,Tryz.ntmps18
 go_wp2_with fail
 refine(spanIn_any g nums k 1 120 20 _ ((h.alloc _).alloc _) oM oM oM oM oM oM).mono ?_;rintro e w1 ⟨v,rfl,⟨a1,b1,rfl,p1,q1,s1⟩,hr1,hk1⟩;have ha1:=ha.kp hk1 ha.lt hne;have hb1:=hb.kp hk1 hb.lt hne';have K1:=K0.then_ hk1 (by simp);clear hk1 K0 ha hb;go_wp2_with fail
 refine(spanIn_any g nums _ 500 4000 800 _ hr1 oM oM oM oM oM oM).mono ?_;rintro e w2 ⟨v,rfl,⟨a2,b2,rfl,p2,q2,s2⟩,hr2,hk2⟩;have ha2:=ha1.kp hk2 ha1.lt hne;have hb2:=hb1.kp hk2 hb1.lt hne';have K2:=K1.then_ hk2 (by simp);clear hk2 K1 ha1 hb1 hr1;go_wp2_with fail
 refine(spanIn_any g nums _ 0 1000 300 _ hr2 oM oM oM oM oM oM).mono ?_;rintro e w3 ⟨v,rfl,⟨a3,b3,rfl,p3,q3,s3⟩,hr3,hk3⟩;have ha3:=ha2.kp hk3 ha2.lt hne;have hb3:=hb2.kp hk3 hb2.lt hne';have K3:=K2.then_ hk3 (by simp);clear hk3 K2 ha2 hb2 hr2;go_wp2_with fail
 refine(spanIn_any g nums _ 500 2000 600 _ hr3 oM oM oM oM oM oM).mono ?_;rintro e w4 ⟨v,rfl,⟨a4,b4,rfl,p4,q4,s4⟩,hr4,hk4⟩;have ha4:=ha3.kp hk4 ha3.lt hne;have hb4:=hb3.kp hk4 hb3.lt hne';have K4:=K3.then_ hk4 (by simp);clear hk4 K3 ha3 hb3 hr3;go_wp2_with fail
 refine(next_any g nums _ 3 _ hr4 oM oM oM).mono ?_;rintro e w5 ⟨v,rfl,⟨x5,rfl,p5,q5⟩,hr5,hk5⟩;have ha5:=ha4.kp hk5 ha4.lt hne;have hb5:=hb4.kp hk5 hb4.lt hne';have K5:=K4.then_ hk5 (by simp);clear hk5 K4 ha4 hb4 hr4;have hg5:g<w5.heap.size:=hr5.lt;have hn5:=hr5.ne (Nat.le_refl _);have hz5:w.heap.size+1<w5.heap.size:=hb5.lt;go_wp2_with fail
 refine(next_any g nums _ 36 _ (hr5.alloc _) oM oM oM).mono ?_;rintro e w6 ⟨v,rfl,⟨x6,rfl,p6,q6⟩,hr6,hk6⟩;have ha6:=(ha5.alloc _).kp hk6 (ha5.alloc _).lt hne;have hb6:=(hb5.alloc _).kp hk6 (hb5.alloc _).lt hne';have hc6:=(Blk.new w5 70 _).kp hk6 (by simp) hn5;have K6:=(K5.alloc oM _).then_ hk6 (by simp);clear hk6 K5 ha5 hb5 hr5;go_wp2_with fail
 obtain⟨s,hs,ps,qs⟩:=pow_bd x6 p6 q6;rw[hs];clear hs;rw[half_in s ps qs];go_wp2_with fail
 refine(spanIn_any g nums _ _ _ _ _ hr6 oM oM oM oM oM oM).mono ?_;rintro e w7 ⟨v,rfl,⟨a7,b7,rfl,p7,q7,s7⟩,hr7,hk7⟩;have ha7:=ha6.kp hk7 ha6.lt hne;have hb7:=hb6.kp hk7 hb6.lt hne';have hc7:=hc6.kp hk7 hc6.lt hn5;have K7:=K6.then_ hk7 (by simp);clear hk7 K6 ha6 hb6 hc6 hr6;have c7:=hc7.cell;have f7:=hc7.frozen
 have hc8:Blk ((w7.setCell ⟨w5.heap.size,4,none⟩ (.int .i64 a7)).setCell ⟨w5.heap.size,5,none⟩ (.int .i64 b7)) w5.heap.size 70
  #[a1,b1,a2,b2,a7,b7,a3,b3,a4,b4,.bool (x5==0)]:=(hc7.set_ 4 _).set_ 5 _
 have ha8:=(ha7.far (p:=⟨w5.heap.size,4,none⟩) (show w.heap.size≠w5.heap.size by omega) (.int .i64 a7)).far (p:=⟨w5.heap.size,5,none⟩) (show w.heap.size≠w5.heap.size by omega) (.int .i64 b7);have hb8:=(hb7.far (p:=⟨w5.heap.size,4,none⟩) (show w.heap.size+1≠w5.heap.size by omega) (.int .i64 a7)).far (p:=⟨w5.heap.size,5,none⟩) (show w.heap.size+1≠w5.heap.size by omega) (.int .i64 b7);have hr8:=(hr7.big (p:=⟨w5.heap.size,4,none⟩) (show g<w5.heap.size by omega) (.int .i64 a7)).big (p:=⟨w5.heap.size,5,none⟩) (show g<w5.heap.size by omega) (.int .i64 b7);have K8:=(K7.setNew (p:=⟨w5.heap.size,4,none⟩) (show w.heap.size≤w5.heap.size by omega) (.int .i64 a7)).setNew (p:=⟨w5.heap.size,5,none⟩) (show w.heap.size≤w5.heap.size by omega) (.int .i64 b7);clear ha7 hb7 hr7 K7;go_wp2
 clear c7 f7 hc7;generalize (w7.setCell ⟨w5.heap.size,4,none⟩ (.int .i64 a7)).setCell ⟨w5.heap.size,5,none⟩ (.int .i64 b7)=w8 at *;obtain⟨S,hS⟩:∃ S:Nat→World→Prop,S=fun _ w'=>Blk w' w5.heap.size 70 #[a1,b1,a2,b2,a7,b7,a3,b3,a4,b4,.bool (x5==0)]:=⟨_,rfl⟩;have hS0:∀ w',S 0 w'↔(Blk w' w5.heap.size 70 #[a1,b1,a2,b2,a7,b7,a3,b3,a4,b4,.bool (x5==0)]):=fun w'=>by rw[hS]
 clear hS;have cx:=fun (x:Ev (S 0)) i=>((hS0 _).1 x.h).cell i;have hevT:=ev_true;refine wro S [(0,1),(1,0),(3,0),(2,2),(4,2),(5,0),(6,2),(7,2)] [] ((hS0 _).2 hc8) ?_;intro _hev;refine oX ?_;refine oL ?_;intro K hK;go_step;refine(spanIn_any g nums _ _ _ _ _ hr8.drew oM oM oM oM oM oM).mono ?_;rintro e w9 ⟨v,rfl,⟨a9,b9,rfl,p9,q9,s9⟩,hr9,hk9⟩;have ha9:=ha8.drew.kp hk9 ha8.lt hne;have hb9:=hb8.drew.kp hk9 hb8.lt hne';have hc9:=hc8.drew.kp hk9 hc8.lt hn5;have K9:=K8.drew.then_ hk9 (by simp);refine hK _ _ ((hS0 _).2 hc9) ?_;clear hK K hk9 ha8 hb8 hc8 K8;refine oL ?_;intro K hK;go_step;refine(spanIn_any g nums _ _ _ _ _ hr9 oM oM oM oM oM oM).mono ?_;rintro e wA ⟨v,rfl,⟨aA,bA,rfl,pA,qA,sA⟩,hrA,hkA⟩;have haA:=ha9.kp hkA ha9.lt hne;have hbA:=hb9.kp hkA hb9.lt hne';have hcA:=hc9.kp hkA hc9.lt hn5;have KA:=K9.then_ hkA (by simp);have cA:=haA.cell;have fA:=haA.frozen;have cB:=hbA.cell;have fB:=hbA.frozen;refine hK _ _ ((hS0 _).2 hcA) ?_;clear hK K hkA ha9 hb9 hc9 K9;refine oX ?_;refine oL ?_;intro K hK;go_step;refine hK _ _ ((hS0 _).2 ?_) ?_
 ·
  iterate 11 refine Blk.far ?_ (show w5.heap.size≠w.heap.size by omega) _
  exact hcA
 clear hK K;refine oL ?_;intro K hK;go_step;refine hK _ _ ((hS0 _).2 ?_) ?_
 ·
  iterate 4 refine Blk.far ?_ (show w5.heap.size≠w.heap.size+1 by omega) _
  iterate 11 refine Blk.far ?_ (show w5.heap.size≠w.heap.size by omega) _
  exact hcA
 clear hK K;refine wpOrd_nil ?_;clear hevT _hev;go_wp2
 refine bodyPost_ret (v:=.tuple #[.agg #[a1,b1,a2,b2,a7,b7,a3,b3,a4,b4,.bool (x5==0)],.agg #[a9,b9,aA,bA]])
  (by simp[results,Tryz.results18,go_sem,cA,cB]) rfl ⟨_,rfl,⟨⟨⟨a1,b1⟩,⟨a2,b2⟩,⟨a7,b7⟩,⟨a3,b3⟩,⟨a4,b4⟩,x5==0⟩,⟨⟨a9,b9⟩,⟨aA,bA⟩⟩,rfl,?_⟩,?_,?_⟩
 ·
  refine⟨?_,?_,?_⟩
  · constructor<;>(unfold Span.ok;simp only;omega)
  ·
   show b7≤34359738368
   omega
  ·
   show b9≤5000
   omega
 ·
  iterate 4 refine RingAt.big ?_ (show g<w.heap.size+1 by omega) _
  iterate 11 refine RingAt.big ?_ (show g<w.heap.size by omega) _
  exact hrA
 ·
  iterate 4 refine Kp.setNew ?_ (show w.heap.size≤w.heap.size+1 by omega) _
  iterate 11 refine Kp.setNew ?_ (show w.heap.size≤w.heap.size by omega) _
  exact KA
theorem stoneOf_any (g:Nat) (nums:List Int) (k:Nat) (r:Rock) (f:Fall) (w:World) (h:RingAt w g nums k) (hk:k≤800000) (hv:RockOk r f) :
  Calls Tryz.prog 19 #[.pointer (some ⟨g,0,none⟩),.agg #[r.size.lo,r.size.hi,r.dens.lo,r.dens.hi,r.strong.lo,r.strong.hi,r.spin.lo,r.spin.hi,r.shape.lo,r.shape.hi,.bool r.pile],.agg #[f.speed.lo,f.speed.hi,f.slope.lo,f.slope.hi]] w
   (RPost g nums (k+14) w fun v=>∃ s:Stone,v=.agg #[s.size,s.dens,s.strong,s.spin,s.shape,.bool s.pile,s.speed,s.slope]∧StoneIn s r f):=by
 obtain⟨⟨r1,r2,r3⟩,⟨d1,d2,d3⟩,⟨t1,t2,t3⟩,⟨n1,n2,n3⟩,⟨h1,h2,h3⟩,⟨v1,v2,v3⟩,⟨l1,l2,l3⟩⟩:=hv;have ha:=((Blk.new w 70 #[r.size.lo,r.size.hi,r.dens.lo,r.dens.hi,r.strong.lo,r.strong.hi,r.spin.lo,r.spin.hi,r.shape.lo,r.shape.hi,.bool r.pile]).alloc (.cells #[f.speed.lo,f.speed.hi,f.slope.lo,f.slope.hi] 72)).alloc (.cells #[(0:Int),(0:Int),(0:Int),(0:Int),(0:Int),.bool false,(0:Int),(0:Int)] 76);have hb:=(Blk.newAt (w.alloc (.cells #[r.size.lo,r.size.hi,r.dens.lo,r.dens.hi,r.strong.lo,r.strong.hi,r.spin.lo,r.spin.hi,r.shape.lo,r.shape.hi,.bool r.pile] 70)) 72 #[f.speed.lo,f.speed.hi,f.slope.lo,f.slope.hi] (n:=w.heap.size+1) (by simp)).alloc (.cells #[(0:Int),(0:Int),(0:Int),(0:Int),(0:Int),.bool false,(0:Int),(0:Int)] 76);have hc:=Blk.newAt ((w.alloc (.cells #[r.size.lo,r.size.hi,r.dens.lo,r.dens.hi,r.strong.lo,r.strong.hi,r.spin.lo,r.spin.hi,r.shape.lo,r.shape.hi,.bool r.pile] 70)).alloc (.cells #[f.speed.lo,f.speed.hi,f.slope.lo,f.slope.hi] 72)) 76 #[(0:Int),(0:Int),(0:Int),(0:Int),(0:Int),.bool false,(0:Int),(0:Int)] (n:=w.heap.size+2) (by simp);have hr0:=(((h.alloc (.cells #[r.size.lo,r.size.hi,r.dens.lo,r.dens.hi,r.strong.lo,r.strong.hi,r.spin.lo,r.spin.hi,r.shape.lo,r.shape.hi,.bool r.pile] 70)).alloc (.cells #[f.speed.lo,f.speed.hi,f.slope.lo,f.slope.hi] 72)).alloc (.cells #[(0:Int),(0:Int),(0:Int),(0:Int),(0:Int),.bool false,(0:Int),(0:Int)] 76));have hne:=h.ne (Nat.le_refl _);have hne':=h.ne (Nat.le_succ w.heap.size);have hne2:=h.ne (Nat.le_add_right w.heap.size 2);have hg:=h.lt;have K0:=(((Kp.refl w.heap.size (some g) w).alloc (Nat.le_refl _) (.cells #[r.size.lo,r.size.hi,r.dens.lo,r.dens.hi,r.strong.lo,r.strong.hi,r.spin.lo,r.spin.hi,r.shape.lo,r.shape.hi,.bool r.pile] 70)).alloc (by simp) (.cells #[f.speed.lo,f.speed.hi,f.slope.lo,f.slope.hi] 72)).alloc (by simp;omega) (.cells #[(0:Int),(0:Int),(0:Int),(0:Int),(0:Int),.bool false,(0:Int),(0:Int)] 76);go_enter Tryz.func19,Tryz.ntmps19
 go_wp2
 generalize ((w.alloc (.cells #[r.size.lo,r.size.hi,r.dens.lo,r.dens.hi,r.strong.lo,r.strong.hi,r.spin.lo,r.spin.hi,r.shape.lo,r.shape.hi,.bool r.pile] 70)).alloc (.cells #[f.speed.lo,f.speed.hi,f.slope.lo,f.slope.hi] 72)).alloc (.cells #[(0:Int),(0:Int),(0:Int),(0:Int),(0:Int),.bool false,(0:Int),(0:Int)] 76)=w0 at *;obtain⟨S,hS⟩:∃ S:Nat→World→Prop,S=fun _ w'=>Blk w' w.heap.size 70 #[r.size.lo,r.size.hi,r.dens.lo,r.dens.hi,r.strong.lo,r.strong.hi,r.spin.lo,r.spin.hi,r.shape.lo,r.shape.hi,.bool r.pile]∧Blk w' (w.heap.size+1) 72 #[f.speed.lo,f.speed.hi,f.slope.lo,f.slope.hi]:=⟨_,rfl⟩;have hS0:∀ w',S 0 w'↔(Blk w' w.heap.size 70 #[r.size.lo,r.size.hi,r.dens.lo,r.dens.hi,r.strong.lo,r.strong.hi,r.spin.lo,r.spin.hi,r.shape.lo,r.shape.hi,.bool r.pile]∧Blk w' (w.heap.size+1) 72 #[f.speed.lo,f.speed.hi,f.slope.lo,f.slope.hi]):=fun w'=>by rw[hS]
 clear hS;have cx:=fun (x:Ev (S 0)) i=>((hS0 _).1 x.h).1.cell i;have cy:=fun (x:Ev (S 0)) i=>((hS0 _).1 x.h).2.cell i;have ha0:=ha.drew;have hb0:=hb.drew;have hc0:=hc.drew;replace hr0:=hr0.drew;replace K0:=K0.drew;have hevT:=ev_true;refine wro S [(0,0),(1,0),(2,1),(4,0),(5,0),(6,1),(8,0),(9,0),(10,1),(12,0),(13,0),(14,1),(16,0),(17,0),(18,1),(20,0),(21,1),(22,0),(23,0),(24,1),(26,0),(27,0),(28,1),(3,2),(7,2),(11,2),(15,2),(19,2),(25,2),(29,2),(30,0),(31,2)] [] ((hS0 _).2 ⟨ha,hb⟩) ?_;intro _hev;refine oX ?_;refine oL ?_;intro K hK;go_step;refine(inside_any g nums _ r.size.lo r.size.hi _ hr0 oM oM oM oM).mono ?_;rintro e w1 ⟨v,rfl,⟨x1,rfl,p1,q1⟩,hr1,hk1⟩;have ha1:=ha0.kp hk1 ha0.lt hne;have hb1:=hb0.kp hk1 hb0.lt hne';have hc1:=hc0.kp hk1 hc0.lt hne2;have K1:=K0.then_ hk1 (by simp);refine hK _ _ ((hS0 _).2 ⟨ha1,hb1⟩) ?_;clear hK K hk1 ha0 hb0 hc0;refine oL ?_;intro K hK;go_step;refine(inside_any g nums _ r.dens.lo r.dens.hi _ hr1 oM oM oM oM).mono ?_;rintro e w2 ⟨v,rfl,⟨x2,rfl,p2,q2⟩,hr2,hk2⟩;have ha2:=ha1.kp hk2 ha1.lt hne;have hb2:=hb1.kp hk2 hb1.lt hne';have hc2:=hc1.kp hk2 hc1.lt hne2;have K2:=K1.then_ hk2 (by simp);refine hK _ _ ((hS0 _).2 ⟨ha2,hb2⟩) ?_;clear hK K hk2 ha1 hb1 hc1;refine oL ?_;intro K hK;go_step;refine(inside_any g nums _ r.strong.lo r.strong.hi _ hr2 oM oM oM oM).mono ?_;rintro e w3 ⟨v,rfl,⟨x3,rfl,p3,q3⟩,hr3,hk3⟩;have ha3:=ha2.kp hk3 ha2.lt hne;have hb3:=hb2.kp hk3 hb2.lt hne';have hc3:=hc2.kp hk3 hc2.lt hne2;have K3:=K2.then_ hk3 (by simp);refine hK _ _ ((hS0 _).2 ⟨ha3,hb3⟩) ?_;clear hK K hk3 ha2 hb2 hc2;refine oL ?_;intro K hK;go_step;refine(inside_any g nums _ r.spin.lo r.spin.hi _ hr3 oM oM oM oM).mono ?_;rintro e w4 ⟨v,rfl,⟨x4,rfl,p4,q4⟩,hr4,hk4⟩;have ha4:=ha3.kp hk4 ha3.lt hne;have hb4:=hb3.kp hk4 hb3.lt hne';have hc4:=hc3.kp hk4 hc3.lt hne2;have K4:=K3.then_ hk4 (by simp);refine hK _ _ ((hS0 _).2 ⟨ha4,hb4⟩) ?_;clear hK K hk4 ha3 hb3 hc3;refine oL ?_;intro K hK;go_step;refine(inside_any g nums _ r.shape.lo r.shape.hi _ hr4 oM oM oM oM).mono ?_;rintro e w5 ⟨v,rfl,⟨x5,rfl,p5,q5⟩,hr5,hk5⟩;have ha5:=ha4.kp hk5 ha4.lt hne;have hb5:=hb4.kp hk5 hb4.lt hne';have hc5:=hc4.kp hk5 hc4.lt hne2;have K5:=K4.then_ hk5 (by simp);refine hK _ _ ((hS0 _).2 ⟨ha5,hb5⟩) ?_;clear hK K hk5 ha4 hb4 hc4;refine oL ?_;intro K hK;go_step;refine(inside_any g nums _ f.speed.lo f.speed.hi _ hr5 oM oM oM oM).mono ?_;rintro e w6 ⟨v,rfl,⟨x6,rfl,p6,q6⟩,hr6,hk6⟩;have ha6:=ha5.kp hk6 ha5.lt hne;have hb6:=hb5.kp hk6 hb5.lt hne';have hc6:=hc5.kp hk6 hc5.lt hne2;have K6:=K5.then_ hk6 (by simp);refine hK _ _ ((hS0 _).2 ⟨ha6,hb6⟩) ?_;clear hK K hk6 ha5 hb5 hc5;refine oL ?_;intro K hK;go_step;refine(inside_any g nums _ f.slope.lo f.slope.hi _ hr6 oM oM oM oM).mono ?_;rintro e w7 ⟨v,rfl,⟨x7,rfl,p7,q7⟩,hr7,hk7⟩;have ha7:=ha6.kp hk7 ha6.lt hne;have hb7:=hb6.kp hk7 hb6.lt hne';have hc7:=hc6.kp hk7 hc6.lt hne2;have K7:=K6.then_ hk7 (by simp);refine hK _ _ ((hS0 _).2 ⟨ha7,hb7⟩) ?_;clear hK K hk7 ha6 hb6 hc6;refine oX ?_;have cA:=hc7.cell;have fA:=hc7.frozen;refine oL ?_;intro K hK
 go_step;refine hK _ _ ((hS0 _).2 ?_) ?_
 ·
  refine⟨?_,?_⟩
  ·
   iterate 8 refine Blk.far ?_ (show w.heap.size≠w.heap.size+2 by omega) _
   exact ha7
  ·
   iterate 8 refine Blk.far ?_ (show w.heap.size+1≠w.heap.size+2 by omega) _
   exact hb7
 clear hK K;refine wpOrd_nil ?_;clear hevT _hev;go_wp2
 refine bodyPost_ret (v:=.agg #[x1,x2,x3,x4,x5,.bool r.pile,x6,x7])
  (by simp[results,Tryz.results19,go_sem,cA]) rfl ⟨_,rfl,⟨⟨x1,x2,x3,x4,x5,r.pile,x6,x7⟩,rfl,?_⟩,?_,?_⟩
 · exact⟨⟨p1,q1⟩,⟨p2,q2⟩,⟨p3,q3⟩,⟨p4,q4⟩,⟨p5,q5⟩,rfl,⟨p6,q6⟩,⟨p7,q7⟩⟩
 ·
  iterate 8 refine RingAt.big ?_ (show g<w.heap.size+2 by omega) _
  exact hr7
 ·
  iterate 8 refine Kp.setNew ?_ (show w.heap.size≤w.heap.size+2 by omega) _
  exact K7
def RockIn (a:Rock) (b:Rock):Prop:=(b.size.lo≤a.size.lo∧a.size.hi≤b.size.hi)∧(b.dens.lo≤a.dens.lo∧a.dens.hi≤b.dens.hi)∧(b.strong.lo≤a.strong.lo∧a.strong.hi≤b.strong.hi) ∧
 (b.spin.lo≤a.spin.lo∧a.spin.hi≤b.spin.hi)∧(b.shape.lo≤a.shape.lo∧a.shape.hi≤b.shape.hi)∧a.pile=b.pile
def FallIn (a b:Fall):Prop:=(b.speed.lo≤a.speed.lo∧a.speed.hi≤b.speed.hi)∧(b.slope.lo≤a.slope.lo∧a.slope.hi≤b.slope.hi)
def soleRock (s:Stone):Rock:=⟨⟨s.size,s.size⟩,⟨s.dens,s.dens⟩,⟨s.strong,s.strong⟩,⟨s.spin,s.spin⟩,⟨s.shape,s.shape⟩,s.pile⟩
def soleFall (s:Stone):Fall:=⟨⟨s.speed,s.speed⟩,⟨s.slope,s.slope⟩⟩
theorem newRing_any (A:Option Addr) (cap:Nat) (nums:List Int) (w:World) (h:Rd none w 1 (fun x=>[Value.int .i64 x]) A nums.length nums) (hs:nums.length≤17592186044416) :
  Calls Tryz.prog 4 #[.slice A nums.length cap] w fun e w'=>∃ g,e=.returned (.pointer (some ⟨g,0,none⟩))∧w.heap.size≤g∧RingAt w' g nums 0∧Kp w.heap.size none w w':=by
 go_enter Tryz.func4,Tryz.ntmps4
 go_wp2
 go_ret
 refine⟨w.heap.size,rfl,Nat.le_refl _,⟨⟨A,cap,Blk.new w _ _,?_,?_⟩,hs⟩,(Kp.refl _ _ w).alloc (Nat.le_refl _) _⟩
 ·
  refine⟨rfl,fun hn=>?_⟩;obtain⟨b,o,e,hb,_,hc⟩:=h.2 hn;exact⟨b,o,e,by simp;omega,oN,fun i hi j v hv=>(World.cell?_alloc_lt w _ _ hb).trans (hc i hi j v hv)⟩
 ·
  intro hn ad e;obtain⟨b,o,e',hb,_,_⟩:=h.2 hn;rw[e] at e';injection e' with e'
  rw[e'];exact hb
theorem ret_bool {a b:Bool} (h:a=b):Ending.returned (.bool a)=.returned (.bool b):=by rw[h]
theorem ret_int {k:IntKind} {a b:Int} (h:a=b):Ending.returned (.int k a)=.returned (.int k b):=by rw[h]
theorem insideSpan_any (a b:Span) (w:World) :
  Calls Tryz.prog 17 #[.agg #[a.lo,a.hi],.agg #[b.lo,b.hi]] w fun e w'=>e=.returned (.bool (decide (a.lo≤a.hi)&&decide (b.lo≤a.lo)&&decide (a.hi≤b.hi)))∧Kp w.heap.size none w w':=by
 have K:=((Kp.refl w.heap.size none w).alloc (Nat.le_refl _) (.cells #[a.lo,a.hi] 29)).alloc (by simp) (.cells #[b.lo,b.hi] 29);go_enter Tryz.func17,Tryz.ntmps17
 go_wp2
 all_goals
  go_ret
  refine⟨ret_bool ?_,K⟩;rw[Bool.eq_iff_iff];simp
  try omega
end Go.Proofs.YtdhiappifnflpaaGreatDoor.Bl
