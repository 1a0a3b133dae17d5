/- Lands made of a ring. Sums of people, grades, lands. -/
import Derived.Test.YtdhiappifnflpaaGreatDoorM05
import Derived.Test.YtdhiappifnflpaaGreatDoorM37
set_option maxRecDepth 100000
set_option maxHeartbeats 2000000
namespace Go.Proofs.YtdhiappifnflpaaGreatDoor.Bl
open Go.RowKit
def encI (x:Int):List Value:=[.int .i64 x]
def encB (x:Bool):List Value:=[.bool x]
structure Land where
 people:List Int
 water:List Bool
section
variable {α β:Type} {w w':World} {B B' e e' sz sz':Nat} {enc:α→List Value} {enc':β→List Value} {v v':Value} {xs:List α} {ys:List β}
theorem _root_.Go.Proofs.YtdhiappifnflpaaGreatDoor.Own.slice (h:Own w B e sz enc v xs):∃ A cap,v=.slice A xs.length cap:=by
 rcases h.2 with⟨rfl,h0⟩|⟨g,cap,cur,rfl,_⟩
 · exact⟨none,0,by rw[h0]⟩
 · exact⟨_,cap,rfl⟩
theorem _root_.Go.Proofs.YtdhiappifnflpaaGreatDoor.Own.cap_le {A:Option Addr} {n c:Nat} (h:Own w B e sz enc (.slice A n c) xs):n≤c:=by
 rcases h.2 with⟨h1,h0⟩|⟨g,cap,cur,h1,_,_,h2,_⟩
 · injection h1 with _ h3 h4;omega
 · injection h1 with _ h3 h4;omega
theorem _root_.Go.Proofs.YtdhiappifnflpaaGreatDoor.Own.apart (h:Own w B e sz enc v xs) (h':Own w B' e' sz' enc' v' ys) (hne:e≠e'):v'.ownBlock=none∨v'.ownBlock≠v.ownBlock:=by
 rcases h.2 with⟨rfl,_⟩|⟨g,cap,cur,rfl,_,hh,_⟩
 ·
  cases hv:v'.ownBlock with
  | none=>exact .inl rfl
  | some b=>exact .inr (by simp[Value.ownBlock])
 ·
  rcases h'.2 with⟨rfl,_⟩|⟨g',cap',cur',rfl,_,hh',_⟩
  · exact .inl rfl
  ·
   refine .inr fun he=>?_;have:g'=g:=by simpa [Value.ownBlock] using he
   subst this;rw[hh] at hh';injection hh' with hh'
   injection hh' with _ ht
   exact hne ht
theorem _root_.Go.Proofs.YtdhiappifnflpaaGreatDoor.Own.grown (h:Own w B e sz enc v xs) (hg:w.grownBy w' v'.ownBlock) (ha:v.ownBlock=none∨v.ownBlock≠v'.ownBlock):Own w' B e sz enc v xs:=World.ownsRow.kept h hg ha
theorem _root_.Go.Proofs.YtdhiappifnflpaaGreatDoor.Own.setLow (h:Own w B e sz enc v xs) {p:Addr} (hp:p.block<B) (u:Value):Own (w.setCell p u) B e sz enc v xs:=ownsRow_setCell_below h hp u
end
theorem i64_info:(Tryz.prog.info? 2).map (fun i=>(i.zero,i.size,i.bytes))=some (some (.int .i64 0),1,8):=by kernel_rfl
theorem bool_info:(Tryz.prog.info? 4).map (fun i=>(i.zero,i.size,i.bytes))=some (some (.bool false),1,1):=by kernel_rfl
theorem _root_.Go.Proofs.YtdhiappifnflpaaGreatDoor.Own.slice1 {α:Type} {w:World} {B e sz:Nat} {enc:α→List Value} {v:Value} {xs:List α} {x:α} (h:Own w B e sz enc v (xs++[x])):∃ A cap,v=.slice A (xs.length+1) cap:=by
 obtain⟨A,cap,rfl⟩:=h.slice;exact⟨A,cap,by rw[List.length_append];rfl⟩
theorem mul_bd {a b:Int} (h0:0≤a) (h1:a<3) (h2:0≤b) (h3:b<1000):a * b≤1998:=by
 have:a * b≤2 * b:=Int.mul_le_mul_of_nonneg_right oM h2;omega
def LandRel (g:Nat) (nums:List Int) (k0:Nat) (W:World) (N:Nat) (n:Value) (wr:World):Prop:=
 ∃ (ps:List Int) (bs:List Bool) (A A':Option Addr) (c c':Nat) (m:Int) (k:Nat),n=.int .i64 m∧0≤m∧m+ps.length=N∧bs.length=ps.length∧1≤N∧N≤16∧k≤k0+2+3 * ps.length ∧
  Blk wr (W.heap.size+1) 65 #[.slice A ps.length c,.slice A' bs.length c']∧Blk wr W.heap.size 65 #[.slice none 0 0,.slice none 0 0] ∧
  Own wr (W.heap.size+2) 2 1 encI (.slice A ps.length c) ps∧Own wr (W.heap.size+2) 4 1 encB (.slice A' bs.length c') bs∧(∀ p∈ps,0≤p∧p≤1998)∧RingAt wr g nums k∧Kp W.heap.size (some g) W wr
theorem landOf_any (g:Nat) (nums:List Int) (k:Nat) (w:World) (h:RingAt w g nums k) (hk:k≤800000) :
  Calls Tryz.prog 15 #[.pointer (some ⟨g,0,none⟩)] w
   (RPostB g nums (k+60) w fun v w'=>∃ A c A' c' ps bs,v=.agg #[.slice A ps.length c,.slice A' bs.length c']∧Rd (some g) w' 1 encI A ps.length ps∧Rd (some g) w' 1 encB A' bs.length bs ∧
    bs.length=ps.length∧1≤ps.length∧ps.length≤16∧(∀ p∈ps,0≤p∧p≤1998)∧ps.length≤c∧bs.length≤c'∧(∀ ad,A=some ad→w.heap.size≤ad.block)∧∀ ad,A'=some ad→w.heap.size≤ad.block):=by
 obtain⟨i0,hi,hz0,hz1,hz2⟩:=info_parts i64_info;obtain⟨j0,hj,hy0,hy1,hy2⟩:=info_parts bool_info;have hg:=h.lt;have hne:=h.ne (Nat.le_refl _);have hne':=h.ne (Nat.le_succ w.heap.size);have ha:=(Blk.new w 65 #[.slice none 0 0,.slice none 0 0]).alloc (.cells #[.slice none 0 0,.slice none 0 0] 65);have hb:=Blk.newAt (w.alloc (.cells #[.slice none 0 0,.slice none 0 0] 65)) 65 #[.slice none 0 0,.slice none 0 0] (n:=w.heap.size+1) (by simp);have K0:=((Kp.refl w.heap.size (some g) w).alloc (Nat.le_refl _) (.cells #[.slice none 0 0,.slice none 0 0] 65)).alloc (by simp) (.cells #[.slice none 0 0,.slice none 0 0] 65);go_enter Tryz.func15,Tryz.ntmps15
 go_wp2_with fail
 refine(next_any g nums k _ _ ((h.alloc _).alloc _) oM oM oM).mono ?_;rintro e w1 ⟨v,rfl,⟨sea,rfl,p0,q0⟩,hr1,hk1⟩;have ha1:=ha.kp hk1 ha.lt hne;have hb1:=hb.kp hk1 hb.lt hne';have K1:=K0.then_ hk1 (by simp);clear ha hb K0 hk1;go_wp2_with fail
 refine(next_any g nums _ _ _ hr1 oM oM oM).mono ?_;rintro e w2 ⟨v,rfl,⟨n0,rfl,p1,q1⟩,hr2,hk2⟩;have ha2:=ha1.kp hk2 ha1.lt hne;have hb2:=hb1.kp hk2 hb1.lt hne';have K2:=K1.then_ hk2 (Nat.le_refl _);obtain⟨N,rfl⟩:=Int.eq_ofNat_of_zero_le p1;clear hk2 hr1 ha1 hb1 K1;go_wp2_with fail
 go_loopw [5] (fun n wr=>LandRel g nums k w (1+N) n wr) (fun n _=>(intOf n).toNat)
 case atStart=>exact⟨[],[],none,none,0,0,1+N,_,rfl,by omega,by simp,rfl,by omega,by omega,by simp,hb2,ha2,Own.nil _ _ _ _ _,Own.nil _ _ _ _ _,by simp,hr2,K2⟩
 case round=>
  obtain⟨ps,bs,A,A',c,c',m,k',rfl,hm0,hm,hbl,hN1,hN,hk',hB,hA,hop,how,hok,hr,KK⟩:=hrel;have hl6:ps.length≤16:=by omega
  have hm6:m≤16:=by omega
  have hzr:w.heap.size+2≤wr.heap.size:=hB.lt;by_cases hmp:0<m
  ·
   have hl5:ps.length≤15:=by omega
   have HM:=Lib.hid hm;have HL:=Lib.hid hbl;have hbl5:bs.length≤15:=by omega
   clear hm hbl;go_wp2_with fail
   obtain⟨S,hS⟩:∃ S:Nat→World→Prop,S=fun n w'=>if n=0 then Blk w' (w.heap.size+1) 65 #[.slice A ps.length c,.slice A' bs.length c'] else True:=⟨_,rfl⟩;have hS0:∀ w',S 0 w'↔(Blk w' (w.heap.size+1) 65 #[.slice A ps.length c,.slice A' bs.length c']):=fun w'=>by rw[hS];exact Iff.rfl
   have hS1:∀ w',S 1 w'↔(True):=fun w'=>by rw[hS];exact Iff.rfl
   clear hS;have cx:=fun (x:Ev (S 0)) i=>((hS0 _).1 x.h).cell i;replace hA:=hA.drew;replace hB:=hB.drew;replace hop:=hop.drew;replace how:=how.drew;replace hr:=hr.drew;replace KK:=KK.drew;have hevT:=ev_true;refine wro S [(0,0),(1,1),(2,0),(4,0),(9,0),(10,1),(11,0),(13,0),(3,2),(5,2),(6,0),(7,2),(8,2),(17,0),(12,2),(14,0),(15,2),(16,2),(18,3),(19,0),(20,2)] [18] ((hS0 _).2 hB) ?_;intro _hev;refine oX ?_;refine oL ?_;intro K hK;go_step;refine(next_any g nums _ _ _ hr oM oM oM).mono ?_;rintro e w3 ⟨v,rfl,⟨a,rfl,pa,qa⟩,hr3,hk3⟩;have hB3:=hB.kp hk3 hB.lt hne';have hA3:=hA.kp hk3 hA.lt hne;have op3:=hop.kp hk3 (fun b hb=>oN);have ow3:=how.kp hk3 (fun b hb=>oN);have K3:=KK.then_ hk3 (Nat.le_refl _);refine hK _ _ ((hS0 _).2 hB3) ?_;clear hK K hr hB hA hop how KK hk3;refine oL ?_;intro K hK;go_step;refine(next_any g nums _ _ _ hr3 oM oM oM).mono ?_;rintro e w4 ⟨v,rfl,⟨b,rfl,pb,qb⟩,hr4,hk4⟩;have hB4:=hB3.kp hk4 hB3.lt hne';have hA4:=hA3.kp hk4 hA3.lt hne;have op4:=op3.kp hk4 (fun b hb=>oN);have ow4:=ow3.kp hk4 (fun b hb=>oN);have K4:=K3.then_ hk4 (Nat.le_refl _);have hz4:w.heap.size+2≤w4.heap.size:=hB4.lt;refine hK _ _ ((hS0 _).2 hB4) ?_;clear hK K hr3 hB3 hA3 op3 ow3 K3 hk4;have hx0:0≤a * b:=Int.mul_nonneg pa pb;have hx3:a * b≤1998:=mul_bd pa qa pb qb;refine oX ?_;refine oL ?_;intro K hK;go_step;refine hK _ _ ((hS0 _).2 (hB4.alloc _)) ?_;clear hK K;refine oL ?_;intro K hK;refine wp_append_own _ (.tmp 16) (.tmp 22) 62 (by rfl) (w.heap.size+2) 2 i0 _ 1 8 Tryz.underlying62 hi hz0 hz1 hz2 (by rfl) oM _ ps.length (ps.flatMap encI) (by rfl) (op4.alloc _) ⟨w4.heap.size,0,none⟩ 1 1 [.int .i64 (a * b)] (by rfl) (by rfl) (cell_one_new _ _ _) (one_int _ _) (maxLen_of oM) oM (alloc_ge hz4 _) ?_;intro v5 w5 hown5 hgrow _;have op5:Own w5 (w.heap.size+2) 2 1 encI v5 (ps++[a * b]):=by unfold Own;simpa [encI] using hown5
   have ow5:=(ow4.alloc _).grown hgrow (op4.apart ow4 (by decide));have hr5:=(hr4.alloc _).grown hgrow (Own.gt op4 oM);have kk5:Kp (w.heap.size+2) none _ w5:=Kp.of_own (op4.alloc _) hgrow (alloc_ge hz4 _);have hB5:=(hB4.alloc _).kp kk5 oM (by simp);have hA5:=(hA4.alloc _).kp kk5 oM (by simp);have K5:=(K4.alloc oM _).trans ((kk5.mono oM).wide (some g));have hz5:w.heap.size+2≤w5.heap.size:=hB5.lt;refine hK _ _ ((hS0 _).2 hB5) ?_;simp only[Act.put,sbt,sc0,scs];clear hK K hown5 hgrow kk5 op4 ow4 hr4 hB4 hA4 K4;refine oX ?_;refine oL ?_;intro K hK;go_step;refine(next_any g nums _ _ _ hr5 oM oM oM).mono ?_;rintro e w6 ⟨v,rfl,⟨d,rfl,pd,qd⟩,hr6,hk6⟩;have hB6:=hB5.kp hk6 hB5.lt hne';have hA6:=hA5.kp hk6 hA5.lt hne;have op6:=op5.kp hk6 (fun b hb=>oN);have ow6:=ow5.kp hk6 (fun b hb=>oN);have K6:=K5.then_ hk6 (Nat.le_refl _);have hz6:w.heap.size+2≤w6.heap.size:=hB6.lt;refine hK _ _ ((hS0 _).2 hB6) ?_;clear hK K hr5 hB5 hA5 op5 ow5 K5 hk6;refine oX ?_;refine oL ?_;intro K hK;go_step;refine hK _ _ ((hS0 _).2 (hB6.alloc _)) ?_;clear hK K;refine oL ?_;intro K hK;refine wp_append_own _ (.tmp 25) (.tmp 30) 63 (by rfl) (w.heap.size+2) 4 j0 _ 1 1 Tryz.underlying63 hj hy0 hy1 hy2 (by rfl) oM _ bs.length (bs.flatMap encB) (by rfl) (ow6.alloc _) ⟨w6.heap.size,0,none⟩ 1 1 [.bool (decide (d<sea))] (by rfl) (by rfl) (cell_one_new _ _ _) (one_bool _) (maxLen_of oM) oM (alloc_ge hz6 _) ?_;intro v7 w7 hown7 hgrow _;have ow7:Own w7 (w.heap.size+2) 4 1 encB v7 (bs++[decide (d<sea)]):=by unfold Own;simpa [encB] using hown7
   have op7:=(op6.alloc _).grown hgrow (ow6.apart op6 (by decide));have hr7:=(hr6.alloc _).grown hgrow (Own.gt ow6 oM);have kk7:Kp (w.heap.size+2) none _ w7:=Kp.of_own (ow6.alloc _) hgrow (alloc_ge hz6 _);have hB7:=(hB6.alloc _).kp kk7 oM (by simp);have hA7:=(hA6.alloc _).kp kk7 oM (by simp);have K7:=(K6.alloc oM _).trans ((kk7.mono oM).wide (some g));obtain⟨A8,c8,rfl⟩:=op7.slice1;obtain⟨A9,c9,rfl⟩:=ow7.slice1;have c7:=hB7.cell;have f7:=hB7.frozen;refine hK _ _ ((hS0 _).2 hB7) ?_;simp only[Act.put,sbt,sc0,scs];clear hK K hown7 hgrow kk7 op6 ow6 hr6 hB6 hA6 K6;refine oA ?_;intro K hK;go_step;refine hK _ _ ((hS1 _).2 trivial) ?_;clear hK K;change wpOrd _ _ _ _ _ 1 _ _;refine oX ?_;refine oL ?_;intro K hK;go_step;refine hK _ _ ((hS1 _).2 trivial) ?_;clear hK K;refine wpOrd_nil ?_;clear hevT _hev;clear cx hS0 hS1 S c7 f7;have hB8:=(hB7.set_ 0 (.slice A8 (ps.length+1) c8)).set_ 1 (.slice A9 (bs.length+1) c9);simp only[sbt,sc0,scs] at hB8;go_wp2
   go_roundw
   case rel=>
    have hmo:=HM.out;have hlo:=HL.out;have e8:(ps++[a * b]).length=ps.length+1:=by simp
    have e9:(bs++[decide (d<sea)]).length=bs.length+1:=by simp
    exact⟨ps++[a * b],bs++[decide (d<sea)],A8,A9,c8,c9,m-1,_,rfl,by omega,by simp only[List.length_append,List.length_cons,List.length_nil];omega,by simp only[List.length_append,List.length_cons,List.length_nil];omega,hN1,hN,
     by simp only[List.length_append,List.length_cons,List.length_nil];omega,by simpa using hB8,(hA7.far (by simp) _).far (by simp) _,by rw[e8];exact(op7.setLow (by simp) _).setLow (by simp) _,by rw[e9];exact(ow7.setLow (by simp) _).setLow (by simp) _,fun z hz=>by
      rcases List.mem_append.1 hz with hz|hz
      · exact hok z hz
      · simp at hz;subst hz;exact⟨hx0,hx3⟩,(hr7.big (by simp;omega) _).big (by simp;omega) _,(K7.setNew (by simp) _).setNew (by simp) _⟩
   case measure=>simp[intOf];omega
  ·
   have hl1:1≤ps.length:=by omega
   replace hop:=(hop.setLow (p:=⟨w.heap.size,0,none⟩) (show w.heap.size<w.heap.size+2 by omega) (.slice A ps.length c)).setLow (p:=⟨w.heap.size,1,none⟩) (show w.heap.size<w.heap.size+2 by omega) (.slice A' bs.length c');replace how:=(how.setLow (p:=⟨w.heap.size,0,none⟩) (show w.heap.size<w.heap.size+2 by omega) (.slice A ps.length c)).setLow (p:=⟨w.heap.size,1,none⟩) (show w.heap.size<w.heap.size+2 by omega) (.slice A' bs.length c');obtain⟨A1,cap1,he1,hrd1,hge1⟩:=hop.rd (row:=some g) (fun _=>rfl) (fun b hb=>oN);obtain⟨A2,cap2,he2,hrd2,hge2⟩:=how.rd (row:=some g) (fun _=>rfl) (fun b hb=>oN);injection he1 with e1 _ e2
   injection he2 with e3 _ e4
   subst e1 e2 e3 e4;have c1:=hB.cell;have c2:=hA.cell;have f2:=hA.frozen;have HL:=Lib.hid hbl;clear hbl hm;go_wp2
   exact bodyPost_ret (v:=.agg #[.slice A ps.length c,.slice A' bs.length c']) (by simp[results,Tryz.results15,go_sem,c2]) rfl
    ⟨_,k',rfl,⟨A,c,A',c',ps,bs,rfl,hrd1,hrd2,HL.out,hl1,hl6,hok,hop.cap_le,how.cap_le,fun ad e=>by have:=(hge1 ad e).1;omega,fun ad e=>by have:=(hge2 ad e).1;omega⟩,by omega,(hr.big oM _).big oM _,(KK.setNew (Nat.le_refl _) _).setNew (Nat.le_refl _) _⟩
theorem sum_bd (xs:List Int) (h:∀ x∈xs,0≤x∧x≤4294967296):0≤xs.sum∧xs.sum≤4294967296 * xs.length:=by
 induction xs with
 | nil=>simp
 | cons x xs ih=>
  have h1:=ih fun y hy=>h y (List.mem_cons_of_mem _ hy);have h2:=h x (List.mem_cons_self);simp only[List.sum_cons,List.length_cons];push_cast
  omega
theorem sum_take_succ (xs:List Int) (i:Nat) (hi:i<xs.length):(xs.take (i+1)).sum=(xs.take i).sum+xs[i]:=by
 rw[List.take_add_one,List.getElem?_eq_getElem hi,List.sum_append];simp only[Option.toList,List.sum_cons,List.sum_nil,Int.add_zero]
def SumAt (xs:List Int) (w:World) (vo vi:Value) (wr:World):Prop:=∃ i:Nat,vi=.int .i64 i∧i≤xs.length∧vo=.int .i64 (xs.take i).sum∧Kp w.heap.size none w wr
theorem blast_sum_any (A:Option Addr) (cap:Nat) (xs:List Int) (w:World) (h:Rd none w 1 encI A xs.length xs) (hl:xs.length≤400) (hb:∀ x∈xs,0≤x∧x≤4294967296) :
  Calls Tryz.prog 158 #[.slice A xs.length cap] w fun e w'=>e=.returned (.int .i64 xs.sum)∧Kp w.heap.size none w w':=by
 go_enter Tryz.func158,Tryz.ntmps158
 go_wp2_with fail
 go_loopw [3,8] (fun vo v wr=>SumAt xs w vo v wr) (fun _ v _=>xs.length-(intOf v).toNat)
 case atStart=>exact⟨0,rfl,by omega,rfl,Kp.refl _ _ _⟩
 case round=>
  obtain⟨i,rfl,hi,rfl,KK⟩:=hrel;by_cases h7:i<xs.length
  ·
   obtain⟨b,o,rfl,hbl,-,hc⟩:=(h.kpN KK).at_ oM;have c0:wr.cell? ⟨b,o+i,none⟩=some (.int .i64 xs[i]):=Rd.cell1 (fun _=>rfl) hc i h7;have hi':(i:Int)<(xs.length:Int):=by omega
   have hlen:(xs.length:Int)≤400:=by omega
   have hs:=Lib.hid (sum_take_succ xs i h7);have b1:=sum_bd (xs.take i) fun y hy=>hb y (List.mem_of_mem_take hy);have b2:=hb xs[i] (List.getElem_mem h7);have b3:(xs.take i).length≤400:=by rw[List.length_take];omega
   have hw:wrap64 ((xs.take i).sum+xs[i])=(xs.take (i+1)).sum:=by
    rw[hs.out];unfold wrap64;omega
   replace hw:=Lib.hid hw;generalize xs[i]=x at c0 hw;generalize (xs.take i).sum=y at hw;clear hc hs b1 b2 b3 hi hb;replace h7:=Lib.hid h7;replace h:=Lib.hid h;go_wp2
   go_roundw
   case rel=>exact⟨i+1,rfl,h7.out,by rw[hw.out],KK⟩
   case measure=>have:=h7.out;simp[intOf];omega
  ·
   have he:i=xs.length:=by omega
   have hi':¬ (i:Int)<(xs.length:Int):=by omega
   have hts:(xs.take i).sum=xs.sum:=by rw[he,List.take_length]
   rw[hts];clear hb hts;go_wp2
   exact bodyPost_ret (by simp[results,Tryz.results158,go_sem]) rfl ⟨rfl,KK⟩
def peopleOf (ps:List Int) (f t:Nat):Int:=((ps.drop f).take (t+1-f)).sum
theorem _root_.Go.Proofs.YtdhiappifnflpaaGreatDoor.Rd.sub {α:Type} {row:Option Nat} {w:World} {enc:α→List Value} {b o n:Nat} {xs:List α} (h:Rd row w 1 enc (some ⟨b,o,none⟩) n xs) (f m:Nat) (hf:f+m≤n) :
  Rd row w 1 enc (some ⟨b,o+f,none⟩) m ((xs.drop f).take m):=by
 have hl:=h.1;refine⟨by rw[List.length_take,List.length_drop];omega,fun hm=>?_⟩;obtain⟨b',o',e,hb,hr,hc⟩:=h.2 oM;injection e with e;injection e with e1 e2
 subst e1 e2;refine⟨_,_,rfl,hb,hr,fun i hi j v hv=>?_⟩;have hi':i<m:=by rw[List.length_take] at hi;omega
 have:=hc (f+i) oM j v (by simpa using hv);rw[show o+f+(i * 1+j)=o+((f+i) * 1+j) by omega];exact this
theorem blast_people_any (A A':Option Addr) (c n' c':Nat) (ps:List Int) (f t:Nat) (w:World) (h:Rd none w 1 encI A ps.length ps) (hl:ps.length≤400) (hc:ps.length≤c) (hb:∀ x∈ps,0≤x∧x≤4294967296)
  (hf:f≤t) (ht:t<ps.length) :
  Calls Tryz.prog 140 #[.agg #[.slice A ps.length c,.slice A' n' c'],f,t] w fun e w'=>e=.returned (.int .i64 (peopleOf ps f t))∧Kp w.heap.size none w w':=by
 have K0:=(Kp.refl w.heap.size none w).alloc (Nat.le_refl _) (.cells #[.slice A ps.length c,.slice A' n' c'] 65);obtain⟨b,o,rfl,hbl,-,-⟩:=h.at_ oM;have R0:=(h.kpN K0).sub f (t+1-f) oM;have hf':(f:Int)≤(t:Int):=by omega
 have ht':(t:Int)<(ps.length:Int):=by omega
 have hl':(ps.length:Int)≤400:=by omega
 have hc':(ps.length:Int)≤(c:Int):=by omega
 replace R0:=Lib.hid R0;replace hb:=Lib.hid hb;clear h hbl;go_enter Tryz.func140,Tryz.ntmps140
 go_wp2_with fail
 have hlen:=R0.out.1;have call:=blast_sum_any (some ⟨b,o+f,none⟩) (t+1-f) ((ps.drop f).take (t+1-f)) _ (by rw[hlen];exact R0.out) (by rw[hlen];omega) (fun x hx=>hb.out x (List.mem_of_mem_drop (List.mem_of_mem_take hx)));rw[hlen] at call;refine call.mono ?_;rintro e w1 ⟨rfl,k1⟩;have K1:=K0.then_ k1 (by simp);clear K0 call hlen R0 hb k1;go_wp2
 exact bodyPost_ret (v:=.int .i64 (peopleOf ps f t)) (by simp[results,Tryz.results140,go_sem,peopleOf]) rfl ⟨rfl,K1⟩
def harmOf (ps:List Int) (a F:Nat):Int:=peopleOf ps (a-F) (min (ps.length-1) (a+F))
theorem blast_harm_any (A A':Option Addr) (c n' c':Nat) (ps:List Int) (a:Nat) (r:Int) (w:World) (h:Rd none w 1 encI A ps.length ps) (hl:ps.length≤400) (hc:ps.length≤c) (hb:∀ x∈ps,0≤x∧x≤4294967296)
  (ha:a<ps.length) (hr:0≤r) :
  Calls Tryz.prog 112 #[.agg #[.slice A ps.length c,.slice A' n' c'],a,r] w fun e w'=>e=.returned (.int .i64 (harmOf ps a (min r 400).toNat))∧Kp w.heap.size none w w':=by
 have K0:=(Kp.refl w.heap.size none w).alloc (Nat.le_refl _) (.cells #[.slice A ps.length c,.slice A' n' c'] 65);have B0:=Blk.new w 65 #[.slice A ps.length c,.slice A' n' c'];obtain⟨F,hF⟩:∃ F:Nat,F=(min r 400).toNat:=⟨_,rfl⟩;have hFi:(F:Int)=min r 400:=by omega
 have hF4:F≤400:=by omega
 have hai:(a:Int)<(ps.length:Int):=by omega
 have hli:(ps.length:Int)≤400:=by omega
 rw[← hF];have R0:=Lib.hid (h.kpN K0);replace hb:=Lib.hid hb;replace hc:=Lib.hid hc;clear h hF;go_enter Tryz.func112,Tryz.ntmps112
 go_wp2_with fail
 rw[show max 0 ((a:Int)-min r 400)=((a-F:Nat):Int) from by omega,show min ((ps.length:Int)-1) ((a:Int)+min r 400)=((min (ps.length-1) (a+F):Nat):Int) from by omega];refine mK (blast_people_any A A' c n' c' ps (a-F) (min (ps.length-1) (a+F)) _ R0.out hl hc.out hb.out oM oM) fun w1 k1=>?_;have K1:=K0.then_ k1 (by simp);clear K0 R0 hb k1 B0;go_wp2
 exact bodyPost_ret (v:=.int .i64 (harmOf ps a F)) (by simp[results,Tryz.results112,go_sem,harmOf]) rfl ⟨rfl,K1⟩
def GradeOk1 (x:Grade):Prop:=(0≤x.energy∧x.energy≤1152921504606846976)∧0≤x.reach∧x.reach≤400
def gradeErr (gs:List Grade) (i:Nat) (hi:i<gs.length):Option Int:=
 if ¬ (btw gs[i].energy 0 1152921504606846976=true∧btw gs[i].reach 0 400=true) then some 2
 else if gs[i].energy≤(if h:0<i then gs[i-1].energy else -1)∨gs[i].reach<(if h:0<i then gs[i-1].reach else 0) then some 11 else none
def GradesChk (gs:List Grade) (n:Int):Prop:=
 (gs.length=0∧n=6)∨(32<gs.length∧n=8)∨(1≤gs.length∧gs.length≤32∧((n=0∧∀ i (hi:i<gs.length),gradeErr gs i hi=none)∨∃ i,∃ hi:i<gs.length,gradeErr gs i hi=some n∧∀ j (hj:j<gs.length),j<i→gradeErr gs j hj=none))
def lastOf (gs:List Grade) (i:Nat):Grade:=if h:0<i∧i-1<gs.length then gs[i-1] else ⟨-1,0⟩
def ChkGr (gs:List Grade) (W:World) (vi:Value) (wr:World):Prop:=
 ∃ i:Nat,vi=.int .i64 i∧i≤gs.length∧(∀ j (hj:j<gs.length),j<i→gradeErr gs j hj=none)∧Blk wr W.heap.size 129 #[(lastOf gs i).energy,(lastOf gs i).reach]∧Kp W.heap.size none W wr
theorem lastOf_succ (gs:List Grade) (i:Nat) (hi:i<gs.length):lastOf gs (i+1)=gs[i]:=by
 unfold lastOf;rw[dif_pos ⟨by omega,by simpa using hi⟩];rfl
theorem gradeErr_last (gs:List Grade) (i:Nat) (hi:i<gs.length):gradeErr gs i hi =
  if ¬ (btw gs[i].energy 0 1152921504606846976=true∧btw gs[i].reach 0 400=true) then some 2 else if gs[i].energy≤(lastOf gs i).energy∨gs[i].reach<(lastOf gs i).reach then some 11 else none:=by
 unfold gradeErr lastOf;rcases Nat.eq_zero_or_pos i with h0|h0
 · subst h0;rfl
 · rw[dif_pos h0,dif_pos h0,dif_pos ⟨h0,by omega⟩]
theorem blast_CheckGrades_any (A:Option Addr) (cap:Nat) (gs:List Grade) (w:World) (h:Rd none w 2 encGrade A gs.length gs) :
  Calls Tryz.prog 110 #[.slice A gs.length cap] w fun e w'=>(∃ n,e=.returned (.int .i64 n)∧GradesChk gs n)∧Kp w.heap.size none w w':=by
 go_enter Tryz.func110,Tryz.ntmps110
 rcases Nat.eq_zero_or_pos gs.length with h0|h0
 ·
  have hc:GradesChk gs 6:=.inl ⟨h0,rfl⟩;replace hc:=Lib.hid hc;have h0':(gs.length:Int)=0:=by omega
  clear h;go_wp2
  exact bodyPost_ret (by simp[results,Tryz.results110,go_sem]) rfl ⟨⟨6,rfl,hc.out⟩,Kp.refl _ _ _⟩
 have h0':¬ (gs.length:Int)=0:=by omega
 rcases Nat.lt_or_ge 32 gs.length with hl|hl
 ·
  have hl':(32:Int)<(gs.length:Int):=by omega
  have hc:GradesChk gs 8:=.inr (.inl ⟨hl,rfl⟩);replace hc:=Lib.hid hc;clear h hl;go_wp2
  exact bodyPost_ret (by simp[results,Tryz.results110,go_sem]) rfl ⟨⟨8,rfl,hc.out⟩,Kp.refl _ _ _⟩
 have hl':¬ (32:Int)<(gs.length:Int):=by omega
 have B0:Blk (w.alloc (.cells #[.int .i64 (-1),(0:Int)] 129)) w.heap.size 129 #[.int .i64 (-1),(0:Int)]:=Blk.new _ _ _;have K0:=(Kp.refl w.heap.size none w).alloc (Nat.le_refl _) (.cells #[.int .i64 (-1),(0:Int)] 129);go_wp2_with fail
 go_loopw [17] (fun v wr=>ChkGr gs w v wr) (fun v _=>gs.length-(intOf v).toNat)
 case atStart=>exact⟨0,rfl,by omega,fun j _ hj=>absurd hj oM,B0,K0⟩
 case round=>
  obtain⟨i,rfl,hi,hj,BB,KK⟩:=hrel;by_cases h7:i<gs.length
  ·
   obtain⟨b,o,rfl,hbl,-,hc⟩:=(h.kpN KK).at_ oM;have c0:wr.cell? ⟨b,o+i * 2,none⟩=some (.int .i64 gs[i].energy):=hc i h7 0 _ rfl;have c1:wr.cell? ⟨b,o+i * 2+1,none⟩=some (.int .i64 gs[i].reach):=hc i h7 1 _ rfl;have hi':(i:Int)<(gs.length:Int):=by omega
   have hlen:(gs.length:Int)≤32:=by omega
   have hge:=gradeErr_last gs i h7
   have hst:gradeErr gs i h7=none→∀ j (hj:j<gs.length),j<i+1→gradeErr gs j hj=none:=fun h j hjl hj'=>by
    rcases Nat.lt_or_ge j i with h1|h1
    · exact hj j hjl h1
    ·
     have:j=i:=by omega
     subst this;exact h
   have hbad:∀ n,gradeErr gs i h7=some n→GradesChk gs n:=fun n h=>.inr (.inr ⟨h0,hl,.inr ⟨i,h7,h,hj⟩⟩);have hls:=lastOf_succ gs i h7;generalize gradeErr gs i h7=ge at hge hst hbad;generalize gs[i]=x at c0 c1 hge hls;obtain⟨la,lb⟩:∃ l,l=lastOf gs i:=⟨_,rfl⟩;rw[← lb] at BB hge;have K1:Kp w.heap.size none w (wr.alloc (.cells #[x.energy,x.reach] 129)):=KK.alloc KK.size _;have B1:=Blk.new wr 129 #[x.energy,x.reach];have L1:=BB.alloc (.cells #[x.energy,x.reach] 129);have hz:w.heap.size<wr.heap.size:=BB.lt;replace hls:=Lib.hid hls;replace hst:=Lib.hid hst;replace hbad:=Lib.hid hbad;replace hge:=Lib.hid hge;replace h:=Lib.hid h;clear hj hc hbl KK hl hi lb BB h0;replace h7:=Lib.hid h7;go_wp2_with fail
   refine mK (blast_within_any _ _ _ _) fun w2 k2=>?_;have B2:=B1.kp k2 B1.lt (by simp);have L2:=L1.kp k2 L1.lt (by simp);have K2:=K1.then_ k2 (Nat.le_refl _);have c2:=B2.cell;have d2:=L2.cell;cases hb1:btw x.energy 0 1152921504606846976
   ·
    have hno:=Lib.hid (hbad.out 2 (by rw[hge.out,if_pos (fun k=>by rw[k.1] at hb1;cases hb1)]));clear k2;go_wp2
    exact bodyPost_ret (by simp[results,Tryz.results110,go_sem]) rfl ⟨⟨2,rfl,hno.out⟩,K2⟩
   ·
    clear k2;go_wp2_with fail
    refine mK (blast_within_any _ _ _ _) fun w3 k3=>?_;have B3:=B2.kp k3 B2.lt (by simp);have L3:=L2.kp k3 L2.lt (by simp);have K3:=K2.then_ k3 (Nat.le_refl _);have c3:=B3.cell;have d3:=L3.cell;have f3:=L3.frozen;clear k3 c2 d2 B2 L2;cases hb2:btw x.reach 0 400
    ·
     have hno:=Lib.hid (hbad.out 2 (by rw[hge.out,if_pos (fun k=>by rw[k.2] at hb2;cases hb2)]));go_wp2
     exact bodyPost_ret (by simp[results,Tryz.results110,go_sem]) rfl ⟨⟨2,rfl,hno.out⟩,K3⟩
    ·
     have hg2:=hge.out;rw[if_neg (fun k=>k ⟨hb1,hb2⟩)] at hg2;by_cases hb3:x.energy≤la.energy
     ·
      have hno:=Lib.hid (hbad.out 11 (by rw[hg2,if_pos (.inl hb3)]));clear hg2;go_wp2
      exact bodyPost_ret (by simp[results,Tryz.results110,go_sem]) rfl ⟨⟨11,rfl,hno.out⟩,K3⟩
     ·
      by_cases hb4:x.reach<la.reach
      ·
       have hno:=Lib.hid (hbad.out 11 (by rw[hg2,if_pos (.inr hb4)]));clear hg2;go_wp2
       exact bodyPost_ret (by simp[results,Tryz.results110,go_sem]) rfl ⟨⟨11,rfl,hno.out⟩,K3⟩
      ·
       have hok:=Lib.hid (hst.out (by rw[hg2,if_neg (fun k=>k.elim hb3 hb4)]));have L4:=(L3.set_ 0 (.int .i64 x.energy)).set_ 1 (.int .i64 x.reach);simp only[sbt,sc0,scs] at L4;have K4:=(K3.setNew (p:=⟨w.heap.size,0,none⟩) (Nat.le_refl _) (.int .i64 x.energy)).setNew (p:=⟨w.heap.size,1,none⟩) (Nat.le_refl _) (.int .i64 x.reach);clear hg2;go_wp2
       go_roundw
       case rel=>exact⟨i+1,rfl,h7.out,hok.out,by rw[hls.out];exact L4,K4⟩
       case measure=>have:=h7.out;simp[intOf];omega
  ·
   have he:i=gs.length:=by omega
   have hok:GradesChk gs 0:=.inr (.inr ⟨h0,hl,.inl ⟨rfl,fun j hjl=>hj j hjl oM⟩⟩);replace hok:=Lib.hid hok;have hi':¬ (i:Int)<(gs.length:Int):=by omega
   clear hj hi h7 hl BB h;go_wp2
   exact bodyPost_ret (by simp[results,Tryz.results110,go_sem]) rfl ⟨⟨0,rfl,hok.out⟩,KK⟩
end Go.Proofs.YtdhiappifnflpaaGreatDoor.Bl
