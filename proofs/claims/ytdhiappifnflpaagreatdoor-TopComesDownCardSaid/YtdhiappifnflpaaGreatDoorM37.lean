/- Which airs are valid. How a stone falls: a step through a layer. Where a stone ends. -/
import Derived.Test.YtdhiappifnflpaaGreatDoorM06
set_option maxRecDepth 100000
set_option maxHeartbeats 1000000
namespace Go.Proofs.YtdhiappifnflpaaGreatDoor.Bl
open Go.RowKit
def LayOk (x:Layer):Prop:=(1≤x.thick∧x.thick≤1000)∧0≤x.dens∧x.dens≤1000
def AirOk (ls:List Layer):Prop:=ls.length≤32∧∀ i (hi:i<ls.length),LayOk ls[i]
def AirChk (ls:List Layer) (n:Int):Prop:=(n=0∧AirOk ls)∨(n=8∧32<ls.length)∨(n=2∧ls.length≤32∧¬ AirOk ls)
theorem layOk_iff (x:Layer):LayOk x↔btw x.thick 1 1000=true∧btw x.dens 0 1000=true:=by
 rw[btw_true,btw_true];exact Iff.rfl
def AirAt (ls:List Layer) (w:World) (v:Value) (wr:World):Prop:=∃ i:Nat,v=.int .i64 i∧i≤ls.length∧(∀ j (hj:j<ls.length),j<i→LayOk ls[j])∧Kp w.heap.size none w wr
theorem blast_CheckAir_any (A:Option Addr) (cap:Nat) (ls:List Layer) (w:World) (h:Rd none w 2 encLayer A ls.length ls) :
  Calls Tryz.prog 60 #[.slice A ls.length cap] w fun e w'=>(∃ n,e=.returned (.int .i64 n)∧AirChk ls n)∧Kp w.heap.size none w w':=by
 go_enter Tryz.func60,Tryz.ntmps60
 rcases Nat.lt_or_ge 32 ls.length with hl|hl
 ·
  have hl':(32:Int)<(ls.length:Int):=by omega
  have hc:AirChk ls 8:=.inr (.inl ⟨rfl,hl⟩);replace hc:=Lib.hid hc;clear hl;go_wp2
  exact bodyPost_ret (by simp[results,Tryz.results60,go_sem]) rfl ⟨⟨8,rfl,hc.out⟩,Kp.refl _ _ _⟩
 ·
  have hl':¬ (32:Int)<(ls.length:Int):=by omega
  go_wp2_with fail
  go_loopw [10] (fun v wr=>AirAt ls w v wr) (fun v _=>ls.length-(intOf v).toNat)
  case atStart=>exact⟨0,rfl,by omega,fun j _ hj=>absurd hj oM,Kp.refl _ _ _⟩
  case round=>
   obtain⟨i,rfl,hi,hj,KK⟩:=hrel;by_cases h7:i<ls.length
   ·
    obtain⟨b,o,rfl,hb,-,hc⟩:=(h.kpN KK).at_ oM;have c0:wr.cell? ⟨b,o+i * 2,none⟩=some (.int .i64 ls[i].thick):=hc i h7 0 _ rfl;have c1:wr.cell? ⟨b,o+i * 2+1,none⟩=some (.int .i64 ls[i].dens):=hc i h7 1 _ rfl;have hi':(i:Int)<(ls.length:Int):=by omega
    have hst:LayOk ls[i]→∀ j (hj:j<ls.length),j<i+1→LayOk ls[j]:=fun h j hjl hj'=>by
     rcases Nat.lt_or_ge j i with h1|h1
     · exact hj j hjl h1
     ·
      have:j=i:=by omega
      subst this;exact h
    have hbad:¬ LayOk ls[i]→AirChk ls 2:=fun h=>.inr (.inr ⟨rfl,hl,fun k=>h (k.2 i h7)⟩);generalize ls[i]=x at c0 c1 hst hbad;have K1:Kp w.heap.size none w (wr.alloc (.cells #[x.thick,x.dens] 127)):=KK.alloc KK.size _;have B1:=Blk.new wr 127 #[x.thick,x.dens];replace hst:=Lib.hid hst;replace hbad:=Lib.hid hbad;replace h:=Lib.hid h;clear hj hc hb KK hl hi;replace h7:=Lib.hid h7;go_wp2_with fail
    refine mK (blast_within_any _ _ _ _) fun w2 k2=>?_;have B2:=B1.kp k2 B1.lt (by simp);have K2:=K1.then_ k2 (Nat.le_refl _);have c2:=B2.cell;have f2:=B2.frozen;cases hb1:btw x.thick 1 1000
    ·
     have hno:=Lib.hid (hbad.out (fun k=>by rw[((layOk_iff x).1 k).1] at hb1;cases hb1));clear k2;go_wp2
     exact bodyPost_ret (by simp[results,Tryz.results60,go_sem]) rfl ⟨⟨2,rfl,hno.out⟩,K2⟩
    ·
     clear k2;go_wp2_with fail
     refine mK (blast_within_any _ _ _ _) fun w3 k3=>?_;have K3:=K2.then_ k3 (Nat.le_refl _);clear k3 c2 f2;cases hb2:btw x.dens 0 1000
     ·
      have hno:=Lib.hid (hbad.out (fun k=>by rw[((layOk_iff x).1 k).2] at hb2;cases hb2));go_wp2
      exact bodyPost_ret (by simp[results,Tryz.results60,go_sem]) rfl ⟨⟨2,rfl,hno.out⟩,K3⟩
     ·
      have hok:=Lib.hid (hst.out ((layOk_iff x).2 ⟨hb1,hb2⟩));go_wp2
      go_roundw
      case rel=>exact⟨i+1,rfl,h7.out,hok.out,K3⟩
      case measure=>have:=h7.out;simp[intOf];omega
   ·
    have he:i=ls.length:=by omega
    have hok:AirChk ls 0:=.inl ⟨rfl,hl,fun j hjl=>hj j hjl oM⟩;replace hok:=Lib.hid hok;have hi':¬ (i:Int)<(ls.length:Int):=by omega
    clear hj hi h7 hl;go_wp2
    exact bodyPost_ret (by simp[results,Tryz.results60,go_sem]) rfl ⟨⟨0,rfl,hok.out⟩,KK⟩
theorem airChk_one {ls:List Layer} {n m:Int} (h:AirChk ls n) (k:AirChk ls m):n=m:=by
 rcases h with⟨rfl,h⟩|⟨rfl,h⟩|⟨rfl,h1,h⟩<;>rcases k with⟨rfl,k⟩|⟨rfl,k⟩|⟨rfl,k1,k⟩<;>first|rfl|(exfalso;first|exact absurd h k|exact absurd k h|(have:=h.1;omega)|(have:=k.1;omega)|omega)
theorem span_MulDiv_int (a b c:Int) (ha:0≤a∧a≤1152921504606846976) (hb:0≤b∧b≤1152921504606846976) (hc:1≤c∧c≤1152921504606846976) (hq:a * b / c<1152921504606846976) (w:World) :
  Calls Tryz.prog 139 #[a,b,c] w fun e w'=>(∃ u,e=.returned (.tuple #[.int .i64 (a * b / c),.int .i64 u,(0:Int)]))∧Kp w.heap.size none w w':=by
 obtain⟨a,rfl⟩:=Int.eq_ofNat_of_zero_le ha.1;obtain⟨b,rfl⟩:=Int.eq_ofNat_of_zero_le hb.1;obtain⟨c,rfl⟩:=Int.eq_ofNat_of_zero_le (show 0≤c by omega);have e:(a:Int) * (b:Int) / (c:Int)=((a * b / c:Nat):Int):=by push_cast;rfl
 rw[e] at hq ⊢;obtain⟨H,L,q,r,u,hw⟩:=words_of a b c oM oM oM oM oM;have hqe:=hw.qe;refine mK (span_MulDiv_any a b c H L q r u (Lib.hid hw) oM oM oM w) fun w' k=>?_;exact⟨⟨u,by rw[hqe]⟩,k⟩
def burstsAt (d v held:Int):Bool:=decide (held≤d * v)&&decide (0<d * v)
def wayOf (thick slope:Int):Int:=(thick * 1000+slope-1) / slope
def lessOf (s:Stone) (x:Layer) (v:Int):Int:=x.dens * v * (wayOf x.thick s.slope * s.shape) / (s.dens * s.size * 1000)
def slowedOf (s:Stone) (x:Layer) (v:Int):Int:=max 0 (v-lessOf s x v)
def afterOf (s:Stone) (x:Layer) (v:Int):Int:=if burstsAt x.dens v (holdOf s.strong s.spin s.pile) then v else slowedOf s x v
def fallCells (s:Stone) (v:Int):Array Value:=#[s.size,s.dens,s.strong,s.spin,s.shape,.bool s.pile,s.speed,s.slope,v]
structure StepOk (s:Stone) (x:Layer) (v:Int):Prop where
 p:0≤x.dens * v∧x.dens * v≤64000000000
 t:0≤x.thick * 1000+s.slope-1∧x.thick * 1000+s.slope-1≤1001000
 way:0≤wayOf x.thick s.slope∧wayOf x.thick s.slope≤1001000
 ws:0≤wayOf x.thick s.slope * s.shape∧wayOf x.thick s.slope * s.shape≤2002000000
 ds:0≤s.dens * s.size∧s.dens * s.size≤9000000
 d1:1≤s.dens * s.size
 less:0≤lessOf s x v∧lessOf s x v≤128128000000000000
theorem step_ok {s:Stone} {x:Layer} {v:Int} (hs:StoneOk s) (hx:LayOk x) (hv:0≤v∧v≤64000000):StepOk s x v:=by
 have p:=mul_in hx.2.1 hx.2.2 hv.1 hv.2;have hsl:=hs.slope;have ht:=hx.1;have t:0≤x.thick * 1000+s.slope-1∧x.thick * 1000+s.slope-1≤1001000:=by omega
 have w0:0≤wayOf x.thick s.slope:=Int.ediv_nonneg t.1 oM;have w1:wayOf x.thick s.slope≤1001000:=Int.le_trans (Int.ediv_le_self _ t.1) t.2;have hsh:=hs.shape;have ws:=mul_in w0 w1 (show 0≤s.shape by omega) hsh.2;have hd:=hs.dens;have hz:=hs.size;have ds:=mul_in (show 0≤s.dens by omega) hd.2 (show 0≤s.size by omega) hz.2
 have d1:1≤s.dens * s.size:=by
  have:=Int.mul_le_mul hd.1 hz.1 oM (by omega:0≤s.dens);omega
 have pw:=mul_in p.1 (show x.dens * v≤64000000000 by omega) ws.1 (show wayOf x.thick s.slope * s.shape≤2002000000 by omega);refine⟨⟨p.1,by omega⟩,t,⟨w0,w1⟩,⟨ws.1,by omega⟩,⟨ds.1,by omega⟩,d1,?_⟩;unfold lessOf;generalize x.dens * v * (wayOf x.thick s.slope * s.shape)=X at pw;generalize s.dens * s.size=D at ds d1;refine⟨Int.ediv_nonneg pw.1 oM,?_⟩
 have:X / (D * 1000)≤X / 1000:=by
  rw[show D * 1000=1000 * D from by omega,← Int.ediv_ediv_of_nonneg (show (0:Int)≤1000 by omega)];exact Int.ediv_le_self _ (Int.ediv_nonneg pw.1 oM)
 omega
theorem slowed_bd {s:Stone} {x:Layer} {v:Int} (k:StepOk s x v) (hv:0≤v∧v≤64000000):0≤slowedOf s x v∧slowedOf s x v≤64000000:=by
 have:=k.less;unfold slowedOf;omega
theorem blast_drop_any (s:Stone) (hs:1≤s.speed∧s.speed≤8000) (w:World) :
  Calls Tryz.prog 62 #[.agg #[s.size,s.dens,s.strong,s.spin,s.shape,.bool s.pile,s.speed,s.slope]] w fun e w'=>∃ g,e=.returned (.pointer (some ⟨g,0,none⟩))∧w.heap.size≤g∧Blk w' g 137 (fallCells s (s.speed * s.speed))∧Kp w.heap.size none w w':=by
 have hp:=mul_in (show 0≤s.speed by omega) hs.2 (show 0≤s.speed by omega) hs.2;have hw:=wrap64_of hp.1 oM;have K0:=((Kp.refl w.heap.size none w).alloc (Nat.le_refl _) (.cells #[s.size,s.dens,s.strong,s.spin,s.shape,.bool s.pile,s.speed,s.slope] 76)).alloc (by simp) (.cells (fallCells s (s.speed * s.speed)) 137);have B0:=Blk.newAt (w.alloc (.cells #[s.size,s.dens,s.strong,s.spin,s.shape,.bool s.pile,s.speed,s.slope] 76)) 137 (fallCells s (s.speed * s.speed)) (n:=w.heap.size+1) (by simp);unfold fallCells at *;generalize hq:s.speed * s.speed=q at *;replace hq:=Lib.hid hq;replace hw:=Lib.hid hw;clear hp hs;go_enter Tryz.func62,Tryz.ntmps62
 go_wp2
 rw[hq.out,hw.out];exact bodyPost_ret (by simp[results,Tryz.results62,go_sem]) rfl ⟨_,rfl,by omega,B0,K0⟩
theorem blast_bursts_any (g:Nat) (s:Stone) (v:Int) (x:Layer) (held:Int) (w:World) (hb:Blk w g 137 (fallCells s v)) (hp:0≤x.dens * v∧x.dens * v≤64000000000) :
  Calls Tryz.prog 107 #[.pointer (some ⟨g,0,none⟩),.agg #[x.thick,x.dens],held] w fun e w'=>e=.returned (.bool (burstsAt x.dens v held))∧Kp w.heap.size none w w':=by
 have hw:=Lib.hid (wrap64_of hp.1 oM);have K0:=(Kp.refl w.heap.size none w).alloc (Nat.le_refl _) (.cells #[x.thick,x.dens] 127);have B0:=Blk.new w 127 #[x.thick,x.dens];have F0:=hb.alloc (.cells #[x.thick,x.dens] 127);unfold burstsAt;have cA:=F0.cell;have cB:=B0.cell;unfold fallCells at *;clear hp hb;go_enter Tryz.func107,Tryz.ntmps107
 go_wp2_with fail
 obtain⟨S,hS⟩:∃ S:Nat→World→Prop,S=fun _ w'=>Blk w' w.heap.size 127 #[x.thick,x.dens]∧Blk w' g 137 #[s.size,s.dens,s.strong,s.spin,s.shape,.bool s.pile,s.speed,s.slope,v]:=⟨_,rfl⟩;have hS0:∀ w',S 0 w'↔(Blk w' w.heap.size 127 #[x.thick,x.dens]∧Blk w' g 137 #[s.size,s.dens,s.strong,s.spin,s.shape,.bool s.pile,s.speed,s.slope,v]):=fun w'=>by rw[hS]
 clear hS;have cx:=fun (x:Ev (S 0)) i=>((hS0 _).1 x.h).1.cell i;have cy:=fun (x:Ev (S 0)) i=>((hS0 _).1 x.h).2.cell i;clear cA cB;have hevT:=ev_true;refine wro S [(0,0),(1,1),(2,0),(3,0),(4,0),(5,1),(6,0),(7,0)] [] ((hS0 _).2 ⟨B0,F0⟩) ?_;intro _hev;refine oX ?_;refine wpOrd_nil ?_;clear hevT _hev;obtain⟨p,hp⟩:∃ p,p=x.dens * v:=⟨_,rfl⟩;rw[hw.out,← hp];replace hp:=Lib.hid hp;clear hw cx cy;have K1:=K0.drew;clear K0;rcases (show held≤p∨¬ held≤p by omega) with h1|h1
 ·
  rcases (show 0<p∨¬ 0<p by omega) with h2|h2
  ·
   go_wp2
   exact bodyPost_ret (v:=.bool (decide (held≤p)&&decide (0<p))) (by simp[results,Tryz.results107,go_sem,h1,h2]) rfl ⟨by rw[hp.out],K1⟩
  ·
   go_wp2
   exact bodyPost_ret (v:=.bool (decide (held≤p)&&decide (0<p))) (by simp[results,Tryz.results107,go_sem,h1,h2]) rfl ⟨by rw[hp.out],K1⟩
 ·
  go_wp2
  exact bodyPost_ret (v:=.bool (decide (held≤p)&&decide (0<p))) (by simp[results,Tryz.results107,go_sem,show decide (held≤p)=false from decide_eq_false oM]) rfl ⟨by rw[hp.out],K1⟩
theorem blast_slow_any (g:Nat) (s:Stone) (v:Int) (x:Layer) (w:World) (hb:Blk w g 137 (fallCells s v)) (hs:StoneOk s) (hx:LayOk x) (hv:0≤v∧v≤64000000) :
  Calls Tryz.prog 109 #[.pointer (some ⟨g,0,none⟩),.agg #[x.thick,x.dens]] w fun e w'=>e=.returned (.tuple #[])∧Blk w' g 137 (fallCells s (slowedOf s x v))∧Kp w.heap.size (some g) w w':=by
 have K0:=(Kp.refl w.heap.size (some g) w).alloc (Nat.le_refl _) (.cells #[x.thick,x.dens] 127);have B0:=Blk.new w 127 #[x.thick,x.dens];have F0:=hb.alloc (.cells #[x.thick,x.dens] 127);have hg:=hb.lt;have st:=step_ok hs hx hv;have sl:s.slope≠0:=by have:=hs.slope;omega
 have cA:=F0.cell;have cB:=B0.cell;have hs':=Lib.hid hs;have st':=Lib.hid st;have hv':=Lib.hid hv;unfold fallCells at *;clear hs hx hv st hb;go_enter Tryz.func109,Tryz.ntmps109
 go_wp2_with fail
 obtain⟨S,hS⟩:∃ S:Nat→World→Prop,S=fun _ w'=>Blk w' w.heap.size 127 #[x.thick,x.dens]∧Blk w' g 137 #[s.size,s.dens,s.strong,s.spin,s.shape,.bool s.pile,s.speed,s.slope,v]:=⟨_,rfl⟩;have hS0:∀ w',S 0 w'↔(Blk w' w.heap.size 127 #[x.thick,x.dens]∧Blk w' g 137 #[s.size,s.dens,s.strong,s.spin,s.shape,.bool s.pile,s.speed,s.slope,v]):=fun w'=>by rw[hS]
 clear hS;have cx:=fun (x:Ev (S 0)) i=>((hS0 _).1 x.h).1.cell i;have cy:=fun (x:Ev (S 0)) i=>((hS0 _).1 x.h).2.cell i;clear cA cB;have hevT:=ev_true;refine wro S [(0,0),(1,1),(2,0),(3,0),(4,0),(5,0),(6,0),(7,1),(8,0),(9,0),(10,0),(11,0),(12,0),(13,0),(14,1),(15,0),(16,0)] [] ((hS0 _).2 ⟨B0,F0⟩) ?_;intro _hev;refine oX ?_;refine wpOrd_nil ?_;clear hevT _hev;obtain⟨wy,hwy⟩:∃ wy,wy=wayOf x.thick s.slope:=⟨_,rfl⟩
 have ewy:wrap64 ((wrap64 (wrap64 (wrap64 (x.thick * 1000)+s.slope)-1)).tdiv s.slope)=wy:=by
  have h1:=st'.out.t;have h2:=hs'.out.slope;have h3:wrap64 (wrap64 (wrap64 (x.thick * 1000)+s.slope)-1)=x.thick * 1000+s.slope-1:=by unfold wrap64;omega
  rw[h3,Int.tdiv_eq_ediv_of_nonneg h1.1,hwy];exact wrap64_of st'.out.way.1 (by have:=st'.out.way.2;unfold wayOf at this;omega)
 rw[ewy];clear ewy cx cy;have B1:=B0.drew;have F1:=F0.drew;have K1:=K0.drew;clear B0 F0 K0 hS0 S;generalize (w.alloc (.cells #[x.thick,x.dens] 127)).drew=w1 at *;replace hwy:=Lib.hid hwy;have cA:=F1.cell;have cB:=B1.cell;go_wp2_with fail
 obtain⟨S,hS⟩:∃ S:Nat→World→Prop,S=fun _ w'=>Blk w' w.heap.size 127 #[x.thick,x.dens]∧Blk w' g 137 #[s.size,s.dens,s.strong,s.spin,s.shape,.bool s.pile,s.speed,s.slope,v]:=⟨_,rfl⟩;have hS0:∀ w',S 0 w'↔(Blk w' w.heap.size 127 #[x.thick,x.dens]∧Blk w' g 137 #[s.size,s.dens,s.strong,s.spin,s.shape,.bool s.pile,s.speed,s.slope,v]):=fun w'=>by rw[hS]
 clear hS;have cx:=fun (x:Ev (S 0)) i=>((hS0 _).1 x.h).1.cell i;have cy:=fun (x:Ev (S 0)) i=>((hS0 _).1 x.h).2.cell i;clear cA cB;have hevT:=ev_true;refine wro S [(0,0),(1,1),(2,0),(3,0),(4,0),(5,1),(6,0),(7,0),(8,0),(9,0),(10,0),(11,0),(12,1),(13,0),(14,0),(15,0),(16,0),(17,0),(18,1),(19,0),(20,0),(21,0),(22,0),(23,1),(24,0),(25,0),(26,2),(27,0),(28,0),(29,0),(30,0),(31,0),(32,0),(33,0)] [] ((hS0 _).2 ⟨B1,F1⟩) ?_;intro _hev;refine oX ?_;refine oL ?_;intro K hK;go_step;obtain⟨p,hp⟩:∃ p,p=x.dens * v:=⟨_,rfl⟩;obtain⟨m,hm⟩:∃ m,m=wy * s.shape:=⟨_,rfl⟩;obtain⟨d,hd⟩:∃ d,d=s.dens * s.size:=⟨_,rfl⟩;obtain⟨c,hc⟩:∃ c,c=d * 1000:=⟨_,rfl⟩;have bp:0≤p∧p≤64000000000:=by rw[hp];exact st'.out.p
 have bm:0≤m∧m≤2002000000:=by rw[hm,hwy.out];exact st'.out.ws
 have bd:1≤d∧d≤9000000:=by rw[hd];exact⟨st'.out.d1,st'.out.ds.2⟩
 have hls:p * m / c=lessOf s x v:=by rw[hp,hm,hc,hd,hwy.out];rfl
 have bl:=st'.out.less;rw[← hls] at bl;rw[← hp,← hm,← hd,wrap64_of bp.1 oM,wrap64_of bm.1 oM,wrap64_of (show 0≤d by omega) oM,← hc,wrap64_of (show 0≤c by omega) oM];refine(span_MulDiv_int p m c ⟨bp.1,by omega⟩ ⟨bm.1,by omega⟩ oM oM _).mono ?_;rintro e w2 ⟨⟨u,rfl⟩,k2⟩;obtain⟨q,hq⟩:∃ q,q=p * m / c:=⟨_,rfl⟩;rw[← hq] at hls bl ⊢;have B2:=B1.drew.kp k2 B1.drew.lt (by simp);have F2:=F1.drew.kp k2 F1.drew.lt (by simp);have K2:=K1.drew.thenN k2 (Nat.le_refl _);refine hK _ _ ((hS0 _).2 ⟨B2,F2⟩) ?_;clear hK K hp hm hd hc bp bm bd hq k2 F1 B1 K1;refine oX ?_;refine wpOrd_nil ?_;clear hevT _hev;have cA:=F2.cell;have fA:=F2.frozen
 have ewq:max 0 (wrap64 (v-lessOf s x v))=slowedOf s x v:=by
  have h1:=hv'.out;have h2:=st'.out.less;rw[show wrap64 (v-lessOf s x v)=v-lessOf s x v from by unfold wrap64;omega];rfl
 replace ewq:=Lib.hid ewq;replace hls:=Lib.hid hls;clear bl;go_wp2
 rw[ewq.out];exact bodyPost_end (by simp[results,Tryz.results109,go_sem]) rfl ⟨rfl,by simpa using F2.set_ 8 (.int .i64 (slowedOf s x v)),K2.setRow rfl _⟩
theorem blast_goes_any (g:Nat) (s:Stone) (v:Int) (x:Layer) (w:World) (hb:Blk w g 137 (fallCells s v)) (hs:StoneOk s) (hx:LayOk x) (hv:0≤v∧v≤64000000) :
  Calls Tryz.prog 63 #[.pointer (some ⟨g,0,none⟩),.agg #[x.thick,x.dens]] w fun e w'=>e=.returned (.bool (!burstsAt x.dens v (holdOf s.strong s.spin s.pile))) ∧
   Blk w' g 137 (fallCells s (afterOf s x v))∧Kp w.heap.size (some g) w w':=by
 have K0:=(Kp.refl w.heap.size (some g) w).alloc (Nat.le_refl _) (.cells #[x.thick,x.dens] 127);have B0:=Blk.new w 127 #[x.thick,x.dens];have F0:=hb.alloc (.cells #[x.thick,x.dens] 127);have hg:=hb.lt;have st:=(step_ok hs hx hv).p;have cA:=F0.cell;have cB:=B0.cell;have hs':=Lib.hid hs;have hx':=Lib.hid hx;have st':=Lib.hid st;have hv':=Lib.hid hv;clear hs hx hv st hb;unfold fallCells at cA;go_enter Tryz.func63,Tryz.ntmps63
 go_wp2_with fail
 obtain⟨S,hS⟩:∃ S:Nat→World→Prop,S=fun _ w'=>Blk w' w.heap.size 127 #[x.thick,x.dens]∧Blk w' g 137 #[s.size,s.dens,s.strong,s.spin,s.shape,.bool s.pile,s.speed,s.slope,v]:=⟨_,rfl⟩;have hS0:∀ w',S 0 w'↔(Blk w' w.heap.size 127 #[x.thick,x.dens]∧Blk w' g 137 #[s.size,s.dens,s.strong,s.spin,s.shape,.bool s.pile,s.speed,s.slope,v]):=fun w'=>by rw[hS]
 clear hS;have cx:=fun (x:Ev (S 0)) i=>((hS0 _).1 x.h).1.cell i;have cy:=fun (x:Ev (S 0)) i=>((hS0 _).1 x.h).2.cell i;clear cA cB;have hevT:=ev_true;refine wro S [(0,0),(1,1),(2,0),(3,0),(4,0),(5,1),(6,2),(7,2)] [] ((hS0 _).2 ⟨B0,F0⟩) ?_;intro _hev;refine oX ?_;refine oL ?_;intro K hK;go_step;refine mK (blast_hold_any s hs'.out _) fun w1 k1=>?_;have B1:=B0.drew.kp k1 B0.drew.lt (by simp);have F1:=F0.drew.kp k1 F0.drew.lt (by simp);have K1:=K0.drew.thenN k1 (by simp);refine hK _ _ ((hS0 _).2 ⟨B1,F1⟩) ?_;clear hK K k1 B0 F0 K0;refine oL ?_;intro K hK;go_step;refine mK (blast_bursts_any g s v x _ _ F1 st'.out) fun w2 k2=>?_;have B2:=B1.kp k2 B1.lt (by simp);have F2:=F1.kp k2 F1.lt (by simp);have K2:=K1.thenN k2 (by simp);refine hK _ _ ((hS0 _).2 ⟨B2,F2⟩) ?_;clear hK K k2 B1 F1 K1;refine wpOrd_nil ?_;clear hevT _hev;have cB:=B2.cell;cases hb:burstsAt x.dens v (holdOf s.strong s.spin s.pile)
 ·
  go_wp2_with fail
  refine(blast_slow_any g s v x _ F2 hs'.out hx'.out hv'.out).mono ?_;rintro e w3 ⟨rfl,F3,k3⟩;have K3:=K2.then_ k3 (by simp);clear cB F2 k3;go_wp2
  exact bodyPost_ret (v:=.bool true) (by simp[results,Tryz.results63,go_sem]) rfl ⟨by rw[hb];rfl,by unfold afterOf;rw[if_neg (by rw[hb];simp)];exact F3,K3⟩
 ·
  go_wp2
  exact bodyPost_ret (v:=.bool false) (by simp[results,Tryz.results63,go_sem]) rfl ⟨by rw[hb];rfl,by unfold afterOf;rw[if_pos hb];exact F2,K2⟩
def fallFrom (s:Stone):List Layer→Int→Nat × Int
 | [],v=>(0,v)
 | x::xs,v=>if burstsAt x.dens v (holdOf s.strong s.spin s.pile) then (0,v) else ((fallFrom s xs (slowedOf s x v)).1+1,(fallFrom s xs (slowedOf s x v)).2)
theorem fall_nil (s:Stone) (v:Int):fallFrom s [] v=(0,v):=rfl
theorem fall_burst {s:Stone} {x:Layer} {xs:List Layer} {v:Int} (h:burstsAt x.dens v (holdOf s.strong s.spin s.pile)=true):fallFrom s (x::xs) v=(0,v):=by
 unfold fallFrom;rw[if_pos h]
theorem fall_go {s:Stone} {x:Layer} {xs:List Layer} {v:Int} (h:burstsAt x.dens v (holdOf s.strong s.spin s.pile)=false) :
  fallFrom s (x::xs) v=((fallFrom s xs (slowedOf s x v)).1+1,(fallFrom s xs (slowedOf s x v)).2):=by
 conv=>lhs;unfold fallFrom
 rw[if_neg (by rw[h];simp)]
def Vok (v:Int):Prop:=0≤v∧v≤64000000
theorem vok_sq {s:Stone} (h:StoneOk s):Vok (s.speed * s.speed):=by
 obtain⟨h1,h2⟩:=mul_in (show 0≤s.speed by have:=h.speed;omega) h.speed.2 (show 0≤s.speed by have:=h.speed;omega) h.speed.2;exact⟨h1,by omega⟩
def endsOf (ls:List Layer) (s:Stone):Nat × Int:=((fallFrom s ls (s.speed * s.speed)).1,massOf s.size s.dens * (fallFrom s ls (s.speed * s.speed)).2)
def EndAt (ls:List Layer) (s:Stone) (g i:Nat) (v:Int) (W wr:World):Prop:=
 i≤ls.length∧Vok v∧fallFrom s ls (s.speed * s.speed)=(i+(fallFrom s (ls.drop i) v).1,(fallFrom s (ls.drop i) v).2)∧Blk wr g 137 (fallCells s v)∧Kp W.heap.size none W wr
theorem energy_in {s:Stone} (h:StoneOk s) {v:Int} (hv:Vok v):0≤massOf s.size s.dens * v∧massOf s.size s.dens * v≤576000000000000000:=by
 have m:=(mass_val h.size h.dens).2;obtain⟨h1,h2⟩:=mul_in m.1 m.2 hv.1 hv.2;exact⟨h1,by omega⟩
def EndsChk (ls:List Layer) (s:Stone) (n e x:Int):Prop:=
 (AirOk ls∧StoneOk s∧n=(endsOf ls s).1∧x=(endsOf ls s).2∧e=0)∨(¬ (AirOk ls∧StoneOk s)∧n=0∧x=0∧((e≠0∧AirChk ls e)∨(AirOk ls∧StoneChk s e)))
def EndL (ls:List Layer) (s:Stone) (g:Nat) (W:World) (vi:Value) (wr:World):Prop:=
 ∃ (i:Nat) (v:Int),vi=.int .i64 i∧Blk wr W.heap.size 76 #[s.size,s.dens,s.strong,s.spin,s.shape,.bool s.pile,s.speed,s.slope]∧EndAt ls s g i v W wr
theorem blast_Ends_any (A:Option Addr) (cap:Nat) (ls:List Layer) (s:Stone) (w:World) (h:Rd none w 2 encLayer A ls.length ls) (hb:Bnd w) :
  Calls Tryz.prog 22 #[.slice A ls.length cap,.agg #[s.size,s.dens,s.strong,s.spin,s.shape,.bool s.pile,s.speed,s.slope]] w fun e w'=>(∃ n x y,e=.returned (.tuple #[.int .i64 n,.int .i64 x,.int .i64 y])∧EndsChk ls s n y x)∧Kp w.heap.size none w w':=by
 have K0:=(Kp.refl w.heap.size none w).alloc (Nat.le_refl _) (.cells #[s.size,s.dens,s.strong,s.spin,s.shape,.bool s.pile,s.speed,s.slope] 76);have B0:=Blk.new w 76 #[s.size,s.dens,s.strong,s.spin,s.shape,.bool s.pile,s.speed,s.slope];go_enter Tryz.func22,Tryz.ntmps22
 go_wp2_with fail
 refine(blast_CheckAir_any A cap ls _ (h.kpN K0)).mono ?_;rintro e w1 ⟨⟨n,rfl,hn⟩,k1⟩;have B1:=B0.kp k1 B0.lt (by simp);have K1:=K0.then_ k1 (by simp);have c1:=B1.cell;clear k1 B0 K0;by_cases hn0:n=0
 ·
  subst hn0
  have ha:AirOk ls:=by
   rcases hn with⟨_,h⟩|⟨h,_⟩|⟨h,_⟩
   · exact h
   · cases h
   · cases h
  clear hn;replace ha:=Lib.hid ha;go_wp2_with fail
  refine(blast_CheckStone_any s _ (hb.kpN K1)).mono ?_;rintro e w2 ⟨⟨n,rfl,hn⟩,k2⟩;have B2:=B1.kp k2 B1.lt (by simp);have K2:=K1.then_ k2 (by simp);have c2:=B2.cell;clear k2 B1 K1 c1;rcases hn with⟨rfl,hs⟩|⟨rfl,hs⟩
  ·
   replace hs:=Lib.hid hs;go_wp2_with fail
   refine(blast_drop_any s hs.out.speed _).mono ?_;rintro e w3 ⟨g,rfl,hg,F3,k3⟩;have B3:=B2.kp k3 B2.lt (by simp);have K3:=K2.then_ k3 (by simp);have hgw:w.heap.size<g:=Nat.lt_of_lt_of_le B2.lt hg;clear k3 B2 K2 c2;go_wp2_with fail
   go_loopw [4] (fun v wr=>EndL ls s g w v wr) (fun v _=>ls.length-(intOf v).toNat)
   case atStart=>exact⟨0,s.speed * s.speed,rfl,B3,⟨Nat.zero_le _,vok_sq hs.out,by rw[List.drop_zero,Nat.zero_add],F3,K3⟩⟩
   case round=>
    obtain⟨i,v,rfl,BB,hi,hv,hf,FF,KK⟩:=hrel;replace hv:=Lib.hid hv;have hz:w.heap.size+1≤wr.heap.size:=BB.lt;have hgr:g<wr.heap.size:=FF.lt;by_cases h7:i<ls.length
    ·
     obtain⟨b,o,rfl,hbl,-,hc⟩:=(h.kpN KK).at_ oM;have c0:wr.cell? ⟨b,o+i * 2,none⟩=some (.int .i64 ls[i].thick):=hc i h7 0 _ rfl;have c1:wr.cell? ⟨b,o+i * 2+1,none⟩=some (.int .i64 ls[i].dens):=hc i h7 1 _ rfl;have hi':(i:Int)<(ls.length:Int):=by omega
     have hlen:(ls.length:Int)≤32:=by have:=ha.out.1;omega
     have hx:=Lib.hid (ha.out.2 i h7);rw[List.drop_eq_getElem_cons h7] at hf;generalize ls[i]=x at c0 c1 hx hf;clear hc;replace hf:=Lib.hid hf;replace h7:=Lib.hid h7;replace h:=Lib.hid h;go_wp2_with fail
     refine(blast_goes_any g s v x _ FF hs.out hx.out hv.out).mono ?_;rintro e w4 ⟨rfl,F4,k4⟩;have B4:=BB.kq k4;have K4:=KK.thenOwn k4 (Nat.le_refl _) (Nat.le_of_lt hgw);clear k4 BB FF KK c0 c1;cases hbt:burstsAt x.dens v (holdOf s.strong s.spin s.pile)
     ·
      have ea:afterOf s x v=slowedOf s x v:=by unfold afterOf;rw[if_neg (by rw[hbt];simp)]
      rw[ea] at F4;have hv4:Vok (slowedOf s x v):=slowed_bd (step_ok hs.out hx.out hv.out) hv.out
      have hf4:fallFrom s ls (s.speed * s.speed)=(i+1+(fallFrom s (ls.drop (i+1)) (slowedOf s x v)).1,(fallFrom s (ls.drop (i+1)) (slowedOf s x v)).2):=by
       rw[hf.out,fall_go hbt,Nat.add_comm _ 1,← Nat.add_assoc]
      replace hf4:=Lib.hid hf4;clear hf hbt;go_wp2
      go_roundw
      case rel=>exact⟨i+1,slowedOf s x v,rfl,B4,h7.out,hv4,hf4.out,F4,K4⟩
      case measure=>have:=h7.out;simp[intOf];omega
     ·
      have ea:afterOf s x v=v:=by unfold afterOf;rw[if_pos hbt]
      rw[ea] at F4
      have hfin:EndsChk ls s i 0 (massOf s.size s.dens * v):=by
       have hf:=hf.out;rw[fall_burst hbt,Nat.add_zero] at hf;exact .inl ⟨ha.out,hs.out,by unfold endsOf;rw[hf],by unfold endsOf;rw[hf],rfl⟩
      replace hfin:=Lib.hid hfin;clear hf hbt;have cB:=B4.cell;have cF:=F4.cell;go_wp2_with fail
      clear cB cF;obtain⟨S,hS⟩:∃ S:Nat→World→Prop,S=fun _ w'=>Blk w' w.heap.size 76 #[s.size,s.dens,s.strong,s.spin,s.shape,.bool s.pile,s.speed,s.slope]∧Blk w' g 137 #[s.size,s.dens,s.strong,s.spin,s.shape,.bool s.pile,s.speed,s.slope,v]:=⟨_,rfl⟩;have hS0:∀ w',S 0 w'↔(Blk w' w.heap.size 76 #[s.size,s.dens,s.strong,s.spin,s.shape,.bool s.pile,s.speed,s.slope]∧Blk w' g 137 #[s.size,s.dens,s.strong,s.spin,s.shape,.bool s.pile,s.speed,s.slope,v]):=fun w'=>by rw[hS]
      clear hS;have cx:=fun (x:Ev (S 0)) i=>((hS0 _).1 x.h).1.cell i;have cy:=fun (x:Ev (S 0)) i=>((hS0 _).1 x.h).2.cell i;have hevT:=ev_true;refine wro S [(0,0),(1,1),(3,0),(4,0),(5,0),(6,1),(2,2),(7,0),(8,0),(9,0),(10,0)] [] ((hS0 _).2 ⟨B4,F4⟩) ?_;intro _hev;refine oX ?_;refine oL ?_;intro K hK;go_step;refine mK (blast_mass_any s hs.out _) fun w9 k9=>?_;have B9:=B4.drew.kp k9 B4.drew.lt (by simp);have F9:=F4.drew.kp k9 F4.drew.lt (by simp);have K9:=K4.drew.thenN k9 (Nat.le_refl _);refine hK _ _ ((hS0 _).2 ⟨B9,F9⟩) ?_;clear hK K k9;refine oX ?_;refine wpOrd_nil ?_;clear hevT _hev;rw[wrap64_of (energy_in hs.out hv.out).1 (by have:=(energy_in hs.out hv.out).2;omega)];clear cx cy;go_wp2
      exact bodyPost_ret (v:=.tuple #[i,.int .i64 (massOf s.size s.dens * v),(0:Int)]) (by simp[results,Tryz.results22,go_sem]) rfl ⟨⟨i,massOf s.size s.dens * v,0,rfl,hfin.out⟩,K9⟩
    ·
     have he:i=ls.length:=by omega
     have hi':¬ (i:Int)<(ls.length:Int):=by omega
     have hfin:EndsChk ls s i 0 (massOf s.size s.dens * v):=by
      rw[he,List.drop_length,fall_nil,Nat.add_zero,← he] at hf;exact .inl ⟨ha.out,hs.out,by unfold endsOf;rw[hf],by unfold endsOf;rw[hf],rfl⟩
     replace hfin:=Lib.hid hfin;clear hf h7 hi he;have cB:=BB.cell;have cF:=FF.cell;go_wp2_with fail
     clear cB cF;obtain⟨S,hS⟩:∃ S:Nat→World→Prop,S=fun _ w'=>Blk w' w.heap.size 76 #[s.size,s.dens,s.strong,s.spin,s.shape,.bool s.pile,s.speed,s.slope]∧Blk w' g 137 #[s.size,s.dens,s.strong,s.spin,s.shape,.bool s.pile,s.speed,s.slope,v]:=⟨_,rfl⟩;have hS0:∀ w',S 0 w'↔(Blk w' w.heap.size 76 #[s.size,s.dens,s.strong,s.spin,s.shape,.bool s.pile,s.speed,s.slope]∧Blk w' g 137 #[s.size,s.dens,s.strong,s.spin,s.shape,.bool s.pile,s.speed,s.slope,v]):=fun w'=>by rw[hS]
     clear hS;have cx:=fun (x:Ev (S 0)) i=>((hS0 _).1 x.h).1.cell i;have cy:=fun (x:Ev (S 0)) i=>((hS0 _).1 x.h).2.cell i;have hevT:=ev_true;refine wro S [(0,0),(1,1),(3,0),(4,0),(5,0),(6,1),(2,2),(7,0),(8,0),(9,0),(10,0)] [] ((hS0 _).2 ⟨BB,FF⟩) ?_;intro _hev;refine oX ?_;refine oL ?_;intro K hK;go_step;refine mK (blast_mass_any s hs.out _) fun w9 k9=>?_;have B9:=BB.drew.kp k9 BB.drew.lt (by simp);have F9:=FF.drew.kp k9 FF.drew.lt (by simp);have K9:=KK.drew.thenN k9 (Nat.le_refl _);refine hK _ _ ((hS0 _).2 ⟨B9,F9⟩) ?_;clear hK K k9;refine oX ?_;refine wpOrd_nil ?_;clear hevT _hev;rw[wrap64_of (energy_in hs.out hv.out).1 (by have:=(energy_in hs.out hv.out).2;omega)];clear cx cy;go_wp2
     exact bodyPost_ret (v:=.tuple #[i,.int .i64 (massOf s.size s.dens * v),(0:Int)]) (by simp[results,Tryz.results22,go_sem]) rfl ⟨⟨i,massOf s.size s.dens * v,0,rfl,hfin.out⟩,K9⟩
  ·
   have hc:EndsChk ls s 0 2 0:=.inr ⟨fun k=>hs k.2,rfl,rfl,.inr ⟨ha.out,.inr ⟨rfl,hs⟩⟩⟩;replace hc:=Lib.hid hc;go_wp2
   exact bodyPost_ret (v:=.tuple #[(0:Int),(0:Int),(2:Int)]) (by simp[results,Tryz.results22,go_sem]) rfl ⟨⟨0,0,2,rfl,hc.out⟩,K2⟩
 ·
  have hc:EndsChk ls s 0 n 0:=by
   have hno:¬ AirOk ls:=fun h=>hn0 (airChk_one hn (.inl ⟨rfl,h⟩));exact .inr ⟨fun k=>hno k.1,rfl,rfl,.inl ⟨hn0,hn⟩⟩
  replace hc:=Lib.hid hc;clear hn;go_wp2
  exact bodyPost_ret (v:=.tuple #[(0:Int),(0:Int),.int .i64 n]) (by simp[results,Tryz.results22,go_sem]) rfl ⟨⟨0,0,n,rfl,hc.out⟩,K1⟩
end Go.Proofs.YtdhiappifnflpaaGreatDoor.Bl
