/- Orbits: the walks of orbit, fifth part: Step, CheckSet, checkWay, all. Orbits: the walks of orbit, sixth part: all. slices.Clone and DeleteFunc of boxes. -/
import Derived.Test.YtdhiappifnflpaaGreatM21
import Derived.Test.YtdhiappifnflpaaGreatM20
import Derived.Maps.AppendAt
set_option maxRecDepth 100000
set_option maxHeartbeats 4000000
namespace Go.Proofs.YtdhiappifnflpaaGreat
open Go.RowKit
def stepV:Option Bx→Array Value
 | some b=>#[b,(0:Int)]
 | none=>#[.agg #[(0:Int),(0:Int),(0:Int),(0:Int),(0:Int),(0:Int),(0:Int),(0:Int)],(14:Int)]
theorem orbit_Step_any (A:Option Addr) (c:Nat) (W:Wd) (d:Dr) (t:Int) (b:Bx) (w:World) (hW:W.ok) (hA:WdAt none w A W) (hd:d.ok) (ht:0≤t∧t≤1000000) (hb:okBx b=true) :
  Calls Tryz.prog 146 #[.agg #[.slice A W.bs.length c,W.home],d,t,b] w fun e w'=>e=.returned (.tuple (stepV (stepW W d t b)))∧Kp w.heap.size none w w':=by
 have cw:=fun w h=>orbit_checkWorld_any A c W d w hW h hd;have ct:=fun w=>orbit_within_any t 0 1073741823 w;rw[btw_t oM oM] at ct;have cs:=fun w h=>orbit_step_any A c W d t b w hW h hd ⟨ht.1,by omega⟩ hb;have cb:=fun w=>orbit_Check_any b w;unfold errBx at cb;rw[if_pos hb] at cb;unfold stepW;generalize stepB mp d (W.hvs t) b=o at *;obtain⟨rb,hrb⟩:∃ q9,Hid (q9=okBx o):=⟨_,Lib.hid rfl⟩;rw[← hrb.out] at cs ⊢;clear hW hd ht hb;obtain⟨w1,hw1,D,F,B,R,K,hz⟩:=box4 w 27 #[.slice A W.bs.length c,W.home] 31 d 33 b 33 #[(0:Int),(0:Int),(0:Int),(0:Int),(0:Int),(0:Int),(0:Int),(0:Int)];go_enter Tryz.func146,Tryz.ntmps146
 go_wp2_with fail
 rw[← hw1];clear hw1;refine mK (cw _ (hA.kpN K)) fun w2 k=>?_;replace D:=D.kpN k;replace F:=F.kpN k;replace B:=B.kpN k;replace R:=R.kpN k;replace K:=K.thenN k oM;have hzk:=k.size;clear k;have cD:=D.cell;have fD:=D.frozen;have cF:=F.cell;have fF:=F.frozen;have cB:=B.cell;have fB:=B.frozen;have cR:=R.cell;have fR:=R.frozen;go_wp2_with fail
 refine mK (ct _) fun w3 k=>?_;clear cD fD cF fF cB fB cR fR;replace D:=D.kpN k;replace F:=F.kpN k;replace B:=B.kpN k;replace R:=R.kpN k;replace K:=K.thenN k oM;have hzk:=k.size;clear k;have cD:=D.cell;have fD:=D.frozen;have cF:=F.cell;have fF:=F.frozen;have cB:=B.cell;have fB:=B.frozen;have cR:=R.cell;have fR:=R.frozen;go_wp2_with fail
 refine mK (cb _) fun w4 k=>?_;clear cD fD cF fF cB fB cR fR;replace D:=D.kpN k;replace F:=F.kpN k;replace B:=B.kpN k;replace R:=R.kpN k;replace K:=K.thenN k oM;have hzk:=k.size;clear k;have cD:=D.cell;have fD:=D.frozen;have cF:=F.cell;have fF:=F.frozen;have cB:=B.cell;have fB:=B.frozen;have cR:=R.cell;have fR:=R.frozen;go_wp2_with fail
 refine mK (cs _ (hA.kpN K)) fun w5 k=>?_;clear cD fD cF fF cB fB cR fR;replace D:=D.kpN k;replace F:=F.kpN k;replace B:=B.kpN k;replace R:=R.kpN k;replace K:=K.thenN k oM;have hzk:=k.size;clear k;cases rb
 ·
  have pR:=R.cell;obtain⟨w9_,rfl,Z,k9_,hzn⟩:=box1 w5 33 o;replace R:=R.kpN k9_;replace K:=K.thenN k9_ oU;clear k9_;have cR:=R.cell;have fR:=R.frozen;go_wp2_with fail
  clear cR fR pR;generalize (w5.alloc (.cells o 33))=w6 at *;obtain⟨x,hx⟩:∃ q9,q9=w5.heap.size:=⟨_,rfl⟩;rw[← hx] at Z ⊢;replace hx:=Lib.hid hx;have hxw:w.heap.size+4≤x:=by have:=hx.out;omega
  clear hx hzn hzk hz;have cR:=R.cell;have fR:=R.frozen;go_wp2_with fail
  obtain⟨w7,hwn,R9,kst,hzst⟩:=R.st8 (.int .i64 0) (.int .i64 0) (.int .i64 0) (.int .i64 0) (.int .i64 0) (.int .i64 0) (.int .i64 0) (.int .i64 0);rw[← hwn];have K:=K.thenOwn kst (Nat.le_refl _) oM;clear cR fR;have cR:=R9.cell;simp only[sbt,sc0,scs] at cR;exact bodyPost_ret (by simp[results,Tryz.results146,go_sem,cR];exact rfl) rfl ⟨rfl,K⟩
 ·
  have pR:=R.cell;obtain⟨w9_,rfl,Z,k9_,hzn⟩:=box1 w5 33 o;replace R:=R.kpN k9_;replace K:=K.thenN k9_ oU;clear k9_;have cR:=R.cell;have fR:=R.frozen;go_wp2_with fail
  clear cR fR pR;generalize (w5.alloc (.cells o 33))=w6 at *;obtain⟨x,hx⟩:∃ q9,q9=w5.heap.size:=⟨_,rfl⟩;rw[← hx] at Z ⊢;replace hx:=Lib.hid hx;have hxw:w.heap.size+4≤x:=by have:=hx.out;omega
  clear hx hzn hzk hz;have cZ:=Z.cell;have cR:=R.cell;have fR:=R.frozen;go_wp2_with fail
  obtain⟨w7,hwn,R9,kst,hzst⟩:=R.st8 (.int .i64 o.x.lo) (.int .i64 o.x.hi) (.int .i64 o.y.lo) (.int .i64 o.y.hi) (.int .i64 o.u.lo) (.int .i64 o.u.hi) (.int .i64 o.v.lo) (.int .i64 o.v.hi);rw[← hwn];have K:=K.thenOwn kst (Nat.le_refl _) oM;clear cR fR;have cR:=R9.cell;simp only[sbt,sc0,scs] at cR;exact bodyPost_ret (by simp[results,Tryz.results146,go_sem,cR];exact rfl) rfl ⟨rfl,K⟩
theorem Rd.bx {w:World} {A:Option Addr} {l:List Bx} (h:Rd none w 8 encBx A l.length l) {i:Nat} (hi:i<l.length):∃ b o,A=some ⟨b,o,none⟩∧b<w.heap.size ∧
  w.cell? ⟨b,o+i * 8,none⟩=some (.int .i64 l[i].x.lo)∧w.cell? ⟨b,o+i * 8+1,none⟩=some (.int .i64 l[i].x.hi)∧w.cell? ⟨b,o+i * 8+2,none⟩=some (.int .i64 l[i].y.lo)∧w.cell? ⟨b,o+i * 8+3,none⟩=some (.int .i64 l[i].y.hi) ∧
  w.cell? ⟨b,o+i * 8+4,none⟩=some (.int .i64 l[i].u.lo)∧w.cell? ⟨b,o+i * 8+5,none⟩=some (.int .i64 l[i].u.hi)∧w.cell? ⟨b,o+i * 8+6,none⟩=some (.int .i64 l[i].v.lo)∧w.cell? ⟨b,o+i * 8+7,none⟩=some (.int .i64 l[i].v.hi):=by
 obtain⟨b,o,rfl,hb,-,hc⟩:=h.at_ oM;refine⟨b,o,rfl,hb,?_,?_,?_,?_,?_,?_,?_,?_⟩
 · have:=hc i hi 0 _ rfl;rwa [Nat.add_zero] at this
 · have:=hc i hi 1 _ rfl;rwa [← Nat.add_assoc] at this
 · have:=hc i hi 2 _ rfl;rwa [← Nat.add_assoc] at this
 · have:=hc i hi 3 _ rfl;rwa [← Nat.add_assoc] at this
 · have:=hc i hi 4 _ rfl;rwa [← Nat.add_assoc] at this
 · have:=hc i hi 5 _ rfl;rwa [← Nat.add_assoc] at this
 · have:=hc i hi 6 _ rfl;rwa [← Nat.add_assoc] at this
 · have:=hc i hi 7 _ rfl;rwa [← Nat.add_assoc] at this
theorem orbit_CheckSet_any (A:Option Addr) (c:Nat) (l:List Bx) (w:World) (hr:Rd none w 8 encBx A l.length l) (hl:l.length≤512) (hb:∀ b∈l,okBx b=true) :
  Calls Tryz.prog 37 #[.slice A l.length c] w fun e w'=>e=.returned (.int .i64 0)∧Kp w.heap.size none w w':=by
 have n1:¬ (512:Int)<(l.length:Int):=by omega
 go_enter Tryz.func37,Tryz.ntmps37
 go_wp2_with fail
 go_loopw [11] (fun v wr=>∃ i:Nat,v=.int .i64 i∧i≤l.length∧Kp w.heap.size none w wr) (fun v _=>(l.length:Int).toNat-(intOf v).toNat)
 case atStart=>exact⟨0,rfl,Nat.zero_le _,Kp.refl _ _ _⟩
 case round=>
  obtain⟨i,rfl,hi,K⟩:=hrel;by_cases h:i<l.length
  ·
   obtain⟨b,o,rfl,hlt,c0,c1,c2,c3,c4,c5,c6,c7⟩:=(hr.kpN K).bx h;have hii:(i:Int)<(l.length:Int):=by omega
   have hi0:(0:Int)≤(i:Int):=by omega
   have hm:(l.length:Int).toNat-((i+1:Nat):Int).toNat<(l.length:Int).toNat-(i:Int).toNat:=by omega
   replace hm:=Lib.hid hm;have cb:=fun w=>orbit_Check_any l[i] w;have hbi:=hb _ (List.getElem_mem h);unfold errBx at cb;rw[if_pos hbi] at cb;generalize l[i]=x at *;clear hb hbi hr;go_wp2_with fail
   refine mK (cb _) fun w2 k=>?_;replace K:=(K.thenN (Kp.new1 wr (.cells x 33)) (Nat.le_refl _)).thenN k (Nat.le_refl _);clear k c0 c1 c2 c3 c4 c5 c6 c7;replace h:=Lib.hid h;go_wp2
   go_roundw
   case rel=>exact⟨i+1,by congr 1,h.out,K⟩
   case measure=>exact hm.out
  ·
   obtain rfl:i=l.length:=by omega
   clear hb hr;go_wp2
   go_ret
   exact⟨rfl,K⟩
theorem orbit_checkWay_any (A:Option Addr) (c:Nat) (l:List Bx) (t n:Int) (w:World) (ht:0≤t∧t≤1000000) (hn:0≤n∧n≤400) (hr:Rd none w 8 encBx A l.length l) (hl:l.length≤512) (hb:∀ b∈l,okBx b=true) :
  Calls Tryz.prog 53 #[t,n,.slice A l.length c] w fun e w'=>e=.returned (.int .i64 0)∧Kp w.heap.size none w w':=by
 have n1:¬ n<0:=by omega
 have n2:¬ (400:Int)<n:=by omega
 have cs:=fun w h=>orbit_CheckSet_any A c l w h hl hb;have ct:=fun w=>orbit_within_any t 0 (1073741824-n) w;rw[btw_t oM oM] at ct;have e1:wrap64 (1073741824-n)=1073741824-n:=by unfold wrap64;omega
 clear hb hl ht;go_enter Tryz.func53,Tryz.ntmps53
 go_wp2_with fail
 refine mK (ct _) fun w1 k1=>?_;go_wp2_with fail
 refine mK (cs _ (hr.kpN k1)) fun w2 k2=>?_;go_wp2
 go_ret
 exact⟨rfl,k1.thenN k2 (Nat.le_refl _)⟩
theorem Blk.grownO {w w':World} {g:Nat} {t:TypeId} {cs:Array Value} {row:Option Nat} (h:Blk w g t cs) (hg:w.grownBy w' row) (hr:∀ b,row=some b→g<b):Blk w' g t cs:=
 (hg.block g h.lt (fun e=>by have:=hr g e.symm;omega)).trans h
theorem box_info:(Tryz.prog.info? 33).map (fun i=>(i.zero,i.size,i.bytes))=some (some (.agg #[(0:Int),(0:Int),(0:Int),(0:Int),(0:Int),(0:Int),(0:Int),(0:Int)]),8,64):=by kernel_rfl
theorem bx_new (w:World) (T:TypeId) (x:Bx):∀ j u,(encBx x)[j]?=some u→(w.alloc (.cells x T)).cell? ((⟨w.heap.size,0,none⟩:Addr).add j)=some u:=fun j u hj=>by
 rw[Addr.add_lit,Nat.zero_add,(Blk.new w T x).cell];exact(show (encBx x).toArray[j]?=some u by simpa using hj)
theorem bx_newAt (w:World) (T:TypeId) (x:Bx) {N:Nat} (hN:N=w.heap.size):∀ j u,(encBx x)[j]?=some u→(w.alloc (.cells x T)).cell? ((⟨N,0,none⟩:Addr).add j)=some u:=by
 subst hN;exact bx_new w T x
theorem bx_one (x:Bx):∀ u∈encBx x,u.oneCell'=true:=by
 intro u hu;simp only[encBx,List.mem_cons,List.not_mem_nil,or_false] at hu;rcases hu with rfl|rfl|rfl|rfl|rfl|rfl|rfl|rfl<;>rfl
section
variable {W:Wd} {d:Dr} {t:Int}
theorem stepAll_app:∀ (a r:List Bx),stepAll W d t (a++r)=match stepAll W d t a,stepAll W d t r with
  | some x,some y=>some (x++y)
  | _,_=>none
 | [],r=>by cases h:stepAll W d t r<;>simp[stepAll,h]
 | b::a,r=>by
  rw[List.cons_append,stepAll,stepAll_app a r,stepAll];cases stepW W d t b<;>cases stepAll W d t a<;>cases stepAll W d t r<;>rfl
theorem stepAll_take {l m:List Bx} {i:Nat} {x:Bx} (hi:i<l.length) (h:stepAll W d t (l.take i)=some m) (hx:stepW W d t l[i]=some x):stepAll W d t (l.take (i+1))=some (m++[x]):=by
 rw[List.take_succ_eq_append_getElem hi,stepAll_app,h];simp[stepAll,hx]
theorem stepAll_none {l m:List Bx} {i:Nat} (hi:i<l.length) (h:stepAll W d t (l.take i)=some m) (hx:stepW W d t l[i]=none):stepAll W d t l=none:=by
 have e:l=l.take i++(l[i]::l.drop (i+1)):=by rw[← List.drop_eq_getElem_cons hi,List.take_append_drop]
 rw[e,stepAll_app,h];simp[stepAll,hx]
end
def AllAt (W:Wd) (d:Dr) (t:Int) (l:List Bx) (A:Option Addr) (c:Nat) (w:World) (v k:Value) (wr:World):Prop:=
 ∃ (i:Nat) (m:List Bx),k=.int .i64 i∧i≤l.length∧stepAll W d t (l.take i)=some m∧m.length=i∧Own wr (w.heap.size+2) 33 8 encBx v m∧Blk wr w.heap.size 27 #[.slice A W.bs.length c,W.home]∧Blk wr (w.heap.size+1) 31 d∧Kp w.heap.size none w wr
def AllPost (W:Wd) (d:Dr) (t:Int) (l:List Bx) (w:World) (e:Ending) (w':World):Prop:=
 (match stepAll W d t l with
  | some m=>∃ A c,e=.returned (.tuple #[.slice A m.length c,.bool true])∧Rd none w' 8 encBx A m.length m
  | none=>e=.returned (.tuple #[.slice none 0 0,.bool false]))∧Kp w.heap.size none w w'
theorem orbit_all_any (A:Option Addr) (c:Nat) (W:Wd) (d:Dr) (t:Int) (B:Option Addr) (n:Nat) (l:List Bx) (w:World) (hW:W.ok) (hA:WdAt none w A W) (hd:d.ok) (ht:0≤t∧t≤1073741824) (hr:Rd none w 8 encBx B l.length l) (hl:l.length≤512) (hb:∀ b∈l,okBx b=true) :
  Calls Tryz.prog 104 #[.agg #[.slice A W.bs.length c,W.home],d,t,.slice B l.length n] w (AllPost W d t l w):=by
 obtain⟨i0,hi,hz0,hz1,hz2⟩:=info_parts box_info;have cs:=fun w h b hb=>orbit_step_any A c W d t b w hW h hd ht hb;clear hW hd ht;obtain⟨w1,hw1,D,F,K,hz⟩:=box2 w 27 #[.slice A W.bs.length c,W.home] 31 d;go_enter Tryz.func104,Tryz.ntmps104
 go_wp2_with fail
 rw[← hw1];clear hw1;go_loopw [10,17] (fun v k wr=>AllAt W d t l A c w v k wr) (fun _ k _=>(l.length:Int).toNat-(intOf k).toNat)
 case atStart=>exact⟨0,[],rfl,Nat.zero_le _,rfl,rfl,Own.nil _ _ _ _ _,D,F,K⟩
 case round=>
  obtain⟨i,m,rfl,hil,hm9,hml,ow,D1,F1,K1⟩:=hrel;clear D F K;have D:=D1;have F:=F1;have K:=K1;clear D1 F1 K1;have hzs:=K.size;have hzF:=F.lt;by_cases h:i<l.length
  ·
   obtain⟨b,o,rfl,hlt,c0,c1,c2,c3,c4,c5,c6,c7⟩:=(hr.kpN K).bx h;have hii:(i:Int)<(l.length:Int):=by omega
   have hi0:(0:Int)≤(i:Int):=by omega
   have hm:(l.length:Int).toNat-((i+1:Nat):Int).toNat<(l.length:Int).toNat-(i:Int).toNat:=by omega
   replace hm:=Lib.hid hm;have hs:=fun w hA=>cs w hA l[i] (hb _ (List.getElem_mem h));have hyes:=fun x hx=>stepAll_take (x:=x) h hm9 hx;have hno:=stepAll_none h hm9;unfold stepW at hyes hno;obtain⟨y,hy⟩:∃ q9,Hid (q9=stepB mp d (W.hvs t) l[i]):=⟨_,Lib.hid rfl⟩;rw[← hy.out] at hs hyes hno;obtain⟨x,hxx⟩:∃ q9,Hid (q9=l[i]):=⟨_,Lib.hid rfl⟩;rw[← hxx.out] at hs c0 c1 c2 c3 c4 c5 c6 c7;obtain⟨rb,hrb⟩:∃ q9,Hid (q9=okBx y):=⟨_,Lib.hid rfl⟩;rw[← hrb.out] at hs hyes hno;clear hb hr cs;have ow1:=ow.alloc (.cells x 33);have K1:=K.thenN (Kp.new1 wr (.cells x 33)) (Nat.le_refl _);have D1:=D.alloc (.cells x 33);have F1:=F.alloc (.cells x 33);replace hyes:=Lib.hid hyes;replace hno:=Lib.hid hno;replace hm9:=Lib.hid hm9;replace ow:=Lib.hid ow;have cD:=D1.cell;have cF:=F1.cell;go_wp2_with fail
   refine mK (hs _ (hA.kpN K1)) fun w2 k=>?_;have ow:=ow1.kpN k;have D:=D1.kpN k;have F:=F1.kpN k;have K:=K1.tN k;have hzk:wr.heap.size≤w2.heap.size:=by have:=k.size;simp at this;omega
   clear k ow1 D1 F1 K1 c0 c1 c2 c3 c4 c5 c6 c7 cD cF;cases rb
   ·
    have hn:=hno.out (by simp);clear hyes hno;replace hn:=Lib.hid hn;go_wp2
    exact bodyPost_ret (v:=.tuple #[.slice none 0 0,.bool false]) (by simp[results,Tryz.results104,go_sem]) rfl ⟨by rw[hn.out],K.thenN (Kp.new1 _ _) (Nat.le_refl _)⟩
   ·
    have hn:=hyes.out y (by simp);clear hyes hno;replace hn:=Lib.hid hn;have ow3:=ow.alloc (.cells y 33);have D3:=D.alloc (.cells y 33);have F3:=F.alloc (.cells y 33);have K3:=K.thenN (Kp.new1 w2 (.cells y 33)) (Nat.le_refl _);clear ow D F K;have hB:w.heap.size+2≤(w2.alloc (.cells y 33)).heap.size:=by simp;omega
    replace D3:=Lib.hid D3;replace F3:=Lib.hid F3;replace hml:=Lib.hid hml;have hm5:m.length≤512:=by have:=hml.out;omega
    go_wp2_with (at_builtin;go_loud (refine wpList_append_own_at _ (by rfl) (.tmp 31) (.tmp 33) 47 (by rfl) (w.heap.size+2) 33 i0 _ 8 64 Tryz.underlying47 hi hz0 hz1 hz2 (by rfl) oM u10 m.length (m.flatMap encBx) (by rfl) (ow3.alloc _) ⟨w2.heap.size+1,0,none⟩ 1 1 (encBx y) (by rfl) (by rfl) (bx_newAt _ _ _ (by simp)) (bx_one _) (maxLen_of oM) oM (alloc_ge hB _) ?_);intro v4 w4 hown4 hgrow _ hat)
    have hge:∀ b,u10.ownBlock=some b→w.heap.size+2≤b:=fun b hb=>(ow3.ge b hb).1;have ow4:Own w4 (w.heap.size+2) 33 8 encBx v4 (m++[y]):=by unfold Own;simpa using hown4
    have D4:=(D3.out.alloc _).grownO hgrow (fun b hb=>by have:=hge b hb;omega);have F4:=(F3.out.alloc _).grownO hgrow (fun b hb=>by have:=hge b hb;omega);have K4:=(K3.thenN (Kp.new1 _ _) (Nat.le_refl _)).grown hgrow (by simp;omega) (fun b hb=>by have:=hge b hb;omega);exact⟨⟨i+1,m++[y],by congr 1,h,hn.out,by rw[List.length_append,hml.out];rfl,ow4,D4,F4,K4⟩,hm.out⟩
  ·
   obtain rfl:i=l.length:=by omega
   rw[List.take_length] at hm9;clear hb hr cs hA;obtain⟨A2,cap2,rfl,rd2,-⟩:=ow.rd (row:=none) (fun _=>rfl) (fun b hb e=>by cases e);go_wp2
   exact bodyPost_ret (by simp[results,Tryz.results104,go_sem];rfl) rfl ⟨by rw[hm9];exact⟨A2,cap2,rfl,rd2⟩,K⟩
theorem one_boxes (xs:List Bx):∀ u∈xs.flatMap encBx,u.oneCell'=true:=by
 intro u hu;obtain⟨x,-,hu⟩:=List.mem_flatMap.1 hu;exact bx_one x u hu
theorem emptyBoxes (w:World) (B:Nat) (hB:B≤w.heap.size):Own (w.alloc (.cells #[] 33)) B 33 8 encBx (.slice (some ⟨w.heap.size,0,none⟩) 0 0) []:=
 ⟨rfl,.inr ⟨w.heap.size,0,#[],rfl,hB,Blk.new w 33 #[],Nat.le_refl _,Nat.zero_le _,rfl,rfl⟩⟩
def zBx:Bx:=⟨⟨0,0⟩,⟨0,0⟩,⟨0,0⟩,⟨0,0⟩⟩
theorem box_zero:∀ w,(zeroValue 33).run Tryz.prog w=.ok (.agg (encBx zBx).toArray) w:=by
 intro w;obtain⟨i0,hi0,hz0,hz1,hz2⟩:=info_parts box_info;simp[zeroValue,hi0,hz0,go_sem]
 rfl
def putI (w:World) (g o:Nat) (n:Bx):World:=(((((((w.setCell ⟨g,o,none⟩ (.int .i64 n.x.lo)).setCell ⟨g,o+1,none⟩ (.int .i64 n.x.hi)).setCell ⟨g,o+2,none⟩ (.int .i64 n.y.lo)).setCell ⟨g,o+3,none⟩ (.int .i64 n.y.hi)).setCell ⟨g,o+4,none⟩ (.int .i64 n.u.lo)).setCell ⟨g,o+5,none⟩ (.int .i64 n.u.hi)).setCell ⟨g,o+6,none⟩ (.int .i64 n.v.lo)).setCell ⟨g,o+7,none⟩ (.int .i64 n.v.hi)
theorem putI_grown (w:World) (g o:Nat) (n:Bx):w.grownBy (putI w g o n) (some g):=
 grown_trans (grown_trans (grown_trans (grown_trans (grown_trans (grown_trans (grown_trans (grown_set _ _ _ _) (grown_set _ _ _ _)) (grown_set _ _ _ _)) (grown_set _ _ _ _)) (grown_set _ _ _ _)) (grown_set _ _ _ _)) (grown_set _ _ _ _)) (grown_set _ _ _ _)
theorem Own.setItem {w:World} {B g n cap:Nat} {xs:List Bx} (h:Own w B 33 8 encBx (.slice (some ⟨g,0,none⟩) n cap) xs) (i:Nat) (hi:i<xs.length) (k:Bx) :
  Own (putI w g (i * 8) k) B 33 8 encBx (.slice (some ⟨g,0,none⟩) n cap) (xs.set i k):=by
 have a0:=Own.setAt (sz:=8) (enc:=encBx) (fun _=>rfl) h i hi 0 oM (.int .i64 k.x.lo) ⟨⟨k.x.lo,xs[i].x.hi⟩,⟨xs[i].y.lo,xs[i].y.hi⟩,⟨xs[i].u.lo,xs[i].u.hi⟩,⟨xs[i].v.lo,xs[i].v.hi⟩⟩ rfl;have a1:=Own.setAt (sz:=8) (enc:=encBx) (fun _=>rfl) a0.1 i (by simpa using hi) 1 oM (.int .i64 k.x.hi) ⟨⟨k.x.lo,k.x.hi⟩,⟨xs[i].y.lo,xs[i].y.hi⟩,⟨xs[i].u.lo,xs[i].u.hi⟩,⟨xs[i].v.lo,xs[i].v.hi⟩⟩ (by simp[encBx]);have a2:=Own.setAt (sz:=8) (enc:=encBx) (fun _=>rfl) a1.1 i (by simpa using hi) 2 oM (.int .i64 k.y.lo) ⟨⟨k.x.lo,k.x.hi⟩,⟨k.y.lo,xs[i].y.hi⟩,⟨xs[i].u.lo,xs[i].u.hi⟩,⟨xs[i].v.lo,xs[i].v.hi⟩⟩ (by simp[encBx]);have a3:=Own.setAt (sz:=8) (enc:=encBx) (fun _=>rfl) a2.1 i (by simpa using hi) 3 oM (.int .i64 k.y.hi) ⟨⟨k.x.lo,k.x.hi⟩,⟨k.y.lo,k.y.hi⟩,⟨xs[i].u.lo,xs[i].u.hi⟩,⟨xs[i].v.lo,xs[i].v.hi⟩⟩ (by simp[encBx]);have a4:=Own.setAt (sz:=8) (enc:=encBx) (fun _=>rfl) a3.1 i (by simpa using hi) 4 oM (.int .i64 k.u.lo) ⟨⟨k.x.lo,k.x.hi⟩,⟨k.y.lo,k.y.hi⟩,⟨k.u.lo,xs[i].u.hi⟩,⟨xs[i].v.lo,xs[i].v.hi⟩⟩ (by simp[encBx]);have a5:=Own.setAt (sz:=8) (enc:=encBx) (fun _=>rfl) a4.1 i (by simpa using hi) 5 oM (.int .i64 k.u.hi) ⟨⟨k.x.lo,k.x.hi⟩,⟨k.y.lo,k.y.hi⟩,⟨k.u.lo,k.u.hi⟩,⟨xs[i].v.lo,xs[i].v.hi⟩⟩ (by simp[encBx]);have a6:=Own.setAt (sz:=8) (enc:=encBx) (fun _=>rfl) a5.1 i (by simpa using hi) 6 oM (.int .i64 k.v.lo) ⟨⟨k.x.lo,k.x.hi⟩,⟨k.y.lo,k.y.hi⟩,⟨k.u.lo,k.u.hi⟩,⟨k.v.lo,xs[i].v.hi⟩⟩ (by simp[encBx]);have a7:=Own.setAt (sz:=8) (enc:=encBx) (fun _=>rfl) a6.1 i (by simpa using hi) 7 oM (.int .i64 k.v.hi) k (by simp[encBx]);have:=a7.1;simp only[List.set_set] at this;exact this
theorem Own.itemCells {w:World} {B g n cap:Nat} {xs:List Bx} (h:Own w B 33 8 encBx (.slice (some ⟨g,0,none⟩) n cap) xs) (i:Nat) (hi:i<xs.length) :
  ∃ y:Bx,∀ k u,(encBx y)[k]?=some u→w.cell? ⟨g,i * 8+k,none⟩=some u:=by
 obtain⟨A,cap',e,rd,-⟩:=h.rd0 (fun _=>rfl);simp only[Value.slice.injEq] at e;obtain⟨rfl,rfl,rfl⟩:=e;obtain⟨b,o',e2,-,-,hcc⟩:=rd.at_ oM;simp only[Option.some.injEq,Addr.mk.injEq] at e2;obtain⟨rfl,rfl,-⟩:=e2;refine⟨xs[i],fun k u hk=>?_⟩;have:=hcc i hi k u hk;rwa [Nat.zero_add] at this
def ClonePost (l:List Bx) (w:World) (e:Ending) (w':World):Prop:=∃ v,e=.returned v∧Own w' w.heap.size 33 8 encBx v l∧Kp w.heap.size none w w'
theorem cloneBox_any (A:Option Addr) (cap:Nat) (l:List Bx) (w:World) (hr:Rd none w 8 encBx A l.length l) (hn:l.length≤1000000) :
  Calls Tryz.prog 86 #[.slice A l.length cap] w (ClonePost l w):=by
 obtain⟨i0,hi0,hz0,hz1,hz2⟩:=info_parts box_info;have q29:∀ (w:World) (a:Option Addr) (n c n2 c2:Nat),(binOp .eql 47 (.slice a n c) (.slice none n2 c2)).run Tryz.prog w=.ok (.bool a.isNone) w:=fun w a n c n2 c2=>Lib.run_eql_slice_nil w _ _ a n c n2 c2 Tryz.underlying47;cases A with
 | none=>
  have hl0:l=[]:=by
   rcases Nat.eq_zero_or_pos l.length with h1|h1
   · exact List.eq_nil_of_length_eq_zero h1
   ·
    obtain⟨b,o,e,_⟩:=hr.2 h1;cases e
  subst hl0;go_enter Tryz.func86,Tryz.ntmps86
  go_wp2
  go_ret
  exact⟨_,rfl,Own.nil _ _ _ _ _,Kp.refl _ _ _⟩
 | some ad=>
  have hr1:=hr.alloc (.cells #[] 33);have K1:=Kp.new1 w (.cells #[] 33);replace hr:=Lib.hid hr;go_enter Tryz.func86,Tryz.ntmps86
  go_wp2_with (at_builtin;refine wpList_append_own_at _ (by rfl) (.tmp 5) (.tmp 6) 47 (by rfl) w.heap.size 33 i0 _ 8 64 Tryz.underlying47 hi0 hz0 hz1 hz2 (by rfl) oM (.slice (some ⟨w.heap.size,0,none⟩) 0 0) 0 [] (by rfl) (emptyBoxes w w.heap.size (Nat.le_refl _)) ad l.length cap (l.flatMap encBx) (by rfl) (flat_len (enc:=encBx) (sz:=8) (fun _=>rfl) l) (hr1.flat (fun _=>rfl)) (one_boxes l) (maxLen_of oM) oM (alloc_ge (Nat.le_refl _) _) ?_;intro u4 w4 hown gu _ au;clear au)
  go_ret
  refine⟨u4,rfl,?_,K1.grown gu (alloc_ge (Nat.le_refl _) _) (fun b e=>by have e2:w.heap.size=b:=(by simpa [Value.ownBlock] using e);omega)⟩;unfold Own;simpa using hown
def DelPost (B:Nat) (l:List Bx) (w:World) (e:Ending) (w':World):Prop:=
 ∃ A2 cap2,e=.returned (.slice A2 l.length cap2)∧Rd none w' 8 encBx A2 l.length l∧Kp B none w w'∧∀ ad,A2=some ad→B≤ad.block
theorem Own.itemAt {w:World} {B g n cap:Nat} {xs:List Bx} (h:Own w B 33 8 encBx (.slice (some ⟨g,0,none⟩) n cap) xs) (i:Nat) (hi:i<xs.length) :
  ∀ k u,(encBx xs[i])[k]?=some u→w.cell? ⟨g,i * 8+k,none⟩=some u:=by
 obtain⟨A,cap',e,rd,-⟩:=h.rd0 (fun _=>rfl);simp only[Value.slice.injEq] at e;obtain⟨rfl,rfl,rfl⟩:=e;obtain⟨b,o',e2,-,-,hcc⟩:=rd.at_ oM;simp only[Option.some.injEq,Addr.mk.injEq] at e2;obtain⟨rfl,rfl,-⟩:=e2;intro k u hk;have:=hcc i hi k u hk;rwa [Nat.zero_add] at this
def DelAt (p:Bx→Bool) (B g:Nat) (cap:Nat) (xs:List Bx) (w:World) (a b:Value) (wr:World):Prop:=
 ∃ (i j:Nat) (dk:List Bx),a=.int .i64 (i:Int)∧b=.int .i64 (j:Int)∧DInv (fun x:Bx=>!p x) xs dk i j∧Own wr B 33 8 encBx (.slice (some ⟨g,0,none⟩) xs.length cap) dk∧Kp B none w wr
theorem putI_kp {B:Nat} {w wr:World} {g:Nat} (k:Kp B none w wr) (hB:B≤g) (hw:B≤wr.heap.size) (o:Nat) (x:Bx):Kp B none w (putI wr g o x):=
 k.grown (putI_grown _ _ _ _) hw (fun b e=>by injection e with e;omega)
theorem deleteBox_any (g0:Nat) (lb:Array Value) (p:Bx→Bool) (eg:∀ args w,(callFunc g0 args).run Tryz.prog w=.ok (.enter g0 args) w) (B:Nat) (v:Value) (xs:List Bx) (w:World) (hp:∀ (W:World) (x:Bx),x∈xs→Kp B none w W→Calls Tryz.prog g0 (#[oneBox x]++lb) W fun e w'=>e=.returned (.bool (p x))∧Kp W.heap.size none W w') (own:Own w B 33 8 encBx v xs) (hB:B≤w.heap.size) (hn:xs.length≤1000000) :
  Calls Tryz.prog 85 #[v,.func (.func g0) #[] lb] w (DelPost B ((xs.filter fun x=>!p x)) w):=by
 obtain⟨A,cap,rfl,hrd,hA⟩:=own.rd (row:=none) (fun _=>rfl) (fun b hb e=>by cases e);rcases idx_spec (fun x:Bx=>p x) xs 0 with⟨h1,h2⟩|⟨k,hk,h1,h2,h3,h4⟩
 ·
  have hall:(xs.filter fun x=>!p x)=xs:=List.filter_eq_self.2 fun x hx=>by
   have:=List.find?_eq_none.1 h2 x hx;simpa using this
  go_enter Tryz.func85,Tryz.ntmps85
  go_wp2_with fail
  refine mK (indexBox_any g0 lb p eg A cap xs w (fun W x hx k=>hp W x hx (k.mono hB)) hrd oM) fun w2 k2=>?_;rw[h1];replace hrd:=hrd.kpN k2;have K2:=k2.mono hB;have hfr:=Lib.hid (fun ad e=>(hA ad e).1);clear k2 h1 h2 own hA;replace hrd:=Lib.hid hrd;replace hall:=Lib.hid hall;go_wp2
  go_ret
  exact⟨A,cap,by rw[hall.out];rfl,by rw[hall.out];exact hrd.out,K2,hfr.out⟩
 ·
  rcases own.2 with⟨e,h0⟩|⟨g,cap',cur,e,hg,-,hle,-⟩
  · omega
  simp only[Value.slice.injEq] at e;obtain⟨rfl,-,rfl⟩:=e;have hgw:=(own.ge g rfl).2;have st:=DInv.start (p:=(fun x:Bx=>!p x)) (k:=k) hk (fun j hj=>by have:=h4 j hj;simpa using this) (by simpa using h3);have hk2:(k:Int)+1≤(xs.length:Int):=by omega
  replace st:=Lib.hid st;clear hA h3 h4 h2;go_enter Tryz.func85,Tryz.ntmps85
  go_wp2_with fail
  refine mK (indexBox_any g0 lb p eg (some ⟨g,0,none⟩) cap xs w (fun W x hx k=>hp W x hx (k.mono hB)) hrd oM) fun w2 k2=>?_;rw[h1];simp only[Int.zero_add];have own2:=own.kpN k2;have K2:=k2.mono hB;have hgw2:w.heap.size≤w2.heap.size:=k2.size;clear k2 h1 own hrd;have hkn:((k:Int)==-1)=false:=beq_eq_false_iff_ne.2 oM;go_wp2_with fail
  go_loopw [5,6] (fun a b wr=>DelAt p B g cap xs w a b wr) (fun _ b _=>((xs.length:Int)-intOf b).toNat)
  case atStart=>exact⟨k,k+1,xs,rfl,by congr 1,st.out,own2,K2⟩
  case round=>
   clear own2 K2 st hk2 hkn hgw2;obtain⟨i,j,dk,rfl,rfl,D,O,K⟩:=hrel;have hij:=D.lt;have hjl:=D.le;have hdl:=D.len;have hws:w.heap.size≤wr.heap.size:=K.size;by_cases hj:j<xs.length
   ·
    have hjj:(j:Int)<(xs.length:Int):=by omega
    have hcc:=O.itemAt j oM;rw[D.at_ hj] at hcc;have dkeep:=D.keep hj;have dskip:=D.skip hj;clear D;have hcall8:=fun W k=>hp W xs[j] (List.getElem_mem hj) k;generalize xs[j]=x at hcc dkeep dskip hcall8;have c0:wr.cell? ⟨g,j * 8+0,none⟩=some (.int .i64 x.x.lo):=hcc 0 _ rfl;have c1:wr.cell? ⟨g,j * 8+1,none⟩=some (.int .i64 x.x.hi):=hcc 1 _ rfl;have c2:wr.cell? ⟨g,j * 8+2,none⟩=some (.int .i64 x.y.lo):=hcc 2 _ rfl;have c3:wr.cell? ⟨g,j * 8+3,none⟩=some (.int .i64 x.y.hi):=hcc 3 _ rfl;have c4:wr.cell? ⟨g,j * 8+4,none⟩=some (.int .i64 x.u.lo):=hcc 4 _ rfl;have c5:wr.cell? ⟨g,j * 8+5,none⟩=some (.int .i64 x.u.hi):=hcc 5 _ rfl;have c6:wr.cell? ⟨g,j * 8+6,none⟩=some (.int .i64 x.v.lo):=hcc 6 _ rfl;have c7:wr.cell? ⟨g,j * 8+7,none⟩=some (.int .i64 x.v.hi):=hcc 7 _ rfl;simp only[Nat.add_zero] at c0;clear hcc;have XB:=Blk.new wr 33 x;have kx:=Kp.new1 wr (.cells x 33);have O5:=O.kpN kx;have K5:=K.then_ (kx.mono (Nat.le_refl _)) hB;replace dkeep:=Lib.hid dkeep;replace dskip:=Lib.hid dskip;replace O5:=Lib.hid O5;clear kx K O;go_upto_region 8 with(fail)
    clear c0 c1 c2 c3 c4 c5 c6 c7;change Code.wp _ _ _ _ (wr.alloc (.cells x 33));obtain⟨xb,hxb⟩:∃ q,q=wr.heap.size:=⟨_,rfl⟩;have hxg:xb≠g:=by omega
    rw[← hxb] at XB;try rw[← hxb]
    generalize wr.alloc (.cells x 33)=w5 at XB O5 K5 ⊢;clear hxb hws;have cx:=XB.cell;have hcall:=hcall8 _ K5;clear hcall8;unfold oneBox at hcall;go_wp2_with fail
    go_at_fn g0
    refine hcall.mono ?_;rintro e w6 ⟨rfl,k6⟩;replace XB:=XB.kpN k6;replace O5:=O5.out.kpN k6;replace K5:=K5.then_ k6 hB;have hw6:w.heap.size≤w6.heap.size:=K5.size;clear k6 cx;have cx:=XB.cell;cases hd:p x with
    | false=>
     have hkp:=dkeep.out (by simp[hd]);have O6:=O5.setItem i oM x;have K6:=putI_kp K5 (O5.ge g rfl).1 oM (i * 8) x;have fr:=fun j=>O5.frz (fun _=>rfl) j;obtain⟨py,ph⟩:=O5.itemCells i oM;have p0:w6.cell? ⟨g,i * 8+0,none⟩=some (.int .i64 py.x.lo):=ph 0 _ rfl;have p1:w6.cell? ⟨g,i * 8+1,none⟩=some (.int .i64 py.x.hi):=ph 1 _ rfl;have p2:w6.cell? ⟨g,i * 8+2,none⟩=some (.int .i64 py.y.lo):=ph 2 _ rfl;have p3:w6.cell? ⟨g,i * 8+3,none⟩=some (.int .i64 py.y.hi):=ph 3 _ rfl;have p4:w6.cell? ⟨g,i * 8+4,none⟩=some (.int .i64 py.u.lo):=ph 4 _ rfl;have p5:w6.cell? ⟨g,i * 8+5,none⟩=some (.int .i64 py.u.hi):=ph 5 _ rfl;have p6:w6.cell? ⟨g,i * 8+6,none⟩=some (.int .i64 py.v.lo):=ph 6 _ rfl;have p7:w6.cell? ⟨g,i * 8+7,none⟩=some (.int .i64 py.v.hi):=ph 7 _ rfl;simp only[Nat.add_zero] at p0;clear ph dkeep dskip O5 K5;replace hkp:=Lib.hid hkp;have hii:(i:Int)<(xs.length:Int):=by omega
     obtain⟨of,hof⟩:∃ q,q=i * 8:=⟨_,rfl⟩;rw[← hof] at p0 p1 p2 p3 p4 p5 p6 p7 O6 K6;replace O6:=Lib.hid O6;replace K6:=Lib.hid K6;replace hof:=hof.symm;go_upto_region 9 with(fail)
     clear hd;go_upto_region 10 with(fail)
     change Code.wp _ _ _ _ (putI w6 g of x);replace O6:=O6.out;replace K6:=K6.out;generalize putI w6 g of x=w7 at O6 K6 ⊢;clear p0 p1 p2 p3 p4 p5 p6 p7 fr cx XB hof;replace O6:=Lib.hid O6;replace K6:=Lib.hid K6;go_wp2
     go_roundw
     case rel=>exact⟨i+1,j+1,dk.set i x,by congr 1,by congr 1,hkp.out,O6.out,K6.out⟩
     case measure=>simp[intOf];omega
    | true=>
     have hkp:=Lib.hid (dskip.out (by simp[hd]));clear dkeep dskip;replace O5:=Lib.hid O5;replace K5:=Lib.hid K5;go_wp2
     go_roundw
     case rel=>exact⟨i,j+1,dk,rfl,by congr 1,hkp.out,O5.out,K5.out⟩
     case measure=>simp[intOf];omega
   ·
    have hjj:¬ (j:Int)<(xs.length:Int):=by omega
    obtain rfl:j=xs.length:=by omega
    obtain⟨hf1,hf2⟩:=D.fin;have hgB:=(O.ge g rfl).1;obtain⟨zs,hzs⟩:∃ zs,zs=(Builtin.zeroCells (Value.agg (encBx zBx).toArray).cells (xs.length-i)).toList:=⟨_,rfl⟩
    have hcl:∀ ty cc,(Builtin.clear_ #[47] ty #[.slice (some ⟨g,i * 8,none⟩) (xs.length-i) cc]).run Tryz.prog wr=.ok (.tuple #[]) (wr.setCells g (i * 8) zs):=fun ty cc=>by
     rw[hzs];refine run_clear_rows wr _ 33 ty (.agg (encBx zBx).toArray) 8 Tryz.underlying47 box_zero rfl (fun k hk=>?_) g (i * 8) (xs.length-i) cc oM (fun k hk=>?_) (fun k _=>O.frz (fun _=>rfl) _)
     ·
      have hk9:k<8:=hk;match k,hk9 with
      | 0,_=>rfl
      | 1,_=>rfl
      | 2,_=>rfl
      | 3,_=>rfl
      | 4,_=>rfl
      | 5,_=>rfl
      | 6,_=>rfl
      | 7,_=>rfl
     ·
      have e9:i * 8+k=(i+k / 8) * 8+k % 8:=by omega
      have hl9:k % 8<(encBx (dk[i+k / 8]'(by omega))).length:=Nat.mod_lt _ oM;have:=O.itemAt (i+k / 8) oM (k % 8) _ (List.getElem?_eq_getElem hl9);rw[e9,this];rfl
    have K9:Kp B none w (wr.setCells g (i * 8) zs):=kp_setCells hgB zs (i * 8) K
    have R9:Rd none (wr.setCells g (i * 8) zs) 8 encBx (some ⟨g,0,none⟩) ((xs.filter fun x=>!p x)).length ((xs.filter fun x=>!p x)):=by
     refine⟨rfl,fun h0=>⟨g,0,rfl,Nat.lt_of_lt_of_le (O.ge g rfl).2 (size_setCells g zs (i * 8) wr),by simp,fun m hm k v hv=>?_⟩⟩;have hm2:m<i:=by rw[← hf2];exact hm
     have em:((xs.filter fun x=>!p x))[m]=dk[m]'(by omega):=by
      have e1:((xs.filter fun x=>!p x))[m]?=(dk.take i)[m]?:=by rw[hf1]
      rw[List.getElem?_eq_getElem hm,List.getElem?_take,if_pos hm2,List.getElem?_eq_getElem oM] at e1;exact Option.some.inj e1
     have hk9:k<8:=(List.getElem?_eq_some_iff.1 hv).1;rw[em] at hv;have:=O.itemAt m oM k v hv;rw[Nat.zero_add,← this];exact World.cell?_setCells_out g zs (i * 8) wr ⟨g,m * 8+k,none⟩ fun _ _=>.inl (by show m * 8+k<i * 8;omega)
    have hlen:((xs.filter fun x=>!p x)).length=i:=hf2;have hfr:=Lib.hid hgB;replace K9:=Lib.hid K9;replace R9:=Lib.hid R9;replace hlen:=Lib.hid hlen;clear D K O hf1 hf2 hzs;have hin:(i:Int)≤(xs.length:Int):=by omega
    have hin2:i≤xs.length:=by omega
    have hcap1:¬ (cap=i):=by omega
    have hcap2:(i:Int)≤(cap:Int):=by omega
    have hcap3:i≤cap:=by omega
    go_wp2
    go_ret
    exact⟨some ⟨g,0,none⟩,cap,by rw[hlen.out];rfl,R9.out,K9.out,fun ad e=>by injection e with e;rw[← e];exact hfr.out⟩
end Go.Proofs.YtdhiappifnflpaaGreat
