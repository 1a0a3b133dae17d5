/- slices.IndexFunc, ContainsFunc of boxes, sights, stations, catalogs, cells and numbers. Orbits: the walks of orbit, fifth part: Step, CheckSet, checkWay, all. Orbits: the walks of orbit, sixth part: all. The reference's pulls, weakly: Over, first part (the list of pulls). -/
import Derived.Test.YtdhiappifnflpaaGreatDoorM24
import Derived.Test.YtdhiappifnflpaaGreatDoorM26
import Derived.Laws.EntriesVeiled
import Derived.Test.YtdhiappifnflpaaGreatDoorM25
import Derived.Maps.AppendAt
set_option maxRecDepth 100000
set_option maxHeartbeats 4000000
namespace Go.Proofs.YtdhiappifnflpaaGreatDoor
open Go.RowKit
theorem ret_int {a b:Int} (h:a=b):Ending.returned (.int .i64 a)=Ending.returned (.int .i64 b):=by rw[h]
def idxI {α:Type} (p:α→Bool):List α→Int→Int
 | [],_=>-1
 | x::r,k=>if p x then k else idxI p r (k+1)
def PredK {α:Type} (g:Nat) (lb:Array Value) (one:α→Value) (p:α→Bool) (xs:List α) (w:World):Prop:=
 ∀ (W:World) (x:α),x∈xs→Kp w.heap.size none w W→Calls Tryz.prog g (#[one x]++lb) W fun e w'=>e=.returned (.bool (p x))∧Kp W.heap.size none W w'
def IdxF (V:Int) {α:Type} (p:α→Bool) (xs:List α) (w:World) (v:Value) (wr:World):Prop:=∃ i:Nat,v=.int .i64 i∧i≤xs.length∧idxI p (xs.drop i) i=V∧Kp w.heap.size none w wr
structure Cl where
 b:Bx
 k:Int
 p:Int
def encBx (x:Bx):List Value:=[.int .i64 x.x.lo,.int .i64 x.x.hi,.int .i64 x.y.lo,.int .i64 x.y.hi,.int .i64 x.u.lo,.int .i64 x.u.hi,.int .i64 x.v.lo,.int .i64 x.v.hi]
def oneBox (x:Bx):Value:=.agg x
def encSg (x:Sg):List Value:=[.int .i64 x.kind,.int .i64 x.stn,.int .i64 x.cat,.int .i64 x.tick,.int .i64 x.dx,.int .i64 x.dy,.int .i64 x.err,.int .i64 x.lo,.int .i64 x.hi]
def oneSight (x:Sg):Value:=.agg x
def encStn (x:Stn):List Value:=[.int .i64 x.id,.int .i64 x.ox,.int .i64 x.oy]
def oneStation (x:Stn):Value:=.agg #[x.id,x.ox,x.oy]
def encCat (x:Cat):List Value:=[.int .i64 x.ver,.int .i64 x.lo,.int .i64 x.hi]
def oneCatalog (x:Cat):Value:=.agg #[x.ver,x.lo,x.hi]
def oneInt (x:Int):Value:=.int .i64 x
def encCl (x:Cl):List Value:=[.int .i64 x.b.x.lo,.int .i64 x.b.x.hi,.int .i64 x.b.y.lo,.int .i64 x.b.y.hi,.int .i64 x.b.u.lo,.int .i64 x.b.u.hi,.int .i64 x.b.v.lo,.int .i64 x.b.v.hi,.int .i64 x.k,.int .i64 x.p]
def oneCell (x:Cl):Value:=.agg #[x.b.x.lo,x.b.x.hi,x.b.y.lo,x.b.y.hi,x.b.u.lo,x.b.u.hi,x.b.v.lo,x.b.v.hi,x.k,x.p]
def stepV:Option Bx→Array Value
 | some b=>#[b,(0:Int)]
 | none=>#[.agg #[(0:Int),(0:Int),(0:Int),(0:Int),(0:Int),(0:Int),(0:Int),(0:Int)],(14:Int)]
theorem Rd.bx {w:World} {A:Option Addr} {l:List Bx} (h:Rd none w 8 encBx A l.length l) {i:Nat} (hi:i<l.length):∃ b o,A=some ⟨b,o,none⟩∧b<w.heap.size ∧
  w.cell? ⟨b,o+i * 8,none⟩=some (.int .i64 l[i].x.lo)∧w.cell? ⟨b,o+i * 8+1,none⟩=some (.int .i64 l[i].x.hi)∧w.cell? ⟨b,o+i * 8+2,none⟩=some (.int .i64 l[i].y.lo)∧w.cell? ⟨b,o+i * 8+3,none⟩=some (.int .i64 l[i].y.hi) ∧
  w.cell? ⟨b,o+i * 8+4,none⟩=some (.int .i64 l[i].u.lo)∧w.cell? ⟨b,o+i * 8+5,none⟩=some (.int .i64 l[i].u.hi)∧w.cell? ⟨b,o+i * 8+6,none⟩=some (.int .i64 l[i].v.lo)∧w.cell? ⟨b,o+i * 8+7,none⟩=some (.int .i64 l[i].v.hi):=by
 obtain⟨b,o,rfl,hb,-,hc⟩:=h.at_ oM;refine⟨b,o,rfl,hb,?_,?_,?_,?_,?_,?_,?_,?_⟩
 · have:=hc i hi 0 _ rfl;rwa [Nat.add_zero] at this
 · have:=hc i hi 1 _ rfl;rwa [← Nat.add_assoc] at this
 · have:=hc i hi 2 _ rfl;rwa [← Nat.add_assoc] at this
 · have:=hc i hi 3 _ rfl;rwa [← Nat.add_assoc] at this
 · have:=hc i hi 4 _ rfl;rwa [← Nat.add_assoc] at this
 · have:=hc i hi 5 _ rfl;rwa [← Nat.add_assoc] at this
 · have:=hc i hi 6 _ rfl;rwa [← Nat.add_assoc] at this
 · have:=hc i hi 7 _ rfl;rwa [← Nat.add_assoc] at this
theorem orbit_CheckSet_any (A:Option Addr) (c:Nat) (l:List Bx) (w:World) (hr:Rd none w 8 encBx A l.length l) (hl:l.length≤512) (hb:∀ b∈l,okBx b=true) :
  Calls Tryz.prog 98 #[.slice A l.length c] w fun e w'=>e=.returned (.int .i64 0)∧Kp w.heap.size none w w':=by
 have n1:¬ (512:Int)<(l.length:Int):=by omega
 go_enter Tryz.func98,Tryz.ntmps98
 go_wp2_with fail
 go_loopw [11] (fun v wr=>∃ i:Nat,v=.int .i64 i∧i≤l.length∧Kp w.heap.size none w wr) (fun v _=>(l.length:Int).toNat-(intOf v).toNat)
 case atStart=>exact⟨0,rfl,Nat.zero_le _,Kp.refl _ _ _⟩
 case round=>
  obtain⟨i,rfl,hi,K⟩:=hrel;by_cases h:i<l.length
  ·
   obtain⟨b,o,rfl,hlt,c0,c1,c2,c3,c4,c5,c6,c7⟩:=(hr.kpN K).bx h;have hii:(i:Int)<(l.length:Int):=by omega
   have hi0:(0:Int)≤(i:Int):=by omega
   have hm:(l.length:Int).toNat-((i+1:Nat):Int).toNat<(l.length:Int).toNat-(i:Int).toNat:=by omega
   replace hm:=Lib.hid hm;have cb:=fun w=>orbit_Check_any l[i] w;have hbi:=hb _ (List.getElem_mem h);unfold errBx at cb;rw[if_pos hbi] at cb;generalize l[i]=x at *;clear hb hbi hr;go_wp2_with fail
   refine mK (cb _) fun w2 k=>?_;replace K:=(K.thenN (Kp.new1 wr (.cells x 33)) (Nat.le_refl _)).thenN k (Nat.le_refl _);clear k c0 c1 c2 c3 c4 c5 c6 c7;replace h:=Lib.hid h;go_wp2
   go_roundw
   case rel=>exact⟨i+1,by congr 1,h.out,K⟩
   case measure=>exact hm.out
  ·
   obtain rfl:i=l.length:=by omega
   clear hb hr;go_wp2
   go_ret
   exact⟨rfl,K⟩
theorem orbit_checkWay_any (A:Option Addr) (c:Nat) (l:List Bx) (t n:Int) (w:World) (ht:0≤t∧t≤1000000) (hn:0≤n∧n≤400) (hr:Rd none w 8 encBx A l.length l) (hl:l.length≤512) (hb:∀ b∈l,okBx b=true) :
  Calls Tryz.prog 51 #[t,n,.slice A l.length c] w fun e w'=>e=.returned (.int .i64 0)∧Kp w.heap.size none w w':=by
 have n1:¬ n<0:=by omega
 have n2:¬ (400:Int)<n:=by omega
 have cs:=fun w h=>orbit_CheckSet_any A c l w h hl hb;have ct:=fun w=>orbit_within_any t 0 (1073741824-n) w;rw[btw_t oM oM] at ct;have e1:wrap64 (1073741824-n)=1073741824-n:=by unfold wrap64;omega
 clear hb hl ht;go_enter Tryz.func51,Tryz.ntmps51
 go_wp2_with fail
 refine mK (ct _) fun w1 k1=>?_;go_wp2_with fail
 refine mK (cs _ (hr.kpN k1)) fun w2 k2=>?_;go_wp2
 go_ret
 exact⟨rfl,k1.thenN k2 (Nat.le_refl _)⟩
theorem Blk.grownO {w w':World} {g:Nat} {t:TypeId} {cs:Array Value} {row:Option Nat} (h:Blk w g t cs) (hg:w.grownBy w' row) (hr:∀ b,row=some b→g<b):Blk w' g t cs:=
 (hg.block g h.lt (fun e=>by have:=hr g e.symm;omega)).trans h
theorem box_info:(Tryz.prog.info? 33).map (fun i=>(i.zero,i.size,i.bytes))=some (some (.agg #[(0:Int),(0:Int),(0:Int),(0:Int),(0:Int),(0:Int),(0:Int),(0:Int)]),8,64):=by kernel_rfl
theorem bx_new (w:World) (T:TypeId) (x:Bx):∀ j u,(encBx x)[j]?=some u→(w.alloc (.cells x T)).cell? ((⟨w.heap.size,0,none⟩:Addr).add j)=some u:=fun j u hj=>by
 rw[Addr.add_lit,Nat.zero_add,(Blk.new w T x).cell];exact(show (encBx x).toArray[j]?=some u by simpa using hj)
theorem bx_newAt (w:World) (T:TypeId) (x:Bx) {N:Nat} (hN:N=w.heap.size):∀ j u,(encBx x)[j]?=some u→(w.alloc (.cells x T)).cell? ((⟨N,0,none⟩:Addr).add j)=some u:=by
 subst hN;exact bx_new w T x
theorem bx_one (x:Bx):∀ u∈encBx x,u.oneCell'=true:=by
 intro u hu;simp only[encBx,List.mem_cons,List.not_mem_nil,or_false] at hu;rcases hu with rfl|rfl|rfl|rfl|rfl|rfl|rfl|rfl<;>rfl
section
variable {W:Wd} {d:Dr} {t:Int}
theorem stepAll_app:∀ (a r:List Bx),stepAll W d t (a++r)=match stepAll W d t a,stepAll W d t r with
  | some x,some y=>some (x++y)
  | _,_=>none
 | [],r=>by cases h:stepAll W d t r<;>simp[stepAll,h]
 | b::a,r=>by
  rw[List.cons_append,stepAll,stepAll_app a r,stepAll];cases stepW W d t b<;>cases stepAll W d t a<;>cases stepAll W d t r<;>rfl
theorem stepAll_take {l m:List Bx} {i:Nat} {x:Bx} (hi:i<l.length) (h:stepAll W d t (l.take i)=some m) (hx:stepW W d t l[i]=some x):stepAll W d t (l.take (i+1))=some (m++[x]):=by
 rw[List.take_succ_eq_append_getElem hi,stepAll_app,h];simp[stepAll,hx]
theorem stepAll_none {l m:List Bx} {i:Nat} (hi:i<l.length) (h:stepAll W d t (l.take i)=some m) (hx:stepW W d t l[i]=none):stepAll W d t l=none:=by
 have e:l=l.take i++(l[i]::l.drop (i+1)):=by rw[← List.drop_eq_getElem_cons hi,List.take_append_drop]
 rw[e,stepAll_app,h];simp[stepAll,hx]
end
def AllAt (W:Wd) (d:Dr) (t:Int) (l:List Bx) (A:Option Addr) (c:Nat) (w:World) (v k:Value) (wr:World):Prop:=
 ∃ (i:Nat) (m:List Bx),k=.int .i64 i∧i≤l.length∧stepAll W d t (l.take i)=some m∧m.length=i∧Own wr (w.heap.size+2) 33 8 encBx v m∧Blk wr w.heap.size 27 #[.slice A W.bs.length c,W.home]∧Blk wr (w.heap.size+1) 31 d∧Kp w.heap.size none w wr
def AllPost (W:Wd) (d:Dr) (t:Int) (l:List Bx) (w:World) (e:Ending) (w':World):Prop:=
 (match stepAll W d t l with
  | some m=>∃ A c,e=.returned (.tuple #[.slice A m.length c,.bool true])∧Rd none w' 8 encBx A m.length m
  | none=>e=.returned (.tuple #[.slice none 0 0,.bool false]))∧Kp w.heap.size none w w'
theorem orbit_all_any (A:Option Addr) (c:Nat) (W:Wd) (d:Dr) (t:Int) (B:Option Addr) (n:Nat) (l:List Bx) (w:World) (hW:W.ok) (hA:WdAt none w A W) (hd:d.ok) (ht:0≤t∧t≤1073741824) (hr:Rd none w 8 encBx B l.length l) (hl:l.length≤512) (hb:∀ b∈l,okBx b=true) :
  Calls Tryz.prog 53 #[.agg #[.slice A W.bs.length c,W.home],d,t,.slice B l.length n] w (AllPost W d t l w):=by
 obtain⟨i0,hi,hz0,hz1,hz2⟩:=info_parts box_info;have cs:=fun w h b hb=>orbit_step_any A c W d t b w hW h hd ht hb;clear hW hd ht;obtain⟨w1,hw1,D,F,K,hz⟩:=box2 w 27 #[.slice A W.bs.length c,W.home] 31 d;go_enter Tryz.func53,Tryz.ntmps53
 go_wp2_with fail
 rw[← hw1];clear hw1;go_loopw [10,17] (fun v k wr=>AllAt W d t l A c w v k wr) (fun _ k _=>(l.length:Int).toNat-(intOf k).toNat)
 case atStart=>exact⟨0,[],rfl,Nat.zero_le _,rfl,rfl,Own.nil _ _ _ _ _,D,F,K⟩
 case round=>
  obtain⟨i,m,rfl,hil,hm9,hml,ow,D1,F1,K1⟩:=hrel;clear D F K;have D:=D1;have F:=F1;have K:=K1;clear D1 F1 K1;have hzs:=K.size;have hzF:=F.lt;by_cases h:i<l.length
  ·
   obtain⟨b,o,rfl,hlt,c0,c1,c2,c3,c4,c5,c6,c7⟩:=(hr.kpN K).bx h;have hii:(i:Int)<(l.length:Int):=by omega
   have hi0:(0:Int)≤(i:Int):=by omega
   have hm:(l.length:Int).toNat-((i+1:Nat):Int).toNat<(l.length:Int).toNat-(i:Int).toNat:=by omega
   replace hm:=Lib.hid hm;have hs:=fun w hA=>cs w hA l[i] (hb _ (List.getElem_mem h));have hyes:=fun x hx=>stepAll_take (x:=x) h hm9 hx;have hno:=stepAll_none h hm9;unfold stepW at hyes hno;obtain⟨y,hy⟩:∃ q9,Hid (q9=stepB mp d (W.hvs t) l[i]):=⟨_,Lib.hid rfl⟩;rw[← hy.out] at hs hyes hno;obtain⟨x,hxx⟩:∃ q9,Hid (q9=l[i]):=⟨_,Lib.hid rfl⟩;rw[← hxx.out] at hs c0 c1 c2 c3 c4 c5 c6 c7;obtain⟨rb,hrb⟩:∃ q9,Hid (q9=okBx y):=⟨_,Lib.hid rfl⟩;rw[← hrb.out] at hs hyes hno;clear hb hr cs;have ow1:=ow.alloc (.cells x 33);have K1:=K.thenN (Kp.new1 wr (.cells x 33)) (Nat.le_refl _);have D1:=D.alloc (.cells x 33);have F1:=F.alloc (.cells x 33);replace hyes:=Lib.hid hyes;replace hno:=Lib.hid hno;replace hm9:=Lib.hid hm9;replace ow:=Lib.hid ow;have cD:=D1.cell;have cF:=F1.cell;go_wp2_with fail
   refine mK (hs _ (hA.kpN K1)) fun w2 k=>?_;have ow:=ow1.kpN k;have D:=D1.kpN k;have F:=F1.kpN k;have K:=K1.tN k;have hzk:wr.heap.size≤w2.heap.size:=by have:=k.size;simp at this;omega
   clear k ow1 D1 F1 K1 c0 c1 c2 c3 c4 c5 c6 c7 cD cF;cases rb
   ·
    have hn:=hno.out (by simp);clear hyes hno;replace hn:=Lib.hid hn;go_wp2
    exact bodyPost_ret (v:=.tuple #[.slice none 0 0,.bool false]) (by simp[results,Tryz.results53,go_sem]) rfl ⟨by rw[hn.out],K.thenN (Kp.new1 _ _) (Nat.le_refl _)⟩
   ·
    have hn:=hyes.out y (by simp);clear hyes hno;replace hn:=Lib.hid hn;have ow3:=ow.alloc (.cells y 33);have D3:=D.alloc (.cells y 33);have F3:=F.alloc (.cells y 33);have K3:=K.thenN (Kp.new1 w2 (.cells y 33)) (Nat.le_refl _);clear ow D F K;have hB:w.heap.size+2≤(w2.alloc (.cells y 33)).heap.size:=by simp;omega
    replace D3:=Lib.hid D3;replace F3:=Lib.hid F3;replace hml:=Lib.hid hml;have hm5:m.length≤512:=by have:=hml.out;omega
    go_wp2_with (at_builtin;go_loud (refine wpList_append_own_at _ (by rfl) (.tmp 31) (.tmp 33) 55 (by rfl) (w.heap.size+2) 33 i0 _ 8 64 Tryz.underlying55 hi hz0 hz1 hz2 (by rfl) oM u10 m.length (m.flatMap encBx) (by rfl) (ow3.alloc _) ⟨w2.heap.size+1,0,none⟩ 1 1 (encBx y) (by rfl) (by rfl) (bx_newAt _ _ _ (by simp)) (bx_one _) (maxLen_of oM) oM (alloc_ge hB _) ?_);intro v4 w4 hown4 hgrow _ hat)
    have hge:∀ b,u10.ownBlock=some b→w.heap.size+2≤b:=fun b hb=>(ow3.ge b hb).1;have ow4:Own w4 (w.heap.size+2) 33 8 encBx v4 (m++[y]):=by unfold Own;simpa using hown4
    have D4:=(D3.out.alloc _).grownO hgrow (fun b hb=>by have:=hge b hb;omega);have F4:=(F3.out.alloc _).grownO hgrow (fun b hb=>by have:=hge b hb;omega);have K4:=(K3.thenN (Kp.new1 _ _) (Nat.le_refl _)).grown hgrow (by simp;omega) (fun b hb=>by have:=hge b hb;omega);exact⟨⟨i+1,m++[y],by congr 1,h,hn.out,by rw[List.length_append,hml.out];rfl,ow4,D4,F4,K4⟩,hm.out⟩
  ·
   obtain rfl:i=l.length:=by omega
   rw[List.take_length] at hm9;clear hb hr cs hA;obtain⟨A2,cap2,rfl,rd2,-⟩:=ow.rd (row:=none) (fun _=>rfl) (fun b hb e=>by cases e);go_wp2
   exact bodyPost_ret (by simp[results,Tryz.results53,go_sem];rfl) rfl ⟨by rw[hm9];exact⟨A2,cap2,rfl,rd2⟩,K⟩
def ArF (x:Ar):Prop:=x.x.fit∧x.y.fit
theorem area_info:(Tryz.prog.info? 53).map (fun i=>(i.zero,i.size,i.bytes))=some (some (.agg #[(0:Int),(0:Int),(0:Int),(0:Int)]),4,32):=by kernel_rfl
theorem ar_newAt (w:World) (T:TypeId) (x:Ar) {N:Nat} (hN:N=w.heap.size):∀ j u,(encAr x)[j]?=some u→(w.alloc (.cells x T)).cell? ((⟨N,0,none⟩:Addr).add j)=some u:=by
 subst hN;intro j u hj;rw[Addr.add_lit,Nat.zero_add,(Blk.new w T x).cell];exact(show (encAr x).toArray[j]?=some u by simpa using hj)
theorem ar_one (x:Ar):∀ u∈encAr x,u.oneCell'=true:=by
 intro u hu;simp only[encAr,List.mem_cons,List.not_mem_nil,or_false] at hu;rcases hu with rfl|rfl|rfl|rfl<;>rfl
theorem own_two (w:World) (B:Nat) (x y:Ar) (hB:B≤w.heap.size):Own (w.alloc (.cells #[x.x.lo,x.x.hi,x.y.lo,x.y.hi,y.x.lo,y.x.hi,y.y.lo,y.y.hi] 53)) B 53 4 encAr (.slice (some ⟨w.heap.size,0,none⟩) 2 2) [x,y]:=
 World.ownsRow_lit w _ 2 hB (maxLen_of oM) rfl
def OvAt (W:Wd) (a b:Sp) (A:Option Addr) (c:Nat) (B ob:Nat) (x0 x1:Int) (w:World) (v k:Value) (wr:World):Prop:=
 ∃ (i:Nat) (m:List Ar),k=.int .i64 i∧i≤W.bs.length∧m.length=i+2∧(∀ x∈m,ArF x)∧Own wr B 53 4 encAr v m∧Blk wr w.heap.size 27 #[.slice A W.bs.length c,W.home] ∧
  Blk wr (w.heap.size+2) 53 #[a.lo,a.hi,b.lo,b.hi]∧Blk wr (w.heap.size+3) 53 #[(0:Int),(0:Int),(0:Int),(0:Int)] ∧
  Blk wr ob 53 #[x0,x1,x0,x1]∧B≤wr.heap.size∧Kp w.heap.size none w wr
def SmAt (m:List Ar) (ob:Nat) (w:World) (k:Value) (wr:World):Prop:=
 ∃ (i:Nat) (x y:Sp),k=.int .i64 i∧i≤m.length∧x.fit∧y.fit∧Blk wr ob 53 #[x.lo,x.hi,y.lo,y.hi]∧Kp w.heap.size (some ob) w wr
theorem r3_Over (A:Option Addr) (c:Nat) (W:Wd) (d:Dr) (t:Int) (a b:Sp) (w:World) (hW:W.ok) (hA:WdAt none w A W) (hd:d.ok) (ht:0≤t∧t≤1073741824) (ha:a.fit) (hb:b.fit) :
  Calls Tryz.prog 145 #[.agg #[.slice A W.bs.length c,W.home],d,t,.agg #[a.lo,a.hi,b.lo,b.hi]] w (ArE w):=by
 obtain⟨i0,hi,hz0,hz1,hz2⟩:=info_parts area_info;have ca:=fun w h=>r3_asked A c W d t a b w hW h;have cl:=fun w h=>r3_Light A c W d t a b w hW h hd.lf ht ha hb;have ch:=fun w h=>r3_Heat A c W d t a b w hW h hd.hf ht ha hb;have co:=fun i w h hi=>r3_one A c W i t a b w hW h hi ht ha hb;have hn8:=hW.n1;have e1:wrap64 (-d.gas)=-d.gas:=by have:=hd.g0;have:=hd.g1;unfold wrap64;omega
 have fg:(⟨-d.gas,d.gas⟩:Sp).fit:=by have:=hd.g0;have:=hd.g1;unfold Sp.fit;dsimp only;omega
 clear hW ha hb ht hd;obtain⟨w1,hw1,M,G,E,R,K,hz⟩:=box4 w 27 #[.slice A W.bs.length c,W.home] 31 d 53 #[a.lo,a.hi,b.lo,b.hi] 53 #[(0:Int),(0:Int),(0:Int),(0:Int)];go_enter Tryz.func145,Tryz.ntmps145
 go_wp2_with fail
 rw[← hw1];clear hw1;refine(ca _ (hA.kpN K)).mono ?_;rintro e w2 ⟨⟨v,rfl⟩,k⟩;replace M:=M.kpN k;replace G:=G.kpN k;replace E:=E.kpN k;replace R:=R.kpN k;replace K:=K.thenN k oM;have hzk:=k.size;clear k;by_cases h:v=0
 ·
  subst h;clear ca;have lR:=R.lt;have pM:=M.cell;have pG:=G.cell;have pE:=E.cell;have pR:=R.cell;obtain⟨w9_,rfl,S,O,k9_,hzn⟩:=box2 w2 29 #[.int .i64 (-d.gas),d.gas] 53 #[.int .i64 (-d.gas),d.gas,.int .i64 (-d.gas),d.gas];replace M:=M.kpN k9_;replace G:=G.kpN k9_;replace E:=E.kpN k9_;replace R:=R.kpN k9_;replace K:=K.thenN k9_ oU;clear k9_;have cM:=M.cell;have fM:=M.frozen;have cG:=G.cell;have fG:=G.frozen;have cE:=E.cell;have fE:=E.frozen;have cR:=R.cell;have fR:=R.frozen;go_wp2_with fail
  clear cM fM pM cG fG pG cE fE pE cR fR pR;generalize ((w2.alloc (.cells #[.int .i64 (-d.gas),d.gas] 29)).alloc (.cells #[.int .i64 (-d.gas),d.gas,.int .i64 (-d.gas),d.gas] 53))=w3 at *;obtain⟨y,hx⟩:∃ q9,q9=w2.heap.size:=⟨_,rfl⟩;rw[← hx] at S O ⊢;replace hx:=Lib.hid hx;have y1:w.heap.size+4≤y:=by have:=hx.out;omega
  clear hx hzn hzk S;refine(cl _ (hA.kpN K)).mono ?_;rintro e w4 ⟨⟨m1,n1,v1,rfl,f1,g1⟩,k⟩;replace M:=M.kpN k;replace G:=G.kpN k;replace E:=E.kpN k;replace R:=R.kpN k;replace O:=O.kpN k;replace K:=K.tN k;have lO:=O.lt;clear k cl;have pM:=M.cell;have pG:=G.cell;have pE:=E.cell;have pR:=R.cell;have pO:=O.cell;obtain⟨w9_,rfl,L,k9_,hzn⟩:=box1 w4 53 #[m1.lo,m1.hi,n1.lo,n1.hi];replace M:=M.kpN k9_;replace G:=G.kpN k9_;replace E:=E.kpN k9_;replace R:=R.kpN k9_;replace O:=O.kpN k9_;replace K:=K.thenN k9_ oU;clear k9_;have cM:=M.cell;have fM:=M.frozen;have cG:=G.cell;have fG:=G.frozen;have cE:=E.cell;have fE:=E.frozen;have cR:=R.cell;have fR:=R.frozen;have cO:=O.cell;have fO:=O.frozen;go_wp2_with fail
  clear cM fM pM cG fG pG cE fE pE cR fR pR cO fO pO;generalize (w4.alloc (.cells #[m1.lo,m1.hi,n1.lo,n1.hi] 53))=w5 at *;obtain⟨y2,hx⟩:∃ q9,q9=w4.heap.size:=⟨_,rfl⟩;rw[← hx] at L ⊢;replace hx:=Lib.hid hx;have y3:y+1<y2:=by have:=hx.out;omega
  clear hx hzn;refine(ch _ (hA.kpN K)).mono ?_;rintro e w6 ⟨⟨m2,n2,v2,rfl,f2,g2⟩,k⟩;replace M:=M.kpN k;replace E:=E.kpN k;replace R:=R.kpN k;replace O:=O.kpN k;replace L:=L.kpN k;replace K:=K.tN k;have lL:=L.lt;clear k ch G;have ow:=own_two (w6.alloc (.cells #[m2.lo,m2.hi,n2.lo,n2.hi] 53)) w6.heap.size ⟨m1,n1⟩ ⟨m2,n2⟩ (by simp);dsimp only at ow;rw[show (w6.alloc (.cells #[m2.lo,m2.hi,n2.lo,n2.hi] 53)).heap.size=w6.heap.size+1 by simp] at ow;have pM:=M.cell;have pE:=E.cell;have pR:=R.cell;have pO:=O.cell;have pL:=L.cell;obtain⟨w9_,rfl,H,X,k9_,hzn⟩:=box2 w6 53 #[m2.lo,m2.hi,n2.lo,n2.hi] 53 #[m1.lo,m1.hi,n1.lo,n1.hi,m2.lo,m2.hi,n2.lo,n2.hi];replace M:=M.kpN k9_;replace E:=E.kpN k9_;replace R:=R.kpN k9_;replace O:=O.kpN k9_;replace L:=L.kpN k9_;replace K:=K.thenN k9_ oU;clear k9_;have cM:=M.cell;have fM:=M.frozen;have cE:=E.cell;have fE:=E.frozen;have cR:=R.cell;have fR:=R.frozen;have cO:=O.cell;have fO:=O.frozen;have cL:=L.cell;have fL:=L.frozen;go_wp2_with fail
  clear cM fM pM cE fE pE cR fR pR cO fO pO cL fL pL;generalize ((w6.alloc (.cells #[m2.lo,m2.hi,n2.lo,n2.hi] 53)).alloc (.cells #[m1.lo,m1.hi,n1.lo,n1.hi,m2.lo,m2.hi,n2.lo,n2.hi] 53))=w7 at *;obtain⟨y4,hx⟩:∃ q9,q9=w6.heap.size:=⟨_,rfl⟩;rw[← hx] at H X ⊢;replace hx:=Lib.hid hx;rw[← hx.out] at ow;have y5:y2<y4:=by have:=hx.out;omega
  have hB7:y4≤w7.heap.size:=by have:=hx.out;omega
  clear hx hzn H X L lL lO lR hz;go_loopw [17,18] (fun v k wr=>OvAt W a b A c y4 (y+1) (-d.gas) d.gas w v k wr) (fun _ k _=>(W.bs.length:Int).toNat-(intOf k).toNat)
  case atStart=>exact⟨0,[⟨m1,n1⟩,⟨m2,n2⟩],rfl,Nat.zero_le _,rfl,by
   intro x hx;simp only[List.mem_cons,List.not_mem_nil,or_false] at hx;rcases hx with rfl|rfl
   · exact⟨f1,g1⟩
   · exact⟨f2,g2⟩,ow,M,E,R,O,hB7,K⟩
  case round=>
   clear ow M E R O hB7 K f1 g1 f2 g2;obtain⟨i,m,rfl,hi9,hml,hf,ow,M,E,R,O,hB,K⟩:=hrel;by_cases h:i<W.bs.length
   ·
    have hii:(i:Int)<(W.bs.length:Int):=by omega
    have hi0:¬ (i:Int)<0:=by omega
    have hm:(W.bs.length:Int).toNat-((i+1:Nat):Int).toNat<(W.bs.length:Int).toNat-(i:Int).toNat:=by omega
    have hm5:m.length≤512:=by omega
    replace hm:=Lib.hid hm;replace hml:=Lib.hid hml;replace hf:=Lib.hid hf;replace fg:=Lib.hid fg;have cM:=M.cell;have cE:=E.cell;go_wp2_with fail
    clear cM cE;refine(co i _ (hA.kpN K) h).mono ?_;rintro e w8 ⟨⟨p,q,rfl,f3,g3⟩,k⟩;replace ow:=ow.kpN k;replace M:=M.kpN k;replace E:=E.kpN k;replace R:=R.kpN k;replace O:=O.kpN k;replace K:=K.tN k;replace hB:=Nat.le_trans hB k.size;clear k;replace M:=Lib.hid M;replace E:=Lib.hid E;replace R:=Lib.hid R;replace O:=Lib.hid O;go_wp2_with (at_builtin;go_loud (refine wpList_append_own_at _ (by rfl) (.tmp 64) (.tmp 70) 221 (by rfl) y4 53 i0 _ 4 32 Tryz.underlying221 hi hz0 hz1 hz2 (by rfl) oM u17 m.length (m.flatMap encAr) (by rfl) (ow.alloc _) ⟨w8.heap.size,0,none⟩ 1 1 (encAr ⟨p,q⟩) (by rfl) (by rfl) (ar_newAt _ _ ⟨p,q⟩ rfl) (ar_one _) (maxLen_of oM) oM (alloc_ge hB _) ?_);intro v4 w10 hown4 hgrow _ hat)
    have hge:∀ b,u17.ownBlock=some b→y4≤b:=fun b hb=>(ow.ge b hb).1;have ow4:Own w10 y4 53 4 encAr v4 (m++[⟨p,q⟩]):=by unfold Own;simpa using hown4
    have M4:=(M.out.alloc _).grownO hgrow (fun b hb=>by have:=hge b hb;omega);have E4:=(E.out.alloc _).grownO hgrow (fun b hb=>by have:=hge b hb;omega);have R4:=(R.out.alloc _).grownO hgrow (fun b hb=>by have:=hge b hb;omega);have O4:=(O.out.alloc _).grownO hgrow (fun b hb=>by have:=hge b hb;omega);have K4:=(K.thenN (Kp.new1 _ _) (Nat.le_refl _)).grown hgrow (by have:=K.size;simp;omega) (fun b hb=>by have:=hge b hb;omega)
    exact⟨⟨i+1,m++[⟨p,q⟩],by congr 1,h,by rw[List.length_append,hml.out];simp only[List.length_cons,List.length_nil];try omega,by
     intro x hx;rcases List.mem_append.1 hx with hx|hx
     · exact hf.out x hx
     ·
      simp only[List.mem_cons,List.not_mem_nil,or_false] at hx;rw[hx];exact⟨f3,g3⟩,ow4,M4,E4,R4,O4,by have:=hgrow.size;simp at this;omega,K4⟩,hm.out⟩
   ·
    obtain rfl:i=W.bs.length:=by omega
    have hml8:m.length≤10:=by omega
    clear co hml hA;obtain⟨A2,cap2,rfl,rd2,-⟩:=ow.rd (row:=some (y+1)) (fun _=>rfl) (fun b hb=>oN);have cM:=M.cell;go_wp2_with fail
    clear cM ow M E;rename World=>w9;have KO:=K;clear K;go_loopw [19] (fun k wr=>SmAt m (y+1) w9 k wr) (fun k _=>(m.length:Int).toNat-(intOf k).toNat)
    case atStart=>exact⟨0,⟨-d.gas,d.gas⟩,⟨-d.gas,d.gas⟩,rfl,Nat.zero_le _,fg,fg,O,Kp.refl _ _ _⟩
    case round=>
     clear O fg;obtain⟨j,x,z,rfl,hj,hx,hz',O,K2⟩:=hrel;by_cases h:j<m.length
     ·
      obtain⟨bb,o,rfl,hlt,hne,hc⟩:=(rd2.kp K2).at_ oM;have c0:=hc j h 0 _ rfl;have c1:=hc j h 1 _ rfl;have c2:=hc j h 2 _ rfl;have c3:=hc j h 3 _ rfl;rw[Nat.add_zero] at c0;rw[← Nat.add_assoc] at c1 c2 c3;have hnb:bb≠y+1:=fun e=>hne (by rw[e]);have hxi:=hf _ (List.getElem_mem h);generalize m[j]=u at *;have hii:(j:Int)<(m.length:Int):=by omega
      have hi0:¬ (j:Int)<0:=by omega
      have hm:(m.length:Int).toNat-((j+1:Nat):Int).toNat<(m.length:Int).toNat-(j:Int).toNat:=by omega
      replace hm:=Lib.hid hm;clear hc hf rd2 hne;go_wp2_with fail
      have lO:=O.lt;have K:=Kp.refl wr.heap.size (some (y+1)) wr;obtain⟨S,hS0,hS1⟩:=cls_of2 (P:=fun w'=>Blk w' _ _ _∧Kp _ _ _ w') wr ⟨O,K⟩;try dsimp only at hS0
      have cO:=fun (x:Ev (S 0)) i=>((hS0 _).1 x.h).1.cell i;have d0:=fun (x:Ev (S 0))=>((((hS0 _).1 x.h).2).cell _ _ hlt oW).trans c0;have d1:=fun (x:Ev (S 0))=>((((hS0 _).1 x.h).2).cell _ _ hlt oW).trans c1;have d2:=fun (x:Ev (S 0))=>((((hS0 _).1 x.h).2).cell _ _ hlt oW).trans c2;have d3:=fun (x:Ev (S 0))=>((((hS0 _).1 x.h).2).cell _ _ hlt oW).trans c3;replace O:=O.drew;replace K:=K.drew;have hevT:=ev_true;refine wro S [(0,0),(1,1),(2,0),(3,0),(4,0),(5,0),(6,1),(8,0),(9,1),(10,0),(11,0),(12,0),(13,0),(14,1),(7,2),(15,2),(16,0),(17,3)] [17] ((hS0 _).2 ⟨O,K⟩) ?_;intro _hev;refine oX ?_;refine oL ?_;intro Kc hKc;generalize wr.drew=wd9 at *;go_step;refine(r3_sum x u.x hx hxi.1 _).mono ?_;rintro e w11 ⟨⟨s,rfl,hs⟩,k⟩;replace O:=O.kpN k;replace K:=K.tN k;clear k;refine hKc _ _ ((hS0 _).2 ⟨O,K⟩) ?_;clear hKc Kc;refine oL ?_;intro Kc hKc;go_step;refine(r3_sum z u.y hz' hxi.2 _).mono ?_;rintro e w12 ⟨⟨s2,rfl,hs2⟩,k⟩;replace O:=O.kpN k;replace K:=K.tN k;clear k;refine hKc _ _ ((hS0 _).2 ⟨O,K⟩) ?_;clear hKc Kc;refine oX ?_;refine oA ?_;intro Kc hKc;have cR:=O.cell;have fR:=O.frozen;go_step;obtain⟨w20,hwn,RB9,kst,hzst⟩:=O.st4 (.int .i64 s.lo) (.int .i64 s.hi) (.int .i64 s2.lo) (.int .i64 s2.hi);rw[← hwn];clear hwn cR fR;refine hKc _ _ ((hS1 _).2 trivial) ?_;clear hKc Kc;first|replace K:=K.thenOwn kst (Nat.le_refl _) oM|replace K:=K.then_ kst (Nat.le_refl _)
      replace O:=RB9;clear RB9 kst;simp only[sbt,sc0,scs] at O;change wpOrd _ _ _ _ _ 1 _ _;refine wpOrd_nil ?_;clear hevT _hev;clear d0 d1 d2 d3;clear cO hS0 hS1 S;go_wp2_with fail
      go_roundw
      case rel=>exact⟨j+1,s,s2,by congr 1,h,hs,hs2,O,K2.then_ K (Nat.le_refl _)⟩
      case measure=>exact hm.out
     ·
      obtain rfl:j=m.length:=by omega
      clear hf rd2;have lR:=R.lt;replace R:=R.kp K2 lR oN;have cR:=R.cell;have fR:=R.frozen;have cO:=O.cell;go_wp2_with fail
      clear cR fR cO;have BR:=(((R.set_ 0 (.int .i64 x.lo)).set_ 1 (.int .i64 x.hi)).set_ 2 (.int .i64 z.lo)).set_ 3 (.int .i64 z.hi);have cR:=BR.cell;have K:=KO.thenOwn K2 (Nat.le_refl _) oM;exact bodyPost_ret (v:=.tuple #[.agg #[x.lo,x.hi,z.lo,z.hi],(0:Int)]) (by simp[results,Tryz.results145,go_sem,cR]) rfl ⟨⟨x,z,_,rfl,hx,hz'⟩,(((K.setNew (by simp<;>omega) _).setNew (by simp<;>omega) _).setNew (by simp<;>omega) _).setNew (by simp<;>omega) _⟩
 ·
  clear ca cl ch co;have cR:=R.cell;have fR:=R.frozen;go_wp2_with fail
  clear cR fR;have BR:=(((R.set_ 0 (.int .i64 0)).set_ 1 (.int .i64 0)).set_ 2 (.int .i64 0)).set_ 3 (.int .i64 0);have cR:=BR.cell;exact bodyPost_ret (v:=.tuple #[.agg #[(0:Int),(0:Int),(0:Int),(0:Int)],v]) (by simp[results,Tryz.results145,go_sem,cR]) rfl ⟨⟨⟨0,0⟩,⟨0,0⟩,_,rfl,fit0,fit0⟩,(((K.setNew (by simp<;>omega) _).setNew (by simp<;>omega) _).setNew (by simp<;>omega) _).setNew (by simp<;>omega) _⟩
end Go.Proofs.YtdhiappifnflpaaGreatDoor
