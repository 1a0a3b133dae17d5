/- The blows of a rock, collected: the function Blows. -/
import Derived.Test.YtdhiappifnflpaaGreatDoorBBlow2
import Derived.Test.YtdhiappifnflpaaGreatDoorM38
import Derived.OwnWalkIn
import Derived.TacticsInMore
import Derived.LoopNIn
import Derived.LoopIn
import Derived.WalkKit
import Derived.Shelf.Abstract
import Derived.Shelf.RegionOpen
import Derived.Maps.OwnIn
set_option maxRecDepth 100000
set_option maxHeartbeats 2000000
namespace Go.Proofs.YtdhiappifnflpaaGreatDoor.Bl
open Go.RowKit
attribute [local go_sem] Oper.semAt_some
theorem blow_info:(Tryz.prog.info? 199).map (fun i=>(i.zero,i.size,i.bytes))=some (some (.agg #[(0:Int),(0:Int),(0:Int)]),3,24):=by kernel_rfl
def BlowsChk (ls:List Layer) (r:Rock) (f:Fall) (bl:List Blow) (n:Int):Prop:=
 (AirOk ls∧RockAll r f∧n=0∧bl=blowsOf ls r f)∨(n≠0∧bl=[]∧(AirChk ls n∨(AirOk ls∧RockChk r f n)))
def BlowsPost (ls:List Layer) (r:Rock) (f:Fall) (w:World) (e:Ending) (w':World):Prop:=
 (∃ A c bl n,e=.returned (.tuple #[.slice A bl.length c,.int .i64 n])∧Rd none w' 3 encBlow A bl.length bl∧BlowsChk ls r f bl n)∧Kp w.heap.size none w w'
theorem blowsFrom_len (a b:Stone):∀ (xs:List Layer) (i:Nat) (va vb:Int),(blowsFrom a b xs i va vb).length≤xs.length+1
 | [],_,_,_=>by simp[blowsFrom]
 | x::xs,i,va,vb=>by
  have:=blowsFrom_len a b xs (i+1) (slowedOf a x va) (slowedOf b x vb);rw[blowsFrom_cons,List.length_append,List.length_cons];split<;>split<;>simp<;>omega
theorem blast_blows_any (A:Option Addr) (cap:Nat) (ls:List Layer) (r:Rock) (f:Fall) (w:World) (h:Rd none w 2 encLayer A ls.length ls) :
  Calls Tryz.prog 143 #[.slice A ls.length cap,.agg #[r.size.lo,r.size.hi,r.dens.lo,r.dens.hi,r.strong.lo,r.strong.hi,r.spin.lo,r.spin.hi,r.shape.lo,r.shape.hi,.bool r.pile],.agg #[f.speed.lo,f.speed.hi,f.slope.lo,f.slope.hi]] w fun e w'=>∃ bk bf bl,e=.returned (.func (.func 160) #[] #[.pointer (some ⟨bk,0,none⟩),.pointer (some ⟨bf,0,none⟩),.pointer (some ⟨bl,0,none⟩)]) ∧
   (w.heap.size≤bk∧w.heap.size≤bf∧w.heap.size≤bl)∧PreB A cap ls r f bk bf bl w'∧Kp w.heap.size none w w':=by
 have K0:=(((Kp.refl w.heap.size none w).alloc (Nat.le_refl _) (.cells #[.slice A ls.length cap] 78)).alloc (by simp) (.cells #[r.size.lo,r.size.hi,r.dens.lo,r.dens.hi,r.strong.lo,r.strong.hi,r.spin.lo,r.spin.hi,r.shape.lo,r.shape.hi,.bool r.pile] 70)).alloc (by simp;omega) (.cells #[f.speed.lo,f.speed.hi,f.slope.lo,f.slope.hi] 72);have LB:=((Blk.new w 78 #[.slice A ls.length cap]).alloc (.cells #[r.size.lo,r.size.hi,r.dens.lo,r.dens.hi,r.strong.lo,r.strong.hi,r.spin.lo,r.spin.hi,r.shape.lo,r.shape.hi,.bool r.pile] 70)).alloc (.cells #[f.speed.lo,f.speed.hi,f.slope.lo,f.slope.hi] 72);have RB:=(Blk.newAt (w.alloc (.cells #[.slice A ls.length cap] 78)) 70 #[r.size.lo,r.size.hi,r.dens.lo,r.dens.hi,r.strong.lo,r.strong.hi,r.spin.lo,r.spin.hi,r.shape.lo,r.shape.hi,.bool r.pile] (n:=w.heap.size+1) (by simp)).alloc (.cells #[f.speed.lo,f.speed.hi,f.slope.lo,f.slope.hi] 72);have FB:=Blk.newAt ((w.alloc (.cells #[.slice A ls.length cap] 78)).alloc (.cells #[r.size.lo,r.size.hi,r.dens.lo,r.dens.hi,r.strong.lo,r.strong.hi,r.spin.lo,r.spin.hi,r.shape.lo,r.shape.hi,.bool r.pile] 70)) 72 #[f.speed.lo,f.speed.hi,f.slope.lo,f.slope.hi] (n:=w.heap.size+1+1) (by simp);have R0:=Lib.hid (h.kpN K0);clear h;go_enter Tryz.func143,Tryz.ntmps143
 go_wp2
 go_ret
 exact⟨_,_,_,rfl,⟨by omega,by omega,by omega⟩,⟨RB,FB,LB,R0.out⟩,K0⟩
structure IB (X:Nat) (W0:World) (S:Nat→Prop) (pre:List Blow) (W:World):Prop where
 ex:∃ v,Blk W X 195 #[v]∧Own W (W0.heap.size+2) 199 3 encBlow v pre∧∀ b,v.ownBlock=some b→¬ S b
 x:¬ S X
 s:∀ k,S k→W0.heap.size≤k∧k<W.heap.size
 k:Kp W0.heap.size (some X) W0 W
theorem IB.abide (X:Nat) (W0:World) (hX:X<W0.heap.size):Abide (IB X W0):=by
 refine⟨?_,?_⟩
 ·
  rintro S pre W W' row ⟨⟨v,hb,ho,hv⟩,hx,hs,hk⟩ k hr;have hz:=hk.size;have hkz:=k.size;refine⟨⟨v,hb.kp k hb.lt (fun e=>hx (hr _ e.symm)),?_,?_⟩,?_,?_,?_⟩
  ·
   refine World.ownsRow.kept ho ⟨k.os,k.tape,k.output,k.size,k.block⟩ ?_;cases hvb:v.ownBlock with
   | none=>exact .inl rfl
   | some b=>exact .inr fun e=>hv b hvb (hr _ e.symm)
  ·
   intro b hb' hS;rcases hS with hS|hS
   · exact hv b hb' hS
   · have:=(Own.ge ho b hb').2;omega
  ·
   rintro (h|h)
   · exact hx h
   · omega
  ·
   rintro i (h|h)
   · have:=hs i h;omega
   · omega
  · exact hk.trans ⟨k.os,k.tape,k.output,k.size,fun i hi hn=>k.block i oM (fun e=>by have:=hs _ (hr _ e.symm);omega)⟩
 ·
  rintro S S' pre W ⟨⟨v,hb,ho,hv⟩,hx,hs,hk⟩ h;exact⟨⟨v,hb,ho,fun b e hS=>hv b e (h _ hS)⟩,fun e=>hx (h _ e),fun i hi=>hs i (h i hi),hk⟩
theorem cells_ne {W:World} {l b:Nat} {t:TypeId} {cs:Array Value} {o:Obj} (h:Blk W b t cs) (hl:W.heap[l]?=some o) (ho:o.isCells=false):b≠l:=fun e=>by
 subst e;unfold Blk at h;rw[h] at hl;injection hl with hl
 subst hl;cases ho
theorem _root_.Go.Proofs.YtdhiappifnflpaaGreatDoor.Blk.put {W:World} {l b:Nat} {t:TypeId} {cs:Array Value} (h:Blk W b t cs) (o':Obj) (hn:b≠l):Blk (W.putObj l o') b t cs:=(World.putObj_heap_other hn).trans h
theorem _root_.Go.Proofs.YtdhiappifnflpaaGreatDoor.Own.put {α:Type} {W:World} {B e sz:Nat} {enc:α→List Value} {v:Value} {xs:List α} (h:Own W B e sz enc v xs) {l:Nat} {o:Obj} (o':Obj) (hl:W.heap[l]?=some o) (ho:o.isCells=false):Own (W.putObj l o') B e sz enc v xs:=by
 refine World.ownsRow.kept h (grownBy_putObj' W l o') ?_;rcases h.2 with⟨rfl,_⟩|⟨g,cap,cur,rfl,_,hh,_⟩
 · exact .inl rfl
 ·
  refine .inr fun e=>?_;have e':g=l:=by simpa [Value.ownBlock] using e
  subst e';rw[hh] at hl;injection hl with hl
  subst hl;cases ho
theorem IB.put {X:Nat} {W0:World} {S:Nat→Prop} {pre:List Blow} {W:World} (h:IB X W0 S pre W) {l:Nat} {o:Obj} (o':Obj) (hl0:W0.heap.size≤l) (hl:W.heap[l]?=some o) (ho:o.isCells=false):IB X W0 S pre (W.putObj l o'):=by
 obtain⟨⟨v,hb,how,hv⟩,hx,hs,hk⟩:=h;exact⟨⟨v,hb.put o' (cells_ne hb hl ho),how.put o' hl ho,hv⟩,hx,fun k h=>by have:=hs k h;simpa using this,hk.trans ⟨rfl,rfl,rfl,by simp,fun i hi _=>World.putObj_heap_other oM⟩⟩
theorem _root_.Go.Proofs.YtdhiappifnflpaaGreatDoor.Own.ne_blk {α:Type} {w:World} {B e sz:Nat} {enc:α→List Value} {v:Value} {xs:List α} (h:Own w B e sz enc v xs) {b:Nat} {t:TypeId} {cs:Array Value} (k:Blk w b t cs) (ht:t≠e):v.ownBlock≠some b:=by
 rcases h.2 with⟨rfl,_⟩|⟨g,cap,cur,rfl,_,hh,_⟩
 · intro e;cases e
 ·
  intro e;have e':g=b:=by simpa [Value.ownBlock] using e
  subst e';unfold Blk at k;rw[hh] at k;injection k with k
  injection k with _ k
  exact ht k.symm
theorem three_new (w:World) (x y z:Value) (t:TypeId):∀ j u,[x,y,z][j]?=some u→(w.alloc (.cells #[x,y,z] t)).cell? ((⟨w.heap.size,0,none⟩:Addr).add j)=some u:=by
 intro j u hj;match j,hj with
 | 0,hj=>simp at hj;subst hj;simp[Addr.add]
 | 1,hj=>simp at hj;subst hj;simp[Addr.add]
 | 2,hj=>simp at hj;subst hj;simp[Addr.add]
theorem three_int (k:IntKind) (x y z:Int):∀ u∈[Value.int k x,Value.int k y,Value.int k z],u.oneCell'=true:=by
 intro u hu;simp at hu;rcases hu with rfl|rfl|rfl<;>rfl
theorem blast_Blows_any (A:Option Addr) (cap:Nat) (ls:List Layer) (r:Rock) (f:Fall) (w:World) (h:Rd none w 2 encLayer A ls.length ls) (hb:Bnd w) :
  Calls Tryz.prog 115 #[.slice A ls.length cap,.agg #[r.size.lo,r.size.hi,r.dens.lo,r.dens.hi,r.strong.lo,r.strong.hi,r.spin.lo,r.spin.hi,r.shape.lo,r.shape.hi,.bool r.pile],.agg #[f.speed.lo,f.speed.hi,f.slope.lo,f.slope.hi]] w (BlowsPost ls r f w):=by
 obtain⟨i0,hi,hz0,hz1,hz2⟩:=info_parts blow_info;have K0:=((Kp.refl w.heap.size none w).alloc (Nat.le_refl _) (.cells #[r.size.lo,r.size.hi,r.dens.lo,r.dens.hi,r.strong.lo,r.strong.hi,r.spin.lo,r.spin.hi,r.shape.lo,r.shape.hi,.bool r.pile] 70)).alloc (by simp) (.cells #[f.speed.lo,f.speed.hi,f.slope.lo,f.slope.hi] 72);have RB:=(Blk.new w 70 #[r.size.lo,r.size.hi,r.dens.lo,r.dens.hi,r.strong.lo,r.strong.hi,r.spin.lo,r.spin.hi,r.shape.lo,r.shape.hi,.bool r.pile]).alloc (.cells #[f.speed.lo,f.speed.hi,f.slope.lo,f.slope.hi] 72);have FB:=Blk.newAt (w.alloc (.cells #[r.size.lo,r.size.hi,r.dens.lo,r.dens.hi,r.strong.lo,r.strong.hi,r.spin.lo,r.spin.hi,r.shape.lo,r.shape.hi,.bool r.pile] 70)) 72 #[f.speed.lo,f.speed.hi,f.slope.lo,f.slope.hi] (n:=w.heap.size+1) (by simp);refine calls_of_wp_m Tryz.func115 rfl ?_;simp only[Tryz.ntmps115,List.size_toArray,List.length_cons,List.length_nil,Nat.reduceAdd,Nat.reduceSub,Array.replicate_succ,Array.replicate_zero,List.push_toArray,List.append_toArray,List.nil_append,List.cons_append];go_wp2_with fail
 generalize hw0:(w.alloc (.cells #[r.size.lo,r.size.hi,r.dens.lo,r.dens.hi,r.strong.lo,r.strong.hi,r.spin.lo,r.spin.hi,r.shape.lo,r.shape.hi,.bool r.pile] 70)).alloc (.cells #[f.speed.lo,f.speed.hi,f.slope.lo,f.slope.hi] 72)=w0 at *;clear hw0;refine(blast_CheckAir_any A cap ls _ (h.kpN K0)).mono ?_;rintro e w1 ⟨⟨n,rfl,hn⟩,k1⟩;have K1:=K0.tN k1;replace RB:=RB.kpN k1;replace FB:=FB.kpN k1;clear k1 K0;by_cases hn0:n=0
 case neg=>
  have hc:BlowsChk ls r f [] n:=.inr ⟨hn0,rfl,.inl hn⟩;replace hc:=Lib.hid hc;clear hn RB FB;go_wp2
  exact postM_ret (v:=.tuple #[.slice none 0 0,n]) (by simp[results,Tryz.results115,go_sem]) rfl ⟨⟨none,0,[],n,rfl,Rd.nil _ _ _ _ _,hc.out⟩,K1⟩
 case pos=>
  subst hn0
  have ha:AirOk ls:=by
   rcases hn with⟨_,h⟩|⟨h,_⟩|⟨h,_⟩
   · exact h
   · cases h
   · cases h
  clear hn;replace ha:=Lib.hid ha;have cR:=RB.cell;have cF:=FB.cell;go_wp2_with fail
  refine(blast_CheckRock_any r f _ (hb.kpN K1)).mono ?_;rintro e w2 ⟨⟨m,rfl,hm⟩,k2⟩;have K2:=K1.tN k2;replace RB:=RB.kpN k2;replace FB:=FB.kpN k2;clear k2 K1 cR cF;by_cases hm0:m=0
  case neg=>
   have hc:BlowsChk ls r f [] m:=.inr ⟨hm0,rfl,.inr ⟨ha.out,hm⟩⟩;replace hc:=Lib.hid hc;clear hm RB FB;go_wp2
   exact postM_ret (v:=.tuple #[.slice none 0 0,m]) (by simp[results,Tryz.results115,go_sem]) rfl ⟨⟨none,0,[],m,rfl,Rd.nil _ _ _ _ _,hc.out⟩,K2⟩
  case pos=>
   subst hm0
   have hr:RockAll r f:=by
    rcases hm with⟨_,h⟩|⟨i,_,hi,_⟩
    · exact h
    · exact absurd rfl (rockErr_val hi)
   clear hm;replace hr:=Lib.hid hr;have K3:=K2.alloc K2.size (.cells #[.slice none 0 0] 195);have XB:=Blk.new w2 195 #[.slice none 0 0];replace RB:=RB.alloc (.cells #[.slice none 0 0] 195);replace FB:=FB.alloc (.cells #[.slice none 0 0] 195);have hzw:=K2.size;obtain⟨X,hX⟩:∃ X,X=w2.heap.size:=⟨_,rfl⟩;have cR:=RB.cell;have cF:=FB.cell;go_wp2_with fail
   rw[← hX] at XB ⊢;have hwX:w.heap.size≤X:=by omega
   clear hX hzw;generalize w2.alloc (.cells #[.slice none 0 0] 195)=w3 at *;refine(blast_blows_any A cap ls r f _ (h.kpN K3)).mono ?_;rintro e w4 ⟨bk,bf,bl,rfl,⟨hk1,hk2,hk3⟩,hP,k4⟩;have hX3:=XB.lt;replace XB:=XB.kpN k4;have K4:=K3.tN k4
   have hAd:∀ ad,A=some ad→0<ls.length→ad.block<w.heap.size:=fun ad e hn=>by
    obtain⟨b,o,e',hb,_⟩:=h.2 hn;rw[e] at e';injection e' with e';subst e';exact hb
   have hlo:LowB A ls.length bk bf bl w4.heap.size X:=⟨⟨hP.k.lt,by omega⟩,⟨hP.f.lt,by omega⟩,⟨hP.l.lt,by omega⟩,fun hn ad e=>by have:=hAd ad e hn;have:=K4.size;omega⟩;clear k4 K3 cR cF RB FB hAd;go_wp2_with fail
   have hX4:=XB.lt
   refine wp_rangeFunc_y (gf:=160) (lb:=#[.pointer (some ⟨bk,0,none⟩),.pointer (some ⟨bf,0,none⟩),.pointer (some ⟨bl,0,none⟩)]) rfl (enters_of Tryz.func160 (by kernel_rfl) rfl)
    (blows_seq A cap ls r f bk bf bl w4.heap.size X hlo ha.out (rockOk_of_all hr.out)) (fun w' k=>hP.kp hlo (Nat.le_refl _) k (fun _ e=>by cases e)) (fun _=>rfl) (IB X w4) (IB.abide X w4 hX4)
    (fun S s W l o o' hl hi ho hc=>hi.put o' hl ho hc) ⟨⟨_,XB,Own.nil _ _ _ _ _,fun b e=>by cases e⟩,id,fun _ h=>h.elim,Kp.refl _ _ _⟩ ?round ?done
   case round=>
    intro l S pre x W K hI hlen hS1 hS2 hsz hrec hK;have e0:(#[27].zip (encB1 x):Array (Nat × Value))=#[(27,.agg #[x.layer,x.lo,x.hi])]:=by simp[encB1]
    rw[e0];clear e0;simp only[List.foldl_toArray',List.foldl_cons,List.foldl_nil,sbt,sc0,scs];obtain⟨⟨v,hXb,hown,hv⟩,hSX,hSM,hkk⟩:=hI;obtain⟨o,hro,hoc⟩:=hrec
    have hpre:pre.length≤40:=by
     have h1:=blowsFrom_len (weakS r f) (strongS r f) ls 0 (f.speed.lo * f.speed.lo) (f.speed.hi * f.speed.hi);have h2:=ha.out.1;unfold blowsOf at hlen;omega
    have K5:=(Kp.refl W.heap.size none W).alloc (Nat.le_refl _) (.cells #[x.layer,x.lo,x.hi] 199);have bB:=Blk.new W 199 #[x.layer,x.lo,x.hi];have hXb5:=hXb.alloc (.cells #[x.layer,x.lo,x.hi] 199);have hown5:=hown.alloc (.cells #[x.layer,x.lo,x.hi] 199);have hro5:(W.alloc (.cells #[x.layer,x.lo,x.hi] 199)).heap[w4.heap.size+1]?=some o:=(Below.heap_alloc _ _ _ oM).trans hro;have hz5:(W.alloc (.cells #[x.layer,x.lo,x.hi] 199)).heap.size=W.heap.size+1:=by simp
    gi_wp2
    have hWX:=hXb.lt;obtain⟨bb,hbb⟩:∃ bb,bb=W.heap.size:=⟨_,rfl⟩;rw[← hbb] at bB ⊢;have hSM':∀ k,S k→w4.heap.size≤k∧k<bb:=fun k h=>by have:=hSM k h;omega
    have hbM:w4.heap.size+2≤bb:=by omega
    generalize hW5:W.alloc (.cells #[x.layer,x.lo,x.hi] 199)=W5 at *
    refine hK _ _ ⟨by omega,fun k hk=>K5.block k (by
     rcases hk with(hk|hk|hk)|hk
     · exact(hSM k hk).2
     · omega
     · omega
     · have:=hkk.size;omega) (by simp)⟩ (fun o' ho'=>?_)
    have XB6:=hXb5.put o' (cells_ne hXb5 hro5 hoc);have bB6:=bB.put o' (cells_ne bB hro5 hoc);have own6:=hown5.put o' hro5 hoc;have hz6:(W5.putObj (w4.heap.size+1) o').heap.size=W5.heap.size:=by simp
    have hro6:(W5.putObj (w4.heap.size+1) o').heap[w4.heap.size+1]?=some o':=World.putObj_heap_same oM;have hK6:Kp w4.heap.size (some X) w4 (W5.putObj (w4.heap.size+1) o'):=(hkk.trans (K5.mono hkk.size |>.wide _)).trans ⟨rfl,rfl,rfl,by simp,fun i hi _=>World.putObj_heap_other oM⟩;generalize W5.putObj (w4.heap.size+1) o'=W6 at *;have hz56:bb+1=W5.heap.size:=by omega
    clear hK K5 hXb5 hown5 hro5 bB hW5 hro hXb hown hkk hbb hz5 hSM;replace hz6:=Lib.hid hz6;replace hz56:=Lib.hid hz56;have cX:=XB6.cell;have fX:=XB6.frozen;have cb:=bB6.cell;have hb3:w4.heap.size+2≤W6.heap.size:=by have:=hz6.out;have:=hz56.out;omega
    gi_wp2_with (gi_at_builtin;refine wpListIn_append_own_at _ rfl _ _ 195 rfl (w4.heap.size+2) 199 i0 _ 3 24 Tryz.underlying195 hi hz0 hz1 hz2 rfl (by decide) v pre.length (pre.flatMap encBlow) rfl (Own.alloc own6 _) ⟨W6.heap.size,0,none⟩ 1 1 [.int .i64 x.layer,.int .i64 x.lo,.int .i64 x.hi] rfl rfl (three_new _ _ _ _ _) (three_int _ _ _ _) (maxLen_of oM) oM (by simp;omega) ?_;intro v7 w7 hown7 hgrow _ hat;obtain⟨g7,cap7,rfl⟩:=ownsRow_succ hown7;have XB7:Blk w7 X 195 #[v]:=(hgrow.block X (by simp;omega) (fun e=>own6.ne_blk XB6 (by decide) e.symm)).trans (XB6.alloc _);have c7:=fun i=>XB7.cell i;have f7:=fun i=>XB7.frozen i;have w7z:=hgrow.size)
    clear cX fX cb c7 f7;have own7:Own w7 (w4.heap.size+2) 199 3 encBlow (.slice (some ⟨g7,0,none⟩) (pre.length+1) cap7) (pre++[x]):=by unfold Own;simpa [encBlow] using hown7
    have hza:(W6.alloc (.cells #[x.layer,x.lo,x.hi] 199)).heap.size=W6.heap.size+1:=by simp
    have hz6':=hz6.out;have hz56':=hz56.out
    have same:∀ k,k<W6.heap.size→k≠X→v.ownBlock≠some k→(w7.setCell ⟨X,0,none⟩ (.slice (some ⟨g7,0,none⟩) (pre.length+1) cap7)).heap[k]?=W6.heap[k]?:=fun k h1 h2 h3=>
     (Below.heap_setCell _ _ _ _ h2).trans ((hgrow.block k oM (fun e=>h3 e.symm)).trans (Below.heap_alloc _ _ _ h1))
    have hge:=own6.ge;have hsz8:(w7.setCell ⟨X,0,none⟩ (.slice (some ⟨g7,0,none⟩) (pre.length+1) cap7)).heap.size=w7.heap.size:=by simp[World.setCell]
    refine⟨⟨by omega,fun k hk=>same k ?_ ?_ ?_⟩,⟨⟨_,XB7.set_ 0 _,own7.setLow (by show X<_;omega) _,?_⟩,hSX,fun k h=>?_,hK6.trans ⟨hgrow.os,hgrow.tape,hgrow.output,by omega,fun k h1 h2=>same k oM (fun e=>h2 (by rw[e])) (fun e=>by have:=(hge k e).1;omega)⟩⟩⟩
    ·
     rcases hk with(hk|hk|hk)|hk
     · have:=hSM' k hk;omega
     · omega
     · omega
     · omega
    ·
     rcases hk with(hk|hk|hk)|hk
     · exact fun e=>hSX (e ▸ hk)
     · omega
     · omega
     · exact hk.2
    ·
     intro e;rcases hk with(hk|hk|hk)|hk
     · exact hv k e hk
     · have:=(hge k e).1;omega
     · have:=(hge k e).1;omega
     · have:=(hge k e).1;omega
    ·
     intro b e hS;rcases hat with h|h
     ·
      rw[h] at e;exact hv b e hS
     ·
      rw[h] at e;injection e with e
      have:=hSM' b hS;omega
    ·
     have:=hSM' k h;exact⟨this.1,by omega⟩
   case done=>
    intro W hI hD hsz;obtain⟨⟨v,hXb,hown,hv⟩,-,-,hkk⟩:=hI;have hown':=hown.put (.deferred none) hD rfl;obtain⟨A',c',rfl,hrd,-⟩:=hown'.rd (row:=none) (fun _=>rfl) (by simp);have K9:=K4.thenOwn hkk (Nat.le_refl _) hwX;have hsz4:=K4.size;have K10:Kp w.heap.size none w (W.putObj w4.heap.size (.deferred none)):=K9.trans ⟨rfl,rfl,rfl,by simp,fun i hi _=>World.putObj_heap_other oM⟩;have cX:=hXb.cell;clear hown hown' hkk hv;replace hD:=Lib.hid hD;dsimp only;go_wp2
    exact postM_mark (v:=.tuple #[.slice A' (blowsOf ls r f).length c',(0:Int)]) rfl hD.out (by simp[results,Tryz.results115,go_sem]) ⟨⟨A',c',blowsOf ls r f,0,rfl,hrd,.inl ⟨ha.out,hr.out,rfl,rfl⟩⟩,K10⟩
end Go.Proofs.YtdhiappifnflpaaGreatDoor.Bl
