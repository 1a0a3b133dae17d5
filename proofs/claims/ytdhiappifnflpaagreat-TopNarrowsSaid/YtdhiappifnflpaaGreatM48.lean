/- The reference's cells of a box: Cells, the walk; CellsOf. The common end of the statements: awake. -/
import Derived.Test.YtdhiappifnflpaaGreatM24
import Derived.Test.YtdhiappifnflpaaGreatM07
import Derived.Test.YtdhiappifnflpaaGreatM11
import Derived.Test.YtdhiappifnflpaaGreatM09
import Derived.Laws.EntriesVeiled
namespace Go.Proofs.YtdhiappifnflpaaGreat
open Go.RowKit
def lenV:Value→Nat
 | .slice _ n _=>n
 | _=>0
theorem own_bx1 (w:World) (B:Nat) (b:Bx) (hB:B≤w.heap.size):Own (w.alloc (.cells #[.int .i64 b.x.lo,.int .i64 b.x.hi,.int .i64 b.y.lo,.int .i64 b.y.hi,.int .i64 b.u.lo,.int .i64 b.u.hi,.int .i64 b.v.lo,.int .i64 b.v.hi] 33)) B 33 8 encBx (.slice (some ⟨w.heap.size,0,none⟩) 1 1) [b]:=
 World.ownsRow_lit w _ 1 hB (maxLen_of (by omega)) rfl
def CeAt (b:Bx) (n:Nat) (w:World) (v:Value) (wr:World):Prop:=∃ l,Own wr w.heap.size 33 8 encBx v l∧Part b l∧l.length≤n∧Kp w.heap.size none w wr
def CellP (b:Bx) (n:Nat) (w:World) (v:Value) (w':World):Prop:=∃ A c l,v=.slice A l.length c∧Rd none w' 8 encBx A l.length l∧Part b l∧l.length≤n∧(∀ ad,A=some ad→w.heap.size≤ad.block)∧Kp w.heap.size none w w'
theorem rd_tail {w:World} {g cap j:Nat} {l:List Bx} (rd:Rd none w 8 encBx (some ⟨g,0,none⟩) l.length l) (hj:j<l.length) (hle:l.length≤cap) :
  ∃ ad,(if cap=j+1 then some ({ block:=g,off:=0 }:Addr) else some { block:=g,off:=(j+1) * 8 })=some ad∧Rd none w 8 encBx (some ad) (l.length-(j+1)) (l.drop (j+1)):=by
 by_cases h:cap=j+1
 ·
  rw[if_pos h];refine⟨_,rfl,by rw[List.length_drop],fun hn=>?_⟩;omega
 ·
  rw[if_neg h];refine⟨_,rfl,by rw[List.length_drop],fun hn=>?_⟩;obtain⟨b,o,e,hb,h4,hc⟩:=rd.2 (by omega);simp only[Option.some.injEq,Addr.mk.injEq] at e;obtain⟨rfl,rfl,-⟩:=e;refine⟨g,(j+1) * 8,rfl,hb,h4,fun i hi k v hv=>?_⟩;rw[List.length_drop] at hi;rw[List.getElem_drop] at hv;have:=hc (j+1+i) (by omega) k v hv;rw[Nat.zero_add] at this;rw[← Nat.add_assoc,← Nat.add_mul];exact this
theorem Own.less {α:Type} {w:World} {B B' e sz:Nat} {enc:α→List Value} {v:Value} {xs:List α} (h:Own w B e sz enc v xs) (hB:B'≤B):Own w B' e sz enc v xs:=
 ⟨h.1,h.2.imp id (fun ⟨g,cap,cur,e,hg,r⟩=>⟨g,cap,cur,e,Nat.le_trans hB hg,r⟩)⟩
theorem rd_head {w:World} {A:Option Addr} {j:Nat} {l:List Bx} (rd:Rd none w 8 encBx A l.length l) (hj:j≤l.length):Rd none w 8 encBx A (l.take j).length (l.take j):=by
 refine⟨rfl,fun hn=>?_⟩;have hl:(l.take j).length≤l.length:=by rw[List.length_take];omega
 obtain⟨b,o,e,hb,h4,hc⟩:=rd.2 (by omega);refine⟨b,o,e,hb,h4,fun i hi k v hv=>?_⟩;rw[List.getElem_take] at hv;exact hc i (by omega) k v hv
set_option maxRecDepth 100000 in
set_option maxHeartbeats 8000000 in
theorem r4_Cells_any (b:Bx) (n:Nat) (w:World) (hb:okBx b=true) (hn:1≤n∧n≤512) :
  Calls Tryz.prog 34 #[.agg #[.int .i64 b.x.lo,.int .i64 b.x.hi,.int .i64 b.y.lo,.int .i64 b.y.hi,.int .i64 b.u.lo,.int .i64 b.u.hi,.int .i64 b.v.lo,.int .i64 b.v.hi],.int .i64 n] w fun e w'=>∃ v,e=.returned (.tuple #[v,.int .i64 0])∧CellP b n w v w':=by
 have ck:=fun w=>r4_Check_t b hb w;have n1:¬ (n:Int)<1:=by omega
 have n2:¬ (512:Int)<(n:Int):=by omega
 obtain⟨w1,hw1,X,K,hz⟩:=box1 w 33 #[.int .i64 b.x.lo,.int .i64 b.x.hi,.int .i64 b.y.lo,.int .i64 b.y.hi,.int .i64 b.u.lo,.int .i64 b.u.hi,.int .i64 b.v.lo,.int .i64 b.v.hi];go_enter Tryz.func34,Tryz.ntmps34
 go_wp2_with fail
 rw[← hw1];clear hw1;refine(ck _).mono ?_;rintro e w2 ⟨rfl,k⟩;replace X:=X.kpN k;replace K:=K.tN k;have hzk:=k.size;clear k;clear ck;have cX:=X.cell;have ow:=own_bx1 w2 w.heap.size b (by omega);have K2:=K.alloc (by omega) (.cells #[.int .i64 b.x.lo,.int .i64 b.x.hi,.int .i64 b.y.lo,.int .i64 b.y.hi,.int .i64 b.u.lo,.int .i64 b.u.hi,.int .i64 b.v.lo,.int .i64 b.v.hi] 33);go_wp2_with fail
 clear cX X K;generalize w2.alloc (.cells #[.int .i64 b.x.lo,.int .i64 b.x.hi,.int .i64 b.y.lo,.int .i64 b.y.hi,.int .i64 b.u.lo,.int .i64 b.u.hi,.int .i64 b.v.lo,.int .i64 b.v.hi] 33)=w3 at *;generalize w2.heap.size=g0 at *;clear hz hzk;go_loopw [7] (fun v wr=>CeAt b n w v wr) (fun v _=>n-lenV v)
 case atStart=>exact⟨[b],ow,.one,by simpa using hn.1,K2⟩
 case round=>
  clear ow K2;obtain⟨l,ow,hP,hln,K⟩:=hrel;have hpos:=part_pos hP;rcases ow.2 with⟨e,h0⟩|⟨g,cap,cur,e,hg,hcells,hle,-⟩
  · omega
  subst e
  have rd:Rd none wr 8 encBx (some ⟨g,0,none⟩) l.length l:=by
   obtain⟨A,cap',e,rd,-⟩:=ow.rd (row:=none) (fun _=>rfl) (fun b hb e=>by cases e);simp only[Value.slice.injEq] at e;obtain⟨rfl,-,-⟩:=e;exact rd
  have hok:=hP.ok hb;clear hcells;by_cases h:l.length<n
  ·
   have h':(l.length:Int)<(n:Int):=by omega
   replace ow:=Lib.hid ow;go_wp2_with fail
   go_loopw [8,9,10] (fun v8 v9 v10 wx=>∃ i j:Nat,v10=.int .i64 i∧i≤l.length∧v8=.int .i64 j∧j<l.length∧(∃ m:Int,v9=.int .i64 m)∧Kp wr.heap.size none wr wx) (fun _ _ v10 _=>l.length-(intOf v10).toNat)
   case atStart=>exact⟨0,0,rfl,Nat.zero_le _,rfl,hpos,⟨0,rfl⟩,Kp.refl _ _ _⟩
   case round=>
    obtain⟨i,j,rfl,hi,rfl,hj,⟨m,rfl⟩,kx⟩:=hrel;have hown:=ow.out.kpN kx;by_cases hil:i<l.length
    ·
     have hc:=hown.itemAt i hil;have hxo:=hok _ (List.getElem_mem hil);have c0:=hc 0 _ rfl;have c1:=hc 1 _ rfl;have c2:=hc 2 _ rfl;have c3:=hc 3 _ rfl;have c4:=hc 4 _ rfl;have c5:=hc 5 _ rfl;have c6:=hc 6 _ rfl;have c7:=hc 7 _ rfl;rw[Nat.add_zero] at c0;generalize l[i]=x at *;have hii:(i:Int)<(l.length:Int):=by omega
     have hi0:¬ (i:Int)<0:=by omega
     have hm:l.length-(i+1)<l.length-i:=by omega
     have hbd:(i:Int)≤512:=by omega
     replace hm:=Lib.hid hm;clear hc hown rd;replace hok:=Lib.hid hok;replace hP:=Lib.hid hP;go_wp2_with fail
     refine(r4_widest_any x hxo _).mono ?_;rintro e w5 ⟨rfl,k5⟩;replace kx:=kx.thenN k5 (Nat.le_refl _);clear c0 c1 c2 c3 c4 c5 c6 c7 k5 hxo;generalize (widN x 4).1=a1;generalize (widN x 4).2=a2;replace hil:=Lib.hid hil;replace hj:=Lib.hid hj;by_cases hq:m<a2
     ·
      go_wp2
      go_roundw
      case rel=>exact⟨i+1,i,by congr 1,hil.out,rfl,hil.out,⟨_,rfl⟩,kx⟩
      case measure=>exact hm.out
     ·
      go_wp2
      go_roundw
      case rel=>exact⟨i+1,j,by congr 1,hil.out,rfl,hj.out,⟨_,rfl⟩,kx⟩
      case measure=>exact hm.out
    ·
     obtain rfl:i=l.length:=by omega
     have hc:=hown.itemAt j hj;have hxo:=hok _ (List.getElem_mem hj);have hsp:=fun (x y:Bx)=>split_len x y hj;have hps:=fun (x y:Bx) (e:splitB l[j]=some (x,y))=>part_split (x:=x) (y:=y) hP hj rfl (splitB_halves hxo e);have cs:=fun w=>r4_Split_any l[j] hxo w;have c0:=hc 0 _ rfl;have c1:=hc 1 _ rfl;have c2:=hc 2 _ rfl;have c3:=hc 3 _ rfl;have c4:=hc 4 _ rfl;have c5:=hc 5 _ rfl;have c6:=hc 6 _ rfl;have c7:=hc 7 _ rfl;rw[Nat.add_zero] at c0;generalize l[j]=x at *;have hii:(j:Int)<(l.length:Int):=by omega
     have hi0:¬ (j:Int)<0:=by omega
     have hbd:(j:Int)≤512:=by omega
     have K:=K.tN kx;clear hc hxo;replace hok:=Lib.hid hok;replace hP:=Lib.hid hP;replace hj:=Lib.hid hj;replace hps:=Lib.hid hps;replace hsp:=Lib.hid hsp;rename World=>wx;cases hs:splitB x with
     | none=>
      rw[hs] at cs;clear hps hsp;go_wp2_with fail
      refine(cs _).mono ?_;rintro e w5 ⟨rfl,k5⟩;replace rd:=(rd.kpN kx).kpN k5;replace K:=K.tN k5;clear c0 c1 c2 c3 c4 c5 c6 c7 k5 cs hown kx;replace rd:=rd.kpN (Kp.new2 w5 (.cells #[.int .i64 0,.int .i64 0,.int .i64 0,.int .i64 0,.int .i64 0,.int .i64 0,.int .i64 0,.int .i64 0] 33) (.cells #[.int .i64 0,.int .i64 0,.int .i64 0,.int .i64 0,.int .i64 0,.int .i64 0,.int .i64 0,.int .i64 0] 33));replace K:=K.thenN (Kp.new2 w5 (.cells #[.int .i64 0,.int .i64 0,.int .i64 0,.int .i64 0,.int .i64 0,.int .i64 0,.int .i64 0,.int .i64 0] 33) (.cells #[.int .i64 0,.int .i64 0,.int .i64 0,.int .i64 0,.int .i64 0,.int .i64 0,.int .i64 0,.int .i64 0] 33)) (Nat.le_refl _);unfold splitV;go_wp2
      exact bodyPost_ret (v:=.tuple #[.slice (some ⟨g,0,none⟩) l.length cap,.int .i64 0]) (by simp[results,Tryz.results34,go_sem]) rfl ⟨_,rfl,_,_,_,rfl,rd,hP.out,hln,(fun ad h=>by cases h;exact hg),K⟩
     | some p=>
      obtain⟨x1,y1⟩:=p;rw[hs] at cs;replace hps:=Lib.hid (hps.out x1 y1 hs);replace hsp:=Lib.hid (hsp.out x1 y1);clear hs;go_wp2_with fail
      refine(cs _).mono ?_;rintro e w5 ⟨rfl,k5⟩;replace rd:=(rd.kpN kx).kpN k5;replace K:=K.tN k5;clear c0 c1 c2 c3 c4 c5 c6 c7 k5 cs hown kx;unfold splitV;dsimp only;have X6:=(Blk.new w5 33 #[.int .i64 x1.x.lo,.int .i64 x1.x.hi,.int .i64 x1.y.lo,.int .i64 x1.y.hi,.int .i64 x1.u.lo,.int .i64 x1.u.hi,.int .i64 x1.v.lo,.int .i64 x1.v.hi]).alloc (.cells #[.int .i64 y1.x.lo,.int .i64 y1.x.hi,.int .i64 y1.y.lo,.int .i64 y1.y.hi,.int .i64 y1.u.lo,.int .i64 y1.u.hi,.int .i64 y1.v.lo,.int .i64 y1.v.hi] 33);have Y6:=Blk.newAt (w5.alloc (.cells #[.int .i64 x1.x.lo,.int .i64 x1.x.hi,.int .i64 x1.y.lo,.int .i64 x1.y.hi,.int .i64 x1.u.lo,.int .i64 x1.u.hi,.int .i64 x1.v.lo,.int .i64 x1.v.hi] 33)) 33 #[.int .i64 y1.x.lo,.int .i64 y1.x.hi,.int .i64 y1.y.lo,.int .i64 y1.y.hi,.int .i64 y1.u.lo,.int .i64 y1.u.hi,.int .i64 y1.v.lo,.int .i64 y1.v.hi] (n:=w5.heap.size+1) (by simp);have k6:=Kp.new2 w5 (.cells #[.int .i64 x1.x.lo,.int .i64 x1.x.hi,.int .i64 x1.y.lo,.int .i64 x1.y.hi,.int .i64 x1.u.lo,.int .i64 x1.u.hi,.int .i64 x1.v.lo,.int .i64 x1.v.hi] 33) (.cells #[.int .i64 y1.x.lo,.int .i64 y1.x.hi,.int .i64 y1.y.lo,.int .i64 y1.y.hi,.int .i64 y1.u.lo,.int .i64 y1.u.hi,.int .i64 y1.v.lo,.int .i64 y1.v.hi] 33);go_upto_region 17 with(fail)
      generalize (w5.alloc (.cells #[.int .i64 x1.x.lo,.int .i64 x1.x.hi,.int .i64 x1.y.lo,.int .i64 x1.y.hi,.int .i64 x1.u.lo,.int .i64 x1.u.hi,.int .i64 x1.v.lo,.int .i64 x1.v.hi] 33)).alloc (.cells #[.int .i64 y1.x.lo,.int .i64 y1.x.hi,.int .i64 y1.y.lo,.int .i64 y1.y.hi,.int .i64 y1.u.lo,.int .i64 y1.u.hi,.int .i64 y1.v.lo,.int .i64 y1.v.hi] 33)=w6 at *;replace rd:=rd.kpN k6;replace K:=K.tN k6;generalize w5.heap.size=xb at *;clear k6;obtain⟨ad,had,rt⟩:=rd_tail rd hj.out hle;have rt1:=rt.alloc (.cells #[] 33);have hdl:(l.drop (j+1)).length=l.length-(j+1):=List.length_drop;have hl512:l.length≤512:=by omega
      replace hps:=Lib.hid hps;obtain⟨i0,hi0,hz0,hz1,hz2⟩:=info_parts box_info;obtain⟨r,hr⟩:∃ r,r=l.drop (j+1):=⟨_,rfl⟩;rw[← hr] at rt rt1 hdl;have hflat:(r.flatMap encBx).length=(l.length-(j+1)) * 8:=by rw[flat_len (enc:=encBx) (sz:=8) (fun _=>rfl),hdl]
      rw[← hdl] at rt1;have hcl:=rt1.flat (fun _=>rfl);replace hr:=Lib.hid hr;go_wp2_with (at_builtin;refine wpList_append_own_at _ (by rfl) (.tmp 64) (.tmp 68) 47 (by rfl) w6.heap.size 33 i0 _ 8 64 Tryz.underlying47 hi0 hz0 hz1 hz2 (by rfl) (by omega) (.slice (some ⟨w6.heap.size,0,none⟩) 0 0) 0 [] (by rfl) (emptyBoxes w6 w6.heap.size (Nat.le_refl _)) ad (l.length-(j+1)) (cap-(j+1)) (r.flatMap encBx) (by rfl) hflat hcl (one_boxes r) (maxLen_of (by omega)) (by omega) (alloc_ge (Nat.le_refl _) _) ?_;intro u4 w9 hown gu _ au;clear au)
      have K9:=(Kp.new1 w6 (.cells #[] 33)).grown gu (alloc_ge (Nat.le_refl _) _) (fun b e=>by have e2:w6.heap.size=b:=(by simpa [Value.ownBlock] using e);omega);have own9:Own w9 w6.heap.size 33 8 encBx u4 r:=by unfold Own;rw[hdl];simpa using hown
      obtain⟨A2,c2,rfl,rd2,-⟩:=own9.rd (row:=none) (fun _=>rfl) (fun b hb e=>by cases e);have X9:=X6.kpN K9;have Y9:=Y6.kpN K9;replace K:=K.tN K9;have hd:=rd_head (rd.kpN K9) (Nat.le_of_lt hj.out);have hdt:(l.take j).length=j:=by rw[List.length_take];have:=hj.out;omega
      have hj2:j<l.length:=hj.out;have hjc:j≤cap:=by omega
      clear rd rt rt1 hcl hflat own9 hown gu X6 Y6 K9 had;obtain⟨hdl2,hr512⟩:r.length=l.length-(j+1)∧r.length≤512:=⟨hdl,by omega⟩;replace ow:=Lib.hid ow;obtain⟨pq,hpq⟩:∃ q9,Hid (q9=l.take j):=⟨_,Lib.hid rfl⟩;rw[← hpq.out] at hd hdt;replace hdl:=Lib.hid hdl;replace hdl2:=Lib.hid hdl2;go_upto_region 18 with(fail)
      obtain⟨S0,hS⟩:∃ S0:World→Prop,S0=fun w'=>Blk w' xb 33 #[.int .i64 x1.x.lo,.int .i64 x1.x.hi,.int .i64 x1.y.lo,.int .i64 x1.y.hi,.int .i64 x1.u.lo,.int .i64 x1.u.hi,.int .i64 x1.v.lo,.int .i64 x1.v.hi]∧Blk w' (xb+1) 33 #[.int .i64 y1.x.lo,.int .i64 y1.x.hi,.int .i64 y1.y.lo,.int .i64 y1.y.hi,.int .i64 y1.u.lo,.int .i64 y1.u.hi,.int .i64 y1.v.lo,.int .i64 y1.v.hi]:=⟨_,rfl⟩;have hS0:∀ w',S0 w'↔(Blk w' xb 33 #[.int .i64 x1.x.lo,.int .i64 x1.x.hi,.int .i64 x1.y.lo,.int .i64 x1.y.hi,.int .i64 x1.u.lo,.int .i64 x1.u.hi,.int .i64 x1.v.lo,.int .i64 x1.v.hi]∧Blk w' (xb+1) 33 #[.int .i64 y1.x.lo,.int .i64 y1.x.hi,.int .i64 y1.y.lo,.int .i64 y1.y.hi,.int .i64 y1.u.lo,.int .i64 y1.u.hi,.int .i64 y1.v.lo,.int .i64 y1.v.hi]):=fun w'=>by rw[hS]
      clear hS;have cx:=fun (q:Ev S0) i=>((hS0 _).1 q.h).1.cell i;have cy:=fun (q:Ev S0) i=>((hS0 _).1 q.h).2.cell i;have KF:=K;clear K;have hB:=CB.start (x:=x1) (y:=y1) (p:=pq) (r:=r) (Kp.refl w9.heap.size none w9).drew;have hevT:=ev_true;refine wp_region_tr S0 (.st 1 0 (.st 2 0 (.st 3 0 (.st 5 1 (.st 6 1 (.st 9 0 (.b2 0 (.b2 4 (.st 7 2 (.st 8 2 (.st 10 2 (.st 11 0 .nil)))) 7 (.st 4 2 (.st 8 2 (.st 10 2 (.st 11 0 .nil))))) 7 (.st 0 2 (.st 4 2 (.st 8 2 (.st 10 2 (.st 11 0 .nil)))))))))))) (by kernel_rfl) (by kernel_rfl) ((hS0 _).2 ⟨X9.drew,Y9.drew⟩) ?_;intro _hev;iterate 6 (first|(refine wpTr_v rfl rfl ?_;intro K hK;go_big_quiet_op;go_big_quiet_on)|(refine wpTr_q rfl rfl ?_;intro K hK;go_big_quiet_op;go_big_quiet_on)|refine wpTr_s rfl rfl ?_)
      refine wpTr_b2 ?_ ?_
      ·
       refine wpOne_l rfl rfl ?_;intro K hK;generalize w9.drew=wq0 at *;go_step;refine nameW (fun wy0 hwy0=>?_);replace hB:=hB.op0 rfl hwy0;clear hwy0;refine hK _ _ ((hS0 _).2 ⟨X9.kpN hB.kp,Y9.kpN hB.kp⟩) ?_;clear hK K;refine wpTr_b2 ?_ ?_
       ·
        refine wpOne_l rfl rfl ?_;intro K hK;refine wp_append_boxesM (.tmp 70) (.tmp 73) (by rfl) w9.heap.size _ [] (some ⟨g,0,none⟩) j cap pq (by rfl) (by rfl) hdt (hB.r0 rfl) (hd.kpN hB.kp) (by simp;omega) hB.kp.size ?_;intro v4 w4 own hg hat;dsimp only[Act.put];simp only[sbt,sc0,scs];rw[List.nil_append] at own;replace hB:=hB.op4 rfl (Nat.le_refl 1) own hg hat;refine hK _ _ ((hS0 _).2 ⟨X9.kpN hB.kp,Y9.kpN hB.kp⟩) ?_;clear hK K own hg hat;refine wpTr_l rfl rfl ?_;intro K hK;generalize w9.drew=wq7 at *;go_step;refine nameW (fun wy7 hwy7=>?_);replace hB:=hB.op7 rfl hwy7;clear hwy7;refine hK _ _ ((hS0 _).2 ⟨X9.kpN hB.kp,Y9.kpN hB.kp⟩) ?_;clear hK K;refine wpTr_l rfl rfl ?_;intro K hK;refine wp_append_boxesM (.tmp 74) (.tmp 77) (by rfl) w9.heap.size _ pq _ 2 2 [x1,y1] (by rfl) (by rfl) rfl (hB.r4 rfl) (Rd.blkL (enc:=encBx) (sz:=8) [x1,y1] (fun _=>rfl) rfl (hB.rp rfl (Nat.le_refl 2)).1 none (by simp)) (by simp;omega) hB.kp.size ?_;intro v8 w8 own hg hat;dsimp only[Act.put];simp only[sbt,sc0,scs];replace hB:=hB.op8 rfl (Nat.le_refl 2) own hg;refine hK _ _ ((hS0 _).2 ⟨X9.kpN hB.kp,Y9.kpN hB.kp⟩) ?_;clear hK K own hg hat;refine wpTr_l rfl rfl ?_;intro K hK;refine wp_append_boxesM (.tmp 78) (.tmp 79) (by rfl) w9.heap.size _ (pq++[x1,y1]) A2 r.length c2 r (by rfl) (by rfl) rfl (hB.r8 rfl) (rd2.kpN hB.kp) (by simp;omega) hB.kp.size ?_;intro v10 w10 own hg hat;dsimp only[Act.put];simp only[sbt,sc0,scs];replace hB:=hB.op10 rfl (Nat.le_refl 3) own hg;obtain⟨A11,c11,rfl,-,-⟩:=own.rd (row:=none) (fun _=>rfl) (fun b hb e=>by cases e);refine hK _ _ ((hS0 _).2 ⟨X9.kpN hB.kp,Y9.kpN hB.kp⟩) ?_;have K2:=KF.thenN hB.kp (Nat.le_refl _);have o2:=Own.less own (show w.heap.size≤w9.heap.size from KF.size);clear hK K own hg hat hB;iterate 1 (first|(refine wpTr_v rfl rfl ?_;intro K hK;go_big_quiet_op;go_big_quiet_on)|(refine wpTr_q rfl rfl ?_;intro K hK;go_big_quiet_op;go_big_quiet_on)|refine wpTr_s rfl rfl ?_)
        refine wpTr_nil ?_;clear hevT _hev;clear cx cy hS0 S0 X9 Y9 rd2 hd KF;have e2:pq++[x1,y1]++r=l.take j++x1::y1::l.drop (j+1):=by rw[hpq.out,hr.out];simp
        have e3:(pq++[x1,y1]++r).length=l.length+1:=by rw[e2];exact hsp.out
        have hme:n-(pq++[x1,y1]++r).length<n-l.length:=by omega
        replace o2:∃ m,Own w10 w.heap.size 33 8 encBx (.slice A11 (pq++[x1,y1]++r).length c11) m∧Part b m∧m.length≤n:=⟨pq++[x1,y1]++r,o2,by rw[e2];exact hps.out.out,by omega⟩;generalize (pq++[x1,y1]++r).length=q9 at *;replace hme:=Lib.hid hme;replace o2:=Lib.hid o2;clear e2 e3;go_wp2
        go_roundw
        case rel=>
         obtain⟨m,h1,h2,h3⟩:=o2.out;exact⟨m,h1,h2,h3,K2⟩
        case measure=>exact hme.out
       ·
        refine wpOne_l rfl rfl ?_;intro K hK;generalize w9.drew=wq7 at *;go_step;refine nameW (fun wy7 hwy7=>?_);replace hB:=hB.op7 rfl hwy7;clear hwy7;refine hK _ _ ((hS0 _).2 ⟨X9.kpN hB.kp,Y9.kpN hB.kp⟩) ?_;clear hK K;refine wpTr_l rfl rfl ?_;intro K hK;refine wp_append_boxesM (.tmp 70) (.tmp 73) (by rfl) w9.heap.size _ [] (some ⟨g,0,none⟩) j cap pq (by rfl) (by rfl) hdt (hB.r0 rfl) (hd.kpN hB.kp) (by simp;omega) hB.kp.size ?_;intro v4 w4 own hg hat;dsimp only[Act.put];simp only[sbt,sc0,scs];rw[List.nil_append] at own;replace hB:=hB.op4 rfl (Nat.le_refl 1) own hg hat;refine hK _ _ ((hS0 _).2 ⟨X9.kpN hB.kp,Y9.kpN hB.kp⟩) ?_;clear hK K own hg hat;refine wpTr_l rfl rfl ?_;intro K hK;refine wp_append_boxesM (.tmp 74) (.tmp 77) (by rfl) w9.heap.size _ pq _ 2 2 [x1,y1] (by rfl) (by rfl) rfl (hB.r4 rfl) (Rd.blkL (enc:=encBx) (sz:=8) [x1,y1] (fun _=>rfl) rfl (hB.rp rfl (Nat.le_refl 2)).1 none (by simp)) (by simp;omega) hB.kp.size ?_;intro v8 w8 own hg hat;dsimp only[Act.put];simp only[sbt,sc0,scs];replace hB:=hB.op8 rfl (Nat.le_refl 2) own hg;refine hK _ _ ((hS0 _).2 ⟨X9.kpN hB.kp,Y9.kpN hB.kp⟩) ?_;clear hK K own hg hat;refine wpTr_l rfl rfl ?_;intro K hK;refine wp_append_boxesM (.tmp 78) (.tmp 79) (by rfl) w9.heap.size _ (pq++[x1,y1]) A2 r.length c2 r (by rfl) (by rfl) rfl (hB.r8 rfl) (rd2.kpN hB.kp) (by simp;omega) hB.kp.size ?_;intro v10 w10 own hg hat;dsimp only[Act.put];simp only[sbt,sc0,scs];replace hB:=hB.op10 rfl (Nat.le_refl 3) own hg;obtain⟨A11,c11,rfl,-,-⟩:=own.rd (row:=none) (fun _=>rfl) (fun b hb e=>by cases e);refine hK _ _ ((hS0 _).2 ⟨X9.kpN hB.kp,Y9.kpN hB.kp⟩) ?_;have K2:=KF.thenN hB.kp (Nat.le_refl _);have o2:=Own.less own (show w.heap.size≤w9.heap.size from KF.size);clear hK K own hg hat hB;iterate 1 (first|(refine wpTr_v rfl rfl ?_;intro K hK;go_big_quiet_op;go_big_quiet_on)|(refine wpTr_q rfl rfl ?_;intro K hK;go_big_quiet_op;go_big_quiet_on)|refine wpTr_s rfl rfl ?_)
        refine wpTr_nil ?_;clear hevT _hev;clear cx cy hS0 S0 X9 Y9 rd2 hd KF;have e2:pq++[x1,y1]++r=l.take j++x1::y1::l.drop (j+1):=by rw[hpq.out,hr.out];simp
        have e3:(pq++[x1,y1]++r).length=l.length+1:=by rw[e2];exact hsp.out
        have hme:n-(pq++[x1,y1]++r).length<n-l.length:=by omega
        replace o2:∃ m,Own w10 w.heap.size 33 8 encBx (.slice A11 (pq++[x1,y1]++r).length c11) m∧Part b m∧m.length≤n:=⟨pq++[x1,y1]++r,o2,by rw[e2];exact hps.out.out,by omega⟩;generalize (pq++[x1,y1]++r).length=q9 at *;replace hme:=Lib.hid hme;replace o2:=Lib.hid o2;clear e2 e3;go_wp2
        go_roundw
        case rel=>
         obtain⟨m,h1,h2,h3⟩:=o2.out;exact⟨m,h1,h2,h3,K2⟩
        case measure=>exact hme.out
      ·
       refine wpOne_l rfl rfl ?_;intro K hK;generalize w9.drew=wq7 at *;go_step;refine nameW (fun wy7 hwy7=>?_);replace hB:=hB.op7 rfl hwy7;clear hwy7;refine hK _ _ ((hS0 _).2 ⟨X9.kpN hB.kp,Y9.kpN hB.kp⟩) ?_;clear hK K;refine wpTr_l rfl rfl ?_;intro K hK;generalize w9.drew=wq0 at *;go_step;refine nameW (fun wy0 hwy0=>?_);replace hB:=hB.op0 rfl hwy0;clear hwy0;refine hK _ _ ((hS0 _).2 ⟨X9.kpN hB.kp,Y9.kpN hB.kp⟩) ?_;clear hK K;refine wpTr_l rfl rfl ?_;intro K hK;refine wp_append_boxesM (.tmp 70) (.tmp 73) (by rfl) w9.heap.size _ [] (some ⟨g,0,none⟩) j cap pq (by rfl) (by rfl) hdt (hB.r0 rfl) (hd.kpN hB.kp) (by simp;omega) hB.kp.size ?_;intro v4 w4 own hg hat;dsimp only[Act.put];simp only[sbt,sc0,scs];rw[List.nil_append] at own;replace hB:=hB.op4 rfl (Nat.le_refl 1) own hg hat;refine hK _ _ ((hS0 _).2 ⟨X9.kpN hB.kp,Y9.kpN hB.kp⟩) ?_;clear hK K own hg hat;refine wpTr_l rfl rfl ?_;intro K hK;refine wp_append_boxesM (.tmp 74) (.tmp 77) (by rfl) w9.heap.size _ pq _ 2 2 [x1,y1] (by rfl) (by rfl) rfl (hB.r4 rfl) (Rd.blkL (enc:=encBx) (sz:=8) [x1,y1] (fun _=>rfl) rfl (hB.rp rfl (Nat.le_refl 2)).1 none (by simp)) (by simp;omega) hB.kp.size ?_;intro v8 w8 own hg hat;dsimp only[Act.put];simp only[sbt,sc0,scs];replace hB:=hB.op8 rfl (Nat.le_refl 2) own hg;refine hK _ _ ((hS0 _).2 ⟨X9.kpN hB.kp,Y9.kpN hB.kp⟩) ?_;clear hK K own hg hat;refine wpTr_l rfl rfl ?_;intro K hK;refine wp_append_boxesM (.tmp 78) (.tmp 79) (by rfl) w9.heap.size _ (pq++[x1,y1]) A2 r.length c2 r (by rfl) (by rfl) rfl (hB.r8 rfl) (rd2.kpN hB.kp) (by simp;omega) hB.kp.size ?_;intro v10 w10 own hg hat;dsimp only[Act.put];simp only[sbt,sc0,scs];replace hB:=hB.op10 rfl (Nat.le_refl 3) own hg;obtain⟨A11,c11,rfl,-,-⟩:=own.rd (row:=none) (fun _=>rfl) (fun b hb e=>by cases e);refine hK _ _ ((hS0 _).2 ⟨X9.kpN hB.kp,Y9.kpN hB.kp⟩) ?_;have K2:=KF.thenN hB.kp (Nat.le_refl _);have o2:=Own.less own (show w.heap.size≤w9.heap.size from KF.size);clear hK K own hg hat hB;iterate 1 (first|(refine wpTr_v rfl rfl ?_;intro K hK;go_big_quiet_op;go_big_quiet_on)|(refine wpTr_q rfl rfl ?_;intro K hK;go_big_quiet_op;go_big_quiet_on)|refine wpTr_s rfl rfl ?_)
       refine wpTr_nil ?_;clear hevT _hev;clear cx cy hS0 S0 X9 Y9 rd2 hd KF;have e2:pq++[x1,y1]++r=l.take j++x1::y1::l.drop (j+1):=by rw[hpq.out,hr.out];simp
       have e3:(pq++[x1,y1]++r).length=l.length+1:=by rw[e2];exact hsp.out
       have hme:n-(pq++[x1,y1]++r).length<n-l.length:=by omega
       replace o2:∃ m,Own w10 w.heap.size 33 8 encBx (.slice A11 (pq++[x1,y1]++r).length c11) m∧Part b m∧m.length≤n:=⟨pq++[x1,y1]++r,o2,by rw[e2];exact hps.out.out,by omega⟩;generalize (pq++[x1,y1]++r).length=q9 at *;replace hme:=Lib.hid hme;replace o2:=Lib.hid o2;clear e2 e3;go_wp2
       go_roundw
       case rel=>
        obtain⟨m,h1,h2,h3⟩:=o2.out;exact⟨m,h1,h2,h3,K2⟩
       case measure=>exact hme.out
  ·
   obtain h2:l.length=n:=by omega
   subst h2;have h':¬ (l.length:Int)<(l.length:Int):=by omega
   clear ow;go_wp2
   exact bodyPost_ret (v:=.tuple #[.slice (some ⟨g,0,none⟩) l.length cap,.int .i64 0]) (by simp[results,Tryz.results34,go_sem]) rfl ⟨_,rfl,_,_,_,rfl,rd,hP,hln,(fun ad h=>by cases h;exact hg),K⟩
theorem cellsOf_any (b:Bx) (n:Nat) (w:World) (hb:okBx b=true) (hn:1≤n∧n≤512) :
  Calls Tryz.prog 10 #[.agg #[.int .i64 b.x.lo,.int .i64 b.x.hi,.int .i64 b.y.lo,.int .i64 b.y.hi,.int .i64 b.u.lo,.int .i64 b.u.hi,.int .i64 b.v.lo,.int .i64 b.v.hi],.int .i64 n] w fun e w'=>∃ v,e=.returned v∧CellP b n w v w':=by
 have cc:=fun w=>r4_Cells_any b n w hb hn;clear hb hn;obtain⟨w1,hw1,X,K,hz⟩:=box1 w 33 #[.int .i64 b.x.lo,.int .i64 b.x.hi,.int .i64 b.y.lo,.int .i64 b.y.hi,.int .i64 b.u.lo,.int .i64 b.u.hi,.int .i64 b.v.lo,.int .i64 b.v.hi];go_enter Tryz.func10,Tryz.ntmps10
 go_wp2_with fail
 rw[← hw1];clear hw1;have cX:=X.cell;go_wp2_with fail
 refine(cc _).mono ?_;rintro e w2 ⟨v,rfl,A,c,l,rfl,h1,h2,h3,h4,k⟩;clear cX X cc;go_wp2
 go_ret
 exact⟨_,rfl,A,c,l,rfl,h1,h2,h3,fun ad h=>by have:=h4 ad h;omega,K.tN k⟩
theorem comes_four (r:Int) (h0:0≤r):comesP ⟨2,3⟩ ⟨10,3⟩ r↔4≤r:=by
 have e:comesP ⟨2,3⟩ ⟨10,3⟩ r↔13≤r * r:=by unfold comesP;simp[n2]
 rw[e];constructor
 ·
  intro h;rcases Int.lt_or_le r 4 with k|k
  ·
   have:r=0∨r=1∨r=2∨r=3:=by omega
   rcases this with rfl|rfl|rfl|rfl<;>omega
  · exact k
 ·
  intro h;have:=Int.mul_le_mul h h (by omega) (by omega);omega
theorem miss1_any (pb qb:Nat) (r:Int) (w:World) (h0:0≤r) (h1:r≤268435456) (P:Blk w pb 73 #[.int .i64 2,.int .i64 3]) (Q:Blk w qb 73 #[.int .i64 10,.int .i64 3]) :
  Calls Tryz.prog 75 #[.int .i64 r,.pointer (some ⟨pb,0,none⟩),.pointer (some ⟨qb,0,none⟩)] w fun e w'=>e=.returned (.bool (decide (4≤r)))∧Kp w.heap.size none w w':=by
 have cc:=fun w=>span_comes_any ⟨2,3⟩ ⟨10,3⟩ r (by unfold Fr Fr1;dsimp only;omega) (by unfold Fr Fr1;dsimp only;omega) h0 h1 w;have e:decide (comesP ⟨2,3⟩ ⟨10,3⟩ r)=decide (4≤r):=decide_eq_decide.2 (comes_four r h0);rw[e] at cc;have cP:=P.cell;have cQ:=Q.cell;generalize decide (4≤r)=v at *;clear e h0 h1 P Q;go_enter Tryz.func75,Tryz.ntmps75
 go_wp2_with fail
 refine(cc _).mono ?_;rintro e w2 ⟨rfl,k⟩;go_wp2
 go_ret
 exact⟨rfl,k⟩
def SrAt (w:World) (a b:Value) (wr:World):Prop:=∃ i j:Nat,a=.int .i64 i∧b=.int .i64 j∧i≤4∧4≤j∧(i=0∧j=536870912∨j≤268435456)∧Kp w.heap.size none w wr
set_option maxHeartbeats 1000000 in
theorem search_four (pb qb:Nat) (w:World) (P:Blk w pb 73 #[.int .i64 2,.int .i64 3]) (Q:Blk w qb 73 #[.int .i64 10,.int .i64 3]) :
  Calls Tryz.prog 74 #[.int .i64 536870912,.func (.func 75) #[] #[.pointer (some ⟨pb,0,none⟩),.pointer (some ⟨qb,0,none⟩)]] w fun e w'=>e=.returned (.int .i64 4)∧Kp w.heap.size none w w':=by
 go_enter Tryz.func74,Tryz.ntmps74
 go_wp2_with fail
 go_loopw [5,6] (fun a b wr=>SrAt w a b wr) (fun a b _=>(intOf b).toNat-(intOf a).toNat)
 case atStart=>exact⟨0,536870912,rfl,rfl,by omega,by omega,.inl ⟨rfl,rfl⟩,Kp.refl _ _ _⟩
 case round=>
  obtain⟨i,j,rfl,rfl,hi,hj,hij,K⟩:=hrel;by_cases h:i<j
  ·
   have hii:(i:Int)<(j:Int):=by omega
   obtain⟨m,hm⟩:∃ m:Nat,Hid (m=(i+j) / 2):=⟨_,Lib.hid rfl⟩;have hm1:(m:Int)≤268435456:=by have:=hm.out;omega
   have cc:=fun w P Q=>miss1_any pb qb (m:Int) w (by omega) hm1 P Q;have g1:Hid (m<4→m+1≤4∧j-(m+1)<j-i∧(j≤268435456)):=Lib.hid (by have:=hm.out;omega);have g2:Hid (4≤m→m-i<j-i∧m≤268435456):=Lib.hid (by have:=hm.out;omega);have e9:wrap64 (IntKind.u64.wrap (wrap64 ((i:Int)+(j:Int))) / 2)=(m:Int):=by have:=hm.out;rw[wrapu];unfold wrap64;omega
   replace e9:=Lib.hid e9;clear hm1;replace hij:=Lib.hid hij;clear hm;go_wp2_with fail
   rw[e9.out];refine(cc _ (P.kpN K) (Q.kpN K)).mono ?_;rintro e w2 ⟨rfl,k⟩;clear cc e9;have K2:=K.tN k;by_cases h4:(4:Int)≤(m:Int)
   ·
    obtain⟨q1,q2⟩:=g2.out (by omega);have d:decide ((4:Int)≤(m:Int))=true:=decide_eq_true h4;have h5:=Lib.hid h4;replace q1:=Lib.hid q1;replace q2:=Lib.hid q2;rw[d];clear h4 g1 g2;go_wp2
    go_roundw
    case rel=>exact⟨i,m,rfl,rfl,hi,by have:=h5.out;omega,.inr q2.out,K2⟩
    case measure=>have:=q1.out;simp[intOf];omega
   ·
    obtain⟨q1,q2,q3⟩:=g1.out (by omega);have d:decide ((4:Int)≤(m:Int))=false:=decide_eq_false h4;have h5:(m:Int)<4:=by omega
    replace q1:=Lib.hid q1;replace q2:=Lib.hid q2;rw[d];clear h4 g1 g2;go_wp2
    go_roundw
    case rel=>exact⟨m+1,j,by congr 1,rfl,q1.out,hj,.inr q3,K2⟩
    case measure=>have:=q2.out;simp[intOf];omega
  ·
   obtain rfl:i=4:=by omega
   obtain rfl:j=4:=by omega
   go_wp2
   go_ret
   exact⟨rfl,K⟩
theorem span_Miss_four (w:World) :
  Calls Tryz.prog 30 #[.agg #[.int .i64 2,.int .i64 3],.agg #[.int .i64 10,.int .i64 3]] w fun e w'=>e=.returned (.int .i64 4)∧Kp w.heap.size none w w':=by
 have ca:∀ b T w,Blk w b T #[.int .i64 2,.int .i64 3,.int .i64 10,.int .i64 3]→Calls Tryz.prog 73 #[.int .i64 0,.slice (some ⟨b,0,none⟩) 2 2] w fun e w'=>e=.returned (.bool true)∧Kp w.heap.size none w w':=fun b T w h=>span_asks_any (some ⟨b,0,none⟩) 2 0 [⟨2,3⟩,⟨10,3⟩] w (rd_pt2 h) (by simp) (by intro x hx;simp only[List.mem_cons,List.not_mem_nil,or_false] at hx;rcases hx with rfl|rfl<;>(unfold Fr Fr1;dsimp only;omega)) (by omega) (by omega);obtain⟨w1,hw1,P,Q,K,hz⟩:=box2 w 73 #[.int .i64 2,.int .i64 3] 73 #[.int .i64 10,.int .i64 3];go_enter Tryz.func30,Tryz.ntmps30
 go_wp2_with fail
 rw[← hw1];clear hw1;have k1:=Kp.new1 w1 (.cells #[.int .i64 2,.int .i64 3,.int .i64 10,.int .i64 3] 73);refine(ca _ 73 _ (Blk.newAt w1 _ _ (by omega))).mono ?_;rintro e w2 ⟨rfl,k⟩;replace P:=(P.kpN k1).kpN k;replace Q:=(Q.kpN k1).kpN k;replace K:=(K.tN k1).thenN k (by simp);clear k k1;go_wp2_with fail
 refine(search_four _ _ _ P Q).mono ?_;rintro e w3 ⟨rfl,k⟩;go_wp2
 go_ret
 exact⟨rfl,K.thenN k (by have:=K.size;omega)⟩
set_option maxHeartbeats 1000000 in
theorem awake_any (w:World):Calls Tryz.prog 8 #[] w fun e w'=>e=.returned (.bool true)∧Kp w.heap.size none w w':=by
 have cm:=fun w=>span_Mul_any ⟨-2,3⟩ ⟨-5,4⟩ (by unfold Sp.fit;dsimp only;omega) (by unfold Sp.fit;dsimp only;omega) (by
  intro x y hx hy;unfold Sp.has at hx hy;dsimp only at hx hy;have h:=mul_bd (a:=x) (b:=y) (A:=5) (B:=5) (by omega) (by omega);unfold Fit1;omega) w
 have e1:mulS ⟨-2,3⟩ ⟨-5,4⟩=⟨-15,12⟩:=by decide
 rw[e1] at cm
 have cr:∀ w,Calls Tryz.prog 29 #[.int .i64 15] w fun e w'=>e=.returned (.int .i64 3)∧Kp w.heap.size none w w':=fun w=>(span_Root_any 15 (by omega) w).mono fun e w' ⟨⟨r,h1,h2⟩,h3⟩=>⟨by
  have:r=3:=root_one h2.1 h2.2 (by omega) (by omega);rw[h1,this];rfl,h3⟩
 have cs:=fun w=>span_Miss_four w;clear e1;go_enter Tryz.func8,Tryz.ntmps8
 go_wp2_with fail
 refine(cm _).mono ?_;rintro e w2 ⟨rfl,k2⟩;have S:=Blk.new w2 29 #[.int .i64 (-15),.int .i64 12];have k3:=Kp.new1 w2 (.cells #[.int .i64 (-15),.int .i64 12] 29);have cS:=S.cell;dsimp only;go_wp2_with fail
 refine(cr _).mono ?_;rintro e w4 ⟨rfl,k4⟩;clear cS;go_wp2_with fail
 refine(cs _).mono ?_;rintro e w5 ⟨rfl,k5⟩;go_wp2
 go_ret
 exact⟨rfl,((k2.thenN k3 (Nat.le_refl _)).thenN k4 (Nat.le_refl _)).thenN k5 (Nat.le_refl _)⟩
end Go.Proofs.YtdhiappifnflpaaGreat
