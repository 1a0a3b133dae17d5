/- Makers of the kit: TruthOf. The statements' common start: truth. Rows of one's own: theory. slices.Clone and DeleteFunc of boxes. The reference's boxes: low, high, full. The reference's boxes: half, cut. Orbits: the walks of orbit, tenth part: widest, cut, Split. The reference's boxes: widest. Orbits: the walks of orbit, eleventh part: cut, Split. Orbits: the walks of orbit, twelfth part: Split. The reference's boxes: Split. The reference's boxes: Split, whole. Boxes behind boxes: append, at an operation. The reference's cells of a box: Cells. -/
import Derived.Test.YtdhiappifnflpaaGreatDoorM32
import Derived.Test.YtdhiappifnflpaaGreatDoorM27
import Derived.Lib.SliceRun
import Derived.Maps.AppendAt
import Derived.Test.YtdhiappifnflpaaGreatDoorM20
import Derived.Test.YtdhiappifnflpaaGreatDoorM17
import Derived.Test.YtdhiappifnflpaaGreatDoorM25
import Derived.Deep.Upon
import Derived.Lib.AppendZeros
import Derived.Test.YtdhiappifnflpaaGreatDoorInv
set_option maxRecDepth 100000
set_option maxHeartbeats 4000000
namespace Go.Proofs.YtdhiappifnflpaaGreatDoor
open Go.RowKit
theorem state_info:(Tryz.prog.info? 49).map (fun i=>(i.zero,i.size,i.bytes))=some (some (.agg #[(0:Int),(0:Int),(0:Int),(0:Int)]),4,32):=by kernel_rfl
theorem st_newAt (w:World) (T:TypeId) (x:St) {N:Nat} (hN:N=w.heap.size):∀ j u,(encSt x)[j]?=some u→(w.alloc (.cells x T)).cell? ((⟨N,0,none⟩:Addr).add j)=some u:=by
 subst hN;intro j u hj;rw[Addr.add_lit,Nat.zero_add,(Blk.new w T x).cell];exact(show (encSt x).toArray[j]?=some u by simpa using hj)
theorem st_one (x:St):∀ u∈encSt x,u.oneCell'=true:=by
 intro u hu;simp only[encSt,List.mem_cons,List.not_mem_nil,or_false] at hu;rcases hu with rfl|rfl|rfl|rfl<;>rfl
theorem own_st1 (w:World) (B:Nat) (s:St) (hB:B≤w.heap.size):Own (w.alloc (.cells s 49)) B 49 4 encSt (.slice (some ⟨w.heap.size,0,none⟩) 1 1) [s]:=
 World.ownsRow_lit w _ 1 hB (maxLen_of oM) rfl
def ToAt (g:Nat) (nums:List Int) (k:Nat) (A:Option Addr) (c:Nat) (W:Wd) (d:Dr) (s:St) (n:Nat) (w:World) (v j:Value) (wr:World):Prop:=
 ∃ (i:Nat) (m:List St) (z:St) (k':Nat),j=.int .i64 i∧i≤n∧m.length=i+1∧m.head?=some s∧Own wr (w.heap.size+3) 49 4 encSt v m∧Blk wr w.heap.size 27 #[.slice A W.bs.length c,W.home] ∧
  Blk wr (w.heap.size+1) 31 d∧Blk wr (w.heap.size+2) 49 z∧RingAt wr g nums k'∧k'≤k+8 * i∧w.heap.size+3≤wr.heap.size∧Kp w.heap.size (some g) w wr
theorem Own.capLe {α:Type} {w:World} {B e sz n cap:Nat} {A:Option Addr} {enc:α→List Value} {xs:List α} (h:Own w B e sz enc (.slice A n cap) xs):xs.length≤cap:=by
 rcases h.2 with⟨_,h0⟩|⟨g,cap',cur,e,_,_,hle,_⟩
 · omega
 ·
  simp only[Value.slice.injEq] at e;omega
def ToP (s:St) (n N:Nat) (v:Value) (w':World):Prop:=∃ (A:Option Addr) (cap:Nat) (l:List St),v=.slice A l.length cap∧l.length=n+1∧l.head?=some s∧Rd none w' 4 encSt A l.length l∧(∀ ad,A=some ad→N≤ad.block)∧l.length≤cap
theorem truthOf_any (g:Nat) (nums:List Int) (k:Nat) (A:Option Addr) (c:Nat) (W:Wd) (d:Dr) (t:Int) (s:St) (n:Nat) (w:World) (HR:RingAt w g nums k) (hk:k≤800000) (hn:n≤1000) (hW:W.ok) (hA:WdAt (some g) w A W) (hd:d.ok) (ht:0≤t∧t≤1000) :
  Calls Tryz.prog 31 #[.pointer (some ⟨g,0,none⟩),.agg #[.slice A W.bs.length c,W.home],d,t,s,n] w (RPostB g nums (k+8 * n) w (ToP s n w.heap.size)):=by
 obtain⟨i0,hi,hz0,hz1,hz2⟩:=info_parts state_info;have hg:=HR.lt;have cs:=fun k i z w HR hk h hi=>successorOf_any g nums k A c W d (t+(i:Nat)) z w HR hk hW h hd hi;clear hW hd;obtain⟨w1,hw1,M,G,Z,K,hz⟩:=box3 w 27 #[.slice A W.bs.length c,W.home] 31 d 49 s;replace HR:=HR.kpN K;replace K:=K.wide (some g);have ow:=own_st1 w1 (w.heap.size+3) s oM;rw[show (Value.slice (some ⟨w1.heap.size,0,none⟩) 1 1)=.slice (some ⟨w.heap.size+3,0,none⟩) 1 1 by rw[hz]] at ow;go_enter Tryz.func31,Tryz.ntmps31
 go_upto_region 1 with(fail)
 rw[← hw1];clear hw1;have cZ:=Z.cell;go_wp2_with fail
 clear cZ;replace M:=M.alloc (.cells s 49);replace G:=G.alloc (.cells s 49);replace Z:=Z.alloc (.cells s 49);replace HR:=HR.alloc (.cells s 49);replace K:=K.alloc oM (.cells s 49);have hz2':w.heap.size+3≤(w1.alloc (.cells s 49)).heap.size:=by simp;omega
 generalize w1.alloc (.cells s 49)=w2 at *;go_loopw [13,14] (fun v j wr=>ToAt g nums k A c W d s n w v j wr) (fun _ j _=>(n:Int).toNat-(intOf j).toNat)
 case atStart=>exact⟨0,[s],s,k,rfl,Nat.zero_le _,rfl,rfl,ow,M,G,Z,HR,by omega,hz2',K⟩
 case round=>
  clear ow M G Z HR K hz2' hz;obtain⟨i,m,z,k',rfl,hi9,hml,hh,ow,M,G,Z,HR,hk',hB,K⟩:=hrel;by_cases h:i<n
  ·
   have hii:(i:Int)<(n:Int):=by omega
   have ew:wrap64 (t+(i:Int))=t+(i:Int):=by unfold wrap64;omega
   have hm:(n:Int).toNat-((i+1:Nat):Int).toNat<(n:Int).toNat-(i:Int).toNat:=by omega
   have hm5:m.length≤2000:=by omega
   have hti:0≤t+(i:Int)∧t+(i:Int)≤1073741824:=by omega
   have hk5:k'≤900000:=by omega
   replace hm:=Lib.hid hm;replace hml:=Lib.hid hml;replace hh:=Lib.hid hh;have cM:=M.cell;have cG:=G.cell;have cZ:=Z.cell;go_wp2_with fail
   clear cM cG cZ;refine(cs k' i z _ HR hk5 (hA.kp K) hti).mono ?_;rintro e w4 ⟨v2,k2,rfl,⟨z',rfl⟩,hk2,HR2,kk⟩;replace ow:=ow.kp kk (fun b hb=>oN);replace M:=M.kq kk;replace G:=G.kq kk;replace Z:=Z.kq kk;replace K:=K.then_ kk (Nat.le_refl _);replace hB:=Nat.le_trans hB kk.size;clear HR kk;have HR:=HR2;clear HR2;have cZ:=Z.cell;have fZ:=Z.frozen;obtain⟨w5,hw5,Z5,kst,hz5⟩:=Z.st4 (.int .i64 z'.x) (.int .i64 z'.y) (.int .i64 z'.u) (.int .i64 z'.v);simp only[sbt,sc0,scs] at Z5;go_upto_region 6 with(fail)
   rw[← hw5];clear hw5 cZ fZ Z ew;replace ow:=ow.kp kst (fun b hb=>oN);replace M:=M.kq kst;replace G:=G.kq kst;replace K:=K.thenOwn kst (Nat.le_refl _) oM;replace HR:=HR.kpRow kst oM;replace hB:w.heap.size+3≤w5.heap.size:=by omega
   clear kst hz5;have cZ:=Z5.cell;replace M:=Lib.hid M;replace G:=Lib.hid G;replace HR:=Lib.hid HR;replace K:=Lib.hid K;replace hk2:=Lib.hid hk2;replace hk':=Lib.hid hk';go_wp2_with (at_builtin;go_loud (refine wpList_append_own_at _ (by rfl) (.tmp 30) (.tmp 32) 36 (by rfl) (w.heap.size+3) 49 i0 _ 4 32 Tryz.underlying36 hi hz0 hz1 hz2 (by rfl) oM u13 m.length (m.flatMap encSt) (by rfl) (ow.alloc _) ⟨w5.heap.size,0,none⟩ 1 1 (encSt z') (by rfl) (by rfl) (st_newAt _ _ z' rfl) (st_one _) (maxLen_of oM) oM (alloc_ge hB _) ?_);intro v4 w10 hown4 hgrow _ hat)
   have hge:∀ b,u13.ownBlock=some b→w.heap.size+3≤b:=fun b hb=>(ow.ge b hb).1;have ow4:Own w10 (w.heap.size+3) 49 4 encSt v4 (m++[z']):=by unfold Own;simpa using hown4
   have M4:=(M.out.alloc _).grownO hgrow (fun b hb=>by have:=hge b hb;omega);have G4:=(G.out.alloc _).grownO hgrow (fun b hb=>by have:=hge b hb;omega);have Z4:=(Z5.alloc _).grownO hgrow (fun b hb=>by have:=hge b hb;omega);have HR4:=(HR.out.alloc _).grown hgrow (fun b hb=>by have:=hge b hb;omega);have K4:=(K.out.thenN (Kp.new1 _ _) (Nat.le_refl _)).grown hgrow (by have:=K.out.size;simp;omega) (fun b hb=>by have:=hge b hb;omega)
   exact⟨⟨i+1,m++[z'],z',k2,by congr 1,h,by rw[List.length_append,hml.out];rfl,by
    have:=hh.out;cases m with
    | nil=>cases this
    | cons a r=>simpa using this,ow4,M4,G4,Z4,HR4,by have:=hk2.out;have:=hk'.out;omega,by have:=hgrow.size;simp at this;omega,K4⟩,hm.out⟩
  ·
   obtain rfl:i=n:=by omega
   clear cs hA;obtain⟨A2,cap2,rfl,rd2,hf2⟩:=ow.rd (row:=none) (fun _=>rfl) (fun b hb e=>by cases e);have hcl:=Lib.hid ow.capLe;clear ow M G Z;replace hml:=Lib.hid hml;go_wp2
   exact bodyPost_ret (v:=.slice A2 m.length cap2) (by simp[results,Tryz.results31,go_sem]) rfl ⟨_,k',rfl,⟨A2,cap2,m,rfl,hml.out,hh,rd2,fun ad h=>by have:=(hf2 ad h).1;omega,hcl.out⟩,hk',HR,K⟩
def TrP (W:Wd) (d:Dr) (t:Int) (b:Bx) (n N:Nat) (v:Value) (w':World):Prop:=
 ∃ (A:Option Addr) (cap:Nat) (l:List St) (z:St) (ok:Bool),v=.tuple #[.slice A l.length cap,.bool ok]∧l.length=n+1∧l.head?=some z∧b.has z∧Rd none w' 4 encSt A l.length l∧(ok=true→TruthW W d t l)∧(∀ ad,A=some ad→N≤ad.block)∧l.length≤cap
theorem truth_any (g:Nat) (nums:List Int) (k:Nat) (A:Option Addr) (c:Nat) (W:Wd) (d:Dr) (t:Int) (b:Bx) (n:Nat) (w:World) (HR:RingAt w g nums k) (hk:k≤700000) (hn:n≤900) (hW:W.ok) (hA:WdAt (some g) w A W) (hd:d.ok) (ht:0≤t∧t≤1000) (hb:okBx b=true) :
  Calls Tryz.prog 6 #[.pointer (some ⟨g,0,none⟩),.agg #[.slice A W.bs.length c,W.home],d,t,b,n] w (RPostB g nums (k+8+8 * n) w (TrP W d t b n w.heap.size)):=by
 have hg:=HR.lt;have cs:=fun k w HR hk=>stateIn_any g nums k b w HR hk hb;have ct:=fun k z w HR hk h=>truthOf_any g nums k A c W d t z n w HR hk oM hW h hd ht;have co:=fun B m l w h hr hl=>orbit_Truth_any A c W d t B m l w hW h hd oM hr hl;clear hW hd ht hb;obtain⟨w1,hw1,M,G,X,K,hz⟩:=box3 w 27 #[.slice A W.bs.length c,W.home] 31 d 33 b;replace HR:=HR.kpN K;replace K:=K.wide (some g);go_enter Tryz.func6,Tryz.ntmps6
 go_wp2_with fail
 rw[← hw1];clear hw1;obtain⟨S,hS0,hS1⟩:=cls_of2 (P:=fun w'=>Blk w' _ _ _∧Blk w' _ _ _∧Blk w' _ _ _∧Kp _ _ _ w') w1 ⟨M,G,X,K⟩;try dsimp only at hS0
 have cM:=fun (x:Ev (S 0)) i=>((hS0 _).1 x.h).1.cell i;have cG:=fun (x:Ev (S 0)) i=>((hS0 _).1 x.h).2.1.cell i;have cX:=fun (x:Ev (S 0)) i=>((hS0 _).1 x.h).2.2.1.cell i;replace M:=M.drew;replace G:=G.drew;replace X:=X.drew;replace K:=K.drew;replace HR:=HR.drew;have hevT:=ev_true;refine wro S [(0,0),(1,1),(2,1),(3,0),(4,0),(5,1),(7,0),(6,2),(8,2),(9,0)] [] ((hS0 _).2 ⟨M,G,X,K⟩) ?_;intro _hev;refine oX ?_;refine oL ?_;intro Kc hKc;generalize w1.drew=wd9 at *;go_step;refine(cs k _ HR oM).mono ?_;rintro e w2 ⟨v9,k1,rfl,⟨z,rfl,hzb⟩,hk1,HR9,k⟩;replace M:=M.kq k;replace G:=G.kq k;replace X:=X.kq k;replace K:=K.then_ k (Nat.le_refl _);replace HR:=HR9;clear k HR9;have hzr_w2:=K.size;refine hKc _ _ ((hS0 _).2 ⟨M,G,X,K⟩) ?_;clear hKc Kc;refine oL ?_;intro Kc hKc;go_step;refine(ct k1 z _ HR oM (hA.kp K)).mono ?_;rintro e w3 ⟨v9,k2,rfl,⟨A2,cap2,l,rfl,hll,hlh,rd,hfr,hcl⟩,hk2,HR9,k⟩;replace M:=M.kq k;replace G:=G.kq k;replace X:=X.kq k;replace K:=K.then_ k (Nat.le_refl _);replace HR:=HR9;clear k HR9;have hzr_w3:=K.size;refine hKc _ _ ((hS0 _).2 ⟨M,G,X,K⟩) ?_;clear hKc Kc;refine oX ?_;refine wpOrd_nil ?_;clear hevT _hev;clear cM cG cX hS0 hS1 S;have hfr2:∀ ad,A2=some ad→w.heap.size≤ad.block:=fun ad h=>by have:=hfr ad h;omega
 replace hfr2:=Lib.hid hfr2;replace hcl:=Lib.hid hcl;clear hfr;have cM:=M.cell;have cG:=G.cell;replace hll:=Lib.hid hll;go_wp2_with fail
 refine(co A2 cap2 l _ (hA.kp K).free rd (by have:=hll.out;omega)).mono ?_;rintro e w4 ⟨⟨v,rfl,hv⟩,q⟩;clear cM cG;replace rd:=rd.kpN q;replace HR:=HR.kpN q;replace K:=K.tN q;clear q co cs ct M G X hz;by_cases h:v=-1
 ·
  replace hv:=Lib.hid (hv h);subst h;go_wp2_with fail
  exact bodyPost_ret (v:=.tuple #[.slice A2 l.length cap2,.bool true]) (by simp[results,Tryz.results6,go_sem]) rfl ⟨_,k2,rfl,⟨A2,cap2,l,z,true,rfl,hll.out,hlh,hzb,rd,fun _=>hv.out,hfr2.out,hcl.out⟩,by omega,HR,K⟩
 ·
  go_wp2_with fail
  exact bodyPost_ret (v:=.tuple #[.slice A2 l.length cap2,.bool false]) (by simp[results,Tryz.results6,go_sem,h]) rfl ⟨_,k2,rfl,⟨A2,cap2,l,z,false,rfl,hll.out,hlh,hzb,rd,fun h=>(by cases h),hfr2.out,hcl.out⟩,by omega,HR,K⟩
theorem Rd.flat {α:Type} {row:Option Nat} {w:World} {sz n:Nat} {enc:α→List Value} {ad:Addr} {xs:List α} (h:Rd row w sz enc (some ad) n xs) (he:∀ x,(enc x).length=sz) :
  ∀ j u,(xs.flatMap enc)[j]?=some u→w.cell? (ad.add j)=some u:=by
 intro j u hj;have hlen:=(List.getElem?_eq_some_iff.1 hj).1;rw[flat_len he] at hlen
 have hsz:0<sz:=by
  rcases Nat.eq_zero_or_pos sz with h0|h0
  · subst h0;simp at hlen
  · exact h0
 have hi:j / sz<xs.length:=Nat.div_lt_of_lt_mul (by rw[Nat.mul_comm];exact hlen);have hm:j % sz<sz:=Nat.mod_lt _ hsz;have e:j / sz * sz+j % sz=j:=by rw[Nat.mul_comm];exact Nat.div_add_mod j sz
 obtain⟨b,o,ea,hb,_,hc⟩:=h.2 (by have h9:=h.1;have:0<xs.length:=Nat.lt_of_le_of_lt (Nat.zero_le _) hi;omega);injection ea with ea
 subst ea;rw[← e] at hj ⊢;rw[flat_at he xs _ hi _ hm] at hj;have:=hc (j / sz) hi (j % sz) u hj;rw[Go.WideShapes.add_plain];exact this
structure DInv {α:Type} (p:α→Bool) (xs dk:List α) (i j:Nat):Prop where
 len:dk.length=xs.length
 lt:i<j
 le:j≤xs.length
 low:dk.take i=(xs.take j).filter p
 high:∀ m,j≤m→dk[m]?=xs[m]?
theorem take_filter_succ {α:Type} (p:α→Bool) (xs:List α) (j:Nat) (hj:j<xs.length):(xs.take (j+1)).filter p=if p xs[j]=true then (xs.take j).filter p++[xs[j]] else (xs.take j).filter p:=by
 rw[List.take_succ_eq_append_getElem hj,List.filter_append,List.filter_cons,List.filter_nil];split<;>simp
theorem DInv.keep {α:Type} {p:α→Bool} {xs dk:List α} {i j:Nat} (h:DInv p xs dk i j) (hj:j<xs.length) (hp:p xs[j]=true):DInv p xs (dk.set i xs[j]) (i+1) (j+1):=by
 have hl:=h.len;have hi:=h.lt;refine⟨by rw[List.length_set];exact hl,by omega,by omega,?_,fun m hm=>?_⟩
 ·
  rw[take_filter_succ p xs j hj,if_pos hp,← h.low];have hi2:i<(dk.set i xs[j]).length:=by rw[List.length_set];omega
  rw[List.take_succ_eq_append_getElem hi2,List.getElem_set_self];congr 1
  exact List.take_set_of_le (Nat.le_refl _)
 ·
  rw[List.getElem?_set_ne oM];exact h.high m oM
theorem DInv.skip {α:Type} {p:α→Bool} {xs dk:List α} {i j:Nat} (h:DInv p xs dk i j) (hj:j<xs.length) (hp:p xs[j]=false):DInv p xs dk i (j+1):=
 ⟨h.len,by have:=h.lt;omega,by omega,by rw[take_filter_succ p xs j hj,if_neg (by rw[hp];decide)];exact h.low,fun m hm=>h.high m oM⟩
theorem DInv.start {α:Type} {p:α→Bool} {xs:List α} {k:Nat} (hk:k<xs.length) (hall:∀ j (hj:j<k),p (xs[j]'(by omega))=true) (hp:p xs[k]=false):DInv p xs xs k (k+1):=by
 refine⟨rfl,by omega,by omega,?_,fun m _=>rfl⟩;rw[take_filter_succ p xs k hk,if_neg (by rw[hp];decide),List.filter_eq_self.2];intro x hx;obtain⟨j,hj,rfl⟩:=List.mem_iff_getElem.1 hx;rw[List.length_take] at hj;rw[List.getElem_take];exact hall j oM
theorem DInv.fin {α:Type} {p:α→Bool} {xs dk:List α} {i:Nat} (h:DInv p xs dk i xs.length):dk.take i=xs.filter p∧(xs.filter p).length=i:=by
 have h1:=h.low;rw[List.take_of_length_le (Nat.le_refl _)] at h1;refine⟨h1,?_⟩;rw[← h1,List.length_take,h.len];have:=h.lt;omega
theorem DInv.at_ {α:Type} {p:α→Bool} {xs dk:List α} {i j:Nat} (h:DInv p xs dk i j) (hj:j<xs.length):dk[j]'(by rw[h.len];exact hj)=xs[j]:=by
 have:=h.high j (Nat.le_refl _);rw[List.getElem?_eq_getElem hj,List.getElem?_eq_getElem (by rw[h.len];exact hj)] at this;exact Option.some.inj this
theorem one_boxes (xs:List Bx):∀ u∈xs.flatMap encBx,u.oneCell'=true:=by
 intro u hu;obtain⟨x,-,hu⟩:=List.mem_flatMap.1 hu;exact bx_one x u hu
theorem emptyBoxes (w:World) (B:Nat) (hB:B≤w.heap.size):Own (w.alloc (.cells #[] 33)) B 33 8 encBx (.slice (some ⟨w.heap.size,0,none⟩) 0 0) []:=
 ⟨rfl,.inr ⟨w.heap.size,0,#[],rfl,hB,Blk.new w 33 #[],Nat.le_refl _,Nat.zero_le _,rfl,rfl⟩⟩
def zBx:Bx:=⟨⟨0,0⟩,⟨0,0⟩,⟨0,0⟩,⟨0,0⟩⟩
def putI (w:World) (g o:Nat) (n:Bx):World:=(((((((w.setCell ⟨g,o,none⟩ (.int .i64 n.x.lo)).setCell ⟨g,o+1,none⟩ (.int .i64 n.x.hi)).setCell ⟨g,o+2,none⟩ (.int .i64 n.y.lo)).setCell ⟨g,o+3,none⟩ (.int .i64 n.y.hi)).setCell ⟨g,o+4,none⟩ (.int .i64 n.u.lo)).setCell ⟨g,o+5,none⟩ (.int .i64 n.u.hi)).setCell ⟨g,o+6,none⟩ (.int .i64 n.v.lo)).setCell ⟨g,o+7,none⟩ (.int .i64 n.v.hi)
def ClonePost (l:List Bx) (w:World) (e:Ending) (w':World):Prop:=∃ v,e=.returned v∧Own w' w.heap.size 33 8 encBx v l∧Kp w.heap.size none w w'
theorem cloneBox_any (A:Option Addr) (cap:Nat) (l:List Bx) (w:World) (hr:Rd none w 8 encBx A l.length l) (hn:l.length≤1000000) :
  Calls Tryz.prog 52 #[.slice A l.length cap] w (ClonePost l w):=by
 obtain⟨i0,hi0,hz0,hz1,hz2⟩:=info_parts box_info;have q29:∀ (w:World) (a:Option Addr) (n c n2 c2:Nat),(binOp .eql 55 (.slice a n c) (.slice none n2 c2)).run Tryz.prog w=.ok (.bool a.isNone) w:=fun w a n c n2 c2=>Lib.run_eql_slice_nil w _ _ a n c n2 c2 Tryz.underlying55;cases A with
 | none=>
  have hl0:l=[]:=by
   rcases Nat.eq_zero_or_pos l.length with h1|h1
   · exact List.eq_nil_of_length_eq_zero h1
   ·
    obtain⟨b,o,e,_⟩:=hr.2 h1;cases e
  subst hl0;go_enter Tryz.func52,Tryz.ntmps52
  go_wp2
  go_ret
  exact⟨_,rfl,Own.nil _ _ _ _ _,Kp.refl _ _ _⟩
 | some ad=>
  have hr1:=hr.alloc (.cells #[] 33);have K1:=Kp.new1 w (.cells #[] 33);replace hr:=Lib.hid hr;go_enter Tryz.func52,Tryz.ntmps52
  go_wp2_with (at_builtin;refine wpList_append_own_at _ (by rfl) (.tmp 5) (.tmp 6) 55 (by rfl) w.heap.size 33 i0 _ 8 64 Tryz.underlying55 hi0 hz0 hz1 hz2 (by rfl) oM (.slice (some ⟨w.heap.size,0,none⟩) 0 0) 0 [] (by rfl) (emptyBoxes w w.heap.size (Nat.le_refl _)) ad l.length cap (l.flatMap encBx) (by rfl) (flat_len (enc:=encBx) (sz:=8) (fun _=>rfl) l) (hr1.flat (fun _=>rfl)) (one_boxes l) (maxLen_of oM) oM (alloc_ge (Nat.le_refl _) _) ?_;intro u4 w4 hown gu _ au;clear au)
  go_ret
  refine⟨u4,rfl,?_,K1.grown gu (alloc_ge (Nat.le_refl _) _) (fun b e=>by have e2:w.heap.size=b:=(by simpa [Value.ownBlock] using e);omega)⟩;unfold Own;simpa using hown
def DelPost (B:Nat) (l:List Bx) (w:World) (e:Ending) (w':World):Prop:=
 ∃ A2 cap2,e=.returned (.slice A2 l.length cap2)∧Rd none w' 8 encBx A2 l.length l∧Kp B none w w'∧∀ ad,A2=some ad→B≤ad.block
def DelAt (p:Bx→Bool) (B g:Nat) (cap:Nat) (xs:List Bx) (w:World) (a b:Value) (wr:World):Prop:=
 ∃ (i j:Nat) (dk:List Bx),a=.int .i64 (i:Int)∧b=.int .i64 (j:Int)∧DInv (fun x:Bx=>!p x) xs dk i j∧Own wr B 33 8 encBx (.slice (some ⟨g,0,none⟩) xs.length cap) dk∧Kp B none w wr
def widN (b:Bx):Nat→Nat × Int
 | 0=>(0,-1)
 | n+1=>if (widN b n).2<(getS b n).hi-(getS b n).lo then (n,(getS b n).hi-(getS b n).lo) else widN b n
def cutM (b:Bx):Int:=((getS b (widN b 4).1).lo+(getS b (widN b 4).1).hi) / 2
def cutX (b:Bx):Bx:=setS b (widN b 4).1 ⟨(getS b (widN b 4).1).lo,cutM b⟩
def cutY (b:Bx):Bx:=setS b (widN b 4).1 ⟨cutM b+1,(getS b (widN b 4).1).hi⟩
def WidAt (b:Bx) (w:World) (p q r:Value) (wr:World):Prop:=∃ i:Nat,r=.int .i64 i∧i≤4∧p=.int .i64 (widN b i).1∧q=.int .i64 (widN b i).2∧Kp w.heap.size none w wr
def spans4 (b:Bx):Array Value:=b
def WAt (b:Bx) (sb:Nat) (w:World) (p q:Value) (wr:World):Prop:=
 ∃ i j:Nat,q=.int .i64 i∧p=.int .i64 j∧1≤i∧i≤4∧j<4∧widN b i=(j,(getS b j).hi-(getS b j).lo)∧Blk wr sb 29 (spans4 b)∧Kp w.heap.size none w wr
def splitB (b:Bx):Option (Bx × Bx):=if (widN b 4).2=0 then none else some (cutX b,cutY b)
def splitV:Option (Bx × Bx)→Array Value
 | some p=>#[.agg #[.int .i64 p.1.x.lo,.int .i64 p.1.x.hi,.int .i64 p.1.y.lo,.int .i64 p.1.y.hi,.int .i64 p.1.u.lo,.int .i64 p.1.u.hi,.int .i64 p.1.v.lo,.int .i64 p.1.v.hi],.agg #[.int .i64 p.2.x.lo,.int .i64 p.2.x.hi,.int .i64 p.2.y.lo,.int .i64 p.2.y.hi,.int .i64 p.2.u.lo,.int .i64 p.2.u.hi,.int .i64 p.2.v.lo,.int .i64 p.2.v.hi],.bool true]
 | none=>#[.agg #[(0:Int),(0:Int),(0:Int),(0:Int),(0:Int),(0:Int),(0:Int),(0:Int)],.agg #[(0:Int),(0:Int),(0:Int),(0:Int),(0:Int),(0:Int),(0:Int),(0:Int)],.bool false]
theorem wp_append_own_at {P:Program} {w:World} {o:Oper} {a:Act} {K:Act→World→Prop} {Q:Exit→Act→World→Prop} (s x:Operand) (t:TypeId)
  (ho:o.op=.call { callee:=.builtin .append,args:=#[s,x],argTypes:=#[t,t] })
  (base:Nat) (e:TypeId) (i:TypeInfo) (z:Value) (size bytes:Nat) (ht:P.underlying t=some (.slice e)) (hi:P.info? e=some i) (hz:i.zero=some z)
  (hsize:i.size=size) (hby:i.bytes=bytes) (hzs:z.cells.size=size) (hsz:0<size)
  (v:Value) (n:Nat) (xs:List Value) (hs:a.eval s=v) (hown:w.ownsRow base e size v n xs)
  (ad:Addr) (m c:Nat) (news:List Value) (hx:a.eval x=.slice (some ad) m c) (hl:news.length=m * size) (hnews:∀ j u,news[j]?=some u→w.cell? (ad.add j)=some u) (h1:∀ u∈news,u.oneCell'=true)
  (h63:n+m≤maxLen) (hbytes:(n+m) * bytes≤140737488355328) (hbase:base≤w.heap.size)
  (h:∀ v' w',w'.ownsRow base e size v' (n+m) (xs++news)→w.grownBy w' v.ownBlock→(v'.ownBlock=v.ownBlock∨v'.ownBlock=some w.heap.size)→K (a.put o.dst v') w'):o.wp P a w K Q:=by
 obtain⟨v',w',hr,h2,h3,-,h5⟩:=run_append_own_at (P:=P) w base t o.type e i z size bytes ht hi hz hsize hby hzs hsz v n xs hown ad m c news hl hnews h1 h63 hbytes hbase;unfold Oper.wp execOp;simp only[ho,resolve,invoke,builtin,Sem.run_bind,Sem.run_pure,Result.andThen_ok,List.map_toArray,List.map_cons,List.map_nil,hs,hx,hr];exact h v' w' h2 h3 h5
theorem Rd.blkL {α:Type} {w:World} {b:Nat} {t:TypeId} {sz:Nat} {enc:α→List Value} (xs:List α) (he:∀ x,(enc x).length=sz) {cs:Array Value} (hc:cs.toList=xs.flatMap enc) (hB:Blk w b t cs) (row:Option Nat) (hr:some b≠row) :
  Rd row w sz enc (some ⟨b,0,none⟩) xs.length xs:=by
 refine⟨rfl,fun _=>⟨b,0,rfl,hB.lt,hr,fun i hi j v hv=>?_⟩⟩
 have hj:j<sz:=by
  have:=(List.getElem?_eq_some_iff.1 hv).1;rwa [he] at this
 rw[Nat.zero_add,hB.cell,← Array.getElem?_toList,hc,flat_at he xs i hi j hj];exact hv
theorem Blk.grownX {w w':World} {g:Nat} {t:TypeId} {cs:Array Value} {row:Option Nat} (h:Blk w g t cs) (hg:w.grownBy w' row) (hr:∀ b,row=some b→g≠b):Blk w' g t cs:=
 (hg.block g h.lt fun e=>hr g e.symm rfl).trans h
theorem Own.grownO {α:Type} {w w':World} {B e sz:Nat} {enc:α→List Value} {v:Value} {xs:List α} {row:Option Nat} (h:Own w B e sz enc v xs) (hg:w.grownBy w' row) (hr:∀ b,row=some b→v.ownBlock≠some b):Own w' B e sz enc v xs:=by
 refine World.ownsRow.kept h hg ?_;cases hv:v.ownBlock with
 | none=>exact .inl rfl
 | some b=>exact .inr fun e=>hr b e.symm hv
structure GC where
 v0:Value
 v4:Value
 v8:Value
 v10:Value
 pb:Nat
 st:Nat
 q:Bool
def gc0:GC:=⟨undef,undef,undef,undef,0,0,false⟩
def two (x y:Bx):Array Value:=(.int .i64 x.x.lo::.int .i64 x.x.hi::.int .i64 x.y.lo::.int .i64 x.y.hi::.int .i64 x.u.lo::.int .i64 x.u.hi::.int .i64 x.v.lo::.int .i64 x.v.hi::.int .i64 y.x.lo::.int .i64 y.x.hi::.int .i64 y.y.lo::.int .i64 y.y.hi::.int .i64 y.u.lo::.int .i64 y.u.hi::.int .i64 y.v.lo::.int .i64 y.v.hi::[]:List Value).toArray
structure CB (wb:World) (x y:Bx) (p r:List Bx) (D:Nat→Bool) (γ:GC) (w:World):Prop where
 kp:Kp wb.heap.size none wb w
 f0:D 0=decide (1≤γ.st)
 f4:D 4=decide (2≤γ.st)
 f8:D 8=decide (3≤γ.st)
 f10:D 10=decide (4≤γ.st)
 f7:D 7=γ.q
 r0:γ.st=1→Own w wb.heap.size 33 8 encBx γ.v0 []
 r4:γ.st=2→Own w wb.heap.size 33 8 encBx γ.v4 p
 r8:γ.st=3→Own w wb.heap.size 33 8 encBx γ.v8 (p++[x,y])
 r10:4≤γ.st→Own w wb.heap.size 33 8 encBx γ.v10 (p++[x,y]++r)
 rp:γ.q=true→γ.st≤2→Blk w γ.pb 33 (two x y)∧wb.heap.size≤γ.pb
 a0:γ.q=true→γ.st=1→γ.v0.ownBlock≠some γ.pb
 a4:γ.q=true→γ.st=2→γ.v4.ownBlock≠some γ.pb
section
variable {wb:World} {x y:Bx} {p r:List Bx} {D:Nat→Bool} {γ:GC} {w w':World}
theorem CB.start (K:Kp wb.heap.size none wb w):CB wb x y p r (fun _=>false) gc0 w:=
 ⟨K,rfl,rfl,rfl,rfl,rfl,(by intro h;cases h),(by intro h;cases h),(by intro h;cases h),fun h=>absurd h (by show ¬ 4≤0;omega),(by intro h;cases h),(by intro h;cases h),(by intro h;cases h)⟩
theorem ge1 {n k:Nat} {b:Bool} (h:b=decide (k≤n)) (hb:b=false):n<k:=by subst hb;have:=decide_eq_false_iff_not.1 h.symm;omega
theorem CB.op7 (hD:D 7=false) (hw:w'=w.alloc (.cells (two x y) 33)) (h:CB wb x y p r D γ w):CB wb x y p r (fun j=>j==7||D j) { γ with pb:=w.heap.size,q:=true } w':=by
 subst hw;obtain⟨v0,v4,v8,v10,pb,st,q⟩:=γ;obtain rfl:q=false:=h.f7.symm.trans hD;have hg:w.grownBy (w.alloc (.cells (two x y) 33)) none:=World.grownBy_alloc w _ none
 exact {
  kp:=h.kp.alloc h.kp.size _,f0:=h.f0,f4:=h.f4,f8:=h.f8,f10:=h.f10,f7:=rfl,
  r0:=fun e=>(h.r0 e).grownO hg (fun b e=>by cases e),r4:=fun e=>(h.r4 e).grownO hg (fun b e=>by cases e),r8:=fun e=>(h.r8 e).grownO hg (fun b e=>by cases e),r10:=fun e=>(h.r10 e).grownO hg (fun b e=>by cases e),
  rp:=fun _ _=>⟨Blk.new _ _ _,h.kp.size⟩,
  a0:=fun _ e e2=>Nat.lt_irrefl w.heap.size ((h.r0 e).ge _ e2).2,
  a4:=fun _ e e2=>Nat.lt_irrefl w.heap.size ((h.r4 e).ge _ e2).2 }
theorem CB.op4 {v:Value} (hD:D 4=false) (h0:1≤γ.st) (own:Own w' wb.heap.size 33 8 encBx v p) (hg:w.grownBy w' γ.v0.ownBlock) (hat:v.ownBlock=γ.v0.ownBlock∨v.ownBlock=some w.heap.size) (h:CB wb x y p r D γ w):CB wb x y p r (fun j=>j==4||D j) { γ with v4:=v,st:=2 } w':=by
 have e:=ge1 h.f4 hD;obtain⟨v0,v4,v8,v10,pb,st,q⟩:=γ;obtain rfl:st=1:=by simp only at e h0;omega
 have hge:=fun b e=>((h.r0 rfl).ge b e).1
 exact {
  kp:=h.kp.grown hg h.kp.size hge,f0:=h.f0,f4:=rfl,f8:=h.f8,f10:=h.f10,f7:=h.f7,
  r0:=fun q=>(by cases q),r4:=fun _=>own,r8:=fun q=>(by cases q),r10:=fun q=>(by simp only at q;omega),
  rp:=fun a _=>⟨(h.rp a (by simp)).1.grownX hg (fun b e=>(fun (e2:pb=b)=>h.a0 a rfl (e.trans (congrArg some e2.symm)))),(h.rp a (by simp)).2⟩,
  a0:=fun _ q=>(by cases q),
  a4:=fun a _ e=>by
   rcases hat with k|k
   · exact h.a0 a rfl (k ▸ e)
   ·
    have:=(h.rp a (by simp)).1.lt;have e2:some w.heap.size=some pb:=k ▸ e;injection e2 with e2
    simp only at this;omega }
end
end Go.Proofs.YtdhiappifnflpaaGreatDoor
