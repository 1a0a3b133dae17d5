/- Rows of one's own: theory. Orbits: the walks of orbit, third part: boxes. Regions that draw their order, whose allocs are not ordered: what is at hand of a block that may be there. -/
import Derived.Test.YtdhiappifnflpaaGreatM18
import Derived.Lib.SliceRun
import Derived.Maps.AppendAt
import Derived.Test.YtdhiappifnflpaaGreatM17
import Derived.Test.YtdhiappifnflpaaGreatM11
namespace Go.Proofs.YtdhiappifnflpaaGreat
open Go.RowKit
theorem Own.rd0 {α:Type} {w:World} {B e sz:Nat} {enc:α→List Value} {v:Value} {xs:List α} (h:Own w B e sz enc v xs) (he:∀ x,(enc x).length=sz) :
  ∃ A cap,v=.slice A xs.length cap∧Rd none w sz enc A xs.length xs∧((A=none∧xs=[]∧cap=0)∨∃ g,A=some ⟨g,0,none⟩∧B≤g∧g<w.heap.size∧xs.length≤cap):=by
 obtain⟨A,cap,hv,hr,-⟩:=h.rd (row:=none) he (fun b hb=>by simp);refine⟨A,cap,hv,hr,?_⟩;rcases h.2 with⟨h1,h2⟩|⟨g,cap',cur,h1,h2,h3,h4,-⟩
 ·
  rw[hv] at h1;simp only[Value.slice.injEq] at h1;exact .inl ⟨h1.1,List.eq_nil_of_length_eq_zero h2,h1.2.2⟩
 ·
  rw[hv] at h1;simp only[Value.slice.injEq] at h1;obtain⟨rfl,-,rfl⟩:=h1;exact .inr ⟨g,rfl,h2,(Array.getElem?_eq_some_iff.1 h3).1,h4⟩
theorem grown_trans {w w1 w2:World} {row:Option Nat} (h:w.grownBy w1 row) (k:w1.grownBy w2 row):w.grownBy w2 row:=
 ⟨k.os.trans h.os,k.tape.trans h.tape,k.output.trans h.output,Nat.le_trans h.size k.size,fun i hi hne=>(k.block i (Nat.lt_of_lt_of_le hi h.size) hne).trans (h.block i hi hne)⟩
theorem grown_set (w:World) (g o:Nat) (u:Value):w.grownBy (w.setCell ⟨g,o,none⟩ u) (some g):=
 ⟨rfl,rfl,rfl,by simp[World.setCell],fun i _ hne=>Below.heap_setCell _ _ _ _ (fun e=>hne (by rw[e]))⟩
theorem flat_set {α:Type} {enc:α→List Value} {sz:Nat} (he:∀ x,(enc x).length=sz) (u:Value):∀ (xs:List α) (i:Nat) (hi:i<xs.length) (j:Nat) (y:α),j<sz→enc y=(enc xs[i]).set j u→(xs.flatMap enc).set (i * sz+j) u=(xs.set i y).flatMap enc
 | x::xs,0,_,j,y,hj,e=>by
  rw[List.flatMap_cons,List.set_append_left _ _ (by rw[he];omega)];simp only[List.set_cons_zero,List.flatMap_cons];rw[e];simp
 | x::xs,i+1,hi,j,y,hj,e=>by
  rw[List.flatMap_cons,List.set_append_right _ _ (by rw[he,Nat.succ_mul];omega),he,Nat.succ_mul];rw[show i * sz+sz+j-sz=i * sz+j from by omega];simp only[List.set_cons_succ,List.flatMap_cons];rw[flat_set he u xs i (by simpa using hi) j y hj (by simpa using e)]
theorem Own.setAt {α:Type} {w:World} {B e sz n cap g:Nat} {enc:α→List Value} {xs:List α} (he:∀ x,(enc x).length=sz) (h:Own w B e sz enc (.slice (some ⟨g,0,none⟩) n cap) xs) (i:Nat) (hi:i<xs.length) (j:Nat) (hj:j<sz) (u:Value) (y:α) (hy:enc y=(enc xs[i]).set j u) :
  Own (w.setCell ⟨g,i * sz+j,none⟩ u) B e sz enc (.slice (some ⟨g,0,none⟩) n cap) (xs.set i y)∧w.grownBy (w.setCell ⟨g,i * sz+j,none⟩ u) (some g):=by
 unfold Own at h ⊢
 have hn:n=xs.length:=by
  rcases h.2 with⟨h1,_⟩|⟨g',cap',cur,h1,_⟩
  · cases h1
  · simp only[Value.slice.injEq] at h1;exact h1.2.1
 subst hn;have:=World.ownsRow.stored h (i * sz+j) u;rw[flat_set he u xs i hi j y hj hy] at this;rw[List.length_set];exact this
theorem Own.frz {α:Type} {w:World} {B e sz g n cap:Nat} {enc:α→List Value} {xs:List α} (h:Own w B e sz enc (.slice (some ⟨g,0,none⟩) n cap) xs) (he:∀ x,(enc x).length=sz) (j:Nat):w.frozen? ⟨g,j,none⟩=false:=by
 obtain⟨A,cap',e,rd,-⟩:=h.rd0 he;simp only[Value.slice.injEq] at e;obtain⟨rfl,rfl,rfl⟩:=e;exact World.ownsRow.frozenAt h j
theorem Rd.flat {α:Type} {row:Option Nat} {w:World} {sz n:Nat} {enc:α→List Value} {ad:Addr} {xs:List α} (h:Rd row w sz enc (some ad) n xs) (he:∀ x,(enc x).length=sz) :
  ∀ j u,(xs.flatMap enc)[j]?=some u→w.cell? (ad.add j)=some u:=by
 intro j u hj;have hlen:=(List.getElem?_eq_some_iff.1 hj).1;rw[flat_len he] at hlen
 have hsz:0<sz:=by
  rcases Nat.eq_zero_or_pos sz with h0|h0
  · subst h0;simp at hlen
  · exact h0
 have hi:j / sz<xs.length:=Nat.div_lt_of_lt_mul (by rw[Nat.mul_comm];exact hlen);have hm:j % sz<sz:=Nat.mod_lt _ hsz;have e:j / sz * sz+j % sz=j:=by rw[Nat.mul_comm];exact Nat.div_add_mod j sz
 obtain⟨b,o,ea,hb,_,hc⟩:=h.2 (by have h9:=h.1;have:0<xs.length:=Nat.lt_of_le_of_lt (Nat.zero_le _) hi;omega);injection ea with ea
 subst ea;rw[← e] at hj ⊢;rw[flat_at he xs _ hi _ hm] at hj;have:=hc (j / sz) hi (j % sz) u hj;rw[Go.WideShapes.add_plain];exact this
theorem run_clear_rows {P:Program} (w:World) (t e ty:TypeId) (z:Value) (sz:Nat) (ht:P.underlying t=some (.slice e)) (hv:∀ w,(zeroValue e).run P w=.ok z w) (hz:z.cells.size=sz) (h1:∀ i (hi:i<z.cells.size),z.cells[i].oneCell'=true) (b o n c:Nat) (hn:0<n)
  (hc:∀ j,j<n * sz→(w.cell? ⟨b,o+j,none⟩).isSome=true) (hf:∀ j,j<n * sz→w.frozen? ⟨b,o+j,none⟩=false) :
  (Builtin.clear_ #[t] ty #[.slice (some ⟨b,o,none⟩) n c]).run P w=.ok (.tuple #[]) (w.setCells b o (Builtin.zeroCells z.cells n).toList):=by
 have hlen:(Builtin.zeroCells z.cells n).toList.length=n * sz:=by simp[Builtin.zeroCells,hz]
 have hone:∀ v∈(Builtin.zeroCells z.cells n).toList,v.oneCell'=true:=by
  intro v hv;simp only[Builtin.zeroCells,Array.toList_map,List.mem_map] at hv;obtain⟨i,hi,rfl⟩:=hv;have hi2:i<n * z.cells.size:=by simpa using hi
  have h0:0<z.cells.size:=by
   rcases Nat.eq_zero_or_pos z.cells.size with h|h
   · rw[h] at hi2;omega
   · exact h
  have hm:=Nat.mod_lt i h0;rw[getElem!_pos z.cells _ hm];exact h1 _ hm
 have hst:=run_storeCells_cells (P:=P) b o (Builtin.zeroCells z.cells n).toList 0 w (by rw[hlen];simpa using hc) (by rw[hlen];simpa using hf) hone;simp only[Nat.add_zero] at hst;obtain⟨m,rfl⟩:∃ m,n=m+1:=⟨n-1,by omega⟩;simp[Builtin.clear_,run_underlying ht,hv,hst]
theorem kp_setCells {B b:Nat} (hb:B≤b) {w0:World}:∀ (vs:List Value) (o:Nat) {w:World},Kp B none w0 w→Kp B none w0 (w.setCells b o vs)
 | [],_,_,k=>k
 | v::vs,o,w,k=>kp_setCells hb vs (o+1) (k.setNew (p:=⟨b,o,none⟩) hb v)
theorem size_setCells (b:Nat):∀ (vs:List Value) (o:Nat) (w:World),w.heap.size≤(w.setCells b o vs).heap.size
 | [],_,_=>Nat.le_refl _
 | v::vs,o,w=>Nat.le_trans (by simp[World.setCell]) (size_setCells b vs (o+1) (w.setCell ⟨b,o,none⟩ v))
structure DInv {α:Type} (p:α→Bool) (xs dk:List α) (i j:Nat):Prop where
 len:dk.length=xs.length
 lt:i<j
 le:j≤xs.length
 low:dk.take i=(xs.take j).filter p
 high:∀ m,j≤m→dk[m]?=xs[m]?
theorem take_filter_succ {α:Type} (p:α→Bool) (xs:List α) (j:Nat) (hj:j<xs.length):(xs.take (j+1)).filter p=if p xs[j]=true then (xs.take j).filter p++[xs[j]] else (xs.take j).filter p:=by
 rw[List.take_succ_eq_append_getElem hj,List.filter_append,List.filter_cons,List.filter_nil];split<;>simp
theorem DInv.keep {α:Type} {p:α→Bool} {xs dk:List α} {i j:Nat} (h:DInv p xs dk i j) (hj:j<xs.length) (hp:p xs[j]=true):DInv p xs (dk.set i xs[j]) (i+1) (j+1):=by
 have hl:=h.len;have hi:=h.lt;refine⟨by rw[List.length_set];exact hl,by omega,by omega,?_,fun m hm=>?_⟩
 ·
  rw[take_filter_succ p xs j hj,if_pos hp,← h.low];have hi2:i<(dk.set i xs[j]).length:=by rw[List.length_set];omega
  rw[List.take_succ_eq_append_getElem hi2,List.getElem_set_self];congr 1
  exact List.take_set_of_le (Nat.le_refl _)
 ·
  rw[List.getElem?_set_ne (by omega)];exact h.high m (by omega)
theorem DInv.skip {α:Type} {p:α→Bool} {xs dk:List α} {i j:Nat} (h:DInv p xs dk i j) (hj:j<xs.length) (hp:p xs[j]=false):DInv p xs dk i (j+1):=
 ⟨h.len,by have:=h.lt;omega,by omega,by rw[take_filter_succ p xs j hj,if_neg (by rw[hp];decide)];exact h.low,fun m hm=>h.high m (by omega)⟩
theorem DInv.start {α:Type} {p:α→Bool} {xs:List α} {k:Nat} (hk:k<xs.length) (hall:∀ j (hj:j<k),p (xs[j]'(by omega))=true) (hp:p xs[k]=false):DInv p xs xs k (k+1):=by
 refine⟨rfl,by omega,by omega,?_,fun m _=>rfl⟩;rw[take_filter_succ p xs k hk,if_neg (by rw[hp];decide),List.filter_eq_self.2];intro x hx;obtain⟨j,hj,rfl⟩:=List.mem_iff_getElem.1 hx;rw[List.length_take] at hj;rw[List.getElem_take];exact hall j (by omega)
theorem DInv.fin {α:Type} {p:α→Bool} {xs dk:List α} {i:Nat} (h:DInv p xs dk i xs.length):dk.take i=xs.filter p∧(xs.filter p).length=i:=by
 have h1:=h.low;rw[List.take_of_length_le (Nat.le_refl _)] at h1;refine⟨h1,?_⟩;rw[← h1,List.length_take,h.len];have:=h.lt;omega
theorem DInv.at_ {α:Type} {p:α→Bool} {xs dk:List α} {i j:Nat} (h:DInv p xs dk i j) (hj:j<xs.length):dk[j]'(by rw[h.len];exact hj)=xs[j]:=by
 have:=h.high j (Nat.le_refl _);rw[List.getElem?_eq_getElem hj,List.getElem?_eq_getElem (by rw[h.len];exact hj)] at this;exact Option.some.inj this
def spansC (b:Bx):Array Value:=#[.int .i64 b.x.lo,.int .i64 b.x.hi,.int .i64 b.y.lo,.int .i64 b.y.hi,.int .i64 b.u.lo,.int .i64 b.u.hi,.int .i64 b.v.lo,.int .i64 b.v.hi]
theorem orbit_of_any (b:Bx) (w:World) :
  Calls Tryz.prog 92 #[.agg #[.int .i64 b.x.lo,.int .i64 b.x.hi,.int .i64 b.y.lo,.int .i64 b.y.hi,.int .i64 b.u.lo,.int .i64 b.u.hi,.int .i64 b.v.lo,.int .i64 b.v.hi]] w fun e w'=>e=.returned (.agg (spansC b))∧Kp w.heap.size none w w':=by
 go_enter Tryz.func92,Tryz.ntmps92
 go_wp2_with fail
 exact bodyPost_ret (by simp[results,Tryz.results92,go_sem];rfl) rfl ⟨rfl,Kp.new2 _ _ _⟩
theorem index4s_0 (a0 a1 a2 a3 a4 a5 a6 a7:Int) (w:World):(Instr.index 171 (.agg #[.int .i64 a0,.int .i64 a1,.int .i64 a2,.int .i64 a3,.int .i64 a4,.int .i64 a5,.int .i64 a6,.int .i64 a7]) (.int .i64 0)).run Tryz.prog w=.ok (.agg #[.int .i64 a0,.int .i64 a1]) w:=by kernel_rfl
theorem index4s_1 (a0 a1 a2 a3 a4 a5 a6 a7:Int) (w:World):(Instr.index 171 (.agg #[.int .i64 a0,.int .i64 a1,.int .i64 a2,.int .i64 a3,.int .i64 a4,.int .i64 a5,.int .i64 a6,.int .i64 a7]) (.int .i64 1)).run Tryz.prog w=.ok (.agg #[.int .i64 a2,.int .i64 a3]) w:=by kernel_rfl
theorem index4s_2 (a0 a1 a2 a3 a4 a5 a6 a7:Int) (w:World):(Instr.index 171 (.agg #[.int .i64 a0,.int .i64 a1,.int .i64 a2,.int .i64 a3,.int .i64 a4,.int .i64 a5,.int .i64 a6,.int .i64 a7]) (.int .i64 2)).run Tryz.prog w=.ok (.agg #[.int .i64 a4,.int .i64 a5]) w:=by kernel_rfl
theorem index4s_3 (a0 a1 a2 a3 a4 a5 a6 a7:Int) (w:World):(Instr.index 171 (.agg #[.int .i64 a0,.int .i64 a1,.int .i64 a2,.int .i64 a3,.int .i64 a4,.int .i64 a5,.int .i64 a6,.int .i64 a7]) (.int .i64 3)).run Tryz.prog w=.ok (.agg #[.int .i64 a6,.int .i64 a7]) w:=by kernel_rfl
def errBx (b:Bx):Int:=if okBx b=true then 0 else 2
def ordN (b:Bx) (i:Nat):Prop:=(0<i→b.x.lo≤b.x.hi)∧(1<i→b.y.lo≤b.y.hi)∧(2<i→b.u.lo≤b.u.hi)∧(3<i→b.v.lo≤b.v.hi)
theorem errBx_two {b:Bx} (h:¬ (b.x.lo≤b.x.hi∧b.y.lo≤b.y.hi∧b.u.lo≤b.u.hi∧b.v.lo≤b.v.hi)):errBx b=2:=by
 unfold errBx okBx Bx.ord;rw[decide_eq_false h];rfl
theorem errBx_ord {b:Bx} (h:ordN b 4):errBx b=if (okSt b.los&&okSt b.his)=true then 0 else 2:=by
 unfold errBx okBx Bx.ord;rw[decide_eq_true ⟨h.1 (by omega),h.2.1 (by omega),h.2.2.1 (by omega),h.2.2.2 (by omega)⟩];rfl
set_option maxHeartbeats 2000000 in
theorem orbit_Check_any (b:Bx) (w:World) :
  Calls Tryz.prog 84 #[.agg #[.int .i64 b.x.lo,.int .i64 b.x.hi,.int .i64 b.y.lo,.int .i64 b.y.hi,.int .i64 b.u.lo,.int .i64 b.u.hi,.int .i64 b.v.lo,.int .i64 b.v.hi]] w fun e w'=>e=.returned (.int .i64 (errBx b))∧Kp w.heap.size none w w':=by
 have co:=fun w=>orbit_of_any b w;unfold spansC at co;have i0:=index4s_0;have i1:=index4s_1;have i2:=index4s_2;have i3:=index4s_3;obtain⟨r,hr⟩:∃ q9,Hid (q9=errBx b):=⟨_,Lib.hid rfl⟩;rw[← hr.out];obtain⟨w1,hw1,B,K,hz⟩:=box1 w 33 #[.int .i64 b.x.lo,.int .i64 b.x.hi,.int .i64 b.y.lo,.int .i64 b.y.hi,.int .i64 b.u.lo,.int .i64 b.u.hi,.int .i64 b.v.lo,.int .i64 b.v.hi];go_enter Tryz.func84,Tryz.ntmps84
 go_wp2_with fail
 rw[← hw1];clear hw1;refine(co _).mono ?_;rintro e w2 ⟨rfl,k⟩;replace B:=B.kpN k;replace K:=K.tN k;have hzk:=k.size;clear k;have cB:=B.cell;have fB:=B.frozen;go_wp2_with fail
 clear cB fB;go_loopw [7] (fun v wr=>∃ i:Nat,v=.int .i64 i∧i≤4∧ordN b i∧Blk wr w.heap.size 33 #[.int .i64 b.x.lo,.int .i64 b.x.hi,.int .i64 b.y.lo,.int .i64 b.y.hi,.int .i64 b.u.lo,.int .i64 b.u.hi,.int .i64 b.v.lo,.int .i64 b.v.hi]∧Kp w.heap.size none w wr) (fun v _=>4-(intOf v).toNat)
 case atStart=>exact⟨0,rfl,by omega,⟨fun h=>by omega,fun h=>by omega,fun h=>by omega,fun h=>by omega⟩,B,K⟩
 case round=>
  obtain⟨i,rfl,hi,ho,B1,KK⟩:=hrel;clear K B co;unfold ordN at ho;have hi':i=0∨i=1∨i=2∨i=3∨i=4:=by omega
  rcases hi' with rfl|hi'
  ·
   rw[show ((0:Nat):Int)=(0:Int) from rfl];by_cases h:b.x.hi<b.x.lo
   ·
    have hr2:r=2:=by rw[hr.out];exact errBx_two (by omega)
    clear ho hi hr;subst hr2;go_wp2
    go_ret
    exact⟨rfl,KK.thenN (Kp.new1 _ _) (Nat.le_refl _)⟩
   ·
    have hn:ordN b (0+1):=by unfold ordN;omega
    clear ho hi;have hn:=Lib.hid hn;go_wp2
    go_roundw
    case rel=>exact⟨0+1,rfl,by omega,hn.out,B1.kpN (Kp.new1 _ _),KK.thenN (Kp.new1 _ _) (Nat.le_refl _)⟩
    case measure=>simp[intOf]
  rcases hi' with rfl|hi'
  ·
   rw[show ((1:Nat):Int)=(1:Int) from rfl];by_cases h:b.y.hi<b.y.lo
   ·
    have hr2:r=2:=by rw[hr.out];exact errBx_two (by omega)
    clear ho hi hr;subst hr2;go_wp2
    go_ret
    exact⟨rfl,KK.thenN (Kp.new1 _ _) (Nat.le_refl _)⟩
   ·
    have hn:ordN b (1+1):=by unfold ordN;omega
    clear ho hi;have hn:=Lib.hid hn;go_wp2
    go_roundw
    case rel=>exact⟨1+1,rfl,by omega,hn.out,B1.kpN (Kp.new1 _ _),KK.thenN (Kp.new1 _ _) (Nat.le_refl _)⟩
    case measure=>simp[intOf]
  rcases hi' with rfl|hi'
  ·
   rw[show ((2:Nat):Int)=(2:Int) from rfl];by_cases h:b.u.hi<b.u.lo
   ·
    have hr2:r=2:=by rw[hr.out];exact errBx_two (by omega)
    clear ho hi hr;subst hr2;go_wp2
    go_ret
    exact⟨rfl,KK.thenN (Kp.new1 _ _) (Nat.le_refl _)⟩
   ·
    have hn:ordN b (2+1):=by unfold ordN;omega
    clear ho hi;have hn:=Lib.hid hn;go_wp2
    go_roundw
    case rel=>exact⟨2+1,rfl,by omega,hn.out,B1.kpN (Kp.new1 _ _),KK.thenN (Kp.new1 _ _) (Nat.le_refl _)⟩
    case measure=>simp[intOf]
  rcases hi' with rfl|hi'
  ·
   rw[show ((3:Nat):Int)=(3:Int) from rfl];by_cases h:b.v.hi<b.v.lo
   ·
    have hr2:r=2:=by rw[hr.out];exact errBx_two (by omega)
    clear ho hi hr;subst hr2;go_wp2
    go_ret
    exact⟨rfl,KK.thenN (Kp.new1 _ _) (Nat.le_refl _)⟩
   ·
    have hn:ordN b (3+1):=by unfold ordN;omega
    clear ho hi;have hn:=Lib.hid hn;go_wp2
    go_roundw
    case rel=>exact⟨3+1,rfl,by omega,hn.out,B1.kpN (Kp.new1 _ _),KK.thenN (Kp.new1 _ _) (Nat.le_refl _)⟩
    case measure=>simp[intOf]
  subst hi';have hr2:r=if (okSt b.los&&okSt b.his)=true then 0 else 2:=by rw[hr.out];exact errBx_ord ho
  clear hr ho hi i0 i1 i2 i3;have c1:=fun w=>orbit_CheckState_any b.los w;have c2:=fun w=>orbit_CheckState_any b.his w;unfold errSt at c1 c2;generalize okSt b.los=x1 at *;generalize okSt b.his=x2 at *;simp only[Bx.los,Bx.his] at c1 c2;have B:=B1;have K:=KK;clear B1 KK;have m1:r=max (if x1=true then (0:Int) else 2) (if x2=true then (0:Int) else 2):=by rw[hr2];cases x1<;>cases x2<;>rfl
  clear hr2;generalize (if x1=true then (0:Int) else 2)=r1 at *;generalize (if x2=true then (0:Int) else 2)=r2 at *;replace m1:=Lib.hid m1;go_wp2_with fail
  obtain⟨S,hS0,hS1⟩:=cls_of2 (P:=fun w'=>Blk w' _ _ _∧Kp _ _ _ w') wr ⟨B,K⟩;try dsimp only at hS0
  have cB:=fun (x:Ev (S 0)) i=>((hS0 _).1 x.h).1.cell i;replace B:=B.drew;replace K:=K.drew;have hevT:=ev_true;refine wp_region_ord S [(0,0),(1,0),(2,1),(3,0),(4,0),(5,1),(6,0),(7,0),(8,1),(9,0),(10,0),(11,1),(12,0),(14,0),(15,0),(16,1),(17,0),(18,0),(19,1),(20,0),(21,0),(22,1),(23,0),(24,0),(25,1),(26,0),(13,2),(27,2),(28,0),(29,0)] [] (by kernel_rfl) (by kernel_rfl) ((hS0 _).2 ⟨B,K⟩) ?_;intro _hev;iterate 26 (first|((first|refine oV ?_|refine oQ ?_);intro K hK;go_big_quiet_op;go_big_quiet_on)|refine oS ?_)
  refine oL ?_;intro Kc hKc;generalize wr.drew=wd9 at *;go_step;refine(c1 _).mono ?_;rintro e w3 ⟨rfl,k⟩;replace B:=B.kpN k;replace K:=K.tN k;clear k;refine hKc _ _ ((hS0 _).2 ⟨B,K⟩) ?_;clear hKc Kc;refine oL ?_;intro Kc hKc;go_step;refine(c2 _).mono ?_;rintro e w4 ⟨rfl,k⟩;replace B:=B.kpN k;replace K:=K.tN k;clear k;refine hKc _ _ ((hS0 _).2 ⟨B,K⟩) ?_;clear hKc Kc;iterate 2 (first|((first|refine oV ?_|refine oQ ?_);intro K hK;go_big_quiet_op;go_big_quiet_on)|refine oS ?_)
  refine wpOrd_nil ?_;clear hevT _hev;clear cB hS0 hS1 S;go_wp2
  rw[m1.out];go_ret
  exact⟨rfl,K⟩
theorem orbit_add_any (a b:Sp) (h1:wrap64 (a.lo+b.lo)=a.lo+b.lo) (h2:wrap64 (a.hi+b.hi)=a.hi+b.hi) (w:World) :
  Calls Tryz.prog 177 #[.agg #[.int .i64 a.lo,.int .i64 a.hi],.agg #[.int .i64 b.lo,.int .i64 b.hi]] w fun e w'=>e=.returned (.agg #[.int .i64 (addS a b).lo,.int .i64 (addS a b).hi])∧Kp w.heap.size none w w':=by
 go_enter Tryz.func177,Tryz.ntmps177
 go_wp2_with fail
 exact bodyPost_ret (by simp[results,Tryz.results177,go_sem];exact⟨rfl,rfl⟩) rfl ⟨rfl,(Kp.new2 _ _ _).alloc (by simp;omega) _⟩
structure GF where
 n1:Nat
 n2:Nat
 c1:Bool
 c2:Bool
 s1:Bool
 s2:Bool
def FreeB (T:TypeId) (n:Nat) (c:Bool) (base:Nat) (cells:Array Value) (w:World):Prop:=c=true→Blk w n T cells∧base≤n
theorem FreeB.kpN {T:TypeId} {n:Nat} {c:Bool} {base:Nat} {cells:Array Value} {w w':World} (h:FreeB T n c base cells w) (k:Kp w.heap.size none w w'):FreeB T n c base cells w':=fun e=>⟨(h e).1.kpN k,(h e).2⟩
end Go.Proofs.YtdhiappifnflpaaGreat
