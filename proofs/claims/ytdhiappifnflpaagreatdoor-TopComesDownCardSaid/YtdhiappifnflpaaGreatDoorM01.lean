/- The shelf's contract of math/bits.Mul64 at this dump (as the kit's lay-shelf.mjs and lay-plain.mjs write it). Words for memory: what a step of the walk leaves of the heap; slices that read as lists; a block known whole; one class of worlds for a region that draws its order. Plain lemmas, no program. -/
import Derived.Shelf.Small.Bits
import Derived.Shelf.Bits.Mul64
import Derived.Test.YtdhiappifnflpaaGreatDoorProg
import Derived.WalkKit
import Derived.WalkSpells
import Derived.WalkLawsBesides
import Derived.Deep.QuietTactic
import Derived.BigQuiet
import Derived.Deep.AppendLies
import Derived.Maps.AppendAt
import Derived.Deep.Draws
import Derived.Lib.Hide
import Derived.Laws.BitsAllLaws
import Derived.Lib.ItoaNum
namespace Go.Proofs
open Go.Shelf
def Tryz.lays264_ren:Go.Shelf.Ren:=⟨fun|264=>150|n=>n,fun|53=>157|46=>124|n=>n,fun|n=>n⟩
theorem Tryz.lays264:Go.Proofs.Lays.n264 Tryz.prog Tryz.lays264_ren:={
 mixed:=by kernel_rfl
 f264:=Tryz.func150.trans (congrArg some (by kernel_rfl))
 t46:=Tryz.underlying124
 a46:=Tryz.isAgg124
 z46:=Tryz.sizeOf124
 v46:=Tryz.zeroValue124
 t53:=Tryz.underlying157
 a53:=Tryz.isAgg157
 z53:=Tryz.sizeOf157
 v53:=Tryz.zeroValue157 }
def Tryz.lays134_ren:Go.Shelf.Ren:=⟨fun|134=>151|129=>170|n=>n,fun|53=>157|3=>3|4=>4|46=>124|5=>5|9=>9|n=>n,fun|n=>n⟩
theorem Tryz.lays134:Go.Proofs.Lays.n134 Tryz.prog Tryz.lays134_ren:={
 mixed:=by kernel_rfl
 f129:=Tryz.func170.trans (congrArg some (by kernel_rfl))
 f134:=Tryz.func151.trans (congrArg some (by kernel_rfl))
 t3:=Tryz.underlying3
 a3:=Tryz.isAgg3
 z3:=Tryz.sizeOf3
 v3:=Tryz.zeroValue3
 t4:=Tryz.underlying4
 a4:=Tryz.isAgg4
 z4:=Tryz.sizeOf4
 v4:=Tryz.zeroValue4
 t5:=Tryz.underlying5
 a5:=Tryz.isAgg5
 z5:=Tryz.sizeOf5
 v5:=Tryz.zeroValue5
 t9:=Tryz.underlying9
 a9:=Tryz.isAgg9
 z9:=Tryz.sizeOf9
 v9:=Tryz.zeroValue9
 t46:=Tryz.underlying124
 a46:=Tryz.isAgg124
 z46:=Tryz.sizeOf124
 v46:=Tryz.zeroValue124
 t53:=Tryz.underlying157
 a53:=Tryz.isAgg157
 z53:=Tryz.sizeOf157
 v53:=Tryz.zeroValue157 }
theorem Tryz.bits_LeadingZeros64 (x:Int) (w:World) (h0:0≤x) (h1:x≤18446744073709551615) :
 Calls Tryz.prog 151 #[.int .u64 x] w fun e w'=>e=.returned (.int .i64 (64-(Lib.bitLen x.toNat:Int)))∧w'=w:=Any.bits_LeadingZeros64 Tryz.lays134 x w h0 h1
def Tryz.lays129_ren:Go.Shelf.Ren:=⟨fun|129=>170|n=>n,fun|53=>157|3=>3|4=>4|46=>124|5=>5|9=>9|n=>n,fun|n=>n⟩
open Go.RowKit Go.Lib in
theorem Tryz.bits_Mul64 (x y:Nat) (hx:x<18446744073709551616) (hy:y<18446744073709551616) (w:World) :
 Calls Tryz.prog 150 #[.int .u64 x,.int .u64 y] w fun e w'=>e=.returned (.tuple #[.int .u64 ((x * y / 18446744073709551616:Nat):Int),.int .u64 ((x * y % 18446744073709551616:Nat):Int)])∧w'=w:=Any.bits_Mul64 Tryz.lays264 x y hx hy w
end Go.Proofs
namespace Go.Proofs.YtdhiappifnflpaaGreatDoor
open Go.RowKit
instance:Coe Int Value:=⟨fun n=>.int .i64 n⟩
instance:Coe Nat Value:=⟨fun n=>.int .i64 n⟩
theorem sne {a b:Nat} (h:a≠b):some a≠some b:=fun e=>h (by injection e)
structure Kp (B:Nat) (row:Option Nat) (w w':World):Prop where
 os:w'.os=w.os
 tape:w'.tape=w.tape
 output:w'.output=w.output
 size:w.heap.size≤w'.heap.size
 block:∀ k,k<B→some k≠row→w'.heap[k]?=w.heap[k]?
section
variable {B B':Nat} {row:Option Nat} {w w' w1 w2:World}
theorem Kp.refl (B:Nat) (row:Option Nat) (w:World):Kp B row w w:=⟨rfl,rfl,rfl,Nat.le_refl _,fun _ _ _=>rfl⟩
theorem Kp.trans (h:Kp B row w w1) (k:Kp B row w1 w2):Kp B row w w2:=
 ⟨k.os.trans h.os,k.tape.trans h.tape,k.output.trans h.output,Nat.le_trans h.size k.size,fun i hi hn=>(k.block i hi hn).trans (h.block i hi hn)⟩
theorem Kp.mono (h:Kp B row w w') (hB:B'≤B):Kp B' row w w':=⟨h.os,h.tape,h.output,h.size,fun k hk=>h.block k (Nat.lt_of_lt_of_le hk hB)⟩
theorem Kp.wide (h:Kp B none w w') (row:Option Nat):Kp B row w w':=⟨h.os,h.tape,h.output,h.size,fun k hk _=>h.block k hk (by simp)⟩
theorem Kp.then_ (h:Kp B row w w1) (k:Kp w1.heap.size row w1 w2) (hB:B≤w.heap.size):Kp B row w w2:=h.trans (k.mono (Nat.le_trans hB h.size))
theorem Kp.thenN (h:Kp B row w w1) (k:Kp w1.heap.size none w1 w2) (hB:B≤w.heap.size):Kp B row w w2:=h.then_ (k.wide row) hB
theorem Kp.thenOwn {b:Nat} (h:Kp B row w w1) (k:Kp w1.heap.size (some b) w1 w2) (hB:B≤w.heap.size) (hb:B≤b):Kp B row w w2:=
 h.trans ⟨k.os,k.tape,k.output,k.size,fun i hi _=>k.block i (by have:=h.size;omega) (fun e=>by injection e with e;omega)⟩
theorem Kp.drew (h:Kp B row w w'):Kp B row w w'.drew:=⟨h.os,h.tape,h.output,h.size,h.block⟩
theorem Kp.drewN (h:Kp B row w w') (n:Nat):Kp B row w (w'.drewN n):=⟨h.os,h.tape,h.output,h.size,h.block⟩
theorem Kp.alloc (h:Kp B row w w') (hB:B≤w'.heap.size) (o:Obj):Kp B row w (w'.alloc o):=
 h.trans ⟨rfl,rfl,rfl,by simp,fun k hk _=>Below.heap_alloc _ _ _ (by omega)⟩
theorem Kp.setNew (h:Kp B row w w') {p:Addr} (hp:B≤p.block) (u:Value):Kp B row w (w'.setCell p u):=
 h.trans ⟨rfl,rfl,rfl,by simp[World.setCell],fun k hk _=>Below.heap_setCell _ _ _ _ (by omega)⟩
theorem Kp.setRow (h:Kp B row w w') {p:Addr} (hp:some p.block=row) (u:Value):Kp B row w (w'.setCell p u):=
 h.trans ⟨rfl,rfl,rfl,by simp[World.setCell],fun k _ hn=>Below.heap_setCell _ _ _ _ (fun e=>hn (by rw[e];exact hp))⟩
theorem Kp.of_grown (h:w.grownBy w' row):Kp w.heap.size row w w':=⟨h.os,h.tape,h.output,h.size,h.block⟩
theorem Kp.grown (h:Kp B row w w1) {r:Option Nat} (hg:w1.grownBy w2 r) (hB:B≤w1.heap.size) (hr:∀ k,r=some k→B≤k):Kp B row w w2:=
 h.trans ⟨hg.os,hg.tape,hg.output,hg.size,fun k hk _=>hg.block k (by omega) (fun e=>by have:=hr k e.symm;omega)⟩
theorem Kp.below (h:Kp B none w w'):Below B w w':=⟨h.os,h.tape,h.output,h.size,fun k hk=>h.block k hk (by simp)⟩
theorem Kp.cell (h:Kp B row w w') (b o:Nat) (hb:b<B) (hn:some b≠row):w'.cell? ⟨b,o,none⟩=w.cell? ⟨b,o,none⟩:=
 World.cell?_of_block (w:=w) (h.block b hb hn)
theorem Kp.frozen (h:Kp B row w w') (b o:Nat) (hb:b<B) (hn:some b≠row):w'.frozen? ⟨b,o,none⟩=w.frozen? ⟨b,o,none⟩:=
 World.frozen?_of_block (w:=w) (h.block b hb hn)
theorem Kp.cells (h:Kp w.heap.size none w w'):(∀ b o,b<w.heap.size→w'.cell? ⟨b,o,none⟩=w.cell? ⟨b,o,none⟩)∧(∀ b o,b<w.heap.size→w'.frozen? ⟨b,o,none⟩=w.frozen? ⟨b,o,none⟩):=
 ⟨fun b o hb=>h.cell b o hb (by simp),fun b o hb=>h.frozen b o hb (by simp)⟩
end
theorem oM {p:Prop} (h:p:=by omega):p:=h
theorem oU {a b:Nat} (h:a≤b:=by first|exact Nat.le_refl _|omega):a≤b:=h
theorem oN {a b:Nat} (h:a≠b:=by omega):some a≠some b:=sne h
theorem oW {p:Prop} (h:p:=by first|(simp;done)|exact sne (by omega)):p:=h
theorem mK {P:Program} {f:FuncId} {av:Array Value} {w:World} {v:Ending} {K:World→Prop} {R:Ending→World→Prop} (h:Calls P f av w fun e w'=>e=v∧K w') (k:∀ w',K w'→R v w'):Calls P f av w R:=h.mono fun _ _ ⟨a,b⟩=>a ▸ k _ b
def Blk (w:World) (g:Nat) (t:TypeId) (cs:Array Value):Prop:=w.heap[g]?=some (.cells cs t (0,0))
section
variable {w w':World} {g:Nat} {t:TypeId} {cs:Array Value} {B:Nat} {row:Option Nat}
theorem Blk.lt (h:Blk w g t cs):g<w.heap.size:=by
 rcases Nat.lt_or_ge g w.heap.size with hlt|hge
 · exact hlt
 · unfold Blk at h;rw[Array.getElem?_eq_none hge] at h;cases h
theorem Blk.cell (h:Blk w g t cs) (i:Nat):w.cell? ⟨g,i,none⟩=cs[i]?:=cell_of_row w g i cs t (0,0) h
theorem Blk.frozen (h:Blk w g t cs) (i:Nat):w.frozen? ⟨g,i,none⟩=false:=by
 unfold Blk at h;simp[World.frozen?,h]
theorem Blk.new (w:World) (t:TypeId) (cs:Array Value):Blk (w.alloc (.cells cs t)) w.heap.size t cs:=heap_alloc_new w _
theorem Blk.newAt (w:World) (t:TypeId) (cs:Array Value) {n:Nat} (hn:n=w.heap.size):Blk (w.alloc (.cells cs t)) n t cs:=hn ▸ Blk.new w t cs
theorem Blk.drew (h:Blk w g t cs):Blk w.drew g t cs:=h
theorem Blk.drewN (h:Blk w g t cs) (n:Nat):Blk (w.drewN n) g t cs:=h
theorem Blk.alloc (h:Blk w g t cs) (o:Obj):Blk (w.alloc o) g t cs:=(Below.heap_alloc w o g h.lt).trans h
theorem Blk.set_ (h:Blk w g t cs) (i:Nat) (u:Value):Blk (w.setCell ⟨g,i,none⟩ u) g t (cs.setIfInBounds i u):=by
 unfold Blk at h ⊢;simp[World.setCell,Array.getElem?_modify,h]
theorem Blk.far (h:Blk w g t cs) {p:Addr} (hp:g≠p.block) (u:Value):Blk (w.setCell p u) g t cs:=(Below.heap_setCell w p u g hp).trans h
theorem Blk.kp (h:Blk w g t cs) (hk:Kp B row w w') (hg:g<B) (hn:some g≠row):Blk w' g t cs:=(hk.block g hg hn).trans h
theorem Blk.kpN (h:Blk w g t cs) (hk:Kp w.heap.size none w w'):Blk w' g t cs:=h.kp hk h.lt (by simp)
end
theorem sbt {α:Type} (l:List α) (i:Nat) (a:α):l.toArray.setIfInBounds i a=(l.set i a).toArray:=List.setIfInBounds_toArray _ _ _
theorem sc0 {α:Type} (x a:α) (l:List α):(x::l).set 0 a=a::l:=rfl
theorem scs {α:Type} (x a:α) (l:List α) (i:Nat):(x::l).set (i+1) a=x::l.set i a:=rfl
theorem Kp.tN {row:Option Nat} {w w1 w2:World} (h:Kp w.heap.size row w w1) (k:Kp w1.heap.size none w1 w2):Kp w.heap.size row w w2:=h.thenN k (Nat.le_refl _)
theorem Blk.kq {w w':World} {r g:Nat} {T:TypeId} {cs:Array Value} (h:Blk w r T cs) (k:Kp w.heap.size (some g) w w') (hn:r≠g:=by omega):Blk w' r T cs:=h.kp k h.lt (sne hn)
theorem box1 (w:World) (T1:TypeId) (c1:Array Value):∃ w1,w1=(w.alloc (.cells c1 T1))∧Blk w1 (w.heap.size) T1 c1∧Kp w.heap.size none w w1∧w1.heap.size=w.heap.size+1:=
 ⟨_,rfl,Blk.newAt _ T1 c1 (by simp),(Kp.refl w.heap.size none w).alloc (by simp) _,by simp⟩
theorem box2 (w:World) (T1:TypeId) (c1:Array Value) (T2:TypeId) (c2:Array Value):∃ w1,w1=((w.alloc (.cells c1 T1)).alloc (.cells c2 T2))∧Blk w1 (w.heap.size) T1 c1∧Blk w1 (w.heap.size+1) T2 c2∧Kp w.heap.size none w w1∧w1.heap.size=w.heap.size+2:=
 ⟨_,rfl,(Blk.newAt _ T1 c1 (by simp)).alloc _,Blk.newAt _ T2 c2 (by simp),((Kp.refl w.heap.size none w).alloc (by simp) _).alloc (by simp) _,by simp⟩
theorem box3 (w:World) (T1:TypeId) (c1:Array Value) (T2:TypeId) (c2:Array Value) (T3:TypeId) (c3:Array Value):∃ w1,w1=(((w.alloc (.cells c1 T1)).alloc (.cells c2 T2)).alloc (.cells c3 T3))∧Blk w1 (w.heap.size) T1 c1∧Blk w1 (w.heap.size+1) T2 c2∧Blk w1 (w.heap.size+2) T3 c3∧Kp w.heap.size none w w1∧w1.heap.size=w.heap.size+3:=
 ⟨_,rfl,((Blk.newAt _ T1 c1 (by simp)).alloc _).alloc _,(Blk.newAt _ T2 c2 (by simp)).alloc _,Blk.newAt _ T3 c3 (by simp),(((Kp.refl w.heap.size none w).alloc (by simp) _).alloc (by simp) _).alloc (by simp<;>omega) _,by simp⟩
theorem box4 (w:World) (T1:TypeId) (c1:Array Value) (T2:TypeId) (c2:Array Value) (T3:TypeId) (c3:Array Value) (T4:TypeId) (c4:Array Value):∃ w1,w1=((((w.alloc (.cells c1 T1)).alloc (.cells c2 T2)).alloc (.cells c3 T3)).alloc (.cells c4 T4))∧Blk w1 (w.heap.size) T1 c1∧Blk w1 (w.heap.size+1) T2 c2∧Blk w1 (w.heap.size+2) T3 c3∧Blk w1 (w.heap.size+3) T4 c4∧Kp w.heap.size none w w1∧w1.heap.size=w.heap.size+4:=
 ⟨_,rfl,(((Blk.newAt _ T1 c1 (by simp)).alloc _).alloc _).alloc _,((Blk.newAt _ T2 c2 (by simp)).alloc _).alloc _,(Blk.newAt _ T3 c3 (by simp)).alloc _,Blk.newAt _ T4 c4 (by simp),((((Kp.refl w.heap.size none w).alloc (by simp) _).alloc (by simp) _).alloc (by simp<;>omega) _).alloc (by simp<;>omega) _,by simp⟩
theorem box5 (w:World) (T1:TypeId) (c1:Array Value) (T2:TypeId) (c2:Array Value) (T3:TypeId) (c3:Array Value) (T4:TypeId) (c4:Array Value) (T5:TypeId) (c5:Array Value):∃ w1,w1=(((((w.alloc (.cells c1 T1)).alloc (.cells c2 T2)).alloc (.cells c3 T3)).alloc (.cells c4 T4)).alloc (.cells c5 T5))∧Blk w1 (w.heap.size) T1 c1∧Blk w1 (w.heap.size+1) T2 c2∧Blk w1 (w.heap.size+2) T3 c3∧Blk w1 (w.heap.size+3) T4 c4∧Blk w1 (w.heap.size+4) T5 c5∧Kp w.heap.size none w w1∧w1.heap.size=w.heap.size+5:=
 ⟨_,rfl,((((Blk.newAt _ T1 c1 (by simp)).alloc _).alloc _).alloc _).alloc _,(((Blk.newAt _ T2 c2 (by simp)).alloc _).alloc _).alloc _,((Blk.newAt _ T3 c3 (by simp)).alloc _).alloc _,(Blk.newAt _ T4 c4 (by simp)).alloc _,Blk.newAt _ T5 c5 (by simp),(((((Kp.refl w.heap.size none w).alloc (by simp) _).alloc (by simp) _).alloc (by simp<;>omega) _).alloc (by simp<;>omega) _).alloc (by simp<;>omega) _,by simp⟩
def Rd {α:Type} (row:Option Nat) (w:World) (sz:Nat) (enc:α→List Value) (A:Option Addr) (n:Nat) (xs:List α):Prop:=
 xs.length=n∧(0<n→∃ b o,A=some ⟨b,o,none⟩∧b<w.heap.size∧some b≠row ∧
  ∀ i (hi:i<xs.length) j v,(enc xs[i])[j]?=some v→w.cell? ⟨b,o+(i * sz+j),none⟩=some v)
section
variable {α:Type} {row r:Option Nat} {w w':World} {sz n B:Nat} {enc:α→List Value} {A:Option Addr} {xs:List α}
theorem Rd.len (h:Rd row w sz enc A n xs):xs.length=n:=h.1
theorem Rd.nil (row:Option Nat) (w:World) (sz:Nat) (enc:α→List Value) (A:Option Addr):Rd row w sz enc A 0 []:=⟨rfl,fun h=>absurd h (by omega)⟩
theorem Rd.kp (h:Rd row w sz enc A n xs) (hk:Kp w.heap.size row w w'):Rd row w' sz enc A n xs:=by
 refine⟨h.1,fun hn=>?_⟩;obtain⟨b,o,e,hb,hr,hc⟩:=h.2 hn;exact⟨b,o,e,Nat.lt_of_lt_of_le hb hk.size,hr,fun i hi j v hv=>(hk.cell b _ hb hr).trans (hc i hi j v hv)⟩
theorem Rd.kpN (h:Rd row w sz enc A n xs) (hk:Kp w.heap.size none w w'):Rd row w' sz enc A n xs:=h.kp (hk.wide row)
theorem Rd.free (h:Rd row w sz enc A n xs):Rd none w sz enc A n xs:=by
 refine⟨h.1,fun hn=>?_⟩;obtain⟨b,o,e,hb,hr,hc⟩:=h.2 hn;exact⟨b,o,e,hb,by simp,hc⟩
theorem Rd.drew (h:Rd row w sz enc A n xs):Rd row w.drew sz enc A n xs:=h
theorem Rd.drewN (h:Rd row w sz enc A n xs) (k:Nat):Rd row (w.drewN k) sz enc A n xs:=h
theorem Rd.alloc (h:Rd row w sz enc A n xs) (o:Obj):Rd row (w.alloc o) sz enc A n xs:=h.kp ((Kp.refl _ _ w).alloc (Nat.le_refl _) o)
theorem Rd.setCell (h:Rd row w sz enc A n xs) {p:Addr} (hp:some p.block=row) (u:Value):Rd row (w.setCell p u) sz enc A n xs:=
 h.kp ((Kp.refl _ _ w).setRow hp u)
theorem Rd.at_ (h:Rd row w sz enc A n xs) (hn:0<n):∃ b o,A=some ⟨b,o,none⟩∧b<w.heap.size∧some b≠row ∧
 ∀ i (hi:i<xs.length) j v,(enc xs[i])[j]?=some v→w.cell? ⟨b,o+(i * sz+j),none⟩=some v:=h.2 hn
end
theorem Rd.cell1 {α:Type} {w:World} {enc:α→List Value} {f:α→Value} {b o:Nat} {xs:List α} (he:∀ x,enc x=[f x])
  (h:∀ i (hi:i<xs.length) j v,(enc xs[i])[j]?=some v→w.cell? ⟨b,o+(i * 1+j),none⟩=some v) (i:Nat) (hi:i<xs.length):w.cell? ⟨b,o+i,none⟩=some (f xs[i]):=by
 have:=h i hi 0 (f xs[i]) (by rw[he];rfl);simpa using this
theorem two_new (w:World) (x y:Value) (t:TypeId):∀ j u,[x,y][j]?=some u→(w.alloc (.cells #[x,y] t)).cell? ((⟨w.heap.size,0,none⟩:Addr).add j)=some u:=by
 intro j u hj;match j,hj with
 | 0,hj=>simp at hj;subst hj;simp[Addr.add]
 | 1,hj=>simp at hj;subst hj;simp[Addr.add]
theorem one_int (k:IntKind) (x:Int):∀ u∈[Value.int k x],u.oneCell'=true:=by intro u hu;simp at hu;subst hu;rfl
theorem one_bool (x:Bool):∀ u∈[Value.bool x],u.oneCell'=true:=by intro u hu;simp at hu;subst hu;rfl
theorem two_int (k:IntKind) (x y:Int):∀ u∈[Value.int k x,Value.int k y],u.oneCell'=true:=by
 intro u hu;simp at hu;rcases hu with rfl|rfl<;>rfl
theorem alloc_ge {B:Nat} {w:World} (h:B≤w.heap.size) (o:Obj):B≤(w.alloc o).heap.size:=by simp;omega
theorem maxLen_of {n:Nat} (h:n≤1000000):n≤maxLen:=by unfold maxLen;omega
theorem flat_at {α:Type} {enc:α→List Value} {sz:Nat} (he:∀ x,(enc x).length=sz):∀ (xs:List α) (i:Nat) (hi:i<xs.length) (j:Nat),j<sz→(xs.flatMap enc)[i * sz+j]?=(enc xs[i])[j]?
 | x::xs,0,_,j,hj=>by
  rw[List.flatMap_cons,List.getElem?_append_left (by rw[he];omega)];simp
 | x::xs,i+1,hi,j,hj=>by
  rw[List.flatMap_cons,List.getElem?_append_right (by rw[he,Nat.succ_mul];omega),he,Nat.succ_mul];rw[show i * sz+sz+j-sz=i * sz+j from by omega];simpa using flat_at he xs i (by simpa using hi) j hj
theorem flat_len {α:Type} {enc:α→List Value} {sz:Nat} (he:∀ x,(enc x).length=sz):∀ xs:List α,(xs.flatMap enc).length=xs.length * sz
 | []=>by simp
 | x::xs=>by rw[List.flatMap_cons,List.length_append,he,flat_len he xs,List.length_cons,Nat.succ_mul];omega
def Own {α:Type} (w:World) (B:Nat) (e:TypeId) (sz:Nat) (enc:α→List Value) (v:Value) (xs:List α):Prop:=w.ownsRow B e sz v xs.length (xs.flatMap enc)
section
variable {α:Type} {w w' w1:World} {B e sz n:Nat} {enc:α→List Value} {v:Value} {xs:List α} {row:Option Nat}
theorem Own.nil (w:World) (B:Nat) (e:TypeId) (sz:Nat) (enc:α→List Value):Own w B e sz enc (.slice none 0 0) []:=World.ownsRow_nil w B e sz
theorem Own.kp (h:Own w B e sz enc v xs) (hk:Kp w.heap.size row w w') (hr:∀ b,B≤b→some b≠row):Own w' B e sz enc v xs:=by
 have hg:w.grownBy w' row:=⟨hk.os,hk.tape,hk.output,hk.size,hk.block⟩;refine World.ownsRow.kept h hg ?_;cases hv:v.ownBlock with
 | none=>exact .inl rfl
 | some b=>exact .inr (hr b (World.ownsRow.lt h b hv).1)
theorem Own.kpN (h:Own w B e sz enc v xs) (hk:Kp w.heap.size none w w'):Own w' B e sz enc v xs:=h.kp hk (fun _ _=>by simp)
theorem Own.alloc (h:Own w B e sz enc v xs) (o:Obj):Own (w.alloc o) B e sz enc v xs:=h.kpN ((Kp.refl _ _ w).alloc (Nat.le_refl _) o)
theorem Own.drew (h:Own w B e sz enc v xs):Own w.drew B e sz enc v xs:=h.kpN (Kp.refl _ _ w).drew
theorem Own.ge (h:Own w B e sz enc v xs):∀ k,v.ownBlock=some k→B≤k∧k<w.heap.size:=World.ownsRow.lt h
theorem Kp.of_own (h:Own w B e sz enc v xs) (hg:w.grownBy w1 v.ownBlock) (hB:B≤w.heap.size):Kp B row w w1:=
 ⟨hg.os,hg.tape,hg.output,hg.size,fun k hk _=>hg.block k (by omega) (fun e=>by have:=(h.ge k e.symm).1;omega)⟩
theorem Own.rd (h:Own w B e sz enc v xs) (he:∀ x,(enc x).length=sz) (hrow:∀ b,B≤b→some b≠row):∃ A cap,v=.slice A xs.length cap∧Rd row w sz enc A xs.length xs∧∀ ad,A=some ad→B≤ad.block∧ad.block<w.heap.size:=by
 rcases h.2 with⟨rfl,h0⟩|⟨g,cap,cur,rfl,hb,hh,_,_,_,_⟩
 ·
  rw[h0];have:xs=[]:=List.eq_nil_of_length_eq_zero h0;subst this;exact⟨none,0,rfl,Rd.nil _ _ _ _ _,fun ad e=>by cases e⟩
 ·
  have hlt:g<w.heap.size:=(World.ownsRow.lt h g rfl).2;refine⟨_,cap,rfl,⟨rfl,fun hn=>⟨g,0,rfl,hlt,hrow g hb,fun i hi j u hu=>?_⟩⟩,fun ad e=>by injection e with e;subst e;exact⟨hb,hlt⟩⟩
  have hj:j<sz:=by
   have:=(List.getElem?_eq_some_iff.1 hu).1;rwa [he] at this
  have:=World.ownsRow.cells h (g:=g) rfl (i * sz+j) u (by rw[flat_at he xs i hi j hj];exact hu);rw[Nat.zero_add]
  have hadd:(⟨g,0,none⟩:Addr).add (i * sz+j)=⟨g,i * sz+j,none⟩:=by
   unfold Addr.add;split
   · rename_i h0;rw[h0]
   · simp
  rwa [hadd] at this
end
structure Ev (C:World→Prop) where
 w:World
 h:C w
theorem wrapu (x:Int):IntKind.u64.wrap x=x % 18446744073709551616:=by simp[IntKind.wrap,IntKind.bits,IntKind.signed]
structure Norm (hi lo y s v a b u c d:Nat):Prop where
 hs:s≤63
 hv:v=y * 2 ^ s
 vl:v<18446744073709551616
 va:v=a * 4294967296+b
 al:2147483648≤a
 ah:a<4294967296
 bl:b<4294967296
 ul:u<v
 cl:c<4294967296
 dl:d<4294967296
 tot:u * 18446744073709551616+(c * 4294967296+d)=(hi * 18446744073709551616+lo) * 2 ^ s
theorem tot_aux (A B C:Nat) (h:18446744073709551616 * C+A % 18446744073709551616=A):B * 18446744073709551616+C * 18446744073709551616+A % 18446744073709551616=B * 18446744073709551616+A:=by omega
theorem norm_shift (hi lo y s:Nat) (hs:s≤63) (hh:hi<y) (hlo:lo<18446744073709551616) (hy:y * 2 ^ s<18446744073709551616) (hy2:9223372036854775808≤y * 2 ^ s) :
  let v:=y * 2 ^ s
  let t:=lo * 2 ^ s % 18446744073709551616
  Norm hi lo y s v (v / 4294967296) (v % 4294967296) ((hi * 2 ^ s) ||| (lo / 2 ^ (64-s))) (t / 4294967296) (t % 4294967296)
   ∧ ((hi * 2 ^ s) ||| (lo / 2 ^ (64-s)))=hi * 2 ^ s+lo / 2 ^ (64-s):=by
 intro v t;have e1:2 ^ (64-s) * 2 ^ s=18446744073709551616:=by rw[← Nat.pow_add];rw[show 64-s+s=64 by omega]
 have hp:0<2 ^ s:=Nat.two_pow_pos s;have hq:0<2 ^ (64-s):=Nat.two_pow_pos _;have hl:lo / 2 ^ (64-s)<2 ^ s:=by rw[Nat.div_lt_iff_lt_mul hq,Nat.mul_comm,e1];exact hlo
 have hor:((hi * 2 ^ s) ||| (lo / 2 ^ (64-s)))=hi * 2 ^ s+lo / 2 ^ (64-s):=by
  rw[Nat.mul_comm hi];exact(Nat.two_pow_add_eq_or_of_lt hl hi).symm
 have hd:lo * 2 ^ s / 18446744073709551616=lo / 2 ^ (64-s):=by rw[← e1];exact Nat.mul_div_mul_right _ _ hp
 have hdm:=Nat.div_add_mod (lo * 2 ^ s) 18446744073709551616;rw[hd] at hdm;have hup:(hi+1) * 2 ^ s≤y * 2 ^ s:=Nat.mul_le_mul_right _ hh;rw[Nat.add_mul,Nat.one_mul] at hup;refine⟨⟨hs,rfl,hy,?_,?_,?_,?_,?_,?_,?_,?_⟩,hor⟩
 · show v=v / 4294967296 * 4294967296+v % 4294967296;omega
 · show 2147483648≤v / 4294967296;omega
 · show v / 4294967296<4294967296;omega
 · exact Nat.mod_lt _ (by decide)
 · rw[hor];show _<y * 2 ^ s;omega
 · have:t<18446744073709551616:=Nat.mod_lt _ (by decide);omega
 · exact Nat.mod_lt _ (by decide)
 ·
  rw[hor,Nat.add_mul,Nat.add_mul,Nat.mul_right_comm hi];have ht:t / 4294967296 * 4294967296+t % 4294967296=lo * 2 ^ s % 18446744073709551616:=by show _=t;omega
  rw[ht,Nat.mul_right_comm hi 18446744073709551616];exact tot_aux _ _ _ hdm
structure Guess (v a b u c q r:Nat):Prop where
 eq:q * a+r=u
 lo:(u * 4294967296+c) / v≤q
 hi:q≤4294967297
 rl:r<4294967296
theorem guess_start {v a b u c:Nat} (va:v=a * 4294967296+b) (al:2147483648≤a) (ah:a<4294967296) (bl:b<4294967296) (ul:u<v) (cl:c<4294967296) :
  Guess v a b u c (u / a) (u-u / a * a):=by
 have h0:0<a:=by omega
 have e:=Nat.div_add_mod u a;have hm:=Nat.mod_lt u h0;rw[Nat.mul_comm] at e;refine⟨by omega,?_,?_,by omega⟩
 ·
  apply Nat.le_of_lt_succ
  rw[Nat.div_lt_iff_lt_mul oM,va];have hu:u+1≤(u / a+1) * a:=by rw[Nat.add_mul];omega
  have:=Nat.mul_le_mul_right 4294967296 hu;have h2:(u / a+1) * (a * 4294967296+b)=(u / a+1) * a * 4294967296+(u / a+1) * b:=by rw[Nat.mul_add,Nat.mul_assoc]
  show _<(u / a+1) * _
  rw[h2];omega
 ·
  apply Nat.le_of_lt_succ
  rw[Nat.div_lt_iff_lt_mul h0];omega
theorem guess_more {v a b u c q r:Nat} (va:v=a * 4294967296+b) (ul:u<v) (cl:c<4294967296) (g:Guess v a b u c q r)
  (ht:4294967296≤q∨4294967296 * r+c<q * b):0<q∧(u * 4294967296+c) / v≤q-1:=by
 have h0:0<q:=by
  rcases ht with h|h
  · omega
  ·
   rcases Nat.eq_zero_or_pos q with rfl|h'
   · omega
   · exact h'
 refine⟨h0,?_⟩
 have:(u * 4294967296+c) / v<q:=by
  rw[Nat.div_lt_iff_lt_mul oM,va];have h2:q * (a * 4294967296+b)=q * a * 4294967296+q * b:=by rw[Nat.mul_add,Nat.mul_assoc]
  have ge:=g.eq;rcases ht with h|h
  ·
   have h3:=Nat.mul_le_mul_right v h;rw[← va];omega
  · rw[h2,← g.eq];omega
 omega
theorem guess_done {v a b u c q r:Nat} (va:v=a * 4294967296+b) (al:2147483648≤a) (g:Guess v a b u c q r)
  (h2:q * b≤4294967296 * r+c):q=(u * 4294967296+c) / v:=by
 apply Nat.le_antisymm _ g.lo
 rw[Nat.le_div_iff_mul_le oM,va];have e:q * (a * 4294967296+b)=q * a * 4294967296+q * b:=by rw[Nat.mul_add,Nat.mul_assoc]
 rw[e,← g.eq];omega
theorem guess_step {q a r u:Nat} (h:q * a+r=u) (h0:0<q):(q-1) * a+(r+a)=u:=by
 obtain⟨k,rfl⟩:∃ k,q=k+1:=⟨q-1,by omega⟩;rw[Nat.add_mul,Nat.one_mul] at h;rw[Nat.add_sub_cancel];omega
theorem un_rest {u c v Q R:Nat} (hQ:Q=(u * 4294967296+c) / v) (hR:R=(u * 4294967296+c) % v) (h0:0<v) (vl:v<18446744073709551616) :
  R<v∧v * Q+R=u * 4294967296+c∧IntKind.u64.wrap (IntKind.u64.wrap (IntKind.u64.wrap ((u:Int) * 4294967296)+(c:Int))-IntKind.u64.wrap ((Q:Int) * (v:Int)))=(R:Int):=by
 have h1:R<v:=by rw[hR];exact Nat.mod_lt _ h0
 have h2:v * Q+R=u * 4294967296+c:=by rw[hQ,hR];exact Nat.div_add_mod _ _
 refine⟨h1,h2,?_⟩;have h3:((v * Q:Nat):Int)=(Q:Int) * (v:Int):=by push_cast;rw[Int.mul_comm]
 rw[← h3];generalize v * Q=A at h2;simp only[wrapu];omega
theorem guess_break {v a b u c q r:Nat} (va:v=a * 4294967296+b) (al:2147483648≤a) (bl:b<4294967296) (he:q * a+r=u) (hlo:(u * 4294967296+c) / v≤q) (hq:q≤4294967296)
  (hr:4294967296≤r):q=(u * 4294967296+c) / v:=by
 apply Nat.le_antisymm _ hlo
 rw[Nat.le_div_iff_mul_le oM,va];have e:q * (a * 4294967296+b)=q * a * 4294967296+q * b:=by rw[Nat.mul_add,Nat.mul_assoc]
 have e2:q * b≤4294967296 * 4294967295:=Nat.mul_le_mul hq oM;rw[e,← he];omega
theorem digit_lt {v u c:Nat} (h0:0<v) (ul:u<v) (cl:c<4294967296):(u * 4294967296+c) / v<4294967296:=by
 rw[Nat.div_lt_iff_lt_mul h0];have:=Nat.mul_le_mul_right 4294967296 (show u+1≤v from ul);rw[Nat.mul_comm 4294967296];omega
theorem key_aux (u c d r1 r0 A B:Nat) (d1:A+r1=u * 4294967296+c) (d0:B+r0=r1 * 4294967296+d) :
 u * 18446744073709551616+(c * 4294967296+d)=A * 4294967296+B+r0:=by omega
theorem digits (N y s v u c d q1 r1 q0 r0:Nat) (hvy:v=y * 2 ^ s) (hy:0<v) (tot:u * 18446744073709551616+(c * 4294967296+d)=N * 2 ^ s)
  (d1:v * q1+r1=u * 4294967296+c) (d0:v * q0+r0=r1 * 4294967296+d) (hr:r0<v) :
  q1 * 4294967296+q0=N / y∧r0 / 2 ^ s=N % y:=by
 have hp:0<2 ^ s:=Nat.two_pow_pos s
 have key:N * 2 ^ s=v * (q1 * 4294967296+q0)+r0:=by
  rw[← tot,Nat.mul_add,← Nat.mul_assoc];exact key_aux _ _ _ _ _ _ _ d1 d0
 have hq:N / y=q1 * 4294967296+q0:=by
  rw[← Nat.mul_div_mul_right _ y hp,key,← hvy,Nat.mul_add_div hy,Nat.div_eq_of_lt hr,Nat.add_zero]
 refine⟨hq.symm,?_⟩
 have hm:N % y * 2 ^ s=r0:=by
  rw[← Nat.mul_mod_mul_right,key,← hvy,Nat.mul_add_mod,Nat.mod_eq_of_lt hr]
 rw[← hm,Nat.mul_div_cancel _ hp]
theorem norm_of (y:Nat) (hy0:0<y) (hy:y<18446744073709551616):∃ s:Nat,s≤63∧64-(Lib.bitLen y:Int)=s∧y * 2 ^ s<18446744073709551616∧9223372036854775808≤y * 2 ^ s:=by
 obtain⟨h1,h2,h3⟩:=Go.Lib.bitLenAux_bounds 64 y (by simpa using hy) oM;have h4:Lib.bitLen y≤64:=Lib.bitLen_le y 64 oM (by simpa using hy);have h1':1≤Lib.bitLen y:=h1;have h2':2 ^ (Lib.bitLen y-1)≤y:=h2;have h3':y<2 ^ Lib.bitLen y:=h3;refine⟨64-Lib.bitLen y,by omega,by omega,?_,?_⟩
 ·
  have:=Nat.mul_lt_mul_of_pos_right h3' (Nat.two_pow_pos (64-Lib.bitLen y));rw[← Nat.pow_add,show Lib.bitLen y+(64-Lib.bitLen y)=64 by omega] at this;exact this
 ·
  have:=Nat.mul_le_mul_right (2 ^ (64-Lib.bitLen y)) h2';rw[← Nat.pow_add,show Lib.bitLen y-1+(64-Lib.bitLen y)=63 by omega] at this;exact this
end Go.Proofs.YtdhiappifnflpaaGreatDoor
