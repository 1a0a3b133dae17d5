/- Words for memory: what a step of the walk leaves of the heap; slices that read as lists; a block known whole; one class of worlds for a region that draws its order. Plain lemmas, no program. -/
import Derived.WalkKit
import Derived.WalkSpells
import Derived.WalkLawsBesides
import Derived.Deep.QuietTactic
import Derived.BigQuiet
import Derived.Deep.AppendLies
import Derived.Maps.AppendAt
import Derived.Deep.Draws
import Derived.Lib.Hide
namespace Go.Proofs.YtdhiappifnflpaaGreat
open Go.RowKit
instance:Coe Int Value:=⟨fun n=>.int .i64 n⟩
instance:Coe Nat Value:=⟨fun n=>.int .i64 n⟩
theorem sne {a b:Nat} (h:a≠b):some a≠some b:=fun e=>h (by injection e)
structure Kp (B:Nat) (row:Option Nat) (w w':World):Prop where
 os:w'.os=w.os
 tape:w'.tape=w.tape
 output:w'.output=w.output
 size:w.heap.size≤w'.heap.size
 block:∀ k,k<B→some k≠row→w'.heap[k]?=w.heap[k]?
section
variable {B B':Nat} {row:Option Nat} {w w' w1 w2:World}
theorem Kp.refl (B:Nat) (row:Option Nat) (w:World):Kp B row w w:=⟨rfl,rfl,rfl,Nat.le_refl _,fun _ _ _=>rfl⟩
theorem Kp.trans (h:Kp B row w w1) (k:Kp B row w1 w2):Kp B row w w2:=
 ⟨k.os.trans h.os,k.tape.trans h.tape,k.output.trans h.output,Nat.le_trans h.size k.size,fun i hi hn=>(k.block i hi hn).trans (h.block i hi hn)⟩
theorem Kp.mono (h:Kp B row w w') (hB:B'≤B):Kp B' row w w':=⟨h.os,h.tape,h.output,h.size,fun k hk=>h.block k (Nat.lt_of_lt_of_le hk hB)⟩
theorem Kp.wide (h:Kp B none w w') (row:Option Nat):Kp B row w w':=⟨h.os,h.tape,h.output,h.size,fun k hk _=>h.block k hk (by simp)⟩
theorem Kp.then_ (h:Kp B row w w1) (k:Kp w1.heap.size row w1 w2) (hB:B≤w.heap.size):Kp B row w w2:=h.trans (k.mono (Nat.le_trans hB h.size))
theorem Kp.thenN (h:Kp B row w w1) (k:Kp w1.heap.size none w1 w2) (hB:B≤w.heap.size):Kp B row w w2:=h.then_ (k.wide row) hB
theorem Kp.thenOwn {b:Nat} (h:Kp B row w w1) (k:Kp w1.heap.size (some b) w1 w2) (hB:B≤w.heap.size) (hb:B≤b):Kp B row w w2:=
 h.trans ⟨k.os,k.tape,k.output,k.size,fun i hi _=>k.block i (by have:=h.size;omega) (fun e=>by injection e with e;omega)⟩
theorem Kp.drew (h:Kp B row w w'):Kp B row w w'.drew:=⟨h.os,h.tape,h.output,h.size,h.block⟩
theorem Kp.drewN (h:Kp B row w w') (n:Nat):Kp B row w (w'.drewN n):=⟨h.os,h.tape,h.output,h.size,h.block⟩
theorem Kp.alloc (h:Kp B row w w') (hB:B≤w'.heap.size) (o:Obj):Kp B row w (w'.alloc o):=
 h.trans ⟨rfl,rfl,rfl,by simp,fun k hk _=>Below.heap_alloc _ _ _ (by omega)⟩
theorem Kp.setNew (h:Kp B row w w') {p:Addr} (hp:B≤p.block) (u:Value):Kp B row w (w'.setCell p u):=
 h.trans ⟨rfl,rfl,rfl,by simp[World.setCell],fun k hk _=>Below.heap_setCell _ _ _ _ (by omega)⟩
theorem Kp.setRow (h:Kp B row w w') {p:Addr} (hp:some p.block=row) (u:Value):Kp B row w (w'.setCell p u):=
 h.trans ⟨rfl,rfl,rfl,by simp[World.setCell],fun k _ hn=>Below.heap_setCell _ _ _ _ (fun e=>hn (by rw[e];exact hp))⟩
theorem Kp.of_grown (h:w.grownBy w' row):Kp w.heap.size row w w':=⟨h.os,h.tape,h.output,h.size,h.block⟩
theorem Kp.grown (h:Kp B row w w1) {r:Option Nat} (hg:w1.grownBy w2 r) (hB:B≤w1.heap.size) (hr:∀ k,r=some k→B≤k):Kp B row w w2:=
 h.trans ⟨hg.os,hg.tape,hg.output,hg.size,fun k hk _=>hg.block k (by omega) (fun e=>by have:=hr k e.symm;omega)⟩
theorem Kp.below (h:Kp B none w w'):Below B w w':=⟨h.os,h.tape,h.output,h.size,fun k hk=>h.block k hk (by simp)⟩
theorem Kp.cell (h:Kp B row w w') (b o:Nat) (hb:b<B) (hn:some b≠row):w'.cell? ⟨b,o,none⟩=w.cell? ⟨b,o,none⟩:=
 World.cell?_of_block (w:=w) (h.block b hb hn)
theorem Kp.frozen (h:Kp B row w w') (b o:Nat) (hb:b<B) (hn:some b≠row):w'.frozen? ⟨b,o,none⟩=w.frozen? ⟨b,o,none⟩:=
 World.frozen?_of_block (w:=w) (h.block b hb hn)
theorem Kp.cells (h:Kp w.heap.size none w w'):(∀ b o,b<w.heap.size→w'.cell? ⟨b,o,none⟩=w.cell? ⟨b,o,none⟩)∧(∀ b o,b<w.heap.size→w'.frozen? ⟨b,o,none⟩=w.frozen? ⟨b,o,none⟩):=
 ⟨fun b o hb=>h.cell b o hb (by simp),fun b o hb=>h.frozen b o hb (by simp)⟩
end
theorem oM {p:Prop} (h:p:=by omega):p:=h
theorem oU {a b:Nat} (h:a≤b:=by first|exact Nat.le_refl _|omega):a≤b:=h
theorem oN {a b:Nat} (h:a≠b:=by omega):some a≠some b:=sne h
theorem oW {p:Prop} (h:p:=by first|(simp;done)|exact sne (by omega)):p:=h
theorem mK {P:Program} {f:FuncId} {as:Array Value} {w:World} {v:Ending} {K:World→Prop} {R:Ending→World→Prop} (h:Calls P f as w fun e w'=>e=v∧K w') (k:∀ w',K w'→R v w'):Calls P f as w R:=h.mono fun _ _ ⟨a,b⟩=>a ▸ k _ b
def Blk (w:World) (g:Nat) (t:TypeId) (cs:Array Value):Prop:=w.heap[g]?=some (.cells cs t (0,0))
section
variable {w w':World} {g:Nat} {t:TypeId} {cs:Array Value} {B:Nat} {row:Option Nat}
theorem Blk.lt (h:Blk w g t cs):g<w.heap.size:=by
 rcases Nat.lt_or_ge g w.heap.size with hlt|hge
 · exact hlt
 · unfold Blk at h;rw[Array.getElem?_eq_none hge] at h;cases h
theorem Blk.cell (h:Blk w g t cs) (i:Nat):w.cell? ⟨g,i,none⟩=cs[i]?:=cell_of_row w g i cs t (0,0) h
theorem Blk.frozen (h:Blk w g t cs) (i:Nat):w.frozen? ⟨g,i,none⟩=false:=by
 unfold Blk at h;simp[World.frozen?,h]
theorem Blk.new (w:World) (t:TypeId) (cs:Array Value):Blk (w.alloc (.cells cs t)) w.heap.size t cs:=heap_alloc_new w _
theorem Blk.newAt (w:World) (t:TypeId) (cs:Array Value) {n:Nat} (hn:n=w.heap.size):Blk (w.alloc (.cells cs t)) n t cs:=hn ▸ Blk.new w t cs
theorem Blk.drew (h:Blk w g t cs):Blk w.drew g t cs:=h
theorem Blk.drewN (h:Blk w g t cs) (n:Nat):Blk (w.drewN n) g t cs:=h
theorem Blk.alloc (h:Blk w g t cs) (o:Obj):Blk (w.alloc o) g t cs:=(Below.heap_alloc w o g h.lt).trans h
theorem Blk.set_ (h:Blk w g t cs) (i:Nat) (u:Value):Blk (w.setCell ⟨g,i,none⟩ u) g t (cs.setIfInBounds i u):=by
 unfold Blk at h ⊢;simp[World.setCell,Array.getElem?_modify,h]
theorem Blk.far (h:Blk w g t cs) {p:Addr} (hp:g≠p.block) (u:Value):Blk (w.setCell p u) g t cs:=(Below.heap_setCell w p u g hp).trans h
theorem Blk.kp (h:Blk w g t cs) (hk:Kp B row w w') (hg:g<B) (hn:some g≠row):Blk w' g t cs:=(hk.block g hg hn).trans h
theorem Blk.kpN (h:Blk w g t cs) (hk:Kp w.heap.size none w w'):Blk w' g t cs:=h.kp hk h.lt (by simp)
end
theorem sbt {α:Type} (l:List α) (i:Nat) (a:α):l.toArray.setIfInBounds i a=(l.set i a).toArray:=List.setIfInBounds_toArray _ _ _
theorem sc0 {α:Type} (x a:α) (l:List α):(x::l).set 0 a=a::l:=rfl
theorem scs {α:Type} (x a:α) (l:List α) (i:Nat):(x::l).set (i+1) a=x::l.set i a:=rfl
theorem Kp.tN {row:Option Nat} {w w1 w2:World} (h:Kp w.heap.size row w w1) (k:Kp w1.heap.size none w1 w2):Kp w.heap.size row w w2:=h.thenN k (Nat.le_refl _)
theorem Blk.kq {w w':World} {r g:Nat} {T:TypeId} {cs:Array Value} (h:Blk w r T cs) (k:Kp w.heap.size (some g) w w') (hn:r≠g:=by omega):Blk w' r T cs:=h.kp k h.lt (sne hn)
theorem box1 (w:World) (T1:TypeId) (c1:Array Value):∃ w1,w1=(w.alloc (.cells c1 T1))∧Blk w1 (w.heap.size) T1 c1∧Kp w.heap.size none w w1∧w1.heap.size=w.heap.size+1:=
 ⟨_,rfl,Blk.newAt _ T1 c1 (by simp),(Kp.refl w.heap.size none w).alloc (by simp) _,by simp⟩
theorem box2 (w:World) (T1:TypeId) (c1:Array Value) (T2:TypeId) (c2:Array Value):∃ w1,w1=((w.alloc (.cells c1 T1)).alloc (.cells c2 T2))∧Blk w1 (w.heap.size) T1 c1∧Blk w1 (w.heap.size+1) T2 c2∧Kp w.heap.size none w w1∧w1.heap.size=w.heap.size+2:=
 ⟨_,rfl,(Blk.newAt _ T1 c1 (by simp)).alloc _,Blk.newAt _ T2 c2 (by simp),((Kp.refl w.heap.size none w).alloc (by simp) _).alloc (by simp) _,by simp⟩
theorem box3 (w:World) (T1:TypeId) (c1:Array Value) (T2:TypeId) (c2:Array Value) (T3:TypeId) (c3:Array Value):∃ w1,w1=(((w.alloc (.cells c1 T1)).alloc (.cells c2 T2)).alloc (.cells c3 T3))∧Blk w1 (w.heap.size) T1 c1∧Blk w1 (w.heap.size+1) T2 c2∧Blk w1 (w.heap.size+2) T3 c3∧Kp w.heap.size none w w1∧w1.heap.size=w.heap.size+3:=
 ⟨_,rfl,((Blk.newAt _ T1 c1 (by simp)).alloc _).alloc _,(Blk.newAt _ T2 c2 (by simp)).alloc _,Blk.newAt _ T3 c3 (by simp),(((Kp.refl w.heap.size none w).alloc (by simp) _).alloc (by simp) _).alloc (by simp<;>omega) _,by simp⟩
theorem box4 (w:World) (T1:TypeId) (c1:Array Value) (T2:TypeId) (c2:Array Value) (T3:TypeId) (c3:Array Value) (T4:TypeId) (c4:Array Value):∃ w1,w1=((((w.alloc (.cells c1 T1)).alloc (.cells c2 T2)).alloc (.cells c3 T3)).alloc (.cells c4 T4))∧Blk w1 (w.heap.size) T1 c1∧Blk w1 (w.heap.size+1) T2 c2∧Blk w1 (w.heap.size+2) T3 c3∧Blk w1 (w.heap.size+3) T4 c4∧Kp w.heap.size none w w1∧w1.heap.size=w.heap.size+4:=
 ⟨_,rfl,(((Blk.newAt _ T1 c1 (by simp)).alloc _).alloc _).alloc _,((Blk.newAt _ T2 c2 (by simp)).alloc _).alloc _,(Blk.newAt _ T3 c3 (by simp)).alloc _,Blk.newAt _ T4 c4 (by simp),((((Kp.refl w.heap.size none w).alloc (by simp) _).alloc (by simp) _).alloc (by simp<;>omega) _).alloc (by simp<;>omega) _,by simp⟩
theorem box5 (w:World) (T1:TypeId) (c1:Array Value) (T2:TypeId) (c2:Array Value) (T3:TypeId) (c3:Array Value) (T4:TypeId) (c4:Array Value) (T5:TypeId) (c5:Array Value):∃ w1,w1=(((((w.alloc (.cells c1 T1)).alloc (.cells c2 T2)).alloc (.cells c3 T3)).alloc (.cells c4 T4)).alloc (.cells c5 T5))∧Blk w1 (w.heap.size) T1 c1∧Blk w1 (w.heap.size+1) T2 c2∧Blk w1 (w.heap.size+2) T3 c3∧Blk w1 (w.heap.size+3) T4 c4∧Blk w1 (w.heap.size+4) T5 c5∧Kp w.heap.size none w w1∧w1.heap.size=w.heap.size+5:=
 ⟨_,rfl,((((Blk.newAt _ T1 c1 (by simp)).alloc _).alloc _).alloc _).alloc _,(((Blk.newAt _ T2 c2 (by simp)).alloc _).alloc _).alloc _,((Blk.newAt _ T3 c3 (by simp)).alloc _).alloc _,(Blk.newAt _ T4 c4 (by simp)).alloc _,Blk.newAt _ T5 c5 (by simp),(((((Kp.refl w.heap.size none w).alloc (by simp) _).alloc (by simp) _).alloc (by simp<;>omega) _).alloc (by simp<;>omega) _).alloc (by simp<;>omega) _,by simp⟩
theorem box6 (w:World) (T1:TypeId) (c1:Array Value) (T2:TypeId) (c2:Array Value) (T3:TypeId) (c3:Array Value) (T4:TypeId) (c4:Array Value) (T5:TypeId) (c5:Array Value) (T6:TypeId) (c6:Array Value):∃ w1,w1=((((((w.alloc (.cells c1 T1)).alloc (.cells c2 T2)).alloc (.cells c3 T3)).alloc (.cells c4 T4)).alloc (.cells c5 T5)).alloc (.cells c6 T6))∧Blk w1 (w.heap.size) T1 c1∧Blk w1 (w.heap.size+1) T2 c2∧Blk w1 (w.heap.size+2) T3 c3∧Blk w1 (w.heap.size+3) T4 c4∧Blk w1 (w.heap.size+4) T5 c5∧Blk w1 (w.heap.size+5) T6 c6∧Kp w.heap.size none w w1∧w1.heap.size=w.heap.size+6:=
 ⟨_,rfl,(((((Blk.newAt _ T1 c1 (by simp)).alloc _).alloc _).alloc _).alloc _).alloc _,((((Blk.newAt _ T2 c2 (by simp)).alloc _).alloc _).alloc _).alloc _,(((Blk.newAt _ T3 c3 (by simp)).alloc _).alloc _).alloc _,((Blk.newAt _ T4 c4 (by simp)).alloc _).alloc _,(Blk.newAt _ T5 c5 (by simp)).alloc _,Blk.newAt _ T6 c6 (by simp),((((((Kp.refl w.heap.size none w).alloc (by simp) _).alloc (by simp) _).alloc (by simp<;>omega) _).alloc (by simp<;>omega) _).alloc (by simp<;>omega) _).alloc (by simp<;>omega) _,by simp⟩
def Rd {α:Type} (row:Option Nat) (w:World) (sz:Nat) (enc:α→List Value) (A:Option Addr) (n:Nat) (xs:List α):Prop:=
 xs.length=n∧(0<n→∃ b o,A=some ⟨b,o,none⟩∧b<w.heap.size∧some b≠row ∧
  ∀ i (hi:i<xs.length) j v,(enc xs[i])[j]?=some v→w.cell? ⟨b,o+(i * sz+j),none⟩=some v)
section
variable {α:Type} {row r:Option Nat} {w w':World} {sz n B:Nat} {enc:α→List Value} {A:Option Addr} {xs:List α}
theorem Rd.len (h:Rd row w sz enc A n xs):xs.length=n:=h.1
theorem Rd.nil (row:Option Nat) (w:World) (sz:Nat) (enc:α→List Value) (A:Option Addr):Rd row w sz enc A 0 []:=⟨rfl,fun h=>absurd h (by omega)⟩
theorem Rd.kp (h:Rd row w sz enc A n xs) (hk:Kp w.heap.size row w w'):Rd row w' sz enc A n xs:=by
 refine⟨h.1,fun hn=>?_⟩;obtain⟨b,o,e,hb,hr,hc⟩:=h.2 hn;exact⟨b,o,e,Nat.lt_of_lt_of_le hb hk.size,hr,fun i hi j v hv=>(hk.cell b _ hb hr).trans (hc i hi j v hv)⟩
theorem Rd.kpN (h:Rd row w sz enc A n xs) (hk:Kp w.heap.size none w w'):Rd row w' sz enc A n xs:=h.kp (hk.wide row)
theorem Rd.free (h:Rd row w sz enc A n xs):Rd none w sz enc A n xs:=by
 refine⟨h.1,fun hn=>?_⟩;obtain⟨b,o,e,hb,hr,hc⟩:=h.2 hn;exact⟨b,o,e,hb,by simp,hc⟩
theorem Rd.drew (h:Rd row w sz enc A n xs):Rd row w.drew sz enc A n xs:=h
theorem Rd.drewN (h:Rd row w sz enc A n xs) (k:Nat):Rd row (w.drewN k) sz enc A n xs:=h
theorem Rd.alloc (h:Rd row w sz enc A n xs) (o:Obj):Rd row (w.alloc o) sz enc A n xs:=h.kp ((Kp.refl _ _ w).alloc (Nat.le_refl _) o)
theorem Rd.setCell (h:Rd row w sz enc A n xs) {p:Addr} (hp:some p.block=row) (u:Value):Rd row (w.setCell p u) sz enc A n xs:=
 h.kp ((Kp.refl _ _ w).setRow hp u)
theorem Rd.at_ (h:Rd row w sz enc A n xs) (hn:0<n):∃ b o,A=some ⟨b,o,none⟩∧b<w.heap.size∧some b≠row ∧
 ∀ i (hi:i<xs.length) j v,(enc xs[i])[j]?=some v→w.cell? ⟨b,o+(i * sz+j),none⟩=some v:=h.2 hn
end
theorem Rd.cell1 {α:Type} {w:World} {enc:α→List Value} {f:α→Value} {b o:Nat} {xs:List α} (he:∀ x,enc x=[f x])
  (h:∀ i (hi:i<xs.length) j v,(enc xs[i])[j]?=some v→w.cell? ⟨b,o+(i * 1+j),none⟩=some v) (i:Nat) (hi:i<xs.length):w.cell? ⟨b,o+i,none⟩=some (f xs[i]):=by
 have:=h i hi 0 (f xs[i]) (by rw[he];rfl);simpa using this
theorem alloc_ge {B:Nat} {w:World} (h:B≤w.heap.size) (o:Obj):B≤(w.alloc o).heap.size:=by simp;omega
theorem maxLen_of {n:Nat} (h:n≤1000000):n≤maxLen:=by unfold maxLen;omega
theorem flat_at {α:Type} {enc:α→List Value} {sz:Nat} (he:∀ x,(enc x).length=sz):∀ (xs:List α) (i:Nat) (hi:i<xs.length) (j:Nat),j<sz→(xs.flatMap enc)[i * sz+j]?=(enc xs[i])[j]?
 | x::xs,0,_,j,hj=>by
  rw[List.flatMap_cons,List.getElem?_append_left (by rw[he];omega)];simp
 | x::xs,i+1,hi,j,hj=>by
  rw[List.flatMap_cons,List.getElem?_append_right (by rw[he,Nat.succ_mul];omega),he,Nat.succ_mul];rw[show i * sz+sz+j-sz=i * sz+j from by omega];simpa using flat_at he xs i (by simpa using hi) j hj
theorem flat_len {α:Type} {enc:α→List Value} {sz:Nat} (he:∀ x,(enc x).length=sz):∀ xs:List α,(xs.flatMap enc).length=xs.length * sz
 | []=>by simp
 | x::xs=>by rw[List.flatMap_cons,List.length_append,he,flat_len he xs,List.length_cons,Nat.succ_mul];omega
def Own {α:Type} (w:World) (B:Nat) (e:TypeId) (sz:Nat) (enc:α→List Value) (v:Value) (xs:List α):Prop:=w.ownsRow B e sz v xs.length (xs.flatMap enc)
section
variable {α:Type} {w w' w1:World} {B e sz n:Nat} {enc:α→List Value} {v:Value} {xs:List α} {row:Option Nat}
theorem Own.nil (w:World) (B:Nat) (e:TypeId) (sz:Nat) (enc:α→List Value):Own w B e sz enc (.slice none 0 0) []:=World.ownsRow_nil w B e sz
theorem Own.kp (h:Own w B e sz enc v xs) (hk:Kp w.heap.size row w w') (hr:∀ b,B≤b→some b≠row):Own w' B e sz enc v xs:=by
 have hg:w.grownBy w' row:=⟨hk.os,hk.tape,hk.output,hk.size,hk.block⟩;refine World.ownsRow.kept h hg ?_;cases hv:v.ownBlock with
 | none=>exact .inl rfl
 | some b=>exact .inr (hr b (World.ownsRow.lt h b hv).1)
theorem Own.kpN (h:Own w B e sz enc v xs) (hk:Kp w.heap.size none w w'):Own w' B e sz enc v xs:=h.kp hk (fun _ _=>by simp)
theorem Own.alloc (h:Own w B e sz enc v xs) (o:Obj):Own (w.alloc o) B e sz enc v xs:=h.kpN ((Kp.refl _ _ w).alloc (Nat.le_refl _) o)
theorem Own.drew (h:Own w B e sz enc v xs):Own w.drew B e sz enc v xs:=h.kpN (Kp.refl _ _ w).drew
theorem Own.ge (h:Own w B e sz enc v xs):∀ k,v.ownBlock=some k→B≤k∧k<w.heap.size:=World.ownsRow.lt h
theorem Own.rd (h:Own w B e sz enc v xs) (he:∀ x,(enc x).length=sz) (hrow:∀ b,B≤b→some b≠row):∃ A cap,v=.slice A xs.length cap∧Rd row w sz enc A xs.length xs∧∀ ad,A=some ad→B≤ad.block∧ad.block<w.heap.size:=by
 rcases h.2 with⟨rfl,h0⟩|⟨g,cap,cur,rfl,hb,hh,_,_,_,_⟩
 ·
  rw[h0];have:xs=[]:=List.eq_nil_of_length_eq_zero h0;subst this;exact⟨none,0,rfl,Rd.nil _ _ _ _ _,fun ad e=>by cases e⟩
 ·
  have hlt:g<w.heap.size:=(World.ownsRow.lt h g rfl).2;refine⟨_,cap,rfl,⟨rfl,fun hn=>⟨g,0,rfl,hlt,hrow g hb,fun i hi j u hu=>?_⟩⟩,fun ad e=>by injection e with e;subst e;exact⟨hb,hlt⟩⟩
  have hj:j<sz:=by
   have:=(List.getElem?_eq_some_iff.1 hu).1;rwa [he] at this
  have:=World.ownsRow.cells h (g:=g) rfl (i * sz+j) u (by rw[flat_at he xs i hi j hj];exact hu);rw[Nat.zero_add]
  have hadd:(⟨g,0,none⟩:Addr).add (i * sz+j)=⟨g,i * sz+j,none⟩:=by
   unfold Addr.add;split
   · rename_i h0;rw[h0]
   · simp
  rwa [hadd] at this
end
structure Ev (C:World→Prop) where
 w:World
 h:C w
end Go.Proofs.YtdhiappifnflpaaGreat
