/- Words for memory: what a step of the walk leaves of the heap; slices that read as lists; a block known whole; one class of worlds for a region that draws its order. Plain lemmas, no program. A region that draws its order, walked once: operations that only yield a value are taken as soon as they are ready; what acts on the world comes up alone, in one forced order (a Bool that the kernel reckons). Plain theory over Derived/OrdersHeld, no program. -/
import Derived.WalkKit
import Derived.WalkSpells
import Derived.WalkLawsBesides
import Derived.Deep.QuietTactic
import Derived.BigQuiet
import Derived.Deep.AppendLies
import Derived.Maps.AppendAt
import Derived.Deep.Draws
import Derived.Lib.Hide
import Derived.OrdersHeld
import Derived.KernelRfl
namespace Go.Proofs.YtdhiappifnflpaaGreat
open Go.RowKit
theorem sne {a b:Nat} (h:a≠b):some a≠some b:=fun e=>h (by injection e)
structure Kp (B:Nat) (row:Option Nat) (w w':World):Prop where
 os:w'.os=w.os
 tape:w'.tape=w.tape
 output:w'.output=w.output
 size:w.heap.size≤w'.heap.size
 block:∀ k,k<B→some k≠row→w'.heap[k]?=w.heap[k]?
section
variable {B B':Nat} {row:Option Nat} {w w' w1 w2:World}
theorem Kp.refl (B:Nat) (row:Option Nat) (w:World):Kp B row w w:=⟨rfl,rfl,rfl,Nat.le_refl _,fun _ _ _=>rfl⟩
theorem Kp.trans (h:Kp B row w w1) (k:Kp B row w1 w2):Kp B row w w2:=
 ⟨k.os.trans h.os,k.tape.trans h.tape,k.output.trans h.output,Nat.le_trans h.size k.size,fun i hi hn=>(k.block i hi hn).trans (h.block i hi hn)⟩
theorem Kp.mono (h:Kp B row w w') (hB:B'≤B):Kp B' row w w':=⟨h.os,h.tape,h.output,h.size,fun k hk=>h.block k (Nat.lt_of_lt_of_le hk hB)⟩
theorem Kp.wide (h:Kp B none w w') (row:Option Nat):Kp B row w w':=⟨h.os,h.tape,h.output,h.size,fun k hk _=>h.block k hk (by simp)⟩
theorem Kp.then_ (h:Kp B row w w1) (k:Kp w1.heap.size row w1 w2) (hB:B≤w.heap.size):Kp B row w w2:=h.trans (k.mono (Nat.le_trans hB h.size))
theorem Kp.thenN (h:Kp B row w w1) (k:Kp w1.heap.size none w1 w2) (hB:B≤w.heap.size):Kp B row w w2:=h.then_ (k.wide row) hB
theorem Kp.thenOwn {b:Nat} (h:Kp B row w w1) (k:Kp w1.heap.size (some b) w1 w2) (hB:B≤w.heap.size) (hb:B≤b):Kp B row w w2:=
 h.trans ⟨k.os,k.tape,k.output,k.size,fun i hi _=>k.block i (by have:=h.size;omega) (fun e=>by injection e with e;omega)⟩
theorem Kp.drew (h:Kp B row w w'):Kp B row w w'.drew:=⟨h.os,h.tape,h.output,h.size,h.block⟩
theorem Kp.drewN (h:Kp B row w w') (n:Nat):Kp B row w (w'.drewN n):=⟨h.os,h.tape,h.output,h.size,h.block⟩
theorem Kp.alloc (h:Kp B row w w') (hB:B≤w'.heap.size) (o:Obj):Kp B row w (w'.alloc o):=
 h.trans ⟨rfl,rfl,rfl,by simp,fun k hk _=>Below.heap_alloc _ _ _ (by omega)⟩
theorem Kp.setNew (h:Kp B row w w') {p:Addr} (hp:B≤p.block) (u:Value):Kp B row w (w'.setCell p u):=
 h.trans ⟨rfl,rfl,rfl,by simp[World.setCell],fun k hk _=>Below.heap_setCell _ _ _ _ (by omega)⟩
theorem Kp.setRow (h:Kp B row w w') {p:Addr} (hp:some p.block=row) (u:Value):Kp B row w (w'.setCell p u):=
 h.trans ⟨rfl,rfl,rfl,by simp[World.setCell],fun k _ hn=>Below.heap_setCell _ _ _ _ (fun e=>hn (by rw[e];exact hp))⟩
theorem Kp.of_grown (h:w.grownBy w' row):Kp w.heap.size row w w':=⟨h.os,h.tape,h.output,h.size,h.block⟩
theorem Kp.grown (h:Kp B row w w1) {r:Option Nat} (hg:w1.grownBy w2 r) (hB:B≤w1.heap.size) (hr:∀ k,r=some k→B≤k):Kp B row w w2:=
 h.trans ⟨hg.os,hg.tape,hg.output,hg.size,fun k hk _=>hg.block k (by omega) (fun e=>by have:=hr k e.symm;omega)⟩
theorem Kp.below (h:Kp B none w w'):Below B w w':=⟨h.os,h.tape,h.output,h.size,fun k hk=>h.block k hk (by simp)⟩
theorem Kp.cell (h:Kp B row w w') (b o:Nat) (hb:b<B) (hn:some b≠row):w'.cell? ⟨b,o,none⟩=w.cell? ⟨b,o,none⟩:=
 World.cell?_of_block (w:=w) (h.block b hb hn)
theorem Kp.frozen (h:Kp B row w w') (b o:Nat) (hb:b<B) (hn:some b≠row):w'.frozen? ⟨b,o,none⟩=w.frozen? ⟨b,o,none⟩:=
 World.frozen?_of_block (w:=w) (h.block b hb hn)
theorem Kp.cells (h:Kp w.heap.size none w w'):(∀ b o,b<w.heap.size→w'.cell? ⟨b,o,none⟩=w.cell? ⟨b,o,none⟩)∧(∀ b o,b<w.heap.size→w'.frozen? ⟨b,o,none⟩=w.frozen? ⟨b,o,none⟩):=
 ⟨fun b o hb=>h.cell b o hb (by simp),fun b o hb=>h.frozen b o hb (by simp)⟩
end
def Blk (w:World) (g:Nat) (t:TypeId) (cs:Array Value):Prop:=w.heap[g]?=some (.cells cs t (0,0))
section
variable {w w':World} {g:Nat} {t:TypeId} {cs:Array Value} {B:Nat} {row:Option Nat}
theorem Blk.lt (h:Blk w g t cs):g<w.heap.size:=by
 rcases Nat.lt_or_ge g w.heap.size with hlt|hge
 · exact hlt
 · unfold Blk at h;rw[Array.getElem?_eq_none hge] at h;cases h
theorem Blk.cell (h:Blk w g t cs) (i:Nat):w.cell? ⟨g,i,none⟩=cs[i]?:=cell_of_row w g i cs t (0,0) h
theorem Blk.frozen (h:Blk w g t cs) (i:Nat):w.frozen? ⟨g,i,none⟩=false:=by
 unfold Blk at h;simp[World.frozen?,h]
theorem Blk.new (w:World) (t:TypeId) (cs:Array Value):Blk (w.alloc (.cells cs t)) w.heap.size t cs:=heap_alloc_new w _
theorem Blk.newAt (w:World) (t:TypeId) (cs:Array Value) {n:Nat} (hn:n=w.heap.size):Blk (w.alloc (.cells cs t)) n t cs:=hn ▸ Blk.new w t cs
theorem Blk.drew (h:Blk w g t cs):Blk w.drew g t cs:=h
theorem Blk.drewN (h:Blk w g t cs) (n:Nat):Blk (w.drewN n) g t cs:=h
theorem Blk.alloc (h:Blk w g t cs) (o:Obj):Blk (w.alloc o) g t cs:=(Below.heap_alloc w o g h.lt).trans h
theorem Blk.set_ (h:Blk w g t cs) (i:Nat) (u:Value):Blk (w.setCell ⟨g,i,none⟩ u) g t (cs.setIfInBounds i u):=by
 unfold Blk at h ⊢;simp[World.setCell,Array.getElem?_modify,h]
theorem Blk.far (h:Blk w g t cs) {p:Addr} (hp:g≠p.block) (u:Value):Blk (w.setCell p u) g t cs:=(Below.heap_setCell w p u g hp).trans h
theorem Blk.kp (h:Blk w g t cs) (hk:Kp B row w w') (hg:g<B) (hn:some g≠row):Blk w' g t cs:=(hk.block g hg hn).trans h
theorem Blk.kpN (h:Blk w g t cs) (hk:Kp w.heap.size none w w'):Blk w' g t cs:=h.kp hk h.lt (by simp)
end
theorem sbt {α:Type} (l:List α) (i:Nat) (a:α):l.toArray.setIfInBounds i a=(l.set i a).toArray:=List.setIfInBounds_toArray _ _ _
theorem sc0 {α:Type} (x a:α) (l:List α):(x::l).set 0 a=a::l:=rfl
theorem scs {α:Type} (x a:α) (l:List α) (i:Nat):(x::l).set (i+1) a=x::l.set i a:=rfl
theorem Kp.tN {row:Option Nat} {w w1 w2:World} (h:Kp w.heap.size row w w1) (k:Kp w1.heap.size none w1 w2):Kp w.heap.size row w w2:=h.thenN k (Nat.le_refl _)
theorem Blk.kq {w w':World} {r g:Nat} {T:TypeId} {cs:Array Value} (h:Blk w r T cs) (k:Kp w.heap.size (some g) w w') (hn:r≠g):Blk w' r T cs:=h.kp k h.lt (sne hn)
theorem box1 (w:World) (T1:TypeId) (c1:Array Value):∃ w1,w1=(w.alloc (.cells c1 T1))∧Blk w1 (w.heap.size) T1 c1∧Kp w.heap.size none w w1∧w1.heap.size=w.heap.size+1:=
 ⟨_,rfl,Blk.newAt _ T1 c1 (by simp),(Kp.refl w.heap.size none w).alloc (by simp) _,by simp⟩
theorem box2 (w:World) (T1:TypeId) (c1:Array Value) (T2:TypeId) (c2:Array Value):∃ w1,w1=((w.alloc (.cells c1 T1)).alloc (.cells c2 T2))∧Blk w1 (w.heap.size) T1 c1∧Blk w1 (w.heap.size+1) T2 c2∧Kp w.heap.size none w w1∧w1.heap.size=w.heap.size+2:=
 ⟨_,rfl,(Blk.newAt _ T1 c1 (by simp)).alloc _,Blk.newAt _ T2 c2 (by simp),((Kp.refl w.heap.size none w).alloc (by simp) _).alloc (by simp) _,by simp⟩
theorem box3 (w:World) (T1:TypeId) (c1:Array Value) (T2:TypeId) (c2:Array Value) (T3:TypeId) (c3:Array Value):∃ w1,w1=(((w.alloc (.cells c1 T1)).alloc (.cells c2 T2)).alloc (.cells c3 T3))∧Blk w1 (w.heap.size) T1 c1∧Blk w1 (w.heap.size+1) T2 c2∧Blk w1 (w.heap.size+2) T3 c3∧Kp w.heap.size none w w1∧w1.heap.size=w.heap.size+3:=
 ⟨_,rfl,((Blk.newAt _ T1 c1 (by simp)).alloc _).alloc _,(Blk.newAt _ T2 c2 (by simp)).alloc _,Blk.newAt _ T3 c3 (by simp),(((Kp.refl w.heap.size none w).alloc (by simp) _).alloc (by simp) _).alloc (by simp<;>omega) _,by simp⟩
theorem box4 (w:World) (T1:TypeId) (c1:Array Value) (T2:TypeId) (c2:Array Value) (T3:TypeId) (c3:Array Value) (T4:TypeId) (c4:Array Value):∃ w1,w1=((((w.alloc (.cells c1 T1)).alloc (.cells c2 T2)).alloc (.cells c3 T3)).alloc (.cells c4 T4))∧Blk w1 (w.heap.size) T1 c1∧Blk w1 (w.heap.size+1) T2 c2∧Blk w1 (w.heap.size+2) T3 c3∧Blk w1 (w.heap.size+3) T4 c4∧Kp w.heap.size none w w1∧w1.heap.size=w.heap.size+4:=
 ⟨_,rfl,(((Blk.newAt _ T1 c1 (by simp)).alloc _).alloc _).alloc _,((Blk.newAt _ T2 c2 (by simp)).alloc _).alloc _,(Blk.newAt _ T3 c3 (by simp)).alloc _,Blk.newAt _ T4 c4 (by simp),((((Kp.refl w.heap.size none w).alloc (by simp) _).alloc (by simp) _).alloc (by simp<;>omega) _).alloc (by simp<;>omega) _,by simp⟩
theorem box5 (w:World) (T1:TypeId) (c1:Array Value) (T2:TypeId) (c2:Array Value) (T3:TypeId) (c3:Array Value) (T4:TypeId) (c4:Array Value) (T5:TypeId) (c5:Array Value):∃ w1,w1=(((((w.alloc (.cells c1 T1)).alloc (.cells c2 T2)).alloc (.cells c3 T3)).alloc (.cells c4 T4)).alloc (.cells c5 T5))∧Blk w1 (w.heap.size) T1 c1∧Blk w1 (w.heap.size+1) T2 c2∧Blk w1 (w.heap.size+2) T3 c3∧Blk w1 (w.heap.size+3) T4 c4∧Blk w1 (w.heap.size+4) T5 c5∧Kp w.heap.size none w w1∧w1.heap.size=w.heap.size+5:=
 ⟨_,rfl,((((Blk.newAt _ T1 c1 (by simp)).alloc _).alloc _).alloc _).alloc _,(((Blk.newAt _ T2 c2 (by simp)).alloc _).alloc _).alloc _,((Blk.newAt _ T3 c3 (by simp)).alloc _).alloc _,(Blk.newAt _ T4 c4 (by simp)).alloc _,Blk.newAt _ T5 c5 (by simp),(((((Kp.refl w.heap.size none w).alloc (by simp) _).alloc (by simp) _).alloc (by simp<;>omega) _).alloc (by simp<;>omega) _).alloc (by simp<;>omega) _,by simp⟩
def Rd {α:Type} (row:Option Nat) (w:World) (sz:Nat) (enc:α→List Value) (A:Option Addr) (n:Nat) (xs:List α):Prop:=
 xs.length=n∧(0<n→∃ b o,A=some ⟨b,o,none⟩∧b<w.heap.size∧some b≠row ∧
  ∀ i (hi:i<xs.length) j v,(enc xs[i])[j]?=some v→w.cell? ⟨b,o+(i * sz+j),none⟩=some v)
section
variable {α:Type} {row r:Option Nat} {w w':World} {sz n B:Nat} {enc:α→List Value} {A:Option Addr} {xs:List α}
theorem Rd.len (h:Rd row w sz enc A n xs):xs.length=n:=h.1
theorem Rd.nil (row:Option Nat) (w:World) (sz:Nat) (enc:α→List Value) (A:Option Addr):Rd row w sz enc A 0 []:=⟨rfl,fun h=>absurd h (by omega)⟩
theorem Rd.kp (h:Rd row w sz enc A n xs) (hk:Kp w.heap.size row w w'):Rd row w' sz enc A n xs:=by
 refine⟨h.1,fun hn=>?_⟩;obtain⟨b,o,e,hb,hr,hc⟩:=h.2 hn;exact⟨b,o,e,Nat.lt_of_lt_of_le hb hk.size,hr,fun i hi j v hv=>(hk.cell b _ hb hr).trans (hc i hi j v hv)⟩
theorem Rd.kpN (h:Rd row w sz enc A n xs) (hk:Kp w.heap.size none w w'):Rd row w' sz enc A n xs:=h.kp (hk.wide row)
theorem Rd.free (h:Rd row w sz enc A n xs):Rd none w sz enc A n xs:=by
 refine⟨h.1,fun hn=>?_⟩;obtain⟨b,o,e,hb,hr,hc⟩:=h.2 hn;exact⟨b,o,e,hb,by simp,hc⟩
theorem Rd.drew (h:Rd row w sz enc A n xs):Rd row w.drew sz enc A n xs:=h
theorem Rd.drewN (h:Rd row w sz enc A n xs) (k:Nat):Rd row (w.drewN k) sz enc A n xs:=h
theorem Rd.alloc (h:Rd row w sz enc A n xs) (o:Obj):Rd row (w.alloc o) sz enc A n xs:=h.kp ((Kp.refl _ _ w).alloc (Nat.le_refl _) o)
theorem Rd.setCell (h:Rd row w sz enc A n xs) {p:Addr} (hp:some p.block=row) (u:Value):Rd row (w.setCell p u) sz enc A n xs:=
 h.kp ((Kp.refl _ _ w).setRow hp u)
theorem Rd.at_ (h:Rd row w sz enc A n xs) (hn:0<n):∃ b o,A=some ⟨b,o,none⟩∧b<w.heap.size∧some b≠row ∧
 ∀ i (hi:i<xs.length) j v,(enc xs[i])[j]?=some v→w.cell? ⟨b,o+(i * sz+j),none⟩=some v:=h.2 hn
end
theorem Rd.cell1 {α:Type} {w:World} {enc:α→List Value} {f:α→Value} {b o:Nat} {xs:List α} (he:∀ x,enc x=[f x])
  (h:∀ i (hi:i<xs.length) j v,(enc xs[i])[j]?=some v→w.cell? ⟨b,o+(i * 1+j),none⟩=some v) (i:Nat) (hi:i<xs.length):w.cell? ⟨b,o+i,none⟩=some (f xs[i]):=by
 have:=h i hi 0 (f xs[i]) (by rw[he];rfl);simpa using this
theorem alloc_ge {B:Nat} {w:World} (h:B≤w.heap.size) (o:Obj):B≤(w.alloc o).heap.size:=by simp;omega
theorem maxLen_of {n:Nat} (h:n≤1000000):n≤maxLen:=by unfold maxLen;omega
theorem flat_at {α:Type} {enc:α→List Value} {sz:Nat} (he:∀ x,(enc x).length=sz):∀ (xs:List α) (i:Nat) (hi:i<xs.length) (j:Nat),j<sz→(xs.flatMap enc)[i * sz+j]?=(enc xs[i])[j]?
 | x::xs,0,_,j,hj=>by
  rw[List.flatMap_cons,List.getElem?_append_left (by rw[he];omega)];simp
 | x::xs,i+1,hi,j,hj=>by
  rw[List.flatMap_cons,List.getElem?_append_right (by rw[he,Nat.succ_mul];omega),he,Nat.succ_mul];rw[show i * sz+sz+j-sz=i * sz+j from by omega];simpa using flat_at he xs i (by simpa using hi) j hj
theorem flat_len {α:Type} {enc:α→List Value} {sz:Nat} (he:∀ x,(enc x).length=sz):∀ xs:List α,(xs.flatMap enc).length=xs.length * sz
 | []=>by simp
 | x::xs=>by rw[List.flatMap_cons,List.length_append,he,flat_len he xs,List.length_cons,Nat.succ_mul];omega
def Own {α:Type} (w:World) (B:Nat) (e:TypeId) (sz:Nat) (enc:α→List Value) (v:Value) (xs:List α):Prop:=w.ownsRow B e sz v xs.length (xs.flatMap enc)
section
variable {α:Type} {w w' w1:World} {B e sz n:Nat} {enc:α→List Value} {v:Value} {xs:List α} {row:Option Nat}
theorem Own.nil (w:World) (B:Nat) (e:TypeId) (sz:Nat) (enc:α→List Value):Own w B e sz enc (.slice none 0 0) []:=World.ownsRow_nil w B e sz
theorem Own.kp (h:Own w B e sz enc v xs) (hk:Kp w.heap.size row w w') (hr:∀ b,B≤b→some b≠row):Own w' B e sz enc v xs:=by
 have hg:w.grownBy w' row:=⟨hk.os,hk.tape,hk.output,hk.size,hk.block⟩;refine World.ownsRow.kept h hg ?_;cases hv:v.ownBlock with
 | none=>exact .inl rfl
 | some b=>exact .inr (hr b (World.ownsRow.lt h b hv).1)
theorem Own.kpN (h:Own w B e sz enc v xs) (hk:Kp w.heap.size none w w'):Own w' B e sz enc v xs:=h.kp hk (fun _ _=>by simp)
theorem Own.alloc (h:Own w B e sz enc v xs) (o:Obj):Own (w.alloc o) B e sz enc v xs:=h.kpN ((Kp.refl _ _ w).alloc (Nat.le_refl _) o)
theorem Own.drew (h:Own w B e sz enc v xs):Own w.drew B e sz enc v xs:=h.kpN (Kp.refl _ _ w).drew
theorem Own.ge (h:Own w B e sz enc v xs):∀ k,v.ownBlock=some k→B≤k∧k<w.heap.size:=World.ownsRow.lt h
theorem Own.rd (h:Own w B e sz enc v xs) (he:∀ x,(enc x).length=sz) (hrow:∀ b,B≤b→some b≠row):∃ A cap,v=.slice A xs.length cap∧Rd row w sz enc A xs.length xs∧∀ ad,A=some ad→B≤ad.block∧ad.block<w.heap.size:=by
 rcases h.2 with⟨rfl,h0⟩|⟨g,cap,cur,rfl,hb,hh,_,_,_,_⟩
 ·
  rw[h0];have:xs=[]:=List.eq_nil_of_length_eq_zero h0;subst this;exact⟨none,0,rfl,Rd.nil _ _ _ _ _,fun ad e=>by cases e⟩
 ·
  have hlt:g<w.heap.size:=(World.ownsRow.lt h g rfl).2;refine⟨_,cap,rfl,⟨rfl,fun hn=>⟨g,0,rfl,hlt,hrow g hb,fun i hi j u hu=>?_⟩⟩,fun ad e=>by injection e with e;subst e;exact⟨hb,hlt⟩⟩
  have hj:j<sz:=by
   have:=(List.getElem?_eq_some_iff.1 hu).1;rwa [he] at this
  have:=World.ownsRow.cells h (g:=g) rfl (i * sz+j) u (by rw[flat_at he xs i hi j hj];exact hu);rw[Nat.zero_add]
  have hadd:(⟨g,0,none⟩:Addr).add (i * sz+j)=⟨g,i * sz+j,none⟩:=by
   unfold Addr.add;split
   · rename_i h0;rw[h0]
   · simp
  rwa [hadd] at this
end
structure Ev (C:World→Prop) where
 w:World
 h:C w
def valOp:Op→Bool
 | .move _|.assign _|.pick ..|.build ..|.load ..|.nilCheck _|.binOp ..|.unOp ..|.convert ..|.slice ..|.fieldAddr ..|.field ..|.indexAddr ..|.index ..|.extract ..=>true
 | .call { callee:=.builtin .len,.. }|.call { callee:=.builtin .min,.. }|.call { callee:=.builtin .max,.. }|.call { callee:=.builtin .cap,.. }=>true
 | _=>false
def OnlyVal (s:Sem Next):Prop:=∀ P w,(∃ v w',s.run P w=.ok (.value v) w')∨∃ h w',s.run P w=.halt h w'
theorem OnlyVal.bind {α:Type} {s:Sem α} {f:α→Sem Next} (h:∀ x,OnlyVal (f x)):OnlyVal (s >>= f):=by
 intro P w;simp only[Sem.run_bind];cases hr:s.run P w with
 | ok v w'=>exact h v P w'
 | halt x w'=>exact .inr ⟨x,w',rfl⟩
theorem OnlyVal.pure_ (v:Value):OnlyVal (pure (.value v)):=fun _ w=>.inl ⟨v,w,rfl⟩
theorem OnlyVal.halt_ (h:Halt):OnlyVal (Sem.halt h):=fun _ w=>.inr ⟨h,w,rfl⟩
theorem OnlyVal.of_sem (s:Sem Value):OnlyVal (do pure (.value (← s))):=OnlyVal.bind fun v=>OnlyVal.pure_ v
theorem OnlyVal.nilDeref:OnlyVal (runtimePanic .nilDeref:Sem Next):=OnlyVal.bind fun _=>OnlyVal.halt_ _
theorem onlyVal_of_valOp {o:Oper} (h:valOp o.op=true) (ρ:Operand→Value):OnlyVal (execOp ρ o):=by
 unfold execOp;cases ho:o.op with
 | call c=>
  rw[ho] at h;obtain⟨cal,args,ats⟩:=c;cases cal with
  | builtin b=>
   cases b<;>simp only[valOp,Bool.false_eq_true] at h<;>exact OnlyVal.of_sem _
  | value f=>simp[valOp] at h
  | invoke r m=>simp[valOp] at h
 | nilCheck x=>
  dsimp only;split
  · exact OnlyVal.nilDeref
  · exact OnlyVal.nilDeref
  · exact OnlyVal.nilDeref
  ·
   split
   · exact OnlyVal.nilDeref
   ·
    refine OnlyVal.bind fun p=>OnlyVal.bind fun r=>?_;split
    · exact OnlyVal.bind fun _=>OnlyVal.pure_ _
    · exact OnlyVal.pure_ _
   · exact OnlyVal.pure_ _
  · exact OnlyVal.pure_ _
 | move x=>exact OnlyVal.pure_ _
 | assign x=>exact OnlyVal.pure_ _
 | pick x y z=>exact OnlyVal.bind fun _=>OnlyVal.pure_ _
 | _=>first|(rw[ho] at h;simp[valOp] at h;done)|exact OnlyVal.of_sem _
theorem yieldsIf_of_quiet {P:Program} {ops:Array Oper} {o:Oper} {a:Act} {C:World→Prop} {v:Value} (hv:valOp o.op=true)
  (hw:Region.wanted o (yielded ops a.tmps)=true) (h:∀ w,C w→o.quietAt P a C w v):YieldsIf P ops C o v a:=by
 refine .inl ⟨hw,fun w hC=>?_⟩;have h1:=h w hC;unfold Oper.quietAt at h1;rcases onlyVal_of_valOp hv a.eval P w with⟨u,w',hr⟩|⟨x,w',hr⟩
 ·
  rw[hr] at h1 ⊢;obtain⟨rfl,rfl⟩:=h1;rfl
 ·
  rw[hr] at h1;exact h1.elim
def nthOp:List Oper→Nat→Option Oper
 | [],_=>none
 | o::_,0=>some o
 | _::l,n+1=>nthOp l n
theorem nthOp_eq:∀ (l:List Oper) (i:Nat),nthOp l i=l.toArray[i]?
 | [],_=>by simp[nthOp]
 | _::_,0=>by simp[nthOp]
 | _::l,i+1=>by have:=nthOp_eq l i;simp[nthOp,this]
def nx (adv:List Nat) (p i:Nat):Nat:=if adv.contains i then p+1 else p
section
variable {P:Program} {ops:Array Oper} {Q:Exit→Act→World→Prop} {S:Nat→World→Prop} {adv:List Nat}
def wpPh (P:Program) (ops:Array Oper) (Q:Exit→Act→World→Prop) (S:Nat→World→Prop) (adv:List Nat):Nat→Array Bool→Nat→Act→World→Prop
 | 0,listed,_,a,w=>Region.ready .any ops listed=[]∧Q .normal a w
 | fuel+1,listed,p,a,w=>
  (Region.ready .any ops listed=[]→Q .normal a w) ∧
  ∀ i∈Region.ready .any ops listed,wpOp P ops Q i (fun a' w'=>S (nx adv p i) w'∧wpPh P ops Q S adv fuel (listed.setIfInBounds i true) (nx adv p i) a' w') a w
theorem wpAny_of_ph:∀ (fuel:Nat) (listed:Array Bool) (p:Nat) (a:Act) (w:World),wpPh P ops Q S adv fuel listed p a w→wpAny P .any ops Q fuel listed a w
 | 0,_,_,_,_,h=>h
 | fuel+1,_,_,_,_,h=>⟨h.1,fun i hi=>wpOp_mono (fun a' w' h'=>wpAny_of_ph fuel _ _ a' w' h'.2) (h.2 i hi)⟩
theorem wpPh_first {i:Nat} {oi:Oper} {v:Value} {Si:World→Prop} (hi:ops[i]?=some oi) (hia:adv.contains i=false) (hsel:∀ (j:Nat) (o:Oper) cs b,ops[j]?=some o→o.op≠.select cs b)
  (hQ:∀ c a w,Q (.panic c) (a.put oi.dst v) w→Q (.panic c) a w) :
  ∀ (fuel:Nat) (listed:Array Bool) (p:Nat) (a:Act) (w:World),
   (∀ j oj,ops[j]?=some oj→j≠i→listed.getD j true=false→(∀ e∈oj.after,Region.binds .any e=true→e.on≠i)→oi.apart ops oj=true∧(adv.contains j=false∨∀ w,Si w)) →
   (∀ w,S p w→Si w)→i∈Region.ready .any ops listed→YieldsIf P ops Si oi v a→S p w →
   wpPh P ops Q S adv fuel (listed.setIfInBounds i true) p (a.put oi.dst v) w→wpPh P ops Q S adv (fuel+1) listed p a w:=by
 have hn:∀ p,nx adv p i=p:=fun p=>by simp[nx];intro h;rw[List.contains_eq_mem] at hia;simp[h] at hia
 intro fuel;induction fuel with
 | zero=>
  intro listed p a w _ hS hr hy hw H;refine⟨fun h=>(by rw[h] at hr;cases hr),fun j hj=>?_⟩;by_cases hji:j=i
  ·
   subst hji;exact hy.wpOp hi (hS w hw) ⟨(hn p).symm ▸ hw,H⟩
  ·
   have:=ready_mono hj hji;rw[H.1] at this;cases this
 | succ fuel ih=>
  intro listed p a w hfree hS hr hy hw H;refine⟨fun h=>(by rw[h] at hr;cases hr),fun j hj=>?_⟩;by_cases hji:j=i
  ·
   subst hji;exact hy.wpOp hi (hS w hw) ⟨(hn p).symm ▸ hw,(hn p).symm ▸ H⟩
  ·
   have h1:=H.2 j (ready_mono hj hji);obtain⟨hjun,oj,hoj,hall⟩:=mem_ready.1 hj
   have hnot:∀ e∈oj.after,Region.binds .any e=true→e.on≠i:=fun e he hb heq=>by
    have h1:=hall e he hb;have h0:=(mem_ready.1 hr).1;rw[heq] at h1;rcases Nat.lt_or_ge i listed.size with h'|h'
    · simp[h'] at h0 h1;rw[h0] at h1;cases h1
    · simp[Array.getElem?_eq_none h'] at h1
   obtain⟨hap,had⟩:=hfree j oj hoj hji hjun hnot;have h2:=wpOp_putIf hoj hap (fun cs b=>hsel i oi cs b hi) (fun cs b=>hsel j oj cs b hoj) hQ hy h1
   have hfree':∀ k ok,ops[k]?=some ok→k≠i→(listed.setIfInBounds j true).getD k true=false →
     (∀ e∈ok.after,Region.binds .any e=true→e.on≠i)→oi.apart ops ok=true∧(adv.contains k=false∨∀ w,Si w):=fun k ok hk hki hun hno=>by
    refine hfree k ok hk hki ?_ hno;by_cases hjk:j=k
    · subst hjk;exact hjun
    · rw[getD_set_ne true hjk] at hun;exact hun
   have hS':∀ w,S (nx adv p j) w→Si w:=by
    rcases had with had|had
    ·
     intro w hw;refine hS w ?_;have:nx adv p j=p:=by simp[nx];intro h;rw[List.contains_eq_mem] at had;simp[h] at had
     rwa [this] at hw
    · exact fun w _=>had w
   refine wpOp_mono (fun a' w' h3=>⟨h3.2.1,ih (listed.setIfInBounds j true) (nx adv p j) a' w' hfree' hS' (ready_mono hr (Ne.symm hji)) h3.1 h3.2.1 ?_⟩) h2;rw[Array.setIfInBounds_comm _ _ hji];exact h3.2.2
end
def ordB (ops:Array Oper) (adv:List Nat):List (Nat × Nat)→Array Bool→Bool
 | [],listed=>(Region.ready .any ops listed).isEmpty
 | (i,k)::r,listed=>
  (match k with
   | 0=>(Region.ready .any ops listed).contains i&&Region.free .any ops listed i&&((ops[i]?).map (valOp ·.op)).getD false&&!adv.contains i
   | 1=>(Region.ready .any ops listed).contains i&&Region.free .any ops listed i&&((ops[i]?).map (valOp ·.op)).getD false&&!adv.contains i &&
    adv.all fun j=>listed.getD j true||((ops[j]?).map fun oj=>oj.after.any fun e=>Region.binds .any e&&e.on==i).getD true
   | 2=>Region.ready .any ops listed==[i]&&!adv.contains i
   | 3=>Region.ready .any ops listed==[i]&&adv.contains i
   | _=>false)
  && ordB ops adv r (listed.setIfInBounds i true)
def wpOrd (P:Program) (l:List Oper) (S:Nat→World→Prop) (Q:Act→World→Prop):List (Nat × Nat)→Nat→Act→World→Prop
 | [],_,a,w=>Q a w
 | (i,k)::r,p,a,w=>∃ o,nthOp l i=some o ∧
  if Region.wanted o (yielded l.toArray a.tmps) then
   (match k with
    | 0=>o.quiet P a (fun w'=>∃ x:Ev (fun _=>True),w'=x.w) (fun a'=>wpOrd P l S Q r p a' w)
    | 1=>o.quiet P a (fun w'=>∃ x:Ev (S p),w'=x.w) (fun a'=>wpOrd P l S Q r p a' w)
    | 2=>o.wp P a w (fun a' w'=>S p w'∧wpOrd P l S Q r p a' w') (fun _ _ _=>False)
    | _=>o.wp P a w (fun a' w'=>S (p+1) w'∧wpOrd P l S Q r (p+1) a' w') (fun _ _ _=>False))
  else if k=3 then S (p+1) w∧wpOrd P l S Q r (p+1) (a.put o.dst undef) w else wpOrd P l S Q r p (a.put o.dst undef) w
def onlyNormal (Q:Act→World→Prop):Exit→Act→World→Prop
 | .normal,a,w=>Q a w
 | _,_,_=>False
theorem wp_exits {P:Program} {o:Oper} {a:Act} {w:World} {K:Act→World→Prop} {Q Q':Exit→Act→World→Prop} (hq:∀ e a w,Q e a w→Q' e a w)
  (hh:o.wp P a w K Q):o.wp P a w K Q':=by
 unfold Oper.wp at *;generalize (execOp a.eval o).run P w=r at *;cases r with
 | ok n w'=>
  cases n<;>simp only[Oper.upon] at hh ⊢ <;>
   first
    | exact hh
    | exact Calls.mono hh (fun e w'' he=>by cases e<;>first|exact he|exact hq _ _ _ he|exact(let ⟨a,w,h⟩:=he;⟨a,w,hq _ _ _ h⟩))
 | halt x w'=>cases x<;>simp only[Oper.upon] at hh ⊢<;>first|exact hh|exact hq _ _ _ hh
section
variable {P:Program} {l:List Oper} {S:Nat→World→Prop} {adv:List Nat} {Q:Act→World→Prop}
theorem nx_in {p i:Nat} (h:adv.contains i=true):nx adv p i=p+1:=by unfold nx;rw[if_pos h]
theorem nx_out {p i:Nat} (h:adv.contains i=false):nx adv p i=p:=by unfold nx;rw[if_neg (by rw[h];simp)]
theorem wpPh_of_ord (hs:Region.noSelect l.toArray=true):∀ (r:List (Nat × Nat)) (listed:Array Bool) (p:Nat) (a:Act) (w:World),ordB l.toArray adv r listed=true→S p w→wpOrd P l S Q r p a w →
  wpPh P l.toArray (onlyNormal Q) S adv r.length listed p a w
 | [],listed,p,a,w,hB,_,h=>⟨by simpa [ordB] using hB,h⟩
 | (i,0)::r,listed,p,a,w,hB,hC,h=>by
  obtain⟨o,ho,h⟩:=h;have ho':l.toArray[i]?=some o:=by rw[← nthOp_eq];exact ho
  simp only[ordB,Bool.and_eq_true,ho',Option.map_some,Option.getD_some,Bool.not_eq_true'] at hB;obtain⟨⟨⟨⟨hr,hf⟩,hv⟩,hia⟩,hB'⟩:=hB;have hap:=Region.free_spec ho' hf;by_cases hw:Region.wanted o (yielded l.toArray a.tmps)=true
  ·
   simp only[hw,if_true] at h;obtain⟨v,h1,h2⟩:=h
   have hy:YieldsIf P l.toArray (fun _=>True) o v a:=by
    have:=yieldsIf_of_quiet hv hw h1;exact this.imp (fun ⟨e1,e2⟩=>⟨e1,fun w' hC'=>e2 w' ⟨⟨w',hC'⟩,rfl⟩⟩) id
   exact wpPh_first ho' hia (Region.noSelect_spec hs) (fun _ _ _ hh=>hh) _ _ _ _ _ (fun j oj hj hji hun hno=>⟨hap j oj hj hji hun hno,.inr fun _=>trivial⟩) (fun _ _=>trivial) (by simpa using hr) hy hC (wpPh_of_ord hs r _ _ _ w hB' hC h2)
  ·
   simp only[hw,if_false,Bool.false_eq_true] at h;simp only[show ¬ (0=3) from by omega,if_false] at h
   exact wpPh_first (Si:=fun _=>True) ho' hia (Region.noSelect_spec hs) (fun _ _ _ hh=>hh) _ _ _ _ _ (fun j oj hj hji hun hno=>⟨hap j oj hj hji hun hno,.inr fun _=>trivial⟩) (fun _ _=>trivial) (by simpa using hr)
    (.inr ⟨by simpa using hw,rfl⟩) hC (wpPh_of_ord hs r _ _ _ w hB' hC h)
 | (i,1)::r,listed,p,a,w,hB,hC,h=>by
  obtain⟨o,ho,h⟩:=h;have ho':l.toArray[i]?=some o:=by rw[← nthOp_eq];exact ho
  simp only[ordB,Bool.and_eq_true,ho',Option.map_some,Option.getD_some,Bool.not_eq_true'] at hB;obtain⟨⟨⟨⟨⟨hr,hf⟩,hv⟩,hia⟩,hadv⟩,hB'⟩:=hB;have hap:=Region.free_spec ho' hf
  have hno':∀ j oj,l.toArray[j]?=some oj→listed.getD j true=false→(∀ e∈oj.after,Region.binds .any e=true→e.on≠i)→adv.contains j=false:=by
   intro j oj hj hun hno;by_cases hja:adv.contains j=true
   ·
    have hm:j∈adv:=by simpa using hja
    have:=List.all_eq_true.1 hadv j hm;simp only[hun,Bool.false_or,hj,Option.map_some,Option.getD_some] at this;obtain⟨e,he,hb⟩:=Array.any_eq_true'.1 this;simp only[Bool.and_eq_true,beq_iff_eq] at hb;exact absurd hb.2 (hno e he hb.1)
   · simpa using hja
  by_cases hw:Region.wanted o (yielded l.toArray a.tmps)=true
  ·
   simp only[hw,if_true] at h;obtain⟨v,h1,h2⟩:=h
   have hy:YieldsIf P l.toArray (S p) o v a:=by
    have:=yieldsIf_of_quiet hv hw h1;exact this.imp (fun ⟨e1,e2⟩=>⟨e1,fun w' hC'=>e2 w' ⟨⟨w',hC'⟩,rfl⟩⟩) id
   exact wpPh_first ho' hia (Region.noSelect_spec hs) (fun _ _ _ hh=>hh) _ _ _ _ _ (fun j oj hj hji hun hno=>⟨hap j oj hj hji hun hno,.inl (hno' j oj hj hun hno)⟩) (fun _ h=>h) (by simpa using hr) hy hC (wpPh_of_ord hs r _ _ _ w hB' hC h2)
  ·
   simp only[hw,if_false,Bool.false_eq_true] at h;simp only[show ¬ (1=3) from by omega,if_false] at h
   exact wpPh_first (Si:=S p) ho' hia (Region.noSelect_spec hs) (fun _ _ _ hh=>hh) _ _ _ _ _ (fun j oj hj hji hun hno=>⟨hap j oj hj hji hun hno,.inl (hno' j oj hj hun hno)⟩) (fun _ h=>h) (by simpa using hr)
    (.inr ⟨by simpa using hw,rfl⟩) hC (wpPh_of_ord hs r _ _ _ w hB' hC h)
 | (i,2)::r,listed,p,a,w,hB,hC,h=>by
  obtain⟨o,ho,h⟩:=h;have ho':l.toArray[i]?=some o:=by rw[← nthOp_eq];exact ho
  simp only[ordB,Bool.and_eq_true,beq_iff_eq,Bool.not_eq_true'] at hB;obtain⟨⟨hr,hia⟩,hB'⟩:=hB;refine⟨fun h0=>(by rw[hr] at h0;cases h0),fun j hj=>?_⟩;rw[hr] at hj;have hj':j=i:=by simpa using hj
  subst hj';rw[nx_out hia];unfold wpOp;simp only[ho'];by_cases hw:Region.wanted o (yielded l.toArray a.tmps)=true
  ·
   simp only[hw,if_true] at h ⊢;refine .inl ?_
   have h3:=Oper.wp_mono (P:=P) (Q:=fun _ _ _=>False) (K':=fun a' w'=>S p w'∧wpPh P l.toArray (onlyNormal Q) S adv r.length (listed.setIfInBounds j true) p a' w')
    (fun a' w' hh=>⟨hh.1,wpPh_of_ord hs r _ _ a' w' hB' hh.1 hh.2⟩) h
   exact wp_exits (fun e a w hh=>hh.elim) h3
  ·
   simp only[hw,if_false,Bool.false_eq_true] at h ⊢;simp only[show ¬ (2=3) from by omega,if_false] at h;exact⟨hC,wpPh_of_ord hs r _ _ _ w hB' hC h⟩
 | (i,3)::r,listed,p,a,w,hB,hC,h=>by
  obtain⟨o,ho,h⟩:=h;have ho':l.toArray[i]?=some o:=by rw[← nthOp_eq];exact ho
  simp only[ordB,Bool.and_eq_true,beq_iff_eq] at hB;obtain⟨⟨hr,hia⟩,hB'⟩:=hB;refine⟨fun h0=>(by rw[hr] at h0;cases h0),fun j hj=>?_⟩;rw[hr] at hj;have hj':j=i:=by simpa using hj
  subst hj';rw[nx_in hia];unfold wpOp;simp only[ho'];by_cases hw:Region.wanted o (yielded l.toArray a.tmps)=true
  ·
   simp only[hw,if_true] at h ⊢;refine .inl ?_
   have h3:=Oper.wp_mono (P:=P) (Q:=fun _ _ _=>False) (K':=fun a' w'=>S (p+1) w'∧wpPh P l.toArray (onlyNormal Q) S adv r.length (listed.setIfInBounds j true) (p+1) a' w')
    (fun a' w' hh=>⟨hh.1,wpPh_of_ord hs r _ _ a' w' hB' hh.1 hh.2⟩) h
   exact wp_exits (fun e a w hh=>hh.elim) h3
  ·
   simp only[hw,if_false,if_true,Bool.false_eq_true] at h ⊢;exact⟨h.1,wpPh_of_ord hs r _ _ _ w hB' h.1 h.2⟩
 | (i,k+4)::r,listed,p,a,w,hB,hC,h=>by
  simp[ordB] at hB
theorem wp_region_ord {id:Nat} {Q:Exit→Act→World→Prop} {a:Act} {w:World} (S:Nat→World→Prop) (ord:List (Nat × Nat)) (adv:List Nat) (hm:P.follows .mixedOrders=true)
  (hB:(Region.noSelect l.toArray&&(ordB l.toArray adv ord (Array.replicate l.toArray.size false)&&ord.length==l.toArray.size))=true)
  (hC:S 0 w.drew) (h:Nonempty (Ev (S 0))→wpOrd P l S (fun a' w'=>Q .normal a' w') ord 0 a w.drew):(Code.region id l.toArray true).wp P Q a w:=by
 simp only[Bool.and_eq_true,beq_iff_eq] at hB;obtain⟨hs,hB,hl⟩:=hB;have h1:=wpPh_of_ord (Q:=fun a' w'=>Q .normal a' w') hs ord (Array.replicate l.toArray.size false) 0 a w.drew hB hC (h ⟨⟨_,hC⟩⟩);rw[hl] at h1;refine Code.wp_mono ?_ (wp_region_any hm (wpAny_of_ph _ _ _ _ _ h1));intro e a w hq;cases e<;>first|exact hq|exact hq.elim
theorem ev_true:Nonempty (Ev (fun _=>True)):=⟨⟨default,trivial⟩⟩
variable {p:Nat}
theorem wpOrd_nil {a:Act} {w:World} (h:Q a w):wpOrd P l S Q [] p a w:=h
theorem wpOrd_v {i:Nat} {r:List (Nat × Nat)} {a:Act} {w:World} {o:Oper} (ho:nthOp l i=some o) (hw:Region.wanted o (yielded l.toArray a.tmps)=true)
  (h:∀ K:Act→Prop,(∀ a,wpOrd P l S Q r p a w→K a)→o.quiet P a (fun w'=>∃ x:Ev (fun _=>True),w'=x.w) K):wpOrd P l S Q ((i,0)::r) p a w:=
 ⟨o,ho,by rw[if_pos hw];exact h _ fun _ h=>h⟩
theorem wpOrd_q {i:Nat} {r:List (Nat × Nat)} {a:Act} {w:World} {o:Oper} (ho:nthOp l i=some o) (hw:Region.wanted o (yielded l.toArray a.tmps)=true)
  (h:∀ K:Act→Prop,(∀ a,wpOrd P l S Q r p a w→K a)→o.quiet P a (fun w'=>∃ x:Ev (S p),w'=x.w) K):wpOrd P l S Q ((i,1)::r) p a w:=
 ⟨o,ho,by rw[if_pos hw];exact h _ fun _ h=>h⟩
theorem wpOrd_s {i k:Nat} {r:List (Nat × Nat)} {a:Act} {w:World} {o:Oper} (hk:k≠3) (ho:nthOp l i=some o) (hw:Region.wanted o (yielded l.toArray a.tmps)=false)
  (h:wpOrd P l S Q r p (a.put o.dst undef) w):wpOrd P l S Q ((i,k)::r) p a w:=
 ⟨o,ho,by rw[if_neg (by rw[hw];exact Bool.false_ne_true),if_neg hk];exact h⟩
theorem wpOrd_l {i:Nat} {r:List (Nat × Nat)} {a:Act} {w:World} {o:Oper} (ho:nthOp l i=some o) (hw:Region.wanted o (yielded l.toArray a.tmps)=true)
  (h:∀ K:Act→World→Prop,(∀ a w,S p w→wpOrd P l S Q r p a w→K a w)→o.wp P a w K (fun _ _ _=>False)):wpOrd P l S Q ((i,2)::r) p a w:=
 ⟨o,ho,by rw[if_pos hw];exact h _ fun _ _ h1 h2=>⟨h1,h2⟩⟩
theorem wpOrd_a {i:Nat} {r:List (Nat × Nat)} {a:Act} {w:World} {o:Oper} (ho:nthOp l i=some o) (hw:Region.wanted o (yielded l.toArray a.tmps)=true)
  (h:∀ K:Act→World→Prop,(∀ a w,S (p+1) w→wpOrd P l S Q r (p+1) a w→K a w)→o.wp P a w K (fun _ _ _=>False)):wpOrd P l S Q ((i,3)::r) p a w:=
 ⟨o,ho,by rw[if_pos hw];exact h _ fun _ _ h1 h2=>⟨h1,h2⟩⟩
theorem oV {i:Nat} {r:List (Nat × Nat)} {a:Act} {w:World} {o:Oper} (h:∀ K:Act→Prop,(∀ a,wpOrd P l S Q r p a w→K a)→o.quiet P a (fun w'=>∃ x:Ev (fun _=>True),w'=x.w) K) (ho:nthOp l i=some o:=by rfl) (hw:Region.wanted o (yielded l.toArray a.tmps)=true:=by rfl):wpOrd P l S Q ((i,0)::r) p a w:=wpOrd_v ho hw h
theorem oQ {i:Nat} {r:List (Nat × Nat)} {a:Act} {w:World} {o:Oper} (h:∀ K:Act→Prop,(∀ a,wpOrd P l S Q r p a w→K a)→o.quiet P a (fun w'=>∃ x:Ev (S p),w'=x.w) K) (ho:nthOp l i=some o:=by rfl) (hw:Region.wanted o (yielded l.toArray a.tmps)=true:=by rfl):wpOrd P l S Q ((i,1)::r) p a w:=wpOrd_q ho hw h
theorem oS {i k:Nat} {r:List (Nat × Nat)} {a:Act} {w:World} {o:Oper} (h:wpOrd P l S Q r p (a.put o.dst undef) w) (hk:k≠3:=by decide) (ho:nthOp l i=some o:=by rfl) (hw:Region.wanted o (yielded l.toArray a.tmps)=false:=by rfl):wpOrd P l S Q ((i,k)::r) p a w:=wpOrd_s hk ho hw h
theorem oL {i:Nat} {r:List (Nat × Nat)} {a:Act} {w:World} {o:Oper} (h:∀ K:Act→World→Prop,(∀ a w,S p w→wpOrd P l S Q r p a w→K a w)→o.wp P a w K (fun _ _ _=>False)) (ho:nthOp l i=some o:=by rfl) (hw:Region.wanted o (yielded l.toArray a.tmps)=true:=by rfl):wpOrd P l S Q ((i,2)::r) p a w:=wpOrd_l ho hw h
theorem oA {i:Nat} {r:List (Nat × Nat)} {a:Act} {w:World} {o:Oper} (h:∀ K:Act→World→Prop,(∀ a w,S (p+1) w→wpOrd P l S Q r (p+1) a w→K a w)→o.wp P a w K (fun _ _ _=>False)) (ho:nthOp l i=some o:=by rfl) (hw:Region.wanted o (yielded l.toArray a.tmps)=true:=by rfl):wpOrd P l S Q ((i,3)::r) p a w:=wpOrd_a ho hw h
end
end Go.Proofs.YtdhiappifnflpaaGreat
