/- A council made of a ring. -/
import Derived.Test.YtogpgnljomchcaaAw
import Derived.Test.YtogpgnljomchcaaRing
import Derived.LoopTactic
namespace Go.Proofs.Ytogpgnljomchcaa
open Go.RowKit

def lastM : Int → List Member → Int
  | a, [] => a
  | _, m :: r => lastM m.id r
theorem lastM_app (x : Member) : ∀ (l : List Member) (a : Int), lastM a (l ++ [x]) = x.id
  | [], _ => rfl
  | m :: r, _ => lastM_app x r m.id
theorem chkM_app (x : Member) (h1 : 1 ≤ x.weight) (h2 : x.weight ≤ 1099511627776) : ∀ (l : List Member) (a : Int), chkMembers a l = 0 → lastM a l < x.id → chkMembers a (l ++ [x]) = 0
  | [], a, _, h => by
    have h' : a < x.id := h
    show chkMembers a [x] = 0
    unfold chkMembers
    rw [if_neg (by omega), if_neg (by omega)]
    rfl
  | m :: r, a, hc, h => by
    rw [List.cons_append]
    unfold chkMembers at hc ⊢
    split at hc
    · cases hc
    · rename_i g1
      rw [if_neg g1]
      split at hc
      · cases hc
      · rename_i g2
        rw [if_neg g2]
        exact chkM_app x h1 h2 r m.id hc h
def lastL : Int → List LawC → Int
  | a, [] => a
  | _, m :: r => lastL m.act r
theorem lastL_app (x : LawC) : ∀ (l : List LawC) (a : Int), lastL a (l ++ [x]) = x.act
  | [], _ => rfl
  | m :: r, _ => lastL_app x r m.act
theorem chkL_app (x : LawC) (h1 : ¬ lawBad x) : ∀ (l : List LawC) (a : Int), chkLaws a l = 0 → lastL a l < x.act → chkLaws a (l ++ [x]) = 0
  | [], a, _, h => by
    have h' : a < x.act := h
    have e : lawErr x a = 0 := by unfold lawErr; rw [if_neg (by omega), if_neg h1]
    show chkLaws a [x] = 0
    unfold chkLaws
    rw [if_pos e]
    rfl
  | m :: r, a, hc, h => by
    rw [List.cons_append]
    unfold chkLaws at hc ⊢
    split at hc
    · rename_i g1
      rw [if_pos g1]
      exact chkL_app x h1 r m.act hc h
    · rename_i g1
      exact absurd hc g1
def lastV : Int → List Int → Int
  | a, [] => a
  | _, m :: r => lastV m r
theorem lastV_app (x : Int) : ∀ (l : List Int) (a : Int), lastV a (l ++ [x]) = x
  | [], _ => rfl
  | m :: r, _ => lastV_app x r m
theorem chkV_app (x : Int) (h1 : x ≤ 1000000000) : ∀ (l : List Int) (a : Int), chkLevels a l = 0 → lastV a l < x → chkLevels a (l ++ [x]) = 0
  | [], a, _, h => by
    have h' : a < x := h
    show chkLevels a [x] = 0
    unfold chkLevels
    rw [if_neg (by omega), if_neg (by omega)]
    rfl
  | m :: r, a, hc, h => by
    rw [List.cons_append]
    unfold chkLevels at hc ⊢
    split at hc
    · cases hc
    · rename_i g1
      rw [if_neg g1]
      split at hc
      · cases hc
      · rename_i g2
        rw [if_neg g2]
        exact chkV_app x h1 r m hc h

/-- a council under way: its three rows, the block they are kept in, the block of the result -/
structure MK (W : World) (g cb rb : Nat) (nums : List Int) (k : Nat) (Vm Vl Vv : Value) (ms : List Member) (ls : List LawC) (vs : List Int) (w : World) : Prop where
  ring : RingAt w g nums k
  blk : Blk w cb 26 #[Vm, Vl, Vv]
  res : Blk w rb 26 #[.slice none 0 0, .slice none 0 0, .slice none 0 0]
  m : Own w W.heap.size 87 2 encMember Vm ms
  l : Own w W.heap.size 61 5 encLaw Vl ls
  v : Own w W.heap.size 2 1 encI Vv vs
  ap : (∀ b, Vm.ownBlock = some b → b ≠ cb ∧ b ≠ rb ∧ Vl.ownBlock ≠ some b ∧ Vv.ownBlock ≠ some b) ∧ (∀ b, Vl.ownBlock = some b → b ≠ cb ∧ b ≠ rb ∧ Vv.ownBlock ≠ some b) ∧ ∀ b, Vv.ownBlock = some b → b ≠ cb ∧ b ≠ rb
  kp : Kp W.heap.size (some g) W w
  gW : g < W.heap.size
  cbW : W.heap.size ≤ cb
  rbW : W.heap.size ≤ rb
  ne : cb ≠ rb
section
variable {W w w' w1 : World} {g cb rb k k' : Nat} {nums : List Int} {Vm Vl Vv : Value} {ms : List Member} {ls : List LawC} {vs : List Int}
theorem MK.size (s : MK W g cb rb nums k Vm Vl Vv ms ls vs w) : W.heap.size ≤ w.heap.size := s.kp.size
theorem MK.turn (s : MK W g cb rb nums k Vm Vl Vv ms ls vs w) (r : RingAt w' g nums k') (q : Kp w.heap.size (some g) w w') : MK W g cb rb nums k' Vm Vl Vv ms ls vs w' :=
  have hb : ∀ b, W.heap.size ≤ b → some b ≠ some g := fun b h e => by injection e with e; have := s.gW; omega
  ⟨r, s.blk.kp q s.blk.lt (hb _ s.cbW), s.res.kp q s.res.lt (hb _ s.rbW), s.m.kp q hb, s.l.kp q hb, s.v.kp q hb, s.ap, s.kp.then_ q (Nat.le_refl _), s.gW, s.cbW, s.rbW, s.ne⟩
theorem MK.kpN (s : MK W g cb rb nums k Vm Vl Vv ms ls vs w) (q : Kp w.heap.size none w w') : MK W g cb rb nums k Vm Vl Vv ms ls vs w' := s.turn (s.ring.kpN q) (q.wide _)
theorem MK.stepM (s : MK W g cb rb nums k Vm Vl Vv ms ls vs w) {u : Value} {xs : List Member} (hg : w.grownBy w1 Vm.ownBlock) (ho : Own w1 W.heap.size 87 2 encMember u xs) (hat : u.ownBlock = Vm.ownBlock ∨ ∀ b, u.ownBlock = some b → w.heap.size ≤ b) :
    MK W g cb rb nums k u Vl Vv xs ls vs (w1.setCell ⟨cb, 0, none⟩ u) := by
  have hcb := s.blk.lt
  have hrb := s.res.lt
  have hu : ∀ b, u.ownBlock = some b → b ≠ cb ∧ b ≠ rb ∧ Vl.ownBlock ≠ some b ∧ Vv.ownBlock ≠ some b := fun b hb => by
    rcases hat with h | h
    · exact s.ap.1 b (h ▸ hb)
    · have := h b hb
      refine ⟨by omega, by omega, fun e => ?_, fun e => ?_⟩
      · have := (World.ownsRow.lt s.l b e).2; omega
      · have := (World.ownsRow.lt s.v b e).2; omega
  have hgr := grown_set w1 cb 0 u
  have B1 : Blk w1 cb 26 #[Vm, Vl, Vv] := (hg.block cb hcb (fun e => (s.ap.1 cb e.symm).1 rfl)).trans s.blk
  have R1 : Blk w1 rb 26 #[.slice none 0 0, .slice none 0 0, .slice none 0 0] := (hg.block rb hrb (fun e => (s.ap.1 rb e.symm).2.1 rfl)).trans s.res
  have gr : RingAt w1 g nums k := s.ring.grown hg (fun b hb => Nat.lt_of_lt_of_le s.gW (World.ownsRow.lt s.m b hb).1)
  refine ⟨gr.big (by have := s.cbW; have := s.gW; show g < cb; omega) u, B1.set_ 0 u, R1.far (fun e => s.ne e.symm) u, ?_, ?_, ?_, ⟨hu, s.ap.2.1, s.ap.2.2⟩, (s.kp.trans (Kp.of_own s.m hg s.size)).setNew s.cbW u, s.gW, s.cbW, s.rbW, s.ne⟩
  · exact World.ownsRow.kept ho hgr (.inr fun e => (hu cb e).1 rfl)
  · refine World.ownsRow.kept (World.ownsRow.kept s.l hg ?_) hgr (.inr fun e => (s.ap.2.1 cb e).1 rfl)
    cases hb : Vl.ownBlock with
    | none => exact .inl rfl
    | some b => exact .inr fun e => (s.ap.1 b e.symm).2.2.1 hb
  · refine World.ownsRow.kept (World.ownsRow.kept s.v hg ?_) hgr (.inr fun e => (s.ap.2.2 cb e).1 rfl)
    cases hb : Vv.ownBlock with
    | none => exact .inl rfl
    | some b => exact .inr fun e => (s.ap.1 b e.symm).2.2.2 hb
theorem MK.stepL (s : MK W g cb rb nums k Vm Vl Vv ms ls vs w) {u : Value} {xs : List LawC} (hg : w.grownBy w1 Vl.ownBlock) (ho : Own w1 W.heap.size 61 5 encLaw u xs) (hat : u.ownBlock = Vl.ownBlock ∨ ∀ b, u.ownBlock = some b → w.heap.size ≤ b) :
    MK W g cb rb nums k Vm u Vv ms xs vs (w1.setCell ⟨cb, 1, none⟩ u) := by
  have hcb := s.blk.lt
  have hrb := s.res.lt
  have hu : ∀ b, u.ownBlock = some b → b ≠ cb ∧ b ≠ rb ∧ Vm.ownBlock ≠ some b ∧ Vv.ownBlock ≠ some b := fun b hb => by
    rcases hat with h | h
    · have := s.ap.2.1 b (h ▸ hb)
      exact ⟨this.1, this.2.1, fun e => (s.ap.1 b e).2.2.1 (h ▸ hb), this.2.2⟩
    · have := h b hb
      refine ⟨by omega, by omega, fun e => ?_, fun e => ?_⟩
      · have := (World.ownsRow.lt s.m b e).2; omega
      · have := (World.ownsRow.lt s.v b e).2; omega
  have hgr := grown_set w1 cb 1 u
  have B1 : Blk w1 cb 26 #[Vm, Vl, Vv] := (hg.block cb hcb (fun e => (s.ap.2.1 cb e.symm).1 rfl)).trans s.blk
  have R1 : Blk w1 rb 26 #[.slice none 0 0, .slice none 0 0, .slice none 0 0] := (hg.block rb hrb (fun e => (s.ap.2.1 rb e.symm).2.1 rfl)).trans s.res
  have gr : RingAt w1 g nums k := s.ring.grown hg (fun b hb => Nat.lt_of_lt_of_le s.gW (World.ownsRow.lt s.l b hb).1)
  refine ⟨gr.big (by have := s.cbW; have := s.gW; show g < cb; omega) u, B1.set_ 1 u, R1.far (fun e => s.ne e.symm) u, ?_, ?_, ?_, ⟨fun b hb => ?_, fun b hb => ⟨(hu b hb).1, (hu b hb).2.1, (hu b hb).2.2.2⟩, s.ap.2.2⟩, (s.kp.trans (Kp.of_own s.l hg s.size)).setNew s.cbW u, s.gW, s.cbW, s.rbW, s.ne⟩
  · refine World.ownsRow.kept (World.ownsRow.kept s.m hg ?_) hgr (.inr fun e => (s.ap.1 cb e).1 rfl)
    cases hb : Vm.ownBlock with
    | none => exact .inl rfl
    | some b => exact .inr fun e => (s.ap.1 b hb).2.2.1 e.symm
  · exact World.ownsRow.kept ho hgr (.inr fun e => (hu cb e).1 rfl)
  · refine World.ownsRow.kept (World.ownsRow.kept s.v hg ?_) hgr (.inr fun e => (s.ap.2.2 cb e).1 rfl)
    cases hb : Vv.ownBlock with
    | none => exact .inl rfl
    | some b => exact .inr fun e => (s.ap.2.1 b e.symm).2.2 hb
  · have := s.ap.1 b hb
    exact ⟨this.1, this.2.1, fun e => (hu b e).2.2.1 hb, this.2.2.2⟩
theorem MK.stepV (s : MK W g cb rb nums k Vm Vl Vv ms ls vs w) {u : Value} {xs : List Int} (hg : w.grownBy w1 Vv.ownBlock) (ho : Own w1 W.heap.size 2 1 encI u xs) (hat : u.ownBlock = Vv.ownBlock ∨ ∀ b, u.ownBlock = some b → w.heap.size ≤ b) :
    MK W g cb rb nums k Vm Vl u ms ls xs (w1.setCell ⟨cb, 2, none⟩ u) := by
  have hcb := s.blk.lt
  have hrb := s.res.lt
  have hu : ∀ b, u.ownBlock = some b → b ≠ cb ∧ b ≠ rb ∧ Vm.ownBlock ≠ some b ∧ Vl.ownBlock ≠ some b := fun b hb => by
    rcases hat with h | h
    · have := s.ap.2.2 b (h ▸ hb)
      exact ⟨this.1, this.2, fun e => (s.ap.1 b e).2.2.2 (h ▸ hb), fun e => (s.ap.2.1 b e).2.2 (h ▸ hb)⟩
    · have := h b hb
      refine ⟨by omega, by omega, fun e => ?_, fun e => ?_⟩
      · have := (World.ownsRow.lt s.m b e).2; omega
      · have := (World.ownsRow.lt s.l b e).2; omega
  have hgr := grown_set w1 cb 2 u
  have B1 : Blk w1 cb 26 #[Vm, Vl, Vv] := (hg.block cb hcb (fun e => (s.ap.2.2 cb e.symm).1 rfl)).trans s.blk
  have R1 : Blk w1 rb 26 #[.slice none 0 0, .slice none 0 0, .slice none 0 0] := (hg.block rb hrb (fun e => (s.ap.2.2 rb e.symm).2 rfl)).trans s.res
  have gr : RingAt w1 g nums k := s.ring.grown hg (fun b hb => Nat.lt_of_lt_of_le s.gW (World.ownsRow.lt s.v b hb).1)
  refine ⟨gr.big (by have := s.cbW; have := s.gW; show g < cb; omega) u, B1.set_ 2 u, R1.far (fun e => s.ne e.symm) u, ?_, ?_, ?_, ⟨fun b hb => ?_, fun b hb => ?_, fun b hb => ⟨(hu b hb).1, (hu b hb).2.1⟩⟩, (s.kp.trans (Kp.of_own s.v hg s.size)).setNew s.cbW u, s.gW, s.cbW, s.rbW, s.ne⟩
  · refine World.ownsRow.kept (World.ownsRow.kept s.m hg ?_) hgr (.inr fun e => (s.ap.1 cb e).1 rfl)
    cases hb : Vm.ownBlock with
    | none => exact .inl rfl
    | some b => exact .inr fun e => (s.ap.1 b hb).2.2.2 e.symm
  · refine World.ownsRow.kept (World.ownsRow.kept s.l hg ?_) hgr (.inr fun e => (s.ap.2.1 cb e).1 rfl)
    cases hb : Vl.ownBlock with
    | none => exact .inl rfl
    | some b => exact .inr fun e => (s.ap.2.1 b hb).2.2 e.symm
  · exact World.ownsRow.kept ho hgr (.inr fun e => (hu cb e).1 rfl)
  · have := s.ap.1 b hb
    exact ⟨this.1, this.2.1, this.2.2.1, fun e => (hu b e).2.2.1 hb⟩
  · have := s.ap.2.1 b hb
    exact ⟨this.1, this.2.1, fun e => (hu b e).2.2.2 hb⟩
end
end Go.Proofs.Ytogpgnljomchcaa
