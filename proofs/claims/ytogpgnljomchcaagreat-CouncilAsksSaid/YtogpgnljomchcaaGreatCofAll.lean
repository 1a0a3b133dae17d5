/- A council made of a ring. CouncilOf: the walk. -/
import Derived.Test.YtogpgnljomchcaaGreatAw
import Derived.Test.YtogpgnljomchcaaGreatRing
import Derived.LoopTactic
namespace Go.Proofs.YtogpgnljomchcaaGreat
open Go.RowKit

def lastM : Int → List Member → Int
  | a, [] => a
  | _, m :: r => lastM m.id r
theorem lastM_app (x : Member) : ∀ (l : List Member) (a : Int), lastM a (l ++ [x]) = x.id
  | [], _ => rfl
  | m :: r, _ => lastM_app x r m.id
theorem chkM_app (x : Member) (h1 : 1 ≤ x.weight) (h2 : x.weight ≤ 1099511627776) : ∀ (l : List Member) (a : Int), chkMembers a l = 0 → lastM a l < x.id → chkMembers a (l ++ [x]) = 0
  | [], a, _, h => by
    have h' : a < x.id := h
    show chkMembers a [x] = 0
    unfold chkMembers
    rw [if_neg (by omega), if_neg (by omega)]
    rfl
  | m :: r, a, hc, h => by
    rw [List.cons_append]
    unfold chkMembers at hc ⊢
    split at hc
    · cases hc
    · rename_i g1
      rw [if_neg g1]
      split at hc
      · cases hc
      · rename_i g2
        rw [if_neg g2]
        exact chkM_app x h1 h2 r m.id hc h
def lastL : Int → List LawC → Int
  | a, [] => a
  | _, m :: r => lastL m.act r
theorem lastL_app (x : LawC) : ∀ (l : List LawC) (a : Int), lastL a (l ++ [x]) = x.act
  | [], _ => rfl
  | m :: r, _ => lastL_app x r m.act
theorem chkL_app (x : LawC) (h1 : ¬ lawBad x) : ∀ (l : List LawC) (a : Int), chkLaws a l = 0 → lastL a l < x.act → chkLaws a (l ++ [x]) = 0
  | [], a, _, h => by
    have h' : a < x.act := h
    have e : lawErr x a = 0 := by unfold lawErr; rw [if_neg (by omega), if_neg h1]
    show chkLaws a [x] = 0
    unfold chkLaws
    rw [if_pos e]
    rfl
  | m :: r, a, hc, h => by
    rw [List.cons_append]
    unfold chkLaws at hc ⊢
    split at hc
    · rename_i g1
      rw [if_pos g1]
      exact chkL_app x h1 r m.act hc h
    · rename_i g1
      exact absurd hc g1
def lastV : Int → List Int → Int
  | a, [] => a
  | _, m :: r => lastV m r
theorem lastV_app (x : Int) : ∀ (l : List Int) (a : Int), lastV a (l ++ [x]) = x
  | [], _ => rfl
  | m :: r, _ => lastV_app x r m
theorem chkV_app (x : Int) (h1 : x ≤ 1000000000) : ∀ (l : List Int) (a : Int), chkLevels a l = 0 → lastV a l < x → chkLevels a (l ++ [x]) = 0
  | [], a, _, h => by
    have h' : a < x := h
    show chkLevels a [x] = 0
    unfold chkLevels
    rw [if_neg (by omega), if_neg (by omega)]
    rfl
  | m :: r, a, hc, h => by
    rw [List.cons_append]
    unfold chkLevels at hc ⊢
    split at hc
    · cases hc
    · rename_i g1
      rw [if_neg g1]
      split at hc
      · cases hc
      · rename_i g2
        rw [if_neg g2]
        exact chkV_app x h1 r m hc h

/-- a council under way: its three rows, the block they are kept in, the block of the result -/
structure MK (W : World) (g cb rb : Nat) (nums : List Int) (k : Nat) (Vm Vl Vv : Value) (ms : List Member) (ls : List LawC) (vs : List Int) (w : World) : Prop where
  ring : RingAt w g nums k
  blk : Blk w cb 28 #[Vm, Vl, Vv]
  res : Blk w rb 28 #[.slice none 0 0, .slice none 0 0, .slice none 0 0]
  m : Own w W.heap.size 99 2 encMember Vm ms
  l : Own w W.heap.size 101 5 encLaw Vl ls
  v : Own w W.heap.size 2 1 encI Vv vs
  ap : (∀ b, Vm.ownBlock = some b → b ≠ cb ∧ b ≠ rb ∧ Vl.ownBlock ≠ some b ∧ Vv.ownBlock ≠ some b) ∧ (∀ b, Vl.ownBlock = some b → b ≠ cb ∧ b ≠ rb ∧ Vv.ownBlock ≠ some b) ∧ ∀ b, Vv.ownBlock = some b → b ≠ cb ∧ b ≠ rb
  kp : Kp W.heap.size (some g) W w
  gW : g < W.heap.size
  cbW : W.heap.size ≤ cb
  rbW : W.heap.size ≤ rb
  ne : cb ≠ rb
section
variable {W w w' w1 : World} {g cb rb k k' : Nat} {nums : List Int} {Vm Vl Vv : Value} {ms : List Member} {ls : List LawC} {vs : List Int}
theorem MK.size (s : MK W g cb rb nums k Vm Vl Vv ms ls vs w) : W.heap.size ≤ w.heap.size := s.kp.size
theorem MK.turn (s : MK W g cb rb nums k Vm Vl Vv ms ls vs w) (r : RingAt w' g nums k') (q : Kp w.heap.size (some g) w w') : MK W g cb rb nums k' Vm Vl Vv ms ls vs w' :=
  have hb : ∀ b, W.heap.size ≤ b → some b ≠ some g := fun b h e => by injection e with e; have := s.gW; omega
  ⟨r, s.blk.kp q s.blk.lt (hb _ s.cbW), s.res.kp q s.res.lt (hb _ s.rbW), s.m.kp q hb, s.l.kp q hb, s.v.kp q hb, s.ap, s.kp.then_ q (Nat.le_refl _), s.gW, s.cbW, s.rbW, s.ne⟩
theorem MK.kpN (s : MK W g cb rb nums k Vm Vl Vv ms ls vs w) (q : Kp w.heap.size none w w') : MK W g cb rb nums k Vm Vl Vv ms ls vs w' := s.turn (s.ring.kpN q) (q.wide _)
theorem MK.stepM (s : MK W g cb rb nums k Vm Vl Vv ms ls vs w) {u : Value} {xs : List Member} (hg : w.grownBy w1 Vm.ownBlock) (ho : Own w1 W.heap.size 99 2 encMember u xs) (hat : u.ownBlock = Vm.ownBlock ∨ ∀ b, u.ownBlock = some b → w.heap.size ≤ b) :
    MK W g cb rb nums k u Vl Vv xs ls vs (w1.setCell ⟨cb, 0, none⟩ u) := by
  have hcb := s.blk.lt
  have hrb := s.res.lt
  have hu : ∀ b, u.ownBlock = some b → b ≠ cb ∧ b ≠ rb ∧ Vl.ownBlock ≠ some b ∧ Vv.ownBlock ≠ some b := fun b hb => by
    rcases hat with h | h
    · exact s.ap.1 b (h ▸ hb)
    · have := h b hb
      refine ⟨by omega, by omega, fun e => ?_, fun e => ?_⟩
      · have := (World.ownsRow.lt s.l b e).2; omega
      · have := (World.ownsRow.lt s.v b e).2; omega
  have hgr := grown_set w1 cb 0 u
  have B1 : Blk w1 cb 28 #[Vm, Vl, Vv] := (hg.block cb hcb (fun e => (s.ap.1 cb e.symm).1 rfl)).trans s.blk
  have R1 : Blk w1 rb 28 #[.slice none 0 0, .slice none 0 0, .slice none 0 0] := (hg.block rb hrb (fun e => (s.ap.1 rb e.symm).2.1 rfl)).trans s.res
  have gr : RingAt w1 g nums k := s.ring.grown hg (fun b hb => Nat.lt_of_lt_of_le s.gW (World.ownsRow.lt s.m b hb).1)
  refine ⟨gr.big (by have := s.cbW; have := s.gW; show g < cb; omega) u, B1.set_ 0 u, R1.far (fun e => s.ne e.symm) u, ?_, ?_, ?_, ⟨hu, s.ap.2.1, s.ap.2.2⟩, (s.kp.trans (Kp.of_own s.m hg s.size)).setNew s.cbW u, s.gW, s.cbW, s.rbW, s.ne⟩
  · exact World.ownsRow.kept ho hgr (.inr fun e => (hu cb e).1 rfl)
  · refine World.ownsRow.kept (World.ownsRow.kept s.l hg ?_) hgr (.inr fun e => (s.ap.2.1 cb e).1 rfl)
    cases hb : Vl.ownBlock with
    | none => exact .inl rfl
    | some b => exact .inr fun e => (s.ap.1 b e.symm).2.2.1 hb
  · refine World.ownsRow.kept (World.ownsRow.kept s.v hg ?_) hgr (.inr fun e => (s.ap.2.2 cb e).1 rfl)
    cases hb : Vv.ownBlock with
    | none => exact .inl rfl
    | some b => exact .inr fun e => (s.ap.1 b e.symm).2.2.2 hb
theorem MK.stepL (s : MK W g cb rb nums k Vm Vl Vv ms ls vs w) {u : Value} {xs : List LawC} (hg : w.grownBy w1 Vl.ownBlock) (ho : Own w1 W.heap.size 101 5 encLaw u xs) (hat : u.ownBlock = Vl.ownBlock ∨ ∀ b, u.ownBlock = some b → w.heap.size ≤ b) :
    MK W g cb rb nums k Vm u Vv ms xs vs (w1.setCell ⟨cb, 1, none⟩ u) := by
  have hcb := s.blk.lt
  have hrb := s.res.lt
  have hu : ∀ b, u.ownBlock = some b → b ≠ cb ∧ b ≠ rb ∧ Vm.ownBlock ≠ some b ∧ Vv.ownBlock ≠ some b := fun b hb => by
    rcases hat with h | h
    · have := s.ap.2.1 b (h ▸ hb)
      exact ⟨this.1, this.2.1, fun e => (s.ap.1 b e).2.2.1 (h ▸ hb), this.2.2⟩
    · have := h b hb
      refine ⟨by omega, by omega, fun e => ?_, fun e => ?_⟩
      · have := (World.ownsRow.lt s.m b e).2; omega
      · have := (World.ownsRow.lt s.v b e).2; omega
  have hgr := grown_set w1 cb 1 u
  have B1 : Blk w1 cb 28 #[Vm, Vl, Vv] := (hg.block cb hcb (fun e => (s.ap.2.1 cb e.symm).1 rfl)).trans s.blk
  have R1 : Blk w1 rb 28 #[.slice none 0 0, .slice none 0 0, .slice none 0 0] := (hg.block rb hrb (fun e => (s.ap.2.1 rb e.symm).2.1 rfl)).trans s.res
  have gr : RingAt w1 g nums k := s.ring.grown hg (fun b hb => Nat.lt_of_lt_of_le s.gW (World.ownsRow.lt s.l b hb).1)
  refine ⟨gr.big (by have := s.cbW; have := s.gW; show g < cb; omega) u, B1.set_ 1 u, R1.far (fun e => s.ne e.symm) u, ?_, ?_, ?_, ⟨fun b hb => ?_, fun b hb => ⟨(hu b hb).1, (hu b hb).2.1, (hu b hb).2.2.2⟩, s.ap.2.2⟩, (s.kp.trans (Kp.of_own s.l hg s.size)).setNew s.cbW u, s.gW, s.cbW, s.rbW, s.ne⟩
  · refine World.ownsRow.kept (World.ownsRow.kept s.m hg ?_) hgr (.inr fun e => (s.ap.1 cb e).1 rfl)
    cases hb : Vm.ownBlock with
    | none => exact .inl rfl
    | some b => exact .inr fun e => (s.ap.1 b hb).2.2.1 e.symm
  · exact World.ownsRow.kept ho hgr (.inr fun e => (hu cb e).1 rfl)
  · refine World.ownsRow.kept (World.ownsRow.kept s.v hg ?_) hgr (.inr fun e => (s.ap.2.2 cb e).1 rfl)
    cases hb : Vv.ownBlock with
    | none => exact .inl rfl
    | some b => exact .inr fun e => (s.ap.2.1 b e.symm).2.2 hb
  · have := s.ap.1 b hb
    exact ⟨this.1, this.2.1, fun e => (hu b e).2.2.1 hb, this.2.2.2⟩
theorem MK.stepV (s : MK W g cb rb nums k Vm Vl Vv ms ls vs w) {u : Value} {xs : List Int} (hg : w.grownBy w1 Vv.ownBlock) (ho : Own w1 W.heap.size 2 1 encI u xs) (hat : u.ownBlock = Vv.ownBlock ∨ ∀ b, u.ownBlock = some b → w.heap.size ≤ b) :
    MK W g cb rb nums k Vm Vl u ms ls xs (w1.setCell ⟨cb, 2, none⟩ u) := by
  have hcb := s.blk.lt
  have hrb := s.res.lt
  have hu : ∀ b, u.ownBlock = some b → b ≠ cb ∧ b ≠ rb ∧ Vm.ownBlock ≠ some b ∧ Vl.ownBlock ≠ some b := fun b hb => by
    rcases hat with h | h
    · have := s.ap.2.2 b (h ▸ hb)
      exact ⟨this.1, this.2, fun e => (s.ap.1 b e).2.2.2 (h ▸ hb), fun e => (s.ap.2.1 b e).2.2 (h ▸ hb)⟩
    · have := h b hb
      refine ⟨by omega, by omega, fun e => ?_, fun e => ?_⟩
      · have := (World.ownsRow.lt s.m b e).2; omega
      · have := (World.ownsRow.lt s.l b e).2; omega
  have hgr := grown_set w1 cb 2 u
  have B1 : Blk w1 cb 28 #[Vm, Vl, Vv] := (hg.block cb hcb (fun e => (s.ap.2.2 cb e.symm).1 rfl)).trans s.blk
  have R1 : Blk w1 rb 28 #[.slice none 0 0, .slice none 0 0, .slice none 0 0] := (hg.block rb hrb (fun e => (s.ap.2.2 rb e.symm).2 rfl)).trans s.res
  have gr : RingAt w1 g nums k := s.ring.grown hg (fun b hb => Nat.lt_of_lt_of_le s.gW (World.ownsRow.lt s.v b hb).1)
  refine ⟨gr.big (by have := s.cbW; have := s.gW; show g < cb; omega) u, B1.set_ 2 u, R1.far (fun e => s.ne e.symm) u, ?_, ?_, ?_, ⟨fun b hb => ?_, fun b hb => ?_, fun b hb => ⟨(hu b hb).1, (hu b hb).2.1⟩⟩, (s.kp.trans (Kp.of_own s.v hg s.size)).setNew s.cbW u, s.gW, s.cbW, s.rbW, s.ne⟩
  · refine World.ownsRow.kept (World.ownsRow.kept s.m hg ?_) hgr (.inr fun e => (s.ap.1 cb e).1 rfl)
    cases hb : Vm.ownBlock with
    | none => exact .inl rfl
    | some b => exact .inr fun e => (s.ap.1 b hb).2.2.2 e.symm
  · refine World.ownsRow.kept (World.ownsRow.kept s.l hg ?_) hgr (.inr fun e => (s.ap.2.1 cb e).1 rfl)
    cases hb : Vl.ownBlock with
    | none => exact .inl rfl
    | some b => exact .inr fun e => (s.ap.2.1 b hb).2.2 e.symm
  · exact World.ownsRow.kept ho hgr (.inr fun e => (hu cb e).1 rfl)
  · have := s.ap.1 b hb
    exact ⟨this.1, this.2.1, this.2.2.1, fun e => (hu b e).2.2.1 hb⟩
  · have := s.ap.2.1 b hb
    exact ⟨this.1, this.2.1, fun e => (hu b e).2.2.2 hb⟩
end
end Go.Proofs.YtogpgnljomchcaaGreat
namespace Go.Proofs.YtogpgnljomchcaaGreat
open Go.RowKit

theorem info_member : (Tryz.prog.info? 99).map (fun i => (i.zero, i.size, i.bytes)) = some (some (.agg #[.int .i64 0, .int .i64 0]), 2, 16) := by kernel_rfl
theorem info_law : (Tryz.prog.info? 101).map (fun i => (i.zero, i.size, i.bytes)) = some (some (.agg #[.int .i64 0, .int .i64 0, .int .i64 0, .int .i64 0, .int .i64 0]), 5, 40) := by kernel_rfl
theorem info_i64 : (Tryz.prog.info? 2).map (fun i => (i.zero, i.size, i.bytes)) = some (some (.int .i64 0), 1, 8) := by kernel_rfl
/-- what CouncilOf makes -/
structure COk (c : Council) : Prop where
  chk : checkC c = 0
  laws : 0 < c.laws.length
def COPost (g : Nat) (nums : List Int) (kmax : Nat) (w : World) (e : Ending) (w' : World) : Prop :=
  ∃ V c k', e = .returned (.agg #[.slice V.am c.members.length V.cm, .slice V.al c.laws.length V.cl, .slice V.av c.levels.length V.cv]) ∧ COk c ∧ CAt w'.heap.size w' V c ∧ k' ≤ kmax ∧ RingAt w' g nums k' ∧ Kp w.heap.size (some g) w w' ∧ (∀ ad, V.am = some ad → w.heap.size ≤ ad.block) ∧ (∀ ad, V.al = some ad → w.heap.size ≤ ad.block) ∧ (∀ ad, V.av = some ad → w.heap.size ≤ ad.block)
def CoRel1 (W : World) (g cb rb : Nat) (nums : List Int) (k0 : Nat) (i n : Value) (wr : World) : Prop :=
  ∃ (ms : List Member) (m : Nat) (k : Nat) (Vm : Value), i = .int .i64 (lastM 0 ms) ∧ n = .int .i64 (m : Int) ∧ 1 ≤ m + ms.length ∧ m + ms.length ≤ 4 ∧ k ≤ k0 + 1 + 2 * ms.length ∧ chkMembers 0 ms = 0 ∧ 0 ≤ lastM 0 ms ∧ lastM 0 ms ≤ 3 * ms.length ∧
    MK W g cb rb nums k Vm (.slice none 0 0) (.slice none 0 0) ms [] [] wr
def CoRel2 (W : World) (g cb rb : Nat) (nums : List Int) (k0 : Nat) (Vm : Value) (ms : List Member) (i n : Value) (wr : World) : Prop :=
  ∃ (ls : List LawC) (m : Nat) (k : Nat) (Vl : Value), i = .int .i64 (lastL 0 ls) ∧ n = .int .i64 (m : Int) ∧ 1 ≤ m + ls.length ∧ m + ls.length ≤ 3 ∧ k ≤ k0 + 1 + 5 * ls.length ∧ chkLaws 0 ls = 0 ∧ 0 ≤ lastL 0 ls ∧ lastL 0 ls ≤ 2 * ls.length ∧
    MK W g cb rb nums k Vm Vl (.slice none 0 0) ms ls [] wr
def CoRel3 (W : World) (g cb rb : Nat) (nums : List Int) (k0 : Nat) (Vm Vl : Value) (ms : List Member) (ls : List LawC) (i n : Value) (wr : World) : Prop :=
  ∃ (vs : List Int) (m : Nat) (k : Nat) (Vv : Value), i = .int .i64 (lastV 0 vs) ∧ n = .int .i64 (m : Int) ∧ m + vs.length ≤ 3 ∧ k ≤ k0 + 1 + vs.length ∧ chkLevels 0 vs = 0 ∧ 0 ≤ lastV 0 vs ∧ lastV 0 vs ≤ 300000000 * vs.length ∧
    MK W g cb rb nums k Vm Vl Vv ms ls vs wr
theorem made_check {ms : List Member} {ls : List LawC} {vs : List Int} (h1 : 1 ≤ ms.length) (h2 : ms.length ≤ 4) (h3 : chkMembers 0 ms = 0) (h4 : ls.length ≤ 3) (h5 : chkLaws 0 ls = 0) (h6 : vs.length ≤ 3) (h7 : chkLevels 0 vs = 0) : checkC ⟨ms, ls, vs⟩ = 0 := by
  unfold checkC
  rw [if_neg (by simp only; omega), if_neg (by simp only; omega), if_neg (by simpa using h3), if_neg (by simp only; omega), if_neg (by simpa using h5), if_neg (by simp only; omega)]
  exact h7
def setC0 (w : World) (g : Nat) (c0 c1 c2 : Value) : World := ((w.setCell ⟨g, 0, none⟩ c0).setCell ⟨g, 1, none⟩ c1).setCell ⟨g, 2, none⟩ c2
theorem setC0_grown (w : World) (g : Nat) (c0 c1 c2 : Value) : w.grownBy (setC0 w g c0 c1 c2) (some g) := grown_trans (grown_trans (grown_set _ _ _ _) (grown_set _ _ _ _)) (grown_set _ _ _ _)
theorem Blk.setC0 {w : World} {g : Nat} {t : TypeId} {x0 x1 x2 : Value} (h : Blk w g t #[x0, x1, x2]) (c0 c1 c2 : Value) : Blk (setC0 w g c0 c1 c2) g t #[c0, c1, c2] := by
  have := ((h.set_ 0 c0).set_ 1 c1).set_ 2 c2
  unfold Go.Proofs.YtogpgnljomchcaaGreat.setC0
  simpa using this
theorem MK.done {W w : World} {g cb rb k K : Nat} {nums : List Int} {Am Al Av : Option Addr} {qm ql qv : Nat} {ms : List Member} {ls : List LawC} {vs : List Int}
    (s : MK W g cb rb nums k (.slice Am ms.length qm) (.slice Al ls.length ql) (.slice Av vs.length qv) ms ls vs w) (hk : k ≤ K) (hc : checkC ⟨ms, ls, vs⟩ = 0) (hl : 1 ≤ ls.length) :
    COPost g nums K W (.returned (.agg #[.slice Am ms.length qm, .slice Al ls.length ql, .slice Av vs.length qv])) (setC0 w rb (.slice Am ms.length qm) (.slice Al ls.length ql) (.slice Av vs.length qv)) := by
  have hg := setC0_grown w rb (.slice Am ms.length qm) (.slice Al ls.length ql) (.slice Av vs.length qv)
  have hok := councilOk_of hc
  have om : Own (setC0 w rb (.slice Am ms.length qm) (.slice Al ls.length ql) (.slice Av vs.length qv)) W.heap.size 99 2 encMember (.slice Am ms.length qm) ms := World.ownsRow.kept s.m hg (.inr fun e => (s.ap.1 rb e).2.1 rfl)
  have ol : Own (setC0 w rb (.slice Am ms.length qm) (.slice Al ls.length ql) (.slice Av vs.length qv)) W.heap.size 101 5 encLaw (.slice Al ls.length ql) ls := World.ownsRow.kept s.l hg (.inr fun e => (s.ap.2.1 rb e).2.1 rfl)
  have ov : Own (setC0 w rb (.slice Am ms.length qm) (.slice Al ls.length ql) (.slice Av vs.length qv)) W.heap.size 2 1 encI (.slice Av vs.length qv) vs := World.ownsRow.kept s.v hg (.inr fun e => (s.ap.2.2 rb e).2 rfl)
  have ge : ∀ {e sz : Nat} {α : Type} {enc : α → List Value} {A : Option Addr} {n q : Nat} {xs : List α} {w' : World}, Own w' W.heap.size e sz enc (.slice A n q) xs → ∀ ad, A = some ad → W.heap.size ≤ ad.block := fun {e sz α enc A n q xs w'} o ad ha => by
    subst ha
    rcases o.2 with ⟨h1, _⟩ | ⟨g', cap, cur, h1, h2, _⟩
    · cases h1
    · simp only [Value.slice.injEq, Option.some.injEq] at h1
      rw [h1.1]; exact h2
  have hm := hok.mlen
  have hll := hok.llen
  have hv := hok.vlen
  simp only at hm hll hv
  refine ⟨⟨Am, qm, Al, ql, Av, qv⟩, ⟨ms, ls, vs⟩, k, rfl, ⟨hc, hl⟩, ⟨(om.see fun _ => rfl).2, (ol.see fun _ => rfl).2, (ov.see fun _ => rfl).2, by simp only; omega, by simp only; omega, by simp only; omega⟩, hk, s.ring.grown hg (fun b e => by injection e with e; have := s.rbW; have := s.gW; omega), s.kp.grown hg s.size (fun b e => by injection e with e; have := s.rbW; omega), ge om, ge ol, ge ov⟩
set_option maxRecDepth 20000 in
set_option maxHeartbeats 8000000 in
theorem councilOf_any (g : Nat) (nums : List Int) (k : Nat) (w : World) (h : RingAt w g nums k) (hk : k ≤ 800000) :
    Calls Tryz.prog 15 #[.pointer (some ⟨g, 0, none⟩)] w (COPost g nums (k + 40) w) := by
  obtain ⟨im, him, hm0, hm1, hm2⟩ := info_parts info_member
  obtain ⟨il, hil, hl0, hl1, hl2⟩ := info_parts info_law
  obtain ⟨iv, hiv, hv0, hv1, hv2⟩ := info_parts info_i64
  have Z0 := (Blk.new w 28 #[.slice none 0 0, .slice none 0 0, .slice none 0 0]).alloc (.cells #[.slice none 0 0, .slice none 0 0, .slice none 0 0] 28)
  have Z1 := Blk.newAt (w.alloc (.cells #[.slice none 0 0, .slice none 0 0, .slice none 0 0] 28)) 28 #[.slice none 0 0, .slice none 0 0, .slice none 0 0] (n := w.heap.size + 1) (by simp)
  have K0 := Kp.new2 w (.cells #[.slice none 0 0, .slice none 0 0, .slice none 0 0] 28) (.cells #[.slice none 0 0, .slice none 0 0, .slice none 0 0] 28)
  have T : MK w g (w.heap.size + 1) w.heap.size nums k (.slice none 0 0) (.slice none 0 0) (.slice none 0 0) [] [] [] ((w.alloc (.cells #[.slice none 0 0, .slice none 0 0, .slice none 0 0] 28)).alloc (.cells #[.slice none 0 0, .slice none 0 0, .slice none 0 0] 28)) :=
    ⟨h.kpN K0, Z1, Z0, Own.nil _ _ _ _ _, Own.nil _ _ _ _ _, Own.nil _ _ _ _ _, ⟨fun b e => (by cases e), fun b e => (by cases e), fun b e => (by cases e)⟩, K0.wide _, h.lt, by omega, by omega, by omega⟩
  clear Z0 Z1 K0 h
  go_enter Tryz.func15, Tryz.ntmps15
  go_upto_region 3 with (fail)
  obtain ⟨cb, hcb⟩ : ∃ q, q = w.heap.size + 1 := ⟨_, rfl⟩
  obtain ⟨rb, hrb⟩ : ∃ q, q = w.heap.size := ⟨_, rfl⟩
  rw [← hcb, ← hrb] at T ⊢
  generalize (w.alloc (.cells #[.slice none 0 0, .slice none 0 0, .slice none 0 0] 28)).alloc (.cells #[.slice none 0 0, .slice none 0 0, .slice none 0 0] 28) = w1 at T ⊢
  clear hcb hrb
  go_wp2_with fail
  refine (next_any g nums _ 4 _ T.ring (by omega) (by omega) (by omega)).mono ?_
  rintro e w2 ⟨v, rfl, ⟨d, rfl, p0, q0⟩, hr, hk2⟩
  replace T := T.turn hr hk2
  clear hr hk2
  obtain ⟨N, rfl⟩ := Int.eq_ofNat_of_zero_le p0
  clear p0
  go_wp2_with fail
  go_loopw [4, 5] (fun i n wr => CoRel1 w g cb rb nums k i n wr) (fun _ n _ => (intOf n).toNat)
  case atStart => exact ⟨[], 1 + N, k + 1, _, rfl, by simp, by simp, by simp; omega, by simp, rfl, by simp [lastM], by simp [lastM], T⟩
  case round =>
    clear T
    obtain ⟨ms, m, k', Vm, rfl, rfl, hN1, hN4, hk', hck, hi0, hi1, T⟩ := hrel
    by_cases hm : 0 < m
    · have hm' : (0 : Int) < (m : Int) := by omega
      go_wp2_with fail
      refine (next_any g nums _ 3 _ T.ring (by omega) (by omega) (by omega)).mono ?_
      rintro e w3 ⟨v, rfl, ⟨d, rfl, p0, q0⟩, hr, hk2⟩
      replace T := T.turn hr hk2
      clear hr hk2
      obtain ⟨id, hid⟩ : ∃ q, q = lastM 0 ms + 1 + d := ⟨_, rfl⟩
      have hid0 : lastM 0 ms < id := by omega
      have hid3 : id ≤ 3 * (ms.length + 1) := by omega
      obtain ⟨la, hla⟩ : ∃ q, q = lastM 0 ms := ⟨_, rfl⟩
      rw [← hla] at hid hi0 hi1 hid0 ⊢
      replace hla := Lib.hid hla
      go_upto_region 7 with (fail)
      rw [← hid]
      replace hid := Lib.hid hid
      replace T := T.kpN (Kp.refl _ _ _).drew
      have hVm := (T.m.see fun _ => rfl).1
      obtain ⟨Am, qm, hVm2⟩ : ∃ A q, Vm = .slice A ms.length q := ⟨_, _, hVm⟩
      clear hVm
      subst hVm2
      obtain ⟨S, hS⟩ : ∃ S : Nat → World → Prop, S = fun n w' => if n = 0 then Blk w' cb 28 #[.slice Am ms.length qm, .slice none 0 0, .slice none 0 0] else True := ⟨_, rfl⟩
      have hS0 : ∀ w', S 0 w' ↔ (Blk w' cb 28 #[.slice Am ms.length qm, .slice none 0 0, .slice none 0 0]) := fun w' => by rw [hS]; exact Iff.rfl
      have hS1 : ∀ w', S 1 w' ↔ (True) := fun w' => by rw [hS]; exact Iff.rfl
      clear hS
      have k0 := fun (q : Ev (S 0)) i => ((hS0 _).1 q.h).cell i
      have hevT := ev_true
      refine wp_region_ord S [(0, 0), (1, 1), (2, 0), (3, 0), (4, 2), (5, 0), (6, 2), (7, 2), (8, 0), (9, 3)] [9] (by kernel_rfl) (by kernel_rfl) ((hS0 _).2 T.blk) ?_
      intro _hev
      iterate 4 (first | (refine wpOrd_v rfl rfl ?_; intro K hK; go_big_quiet_op; go_big_quiet_on) | (refine wpOrd_q rfl rfl ?_; intro K hK; go_big_quiet_op; go_big_quiet_on) | refine wpOrd_s (by decide) rfl rfl ?_)
      refine wpOrd_l rfl rfl ?_; intro K hK
      go_step
      refine (range_any g nums _ 1 60 _ T.ring (by omega) (by omega) (by omega) (by omega) (by omega)).mono ?_
      rintro e w5 ⟨v, rfl, ⟨wt, rfl, p1, q1⟩, hr, hk2⟩
      replace T := T.turn hr hk2
      clear hr hk2
      refine hK _ _ ((hS0 _).2 T.blk) ?_
      clear hK K
      iterate 1 (first | (refine wpOrd_v rfl rfl ?_; intro K hK; go_big_quiet_op; go_big_quiet_on) | (refine wpOrd_q rfl rfl ?_; intro K hK; go_big_quiet_op; go_big_quiet_on) | refine wpOrd_s (by decide) rfl rfl ?_)
      refine wpOrd_l rfl rfl ?_; intro K hK
      go_step
      have X := Blk.new w5 99 #[.int .i64 id, .int .i64 wt]
      replace T := T.kpN (Kp.new w5 (.cells #[.int .i64 id, .int .i64 wt] 99))
      obtain ⟨xb, hxb⟩ : ∃ q, q = w5.heap.size := ⟨_, rfl⟩
      rw [← hxb] at X ⊢
      generalize World.alloc w5 (.cells #[.int .i64 id, .int .i64 wt] 99) = w6 at T X ⊢
      clear hxb
      refine hK _ _ ((hS0 _).2 T.blk) ?_
      clear hK K
      refine wpOrd_l rfl rfl ?_; intro K hK
      refine wp_append_own_at (.tmp 23) (.tmp 28) 24 (by rfl) w.heap.size 99 im _ 2 16 Tryz.underlying24 him hm0 hm1 hm2 (by rfl) (by omega) (.slice Am ms.length qm) ms.length (ms.flatMap encMember) (by rfl) T.m ⟨xb, 0, none⟩ 1 1 (encMember ⟨id, wt⟩) (by rfl) (by rfl) (fun j u hj => by rw [Addr.add_lit, Nat.zero_add, X.cell]; exact (show (encMember ⟨id, wt⟩).toArray[j]? = some u by simpa using hj)) (two_int _ _ _) (maxLen_of (by omega)) (by omega) T.size ?_
      intro u8 w8 hown8 gu au
      obtain ⟨g8, cap8, rfl⟩ := ownsRow_succ hown8
      have st := T.stepM gu (xs := ms ++ [⟨id, wt⟩]) (by unfold Own; rw [List.length_append, List.flatMap_append]; exact hown8) (by
        rcases au with h1 | h1
        · exact .inl h1
        · right; intro b hb'; rw [h1] at hb'; injection hb' with hb'; omega)
      have B8 : Blk w8 cb 28 #[.slice Am ms.length qm, .slice none 0 0, .slice none 0 0] := (gu.block cb T.blk.lt (fun e => (T.ap.1 cb e.symm).1 rfl)).trans T.blk
      have c8 := fun i => B8.cell i
      have f8 := fun i => B8.frozen i
      clear T X hown8 gu au
      refine hK _ _ ((hS0 _).2 B8) ?_
      try simp only [Act.put, List.setIfInBounds_toArray, List.set_cons_zero, List.set_cons_succ]
      clear hK K
      iterate 1 (first | (refine wpOrd_v rfl rfl ?_; intro K hK; go_big_quiet_op; go_big_quiet_on) | (refine wpOrd_q rfl rfl ?_; intro K hK; go_big_quiet_op; go_big_quiet_on) | refine wpOrd_s (by decide) rfl rfl ?_)
      refine wpOrd_a rfl rfl ?_; intro K hK
      go_step
      refine hK _ _ ((hS1 _).2 trivial) ?_
      clear hK K
      change wpOrd _ _ _ _ _ 1 _ _
      refine wpOrd_nil ?_
      clear hevT _hev
      clear hS0 hS1 S k0 c8 f8 B8
      generalize w8.setCell ⟨cb, 0, none⟩ (.slice (some ⟨g8, 0, none⟩) (ms.length + 1) cap8) = w9 at st ⊢
      have hc9 : chkMembers 0 (ms ++ [⟨id, wt⟩]) = 0 := chkM_app ⟨id, wt⟩ p1 (by show wt ≤ _; omega) ms 0 hck (by rw [← hla.out]; exact hid0)
      have hl9 : lastM 0 (ms ++ [⟨id, wt⟩]) = id := lastM_app ⟨id, wt⟩ ms 0
      replace hc9 := Lib.hid hc9
      go_wp2
      go_roundw
      case rel => exact ⟨ms ++ [⟨id, wt⟩], m - 1, _, _, by rw [hl9], by congr 1; omega, by simp; omega, by simp; omega, by simp; omega, hc9.out, by rw [hl9]; omega, by rw [hl9]; simp; omega, st⟩
      case measure => simp [intOf]; omega
    · have hm' : ¬ (0 : Int) < (m : Int) := by omega
      have hms1 : 1 ≤ ms.length := by omega
      have hms4 : ms.length ≤ 4 := by omega
      have hk1 : k' ≤ k + 9 := by omega
      clear hN1 hN4 hk' hm hi0 hi1
      replace hck := Lib.hid hck
      go_wp2_with fail
      refine (next_any g nums _ 3 _ T.ring (by omega) (by omega) (by omega)).mono ?_
      rintro e w2 ⟨v, rfl, ⟨d, rfl, p0, q0⟩, hr, hk2⟩
      replace T := T.turn hr hk2
      clear hr hk2
      obtain ⟨N, rfl⟩ := Int.eq_ofNat_of_zero_le p0
      clear p0
      go_wp2_with fail
      go_loopw [6, 7] (fun i n wr => CoRel2 w g cb rb nums k' Vm ms i n wr) (fun _ n _ => (intOf n).toNat)
      case atStart => exact ⟨[], 1 + N, k' + 1, _, rfl, by simp, by simp, by simp; omega, by simp, rfl, by simp [lastL], by simp [lastL], T⟩
      case round =>
        clear T
        obtain ⟨ls, m, k2, Vl, rfl, rfl, hN1, hN4, hk', hcl, hi0, hi1, T⟩ := hrel
        by_cases hm : 0 < m
        · have hm' : (0 : Int) < (m : Int) := by omega
          go_wp2_with fail
          refine (next_any g nums _ 2 _ T.ring (by omega) (by omega) (by omega)).mono ?_
          rintro e w3 ⟨v, rfl, ⟨d, rfl, p0, q0⟩, hr, hk2⟩
          replace T := T.turn hr hk2
          clear hr hk2
          obtain ⟨id, hid⟩ : ∃ q, q = lastL 0 ls + 1 + d := ⟨_, rfl⟩
          have hid0 : lastL 0 ls < id := by omega
          have hid3 : id ≤ 2 * (ls.length + 1) := by omega
          obtain ⟨la, hla⟩ : ∃ q, q = lastL 0 ls := ⟨_, rfl⟩
          rw [← hla] at hid hi0 hi1 hid0 ⊢
          replace hla := Lib.hid hla
          go_upto_region 13 with (fail)
          rw [← hid]
          replace hid := Lib.hid hid
          replace T := T.kpN (Kp.refl _ _ _).drew
          have hVm := (T.l.see fun _ => rfl).1
          obtain ⟨Am, qm, hVm2⟩ : ∃ A q, Vl = .slice A ls.length q := ⟨_, _, hVm⟩
          clear hVm
          subst hVm2
          obtain ⟨S, hS⟩ : ∃ S : Nat → World → Prop, S = fun n w' => if n = 0 then Blk w' cb 28 #[Vm, .slice Am ls.length qm, .slice none 0 0] else True := ⟨_, rfl⟩
          have hS0 : ∀ w', S 0 w' ↔ (Blk w' cb 28 #[Vm, .slice Am ls.length qm, .slice none 0 0]) := fun w' => by rw [hS]; exact Iff.rfl
          have hS1 : ∀ w', S 1 w' ↔ (True) := fun w' => by rw [hS]; exact Iff.rfl
          clear hS
          have k0 := fun (q : Ev (S 0)) i => ((hS0 _).1 q.h).cell i
          have hevT := ev_true
          refine wp_region_ord S [(0, 0), (1, 1), (2, 0), (3, 0), (5, 0), (7, 0), (10, 0), (4, 2), (6, 2), (8, 2), (9, 0), (11, 2), (12, 0), (13, 0), (14, 2), (15, 2), (16, 0), (17, 3)] [17] (by kernel_rfl) (by kernel_rfl) ((hS0 _).2 T.blk) ?_
          intro _hev
          iterate 7 (first | (refine wpOrd_v rfl rfl ?_; intro K hK; go_big_quiet_op; go_big_quiet_on) | (refine wpOrd_q rfl rfl ?_; intro K hK; go_big_quiet_op; go_big_quiet_on) | refine wpOrd_s (by decide) rfl rfl ?_)
          refine wpOrd_l rfl rfl ?_; intro K hK
          go_step
          refine (next_any g nums _ 3 _ T.ring (by omega) (by omega) (by omega)).mono ?_
          rintro e w5 ⟨v, rfl, ⟨lv, rfl, p1, q1⟩, hr, hk2⟩
          replace T := T.turn hr hk2
          clear hr hk2
          refine hK _ _ ((hS0 _).2 T.blk) ?_
          clear hK K
          refine wpOrd_l rfl rfl ?_; intro K hK
          go_step
          refine (range_any g nums _ 0 6 _ T.ring (by omega) (by omega) (by omega) (by omega) (by omega)).mono ?_
          rintro e w5 ⟨v, rfl, ⟨wi, rfl, p2, q2⟩, hr, hk2⟩
          replace T := T.turn hr hk2
          clear hr hk2
          refine hK _ _ ((hS0 _).2 T.blk) ?_
          clear hK K
          refine wpOrd_l rfl rfl ?_; intro K hK
          go_step
          refine (range_any g nums _ 0 4 _ T.ring (by omega) (by omega) (by omega) (by omega) (by omega)).mono ?_
          rintro e w5 ⟨v, rfl, ⟨qu, rfl, p3, q3⟩, hr, hk2⟩
          replace T := T.turn hr hk2
          clear hr hk2
          refine hK _ _ ((hS0 _).2 T.blk) ?_
          clear hK K
          iterate 1 (first | (refine wpOrd_v rfl rfl ?_; intro K hK; go_big_quiet_op; go_big_quiet_on) | (refine wpOrd_q rfl rfl ?_; intro K hK; go_big_quiet_op; go_big_quiet_on) | refine wpOrd_s (by decide) rfl rfl ?_)
          refine wpOrd_l rfl rfl ?_; intro K hK
          go_step
          refine (range_any g nums _ 0 5 _ T.ring (by omega) (by omega) (by omega) (by omega) (by omega)).mono ?_
          rintro e w5 ⟨v, rfl, ⟨sh, rfl, p4, q4⟩, hr, hk2⟩
          replace T := T.turn hr hk2
          clear hr hk2
          refine hK _ _ ((hS0 _).2 T.blk) ?_
          clear hK K
          iterate 2 (first | (refine wpOrd_v rfl rfl ?_; intro K hK; go_big_quiet_op; go_big_quiet_on) | (refine wpOrd_q rfl rfl ?_; intro K hK; go_big_quiet_op; go_big_quiet_on) | refine wpOrd_s (by decide) rfl rfl ?_)
          refine wpOrd_l rfl rfl ?_; intro K hK
          go_step
          have X := Blk.new w5 101 #[.int .i64 id, .int .i64 lv, .int .i64 wi, .int .i64 (qu * 250), .int .i64 (sh * 200)]
          replace T := T.kpN (Kp.new w5 (.cells #[.int .i64 id, .int .i64 lv, .int .i64 wi, .int .i64 (qu * 250), .int .i64 (sh * 200)] 101))
          obtain ⟨xb, hxb⟩ : ∃ q, q = w5.heap.size := ⟨_, rfl⟩
          rw [← hxb] at X ⊢
          generalize World.alloc w5 (.cells #[.int .i64 id, .int .i64 lv, .int .i64 wi, .int .i64 (qu * 250), .int .i64 (sh * 200)] 101) = w6 at T X ⊢
          clear hxb
          refine hK _ _ ((hS0 _).2 T.blk) ?_
          clear hK K
          obtain ⟨nl, hnl⟩ : ∃ q : LawC, q = ⟨id, lv, wi, qu * 250, sh * 200⟩ := ⟨_, rfl⟩
          refine wpOrd_l rfl rfl ?_; intro K hK
          refine wp_append_own_at (.tmp 44) (.tmp 57) 25 (by rfl) w.heap.size 101 il _ 5 40 Tryz.underlying25 hil hl0 hl1 hl2 (by rfl) (by omega) (.slice Am ls.length qm) ls.length (ls.flatMap encLaw) (by rfl) T.l ⟨xb, 0, none⟩ 1 1 (encLaw nl) (by rfl) (by rfl) (fun j u hj => by rw [Addr.add_lit, Nat.zero_add, X.cell]; exact (show (encLaw ⟨id, lv, wi, qu * 250, sh * 200⟩).toArray[j]? = some u by rw [← hnl]; simpa using hj)) (by intro u hu; simp [encLaw] at hu; rcases hu with rfl | rfl | rfl | rfl | rfl <;> rfl) (maxLen_of (by omega)) (by omega) T.size ?_
          intro u8 w8 hown8 gu au
          obtain ⟨g8, cap8, rfl⟩ := ownsRow_succ hown8
          have st := T.stepL gu (xs := ls ++ [nl]) (by unfold Own; rw [List.length_append, List.flatMap_append]; simpa using hown8) (by
            rcases au with h1 | h1
            · exact .inl h1
            · right; intro b hb'; rw [h1] at hb'; injection hb' with hb'; omega)
          have B8 : Blk w8 cb 28 #[Vm, .slice Am ls.length qm, .slice none 0 0] := (gu.block cb T.blk.lt (fun e => (T.ap.2.1 cb e.symm).1 rfl)).trans T.blk
          have c8 := fun i => B8.cell i
          have f8 := fun i => B8.frozen i
          clear T X hown8 gu au
          refine hK _ _ ((hS0 _).2 B8) ?_
          try simp only [Act.put, List.setIfInBounds_toArray, List.set_cons_zero, List.set_cons_succ]
          clear hK K
          iterate 1 (first | (refine wpOrd_v rfl rfl ?_; intro K hK; go_big_quiet_op; go_big_quiet_on) | (refine wpOrd_q rfl rfl ?_; intro K hK; go_big_quiet_op; go_big_quiet_on) | refine wpOrd_s (by decide) rfl rfl ?_)
          refine wpOrd_a rfl rfl ?_; intro K hK
          go_step
          refine hK _ _ ((hS1 _).2 trivial) ?_
          clear hK K
          change wpOrd _ _ _ _ _ 1 _ _
          refine wpOrd_nil ?_
          clear hevT _hev
          clear hS0 hS1 S k0 c8 f8 B8
          generalize w8.setCell ⟨cb, 1, none⟩ (.slice (some ⟨g8, 0, none⟩) (ls.length + 1) cap8) = w9 at st ⊢
          have hc9 : chkLaws 0 (ls ++ [nl]) = 0 := chkL_app nl (by rw [hnl]; unfold lawBad; simp only; omega) ls 0 hcl (by rw [← hla.out, hnl]; exact hid0)
          have hl9 : lastL 0 (ls ++ [nl]) = id := by rw [lastL_app, hnl]
          replace hc9 := Lib.hid hc9
          replace hnl := Lib.hid hnl
          go_wp2
          go_roundw
          case rel => exact ⟨ls ++ [nl], m - 1, _, _, by rw [hl9], by congr 1; omega, by simp; omega, by simp; omega, by simp; omega, hc9.out, by rw [hl9]; omega, by rw [hl9]; simp; omega, st⟩
          case measure => simp [intOf]; omega
        · have hm' : ¬ (0 : Int) < (m : Int) := by omega
          have hls1 : 1 ≤ ls.length := by omega
          have hls3 : ls.length ≤ 3 := by omega
          have hk2' : k2 ≤ k + 25 := by omega
          clear hN1 hN4 hk' hm hi0 hi1 hk1
          replace hcl := Lib.hid hcl
          go_wp2_with fail
          refine (next_any g nums _ 4 _ T.ring (by omega) (by omega) (by omega)).mono ?_
          rintro e w2 ⟨v, rfl, ⟨d, rfl, p0, q0⟩, hr, hk2⟩
          replace T := T.turn hr hk2
          clear hr hk2
          obtain ⟨N, rfl⟩ := Int.eq_ofNat_of_zero_le p0
          clear p0
          go_wp2_with fail
          go_loopw [8, 9] (fun i n wr => CoRel3 w g cb rb nums k2 Vm Vl ms ls i n wr) (fun _ n _ => (intOf n).toNat)
          case atStart => exact ⟨[], N, k2 + 1, _, rfl, by simp, by simp; omega, by simp, rfl, by simp [lastV], by simp [lastV], T⟩
          case round =>
            clear T
            obtain ⟨vs, m, k3, Vv, rfl, rfl, hN4, hk', hcv, hi0, hi1, T⟩ := hrel
            by_cases hm : 0 < m
            · have hm' : (0 : Int) < (m : Int) := by omega
              go_wp2_with fail
              refine (range_any g nums _ 1 300000000 _ T.ring (by omega) (by omega) (by omega) (by omega) (by omega)).mono ?_
              rintro e w3 ⟨v, rfl, ⟨d, rfl, p0, q0⟩, hr, hk2⟩
              replace T := T.turn hr hk2
              clear hr hk2
              obtain ⟨id, hid⟩ : ∃ q, q = lastV 0 vs + d := ⟨_, rfl⟩
              have hid0 : lastV 0 vs < id := by omega
              have hid3 : id ≤ 300000000 * (vs.length + 1) := by omega
              obtain ⟨la, hla⟩ : ∃ q, q = lastV 0 vs := ⟨_, rfl⟩
              rw [← hla] at hid hi0 hi1 hid0 ⊢
              replace hla := Lib.hid hla
              go_upto_region 19 with (fail)
              rw [← hid]
              replace hid := Lib.hid hid
              have hVm := (T.v.see fun _ => rfl).1
              obtain ⟨Am, qm, hVm2⟩ : ∃ A q, Vv = .slice A vs.length q := ⟨_, _, hVm⟩
              clear hVm
              subst hVm2
              have cc := fun i => T.blk.cell i
              have T2 := T.kpN (Kp.new w3 (.cells #[.int .i64 id] 2))
              have B2 := Lib.hid T2.blk
              go_wp2_with (at_builtin; refine wpList_append_own_at _ (by rfl) (.tmp 71) (.tmp 73) 26 (by rfl) w.heap.size 2 iv _ 1 8 Tryz.underlying26 hiv hv0 hv1 hv2 (by rfl) (by omega) (.slice Am vs.length qm) vs.length (vs.flatMap encI) (by rfl) T2.v ⟨w3.heap.size, 0, none⟩ 1 1 [.int .i64 id] (by rfl) (by rfl) (list_new _ _ _) (one_int _ _) (maxLen_of (by omega)) (by omega) T2.size ?_; intro u8 w8 hown8 gu _ au; obtain ⟨g8, cap8, rfl⟩ := ownsRow_succ hown8; have B8 : Blk w8 cb 28 #[Vm, Vl, .slice Am vs.length qm] := (gu.block cb T2.blk.lt (fun e => (T2.ap.2.2 cb e.symm).1 rfl)).trans T2.blk; have c8 := fun i => B8.cell i; have f8 := fun i => B8.frozen i; have st := Lib.hid (T2.stepV gu (xs := vs ++ [id]) (by unfold Own; rw [List.length_append, List.flatMap_append]; exact hown8) (by
                rcases au with h1 | h1
                · exact .inl h1
                · right; intro b hb'; rw [h1] at hb'; injection hb' with hb'; omega)))
              have hc9 : chkLevels 0 (vs ++ [id]) = 0 := chkV_app id (by omega) vs 0 hcv (by rw [← hla.out]; exact hid0)
              have hl9 : lastV 0 (vs ++ [id]) = id := lastV_app _ _ _
              refine ⟨⟨vs ++ [id], m - 1, _, _, by rw [hl9], by congr 1; omega, by simp; omega, by simp; omega, hc9, by rw [hl9]; omega, by rw [hl9]; simp; omega, st.out⟩, by simp [intOf]; omega⟩
            · have hm' : ¬ (0 : Int) < (m : Int) := by omega
              have hvs3 : vs.length ≤ 3 := by omega
              have hkk : k3 ≤ k + 40 := by omega
              have hchk := Lib.hid (made_check hms1 hms4 hck.out hls3 hcl.out hvs3 hcv)
              clear hm hN4 hk' hcv hi0 hi1 hcl hck hk2' hms1 hms4 hls3 hvs3
              have eM := (T.m.see fun _ => rfl).1
              have eL := (T.l.see fun _ => rfl).1
              have eV := (T.v.see fun _ => rfl).1
              obtain ⟨Am, qm, eM2⟩ : ∃ A q, Vm = .slice A ms.length q := ⟨_, _, eM⟩
              obtain ⟨Al, ql, eL2⟩ : ∃ A q, Vl = .slice A ls.length q := ⟨_, _, eL⟩
              obtain ⟨Av, qv, eV2⟩ : ∃ A q, Vv = .slice A vs.length q := ⟨_, _, eV⟩
              clear eM eL eV
              subst eM2 eL2 eV2
              have cc := fun i => T.blk.cell i
              have cr := fun i => T.res.cell i
              have fr := fun i => T.res.frozen i
              have fin := Lib.hid (T.done hkk hchk.out hls1)
              go_wp2_with fail
              rename World => w9
              change bodyPost _ _ _ _ _ (setC0 w9 rb (.slice Am ms.length qm) (.slice Al ls.length ql) (.slice Av vs.length qv))
              have R9 := Blk.setC0 T.res (.slice Am ms.length qm) (.slice Al ls.length ql) (.slice Av vs.length qv)
              have cx := fun i => R9.cell i
              generalize setC0 w9 rb (.slice Am ms.length qm) (.slice Al ls.length ql) (.slice Av vs.length qv) = w10 at fin cx ⊢
              exact bodyPost_ret (v := .agg #[.slice Am ms.length qm, .slice Al ls.length ql, .slice Av vs.length qv]) (by simp [results, Tryz.results15, go_sem, cx]) rfl fin.out
end Go.Proofs.YtogpgnljomchcaaGreat
