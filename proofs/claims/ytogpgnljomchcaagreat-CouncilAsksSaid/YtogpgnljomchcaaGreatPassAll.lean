/- Weights of a member's number, the last motion that passed: plain. slices.Backward over motions; council.Passed: the last motion on a target with an act that passed. council.Passed: the last motion on a target with an act that passed. -/
import Derived.Test.YtogpgnljomchcaaGreatPa
import Derived.Test.YtogpgnljomchcaaGreatSe
import Derived.RangeFuncNested
import Derived.RangeFuncLeaves
import Derived.RangeFuncBound
import Derived.RangeFuncCalls
import Derived.RangeFuncBox
import Derived.OwnWalkIn
import Derived.TacticsInMore
import Derived.LoopNIn
import Derived.LoopIn
import Derived.WalkKit
import Derived.Shelf.Abstract
import Derived.Shelf.RegionOpen
namespace Go.Proofs.YtogpgnljomchcaaGreat

def partW (c : Council) (v : Int) (j : Nat) : Int := (((c.members.take j).filter fun y => y.id == v).map Member.weight).sum
def votedW (c : Council) (m : Motion) (k : Nat) : Int := ((m.voted.take k).map (wOf c)).sum
/-! ### The last motion that passed -/
def passP (t a : Int) (m : Motion) : Bool := m.target == t && m.act == a && m.state == 2
def passI (p : Motion → Bool) (l : List Motion) : Nat → Int
  | 0 => -1
  | k + 1 => if p (l.getD k default) then (k : Int) else passI p l k
end Go.Proofs.YtogpgnljomchcaaGreat
namespace Go.Proofs.YtogpgnljomchcaaGreat
open Go.RowKit
attribute [local go_sem] Oper.semAt_some

/-- places from the last one down -/
def Dn {n : Nat} (l : List (Fin n)) : Prop := ∀ k (hk : k < l.length), l[k].val + k + 1 = n
theorem Dn.nil {n : Nat} : Dn ([] : List (Fin n)) := fun k hk => absurd hk (by simp)
theorem Dn.snoc {n : Nat} {l : List (Fin n)} (h : Dn l) (i : Fin n) (hi : i.val + l.length + 1 = n) : Dn (l ++ [i]) := fun k hk => by
  rcases Nat.lt_or_ge k l.length with h1 | h1
  · rw [List.getElem_append_left h1]; exact h k h1
  · have : k = l.length := by simp at hk; omega
    subst this
    simpa using hi
theorem Dn.mem {n : Nat} {l : List (Fin n)} (h : Dn l) (j : Fin n) (hj : n ≤ j.val + l.length) : j ∈ l := by
  have hk : n - 1 - j.val < l.length := by have := j.isLt; omega
  have e : l[n - 1 - j.val] = j := Fin.ext (by have := h _ hk; have := j.isLt; omega)
  rw [← e]
  exact List.getElem_mem hk
def encsB (zs : List (Value × Motion)) (i : Fin zs.length) : Array Value := #[.int .i64 (i.val : Int), .agg #[.int .i64 zs[i.val].2.target, .int .i64 zs[i.val].2.act, .int .i64 zs[i.val].2.opened, .int .i64 zs[i.val].2.state, .int .i64 zs[i.val].2.yes, .int .i64 zs[i.val].2.no, zs[i.val].1, .int .i64 zs[i.val].2.fact]]
set_option maxRecDepth 100000 in
set_option maxHeartbeats 2000000 in
theorem back1_in (F : Fence) (n : Nat) (hF : F.fn 67) (hro : F.round = none) (hn : 1 ≤ n) (l Bs n₀ b off cap : Nat) (zs : List (Value × Motion)) (hz : zs.length ≤ 17592186044416) (hb : b < n₀) (hB : Bs < n₀)
    (J Jx : List (Fin zs.length) → World → Prop)
    (hY : ∀ pre x W, J pre W → pre.length < zs.length → YieldAt F (n - 1) Tryz.prog l (encsB zs x) W fun e W' =>
      (e = .returned (.bool true) ∧ J (pre ++ [x]) W' ∧ Below n₀ W W') ∨ (e = .returned (.bool false) ∧ Jx (pre ++ [x]) W'))
    (W : World) (hBs : W.cell? ⟨Bs, 0, none⟩ = some (.slice (some ⟨b, off, none⟩) zs.length cap)) (hc : ∀ i (hi : i < zs.length) j v, (encVM zs[i])[j]? = some v → W.cell? ⟨b, off + (i * 8 + j), none⟩ = some v) (h0 : J [] W) :
    CallsIn F n Tryz.prog 67 #[.func (.yield l) #[] #[], .pointer (some ⟨Bs, 0, none⟩)] W fun e W' => (∃ v, e = .returned v) ∧
      ((∃ ys, (Dn ys ∧ ys.length = zs.length) ∧ J ys W') ∨ (∃ pre, Dn pre ∧ Jx pre W')) := by
  refine callsIn_of_wp Tryz.func67 rfl hF ?_ hro
  simp only [Tryz.ntmps67, List.size_toArray, List.length_cons, List.length_nil, Nat.reduceAdd, Nat.reduceSub, Array.replicate_succ, Array.replicate_zero, List.push_toArray, List.append_toArray, List.nil_append, List.cons_append]
  gi_wp2
  gi_loopw [3] (fun i wr => ∃ (m : Nat) (pre : List (Fin zs.length)), i = .int .i64 ((m : Int) - 1) ∧ m + pre.length = zs.length ∧ Dn pre ∧ J pre wr ∧ Below n₀ W wr)
    (fun i _ => (intOf i + 1).toNat)
  case atStart => exact ⟨zs.length, [], rfl, by simp, Dn.nil, h0, Below.refl _ _⟩
  case round =>
    obtain ⟨m, pre, rfl, hm, hd, hJs, hnx⟩ := hrel
    have hBs' := (hnx.cell (p := ⟨Bs, 0, none⟩) hB).trans hBs
    rcases Nat.eq_zero_or_pos m with rfl | hm0
    · gi_wp2
      go_end0
      exact ⟨⟨_, rfl⟩, .inl ⟨pre, ⟨hd, by omega⟩, hJs⟩⟩
    · obtain ⟨i, rfl⟩ : ∃ i, m = i + 1 := ⟨m - 1, by omega⟩
      have e1 : (((i + 1 : Nat) : Int) - 1) = (i : Int) := by omega
      rw [e1]
      have hi : i < zs.length := by omega
      have hcc := fun j v hv => (hnx.cell (p := ⟨b, off + (i * 8 + j), none⟩) hb).trans (hc i hi j v hv)
      have c0 : wr.cell? ⟨b, off + i * 8 + 0, none⟩ = some (.int .i64 zs[i].2.target) := by rw [Nat.add_assoc]; exact hcc 0 _ rfl
      have c1 : wr.cell? ⟨b, off + i * 8 + 1, none⟩ = some (.int .i64 zs[i].2.act) := by rw [Nat.add_assoc]; exact hcc 1 _ rfl
      have c2 : wr.cell? ⟨b, off + i * 8 + 2, none⟩ = some (.int .i64 zs[i].2.opened) := by rw [Nat.add_assoc]; exact hcc 2 _ rfl
      have c3 : wr.cell? ⟨b, off + i * 8 + 3, none⟩ = some (.int .i64 zs[i].2.state) := by rw [Nat.add_assoc]; exact hcc 3 _ rfl
      have c4 : wr.cell? ⟨b, off + i * 8 + 4, none⟩ = some (.int .i64 zs[i].2.yes) := by rw [Nat.add_assoc]; exact hcc 4 _ rfl
      have c5 : wr.cell? ⟨b, off + i * 8 + 5, none⟩ = some (.int .i64 zs[i].2.no) := by rw [Nat.add_assoc]; exact hcc 5 _ rfl
      have c6 : wr.cell? ⟨b, off + i * 8 + 6, none⟩ = some zs[i].1 := by rw [Nat.add_assoc]; exact hcc 6 _ rfl
      have c7 : wr.cell? ⟨b, off + i * 8 + 7, none⟩ = some (.int .i64 zs[i].2.fact) := by rw [Nat.add_assoc]; exact hcc 7 _ rfl
      simp only [Nat.add_zero] at c0
      clear hcc
      have hii : (i : Int) < (zs.length : Int) := by omega
      obtain ⟨fn, tmps, assign, body, hy, hR⟩ := hY pre ⟨i, hi⟩ wr hJs (by omega)
      dsimp only [encsB] at hy
      gi_wp2
      refine hR.mono ?_
      rintro e W3 (⟨rfl, hJ3, hk3⟩ | ⟨rfl, hJx3⟩)
      · gi_wp2
        go_roundw
        case rel => exact ⟨i, pre ++ [⟨i, hi⟩], rfl, by simp; omega, hd.snoc _ (by simp; omega), hJ3, hnx.trans hk3⟩
        case measure => simp [intOf]
      · gi_wp2
        refine bodyPost_ret (results_none rfl _ _ _) rfl ?_
        exact ⟨⟨_, rfl⟩, .inr ⟨pre ++ [⟨i, hi⟩], hd.snoc _ (by simp; omega), hJx3⟩⟩
set_option maxHeartbeats 1000000 in
theorem backward_in (F : Fence) (n : Nat) (hF : F.fn 54) (hro : F.round = none) (A : Option Addr) (len cap : Nat) (w : World) :
    CallsIn F n Tryz.prog 54 #[.slice A len cap] w fun e w' => e = .returned (.func (.func 67) #[] #[.pointer (some ⟨w.heap.size, 0, none⟩)]) ∧ w' = w.alloc (.cells #[.slice A len cap] 38) := by
  refine callsIn_of_wp Tryz.func54 rfl hF ?_ hro
  simp only [Tryz.ntmps54, List.size_toArray, List.length_cons, List.length_nil, Nat.reduceAdd, Nat.reduceSub, Array.replicate_succ, Array.replicate_zero, List.push_toArray, List.append_toArray, List.nil_append, List.cons_append]
  gi_wp2
  go_ret
  exact ⟨rfl, rfl⟩
theorem Kp.of_below {B : Nat} {w w' : World} (h : Below B w w') : Kp B none w w' := ⟨h.1, h.2, h.3, h.4, fun k hk _ => h.5 k hk⟩
set_option maxRecDepth 100000 in
set_option maxHeartbeats 1000000 in
theorem back1_nil_in (F : Fence) (n : Nat) (hF : F.fn 67) (hro : F.round = none) (l Bs cap : Nat) (A : Option Addr) (J : List (Fin 0) → World → Prop) (W : World) (hBs : W.cell? ⟨Bs, 0, none⟩ = some (.slice A 0 cap)) (h0 : J [] W) :
    CallsIn F n Tryz.prog 67 #[.func (.yield l) #[] #[], .pointer (some ⟨Bs, 0, none⟩)] W fun e W' => (∃ v, e = .returned v) ∧ J [] W' := by
  refine callsIn_of_wp Tryz.func67 rfl hF ?_ hro
  simp only [Tryz.ntmps67, List.size_toArray, List.length_cons, List.length_nil, Nat.reduceAdd, Nat.reduceSub, Array.replicate_succ, Array.replicate_zero, List.push_toArray, List.append_toArray, List.nil_append, List.cons_append]
  gi_wp2
  gi_loopw [3] (fun i wr => i = .int .i64 (-1) ∧ J [] wr) (fun _ _ => 0)
  case atStart => exact ⟨rfl, h0⟩
  case round =>
    obtain ⟨rfl, hJs⟩ := hrel
    gi_wp2
    go_end0
    exact ⟨⟨_, rfl⟩, hJs⟩
theorem back_stops (F : Fence) (n : Nat) (hF : F.fn 67) (hro : F.round = none) (hn : 1 ≤ n) (Bs B cap : Nat) (A : Option Addr) (zs : List (Value × Motion)) (hz : zs.length ≤ 17592186044416) (w : World) (hB : Bs < w.heap.size)
    (hc : w.cell? ⟨Bs, 0, none⟩ = some (.slice A zs.length cap)) (hl : Lo w.heap.size w 8 encVM A zs.length zs) :
    SeqStopsK F n Tryz.prog 67 #[.pointer (some ⟨Bs, 0, none⟩)] (encsB zs) (Below w.heap.size) (fun ys => Dn ys ∧ ys.length = zs.length) (fun pre => Dn pre) zs.length w := fun l J Jx W hW _ _ hY h0 => by
  have hc' := (hW.cell (p := ⟨Bs, 0, none⟩) hB).trans hc
  cases zs with
  | nil =>
    exact (back1_nil_in F n hF hro l Bs cap A J W hc' h0).mono fun e W' ⟨he, hj⟩ => ⟨he, .inl ⟨[], ⟨Dn.nil, rfl⟩, hj⟩⟩
  | cons z zs =>
    obtain ⟨b, off, rfl, hb, -, hcs⟩ := (hl.kp (Kp.of_below hW)).2 (by simp)
    exact back1_in F n hF hro hn l Bs w.heap.size b off cap (z :: zs) hz hb hB J Jx hY W hc' hcs h0
end Go.Proofs.YtogpgnljomchcaaGreat
namespace Go.Proofs.YtogpgnljomchcaaGreat
open Go.RowKit
attribute [local go_sem] Oper.semAt_some

theorem passI_none {p : Motion → Bool} {l : List Motion} : ∀ k, k ≤ l.length → (∀ i (hi : i < l.length), i < k → p l[i] = false) → passI p l k = -1
  | 0, _, _ => rfl
  | k + 1, hk, h => by
    have h1 := h k (by omega) (by omega)
    unfold passI
    rw [List.getD_eq_getElem?_getD, List.getElem?_eq_getElem (show k < l.length by omega)]
    rw [if_neg (by simp [h1])]
    exact passI_none k (by omega) fun i hi hk => h i hi (by omega)
theorem passI_at {p : Motion → Bool} {l : List Motion} {i : Nat} (hi : i < l.length) (hp : p l[i] = true) : ∀ k, i < k → k ≤ l.length → (∀ j (hj : j < l.length), i < j → j < k → p l[j] = false) → passI p l k = i
  | 0, h, _, _ => by omega
  | k + 1, hik, hk, h => by
    unfold passI
    rw [List.getD_eq_getElem?_getD, List.getElem?_eq_getElem (show k < l.length by omega)]
    rcases Nat.lt_or_ge i k with h1 | h1
    · rw [if_neg (by simp [h k (by omega) h1 (by omega)])]
      exact passI_at hi hp k h1 (by omega) fun j hj a b => h j hj a (by omega)
    · have : i = k := by omega
      subst this
      rw [if_pos (by simpa using hp)]
def PassPost (R : Int) (w : World) (e : Ending) (w' : World) : Prop := e = .returned (.tuple #[.int .i64 R, .bool (decide (0 ≤ R))]) ∧ Kp w.heap.size none w w'
theorem blk_own {W W' : World} {row : Option Nat} {b : Nat} {t : TypeId} {cs : Array Value} (h : Blk W b t cs) (hg : W.grownBy W' row) (hr : ∀ r, row = some r → ∃ o : Obj, W.heap[r]? = some o ∧ o.isCells = false) : Blk W' b t cs := by
  refine (hg.block b h.lt fun e => ?_).trans h
  obtain ⟨o, ho, hc⟩ := hr b e.symm
  rw [show W.heap[b]? = some (.cells cs t (0, 0)) from h] at ho
  injection ho with ho
  rw [← ho] at hc
  cases hc
structure PI (W0 : World) (tb ab r1 r2 : Nat) (t a : Int) (zs : List (Value × Motion)) (pre : List (Fin zs.length)) (W : World) : Prop where
  no : ∀ j ∈ pre, passP t a zs[j.val].2 = false
  bt : Blk W tb 3 #[.int .i64 t]
  ba : Blk W ab 3 #[.int .i64 a]
  b1 : Blk W r1 3 #[.int .i64 0]
  b2 : Blk W r2 4 #[.bool false]
theorem PI.own {W0 : World} {tb ab r1 r2 : Nat} {t a : Int} {zs : List (Value × Motion)} : Go.Own (PI W0 tb ab r1 r2 t a zs) := fun _ _ _ _ h hg hr => ⟨h.no, blk_own h.bt hg hr, blk_own h.ba hg hr, blk_own h.b1 hg hr, blk_own h.b2 hg hr⟩
structure PX (r1 r2 : Nat) (t a : Int) (zs : List (Value × Motion)) (c : Code) (pre : List (Fin zs.length)) (W : World) : Prop where
  ret : c = .ret
  hit : ∃ q i, pre = q ++ [i] ∧ (∀ j ∈ q, passP t a zs[j.val].2 = false) ∧ passP t a zs[i.val].2 = true ∧ Blk W r1 3 #[.int .i64 (i.val : Int)]
  b2 : Blk W r2 4 #[.bool true]
theorem PX.own {r1 r2 : Nat} {t a : Int} {zs : List (Value × Motion)} (c : Code) : Go.Own (PX r1 r2 t a zs c) := fun _ _ _ _ h hg hr => ⟨h.ret, by
  obtain ⟨q, i, e, h1, h2, h3⟩ := h.hit
  exact ⟨q, i, e, h1, h2, blk_own h3 hg hr⟩, blk_own h.b2 hg hr⟩
theorem Blk.putObj {W : World} {b D : Nat} {t : TypeId} {cs : Array Value} {o : Obj} (o' : Obj) (h : Blk W b t cs) (hD : W.heap[D]? = some o) (hc : o.isCells = false) : Blk (W.putObj D o') b t cs :=
  blk_own h (grownBy_putObj' W D o') fun r e => by cases e; exact ⟨o, hD, hc⟩
set_option maxRecDepth 100000 in
set_option maxHeartbeats 4000000 in
theorem council_Passed_any (L : LV) (l : Ledger) (t a : Int) (w : World) (s : LAt w.heap.size w L l) :
    Calls Tryz.prog 27 #[.agg #[.int .i64 l.items, .slice L.fa l.facts.length L.fc, .slice L.ma l.motions.length L.mc, .slice L.sa l.sent.length L.sc], .int .i64 t, .int .i64 a] w (PassPost (passI (passP t a) l.motions l.motions.length) w) := by
  obtain ⟨R, hR⟩ : ∃ R, R = passI (passP t a) l.motions l.motions.length := ⟨_, rfl⟩
  rw [← hR]
  replace hR := Lib.hid hR
  obtain ⟨zs, hzs⟩ : ∃ zs, zs = zipV (vV L l) 0 l.motions := ⟨_, rfl⟩
  have hzl : zs.length = l.motions.length := by rw [hzs, zipV_len]
  have hz2 : ∀ i (hi : i < zs.length), l.motions[i]? = some zs[i].2 := fun i hi => by
    subst hzs
    rw [zipV_len] at hi
    rw [zipV_at _ _ _ _ hi, List.getElem?_eq_getElem hi]
  replace hz2 := Lib.hid hz2
  have hz1 : ∀ i (hi : i < zs.length), ∃ A n q, zs[i].1 = .slice A n q := fun i hi => by
    subst hzs
    rw [zipV_len] at hi
    rw [zipV_at _ _ _ _ hi]
    exact ⟨_, _, _, rfl⟩
  replace hz1 := Lib.hid hz1
  have hms := s.ms
  have hzm := s.m
  rw [← hzs, ← hzl] at hzm
  clear hzs
  have B0 := Blk.new w 41 #[.int .i64 l.items, .slice L.fa l.facts.length L.fc, .slice L.ma l.motions.length L.mc, .slice L.sa l.sent.length L.sc]
  obtain ⟨w1, hw1⟩ : ∃ q, q = w.alloc (.cells #[.int .i64 l.items, .slice L.fa l.facts.length L.fc, .slice L.ma l.motions.length L.mc, .slice L.sa l.sent.length L.sc] 41) := ⟨_, rfl⟩
  obtain ⟨w2, hw2⟩ : ∃ q, q = w1.alloc (.cells #[.int .i64 t] 3) := ⟨_, rfl⟩
  obtain ⟨w3, hw3⟩ : ∃ q, q = w2.alloc (.cells #[.int .i64 a] 3) := ⟨_, rfl⟩
  obtain ⟨w4, hw4⟩ : ∃ q, q = w3.alloc (.cells #[.int .i64 0] 3) := ⟨_, rfl⟩
  obtain ⟨w5, hw5⟩ : ∃ q, q = w4.alloc (.cells #[.bool false] 4) := ⟨_, rfl⟩
  obtain ⟨w6, hw6⟩ : ∃ q, q = w5.alloc (.cells #[.slice L.ma l.motions.length L.mc] 38) := ⟨_, rfl⟩
  have s1 : w1.heap.size = w.heap.size + 1 := by rw [hw1]; simp
  have s2 : w2.heap.size = w.heap.size + 1 + 1 := by rw [hw2]; simp [s1]
  have s3 : w3.heap.size = w.heap.size + 1 + 1 + 1 := by rw [hw3]; simp [s2]
  have s4 : w4.heap.size = w.heap.size + 1 + 1 + 1 + 1 := by rw [hw4]; simp [s3]
  have s5 : w5.heap.size = w.heap.size + 1 + 1 + 1 + 1 + 1 := by rw [hw5]; simp [s4]
  have s6 : w6.heap.size = w.heap.size + 1 + 1 + 1 + 1 + 1 + 1 := by rw [hw6]; simp [s5]
  have k1 : Kp w.heap.size none w w1 := by rw [hw1]; exact Kp.new _ _
  have k2 : Kp w1.heap.size none w1 w2 := by rw [hw2]; exact Kp.new _ _
  have k3 : Kp w2.heap.size none w2 w3 := by rw [hw3]; exact Kp.new _ _
  have k4 : Kp w3.heap.size none w3 w4 := by rw [hw4]; exact Kp.new _ _
  have k5 : Kp w4.heap.size none w4 w5 := by rw [hw5]; exact Kp.new _ _
  have k6 : Kp w5.heap.size none w5 w6 := by rw [hw6]; exact Kp.new _ _
  have BT : Blk w2 (w.heap.size + 1) 3 #[.int .i64 t] := by rw [hw2]; exact Blk.newAt _ _ _ s1.symm
  have BA : Blk w3 (w.heap.size + 1 + 1) 3 #[.int .i64 a] := by rw [hw3]; exact Blk.newAt _ _ _ s2.symm
  have BR : Blk w4 (w.heap.size + 1 + 1 + 1) 3 #[.int .i64 0] := by rw [hw4]; exact Blk.newAt _ _ _ s3.symm
  have BU : Blk w5 (w.heap.size + 1 + 1 + 1 + 1) 4 #[.bool false] := by rw [hw5]; exact Blk.newAt _ _ _ s4.symm
  have BS : Blk w6 (w.heap.size + 1 + 1 + 1 + 1 + 1) 38 #[.slice L.ma l.motions.length L.mc] := by rw [hw6]; exact Blk.newAt _ _ _ s5.symm
  have K6 := ((((k1.thenN k2 (Nat.le_refl _)).thenN k3 (Nat.le_refl _)).thenN k4 (Nat.le_refl _)).thenN k5 (Nat.le_refl _)).thenN k6 (Nat.le_refl _)
  have BT6 := (((BT.kpN k3).kpN k4).kpN k5).kpN k6
  have BA6 := ((BA.kpN k4).kpN k5).kpN k6
  have BR6 := (BR.kpN k5).kpN k6
  have BU6 := BU.kpN k6
  have hl6 := (hzm.kpN K6).wide K6.size
  clear k1 k2 k3 k4 k5 k6 BT BA BR BU B0 s1 s2 s3 s4 s5 s hzm
  refine (callsIn_wide (n := 3)).1 ?_
  refine callsIn_of_wp_marks Tryz.func27 rfl trivial ?_ rfl
  simp only [Tryz.ntmps27, List.size_toArray, List.length_cons, List.length_nil, Nat.reduceAdd, Nat.reduceSub, Array.replicate_succ, Array.replicate_zero, List.push_toArray, List.append_toArray, List.nil_append, List.cons_append]
  replace hzl := Lib.hid hzl
  replace hw1 := Lib.hid hw1
  replace hw2 := Lib.hid hw2
  replace hw3 := Lib.hid hw3
  replace hw4 := Lib.hid hw4
  replace hw5 := Lib.hid hw5
  replace hw6 := Lib.hid hw6
  replace s6 := Lib.hid s6
  gi_wp2_with (refine ⟨trivial, ?_⟩; gi_at_call 54; refine (backward_in Fence.wide _ trivial rfl _ _ _ _).mono ?_; rintro e w' ⟨rfl, rfl⟩)
  rw [← hw1.out, ← hw2.out, ← hw3.out, ← hw4.out, ← hw5.out, ← hw6.out]
  obtain ⟨sb, hsb⟩ : ∃ q, q = w.heap.size + 1 + 1 + 1 + 1 + 1 := ⟨_, rfl⟩
  obtain ⟨r2, hr2⟩ : ∃ q, q = w.heap.size + 1 + 1 + 1 + 1 := ⟨_, rfl⟩
  obtain ⟨r1, hr1⟩ : ∃ q, q = w.heap.size + 1 + 1 + 1 := ⟨_, rfl⟩
  obtain ⟨ab, hab⟩ : ∃ q, q = w.heap.size + 1 + 1 := ⟨_, rfl⟩
  obtain ⟨tb, htb⟩ : ∃ q, q = w.heap.size + 1 := ⟨_, rfl⟩
  obtain ⟨lb, hlb⟩ : ∃ q, q = w.heap.size := ⟨_, rfl⟩
  rw [← hsb, ← hr2, ← hr1, ← hab, ← htb, ← hlb]
  rw [← hsb] at BS
  rw [← hr2] at BU6
  rw [← hr1] at BR6
  rw [← hab] at BA6
  rw [← htb] at BT6
  clear hw1 hw2 hw3 hw4 hw5 hw6
  have hs6 := s6.out
  have q1 : w.heap.size ≤ r1 := by omega
  have q2 : w.heap.size ≤ r2 := by omega
  have q3 : r1 ≠ r2 := by omega
  have q4 : sb < w6.heap.size := by omega
  have q5 : ab ≠ r1 ∧ ab ≠ r2 ∧ tb ≠ r1 ∧ tb ≠ r2 := by omega
  clear hsb hr2 hr1 hab htb s6 hs6
  replace hlb := Lib.hid hlb
  replace hms := Lib.hid hms
  rw [← hzl.out] at BS ⊢
  have hms' : zs.length ≤ 17592186044416 := by have := hzl.out; have := hms.out; omega
  refine wpIn_rangeFunc_ownH (n := 3) rfl (by decide) (gf := 67) (lb := #[.pointer (some ⟨sb, 0, none⟩)]) rfl trivial (enters_of Tryz.func67 (by kernel_rfl) rfl)
    (back_stops Fence.wide _ trivial rfl (by decide) sb w6.heap.size L.mc L.ma zs hms' w6 q4 (by rw [BS.cell]; rfl) hl6) belowK_t (belowK_b (Nat.le_refl _)) (Below.refl _ _) (fun _ => rfl)
    (fun pre W => PI w6 tb ab r1 r2 t a zs pre W ∧ Below w6.heap.size w6 W)
    (fun c pre W => PX r1 r2 t a zs c pre W ∧ Below w.heap.size w W)
    (OwnFrom.and (Go.Own.from PI.own _) (ownFrom_below (Nat.le_refl _) (Nat.le_refl _)))
    (fun c => OwnFrom.and (Go.Own.from (PX.own c) _) (ownFrom_below (Nat.le_refl _) K6.size))
    ⟨⟨fun j hj => (by cases hj), BT6, BA6, BR6, BU6⟩, Below.refl _ _⟩
    (fun x a' W => ∃ Bx, Blk W Bx 52 #[.int .i64 zs[x.val].2.target, .int .i64 zs[x.val].2.act, .int .i64 zs[x.val].2.opened, .int .i64 zs[x.val].2.state, .int .i64 zs[x.val].2.yes, .int .i64 zs[x.val].2.no, zs[x.val].1, .int .i64 zs[x.val].2.fact] ∧ a' = { tmps := (.agg #[.int .i64 l.items, .slice L.fa l.facts.length L.fc, .slice L.ma zs.length L.mc, .slice L.sa l.sent.length L.sc] :: .int .i64 t :: .int .i64 a :: .pointer (some ⟨lb, 0, none⟩) :: .pointer (some ⟨tb, 0, none⟩) :: .pointer (some ⟨ab, 0, none⟩) :: .pointer (some ⟨r1, 0, none⟩) :: .pointer (some ⟨r2, 0, none⟩) :: .int .i64 (x.val : Int) :: .pointer (some ⟨Bx, 0, none⟩) :: .pointer (some ⟨lb, 2, none⟩) :: .slice L.ma zs.length L.mc :: .func (.func 67) #[] #[.pointer (some ⟨sb, 0, none⟩)] :: .int .i64 (x.val : Int) :: .agg #[.int .i64 zs[x.val].2.target, .int .i64 zs[x.val].2.act, .int .i64 zs[x.val].2.opened, .int .i64 zs[x.val].2.state, .int .i64 zs[x.val].2.yes, .int .i64 zs[x.val].2.no, zs[x.val].1, .int .i64 zs[x.val].2.fact] :: undef :: undef :: undef :: undef :: undef :: undef :: undef :: undef :: undef :: undef :: undef :: undef :: undef :: undef :: undef :: undef :: [] : List Value).toArray, defers := [] })
    (fun x a' _ X Y row hs hg hr => by obtain ⟨Bx, h1, h2⟩ := hs; exact ⟨Bx, blk_own h1 hg (fun r e => (hr r e).2), h2⟩)
    ?assign ?body ?done ?stop
  case assign =>
    rintro l' pre x W K ⟨hP, hB⟩ hK
    have e0 : (#[13, 14].zip (encsB zs x) : Array (Nat × Value)) = #[(13, .int .i64 (x.val : Int)), (14, .agg #[.int .i64 zs[x.val].2.target, .int .i64 zs[x.val].2.act, .int .i64 zs[x.val].2.opened, .int .i64 zs[x.val].2.state, .int .i64 zs[x.val].2.yes, .int .i64 zs[x.val].2.no, zs[x.val].1, .int .i64 zs[x.val].2.fact])] := by simp [encsB]
    rw [e0]
    clear e0
    simp only [List.foldl_toArray', List.foldl_cons, List.foldl_nil, List.setIfInBounds_toArray, List.set_cons_zero, List.set_cons_succ]
    have hsz := hB.size
    obtain ⟨A9, n9, q9, e9⟩ := hz1.out x.val x.isLt
    simp only [e9] at hK ⊢
    have MB := Blk.new W 52 #[.int .i64 zs[x.val].2.target, .int .i64 zs[x.val].2.act, .int .i64 zs[x.val].2.opened, .int .i64 zs[x.val].2.state, .int .i64 zs[x.val].2.yes, .int .i64 zs[x.val].2.no, (.slice A9 n9 q9), .int .i64 zs[x.val].2.fact]
    replace e9 := Lib.hid e9
    have kW := Kp.new W (.cells #[.int .i64 zs[x.val].2.target, .int .i64 zs[x.val].2.act, .int .i64 zs[x.val].2.opened, .int .i64 zs[x.val].2.state, .int .i64 zs[x.val].2.yes, .int .i64 zs[x.val].2.no, (.slice A9 n9 q9), .int .i64 zs[x.val].2.fact] 52)
    gi_wp2
    exact hK _ _ ((KeepsOthers.alloc _ _).from _) ((Below.refl _ W).alloc hsz _) ⟨⟨hP.no, hP.bt.kpN kW, hP.ba.kpN kW, hP.b1.kpN kW, hP.b2.kpN kW⟩, hB.alloc hsz _⟩ ⟨_, MB, rfl⟩
  case body =>
    rintro l' pre x a' W hl9 hr9 ⟨hP, hB⟩ ⟨Bx, MB, rfl⟩ hlt
    have ct := fun i => hP.bt.cell i
    have ca := fun i => hP.ba.cell i
    have c1 := fun i => hP.b1.cell i
    have c2 := fun i => hP.b2.cell i
    have f1 := fun i => hP.b1.frozen i
    have f2 := fun i => hP.b2.frozen i
    have cm := fun i => MB.cell i
    obtain ⟨pp, hpp⟩ : ∃ pp, pp = passP t a zs[x.val].2 := ⟨_, rfl⟩
    have hp2 : pp = (zs[x.val].2.target == t && zs[x.val].2.act == a && zs[x.val].2.state == 2) := hpp
    have hsz := hB.size
    have hrd : KeepsFrom w6.heap.size W W := KeepsFrom.refl _ _
    have no : pp = false → PI w6 tb ab r1 r2 t a zs (pre ++ [x]) W := fun e => ⟨fun j hj => by
      rcases List.mem_append.1 hj with hj | hj
      · exact hP.no j hj
      · have : j = x := by simpa using hj
        subst this
        rw [← hpp]; exact e, hP.bt, hP.ba, hP.b1, hP.b2⟩
    have yes : pp = true → ∀ W2, W2 = (W.setCell ⟨r1, 0, none⟩ (.int .i64 (x.val : Int))).setCell ⟨r2, 0, none⟩ (.bool true) → PX r1 r2 t a zs .ret (pre ++ [x]) W2 ∧ Below w.heap.size w W2 ∧ KeepsFrom w6.heap.size W W2 := fun e W2 h2 => by
      have x1 := hP.b1.set_ 0 (.int .i64 (x.val : Int))
      have x2 : Blk W2 r1 3 #[.int .i64 (x.val : Int)] := by rw [h2]; exact x1.far q3 _
      have x3 : Blk W2 r2 4 #[.bool true] := by rw [h2]; exact (hP.b2.far (Ne.symm q3) (p := ⟨r1, 0, none⟩) (.int .i64 (x.val : Int))).set_ 0 (.bool true)
      refine ⟨⟨rfl, ⟨pre, x, rfl, hP.no, by rw [← hpp]; exact e, x2⟩, x3⟩, ?_, ?_⟩
      · rw [h2]
        exact ((K6.below.trans (hB.mono K6.size)).setCell (p := ⟨r1, 0, none⟩) q1 _).setCell (p := ⟨r2, 0, none⟩) q2 _
      · rw [h2]
        exact ((KeepsOthers.setCell _ _ _).trans (KeepsOthers.setCell _ _ _)).from _
    replace no := Lib.hid no
    replace yes := Lib.hid yes
    replace hpp := Lib.hid hpp
    clear hP
    by_cases g1 : zs[x.val].2.target = t
    case neg =>
      have e1 : (zs[x.val].2.target == t) = false := by simpa using g1
      have n2 := no.out (by rw [hp2, e1]; rfl)
      replace n2 := Lib.hid n2
      clear hp2 g1 no yes
      gi_wp2
      exact ⟨hrd, Below.refl _ _, n2.out, hB⟩
    have e1 : (zs[x.val].2.target == t) = true := by simpa using g1
    by_cases g2 : zs[x.val].2.act = a
    case neg =>
      have e2 : (zs[x.val].2.act == a) = false := by simpa using g2
      have n2 := no.out (by rw [hp2, e1, e2]; rfl)
      replace n2 := Lib.hid n2
      clear hp2 g1 g2 no yes
      gi_wp2
      exact ⟨hrd, Below.refl _ _, n2.out, hB⟩
    have e2 : (zs[x.val].2.act == a) = true := by simpa using g2
    by_cases g3 : zs[x.val].2.state = 2
    case neg =>
      have e3 : (zs[x.val].2.state == 2) = false := by simpa using g3
      have n2 := no.out (by rw [hp2, e1, e2, e3]; rfl)
      replace n2 := Lib.hid n2
      clear hp2 g1 g2 g3 no yes
      gi_wp2
      exact ⟨hrd, Below.refl _ _, n2.out, hB⟩
    have e3 : (zs[x.val].2.state == 2) = true := by simpa using g3
    have n2 := yes.out (by rw [hp2, e1, e2, e3]; rfl) _ rfl
    replace n2 := Lib.hid n2
    clear hp2 g1 g2 g3 no yes
    gi_wp2
    exact ⟨n2.out.2.2, n2.out.1, n2.out.2.1⟩
  case done =>
    rintro D ys W hD ⟨hdn, hyl⟩ ⟨hP, hB⟩ hK
    have hRR : R = -1 := by
      rw [hR.out]
      refine passI_none _ (Nat.le_refl _) fun i hi _ => ?_
      have hi' : i < zs.length := by have := hzl.out; omega
      have h1 := hP.no ⟨i, hi'⟩ (hdn.mem _ (by simp; omega))
      have h2 := hz2.out i hi'
      rw [List.getElem?_eq_getElem hi] at h2
      injection h2 with h2
      rw [h2]; exact h1
    subst hRR
    have x1 := hP.b1.set_ 0 (.int .i64 (-1))
    obtain ⟨W2, hW2⟩ : ∃ W2, W2 = (W.setCell ⟨r1, 0, none⟩ (.int .i64 (-1))).setCell ⟨r2, 0, none⟩ (.bool false) := ⟨_, rfl⟩
    have x2 : Blk W2 r1 3 #[.int .i64 (-1)] := by rw [hW2]; exact x1.far q3 _
    have x3 : Blk W2 r2 4 #[.bool false] := by rw [hW2]; exact (hP.b2.far (Ne.symm q3) (p := ⟨r1, 0, none⟩) (.int .i64 (-1))).set_ 0 (.bool false)
    have hB2 : Below w.heap.size w W2 := by rw [hW2]; exact ((K6.below.trans (hB.mono K6.size)).setCell (p := ⟨r1, 0, none⟩) q1 _).setCell (p := ⟨r2, 0, none⟩) q2 _
    have hK2 : W2.heap[D]? = some (.deferred (some [])) := by rw [hW2]; exact ((KeepsOthers.setCell _ _ _).trans (KeepsOthers.setCell _ _ _)).same D _ hK rfl
    have c1 := fun i => hP.b1.cell i
    have c2 := fun i => hP.b2.cell i
    have f1 := fun i => hP.b1.frozen i
    have f2 := fun i => hP.b2.frozen i
    replace hW2 := Lib.hid hW2
    clear x1
    gi_wp2
    rw [← hW2.out]
    clear c1 c2 f1 f2
    have c1 := fun i => (x2.putObj (.deferred none) hK2 rfl).cell i
    have c2 := fun i => (x3.putObj (.deferred none) hK2 rfl).cell i
    have hsz := K6.size
    refine ⟨by simp, .inl ⟨_, _, rfl, run_takeDeferred hK2, ?_⟩⟩
    refine ⟨.tuple #[.int .i64 (-1), .bool false], by simp [results, Tryz.results27, go_sem, c1, c2], rfl, Kp.of_below (hB2.trans (belowK_b (w := w) (Nat.le_refl _) W2 D _ _ (by omega) hK2 rfl rfl))⟩
  case stop =>
    rintro D c pre W hD hpre ⟨⟨rfl, ⟨q, i, rfl, hq, hi, x2⟩, x3⟩, hB2⟩ hK2
    have hRR : R = (i.val : Int) := by
      rw [hR.out]
      have hil := i.isLt
      have hzz := hzl.out
      have hpre2 := hpre q.length (by simp)
      simp only [List.getElem_concat_length] at hpre2
      refine passI_at (by omega) ?_ _ (by omega) (Nat.le_refl _) fun j hj hij _ => ?_
      · have h2 := hz2.out i.val hil
        rw [List.getElem?_eq_getElem (by omega)] at h2
        injection h2 with h2
        rw [h2]; exact hi
      · have hj' : j < zs.length := by omega
        have hmem : (⟨j, hj'⟩ : Fin zs.length) ∈ q ++ [i] := hpre.mem _ (by simp; omega)
        have h1 := hq ⟨j, hj'⟩ (by
          rcases List.mem_append.1 hmem with h | h
          · exact h
          · have : (⟨j, hj'⟩ : Fin zs.length) = i := by simpa using h
            have := congrArg Fin.val this
            simp only at this
            omega)
        have h2 := hz2.out j hj'
        rw [List.getElem?_eq_getElem hj] at h2
        injection h2 with h2
        rw [h2]; exact h1
    subst hRR
    gi_wp2
    have c1 := fun i => (x2.putObj (.deferred none) hK2 rfl).cell i
    have c2 := fun i => (x3.putObj (.deferred none) hK2 rfl).cell i
    have hsz := K6.size
    refine ⟨by simp, .inl ⟨_, _, rfl, run_takeDeferred hK2, ?_⟩⟩
    refine ⟨.tuple #[.int .i64 (i.val : Int), .bool true], by simp [results, Tryz.results27, go_sem, c1, c2], by rw [decide_eq_true (show (0 : Int) ≤ (i.val : Int) by omega)], Kp.of_below (hB2.trans (belowK_b (w := w) (Nat.le_refl _) W D _ _ (by omega) hK2 rfl rfl))⟩
end Go.Proofs.YtogpgnljomchcaaGreat
