/- The ring of numbers and what is made of it: each function's contract. -/
import Derived.Test.YtogpgnljomchcaaGreatProg
import Derived.Test.YtogpgnljomchcaaGreatReg
namespace Go.Proofs.YtogpgnljomchcaaGreat
open Go.RowKit

theorem tmod_emod (n m : Int) (hm : 0 < m) : n % m = if n.tmod m < 0 then n.tmod m + m else n.tmod m := by
  have h1 := Int.emod_nonneg n (show m ≠ 0 by omega)
  have h2 := Int.emod_lt_of_pos n hm
  rw [Int.tmod_eq_emod]
  split <;> split <;> omega
theorem tmod_bd (n m : Int) (hm : 0 < m) : -m < n.tmod m ∧ n.tmod m < m := by
  have h1 := Int.emod_nonneg n (show m ≠ 0 by omega)
  have h2 := Int.emod_lt_of_pos n hm
  rw [Int.tmod_eq_emod]
  split <;> omega
theorem quiet_left {P : Program} {f : FuncId} {args : Array Value} {w : World} {n : Nat} {v : Value}
    (h : Calls P f args (w.drewN n) fun e w' => e = .returned v ∧ w.drewN n = w') : Calls P f args (w.drewN n) fun e w'' => e = .returned v ∧ ∃ m, w'' = w.drewN m :=
  h.mono fun _ _ ⟨he, hm⟩ => ⟨he, n, hm.symm⟩

set_option maxHeartbeats 400000 in
theorem mod_any (n m : Int) (w : World) (hm : 0 < m) (hm2 : m ≤ 1152921504606846976) :
    Calls Tryz.prog 48 #[.int .i64 n, .int .i64 m] w fun e w' => e = .returned (.int .i64 (n % m)) ∧ w = w' := by
  have hb := tmod_bd n m hm
  have HE := Lib.hid (tmod_emod n m hm)
  go_enter Tryz.func48, Tryz.ntmps48
  go_wp2
  · have ht : n.tmod m < 0 := by assumption
    go_ret
    exact ⟨by rw [HE.out, if_pos ht]; rfl, rfl⟩
  · have ht : 0 ≤ n.tmod m := by assumption
    go_ret
    exact ⟨by rw [HE.out, if_neg (by omega)]; rfl, rfl⟩
def ringT : Nat := 97
/-- Block g is a ring over nums that has handed out k numbers. -/
structure RingAt (w : World) (g : Nat) (nums : List Int) (k : Nat) : Prop where
  ex : ∃ (A : Option Addr) (cap : Nat), Blk w g ringT #[.slice A nums.length cap, .int .i64 k] ∧ Rd (some g) w 1 (fun x => [Value.int .i64 x]) A nums.length nums ∧
    (0 < nums.length → ∀ ad, A = some ad → ad.block < g)
  small : nums.length ≤ 17592186044416
section
variable {w w' : World} {g : Nat} {nums : List Int} {k : Nat}
theorem RingAt.lt (h : RingAt w g nums k) : g < w.heap.size := by
  obtain ⟨A, cap, hb, _⟩ := h.ex
  exact hb.lt
theorem RingAt.kpN (h : RingAt w g nums k) (hk : Kp w.heap.size none w w') : RingAt w' g nums k := by
  obtain ⟨⟨A, cap, hb, hr, hl⟩, hs⟩ := h
  exact ⟨⟨A, cap, hb.kpN hk, hr.kpN hk, hl⟩, hs⟩
theorem RingAt.alloc (h : RingAt w g nums k) (o : Obj) : RingAt (w.alloc o) g nums k := h.kpN ((Kp.refl _ _ w).alloc (Nat.le_refl _) o)
theorem RingAt.drewN (h : RingAt w g nums k) (n : Nat) : RingAt (w.drewN n) g nums k := h.kpN ((Kp.refl _ _ w).drewN n)
theorem RingAt.drew (h : RingAt w g nums k) : RingAt w.drew g nums k := h.kpN ((Kp.refl _ _ w).drew)
theorem RingAt.set (h : RingAt w g nums k) (k' : Nat) : RingAt (w.setCell ⟨g, 1, none⟩ (.int .i64 k')) g nums k' := by
  obtain ⟨⟨A, cap, hb, hr, hl⟩, hs⟩ := h
  exact ⟨⟨A, cap, hb.set_ 1 _, hr.setCell rfl _, hl⟩, hs⟩
/-- A store into a block that is younger than the ring. -/
theorem RingAt.big (h : RingAt w g nums k) {p : Addr} (hp : g < p.block) (u : Value) : RingAt (w.setCell p u) g nums k := by
  obtain ⟨⟨A, cap, hb, hr, hl⟩, hs⟩ := h
  refine ⟨⟨A, cap, hb.far (by omega) u, ⟨hr.1, fun hn => ?_⟩, hl⟩, hs⟩
  obtain ⟨b, o, rfl, hb', hn', hc⟩ := hr.2 hn
  have hlt : b < g := hl hn _ rfl
  exact ⟨b, o, rfl, by simpa [World.setCell] using hb', hn', fun i hi j v hv => (World.cell?_of_block (Below.heap_setCell w p u b (by omega))).trans (hc i hi j v hv)⟩
theorem RingAt.kpRow (h : RingAt w g nums k) {b : Nat} (hk : Kp w.heap.size (some b) w w') (hb : g < b) : RingAt w' g nums k := by
  obtain ⟨⟨A, cap, hB, hr, hl⟩, hs⟩ := h
  refine ⟨⟨A, cap, hB.kp hk hB.lt (fun e => by injection e with e; omega), ⟨hr.1, fun hn => ?_⟩, hl⟩, hs⟩
  obtain ⟨c, o, rfl, hb', hn', hc⟩ := hr.2 hn
  have hlt : c < g := hl hn _ rfl
  exact ⟨c, o, rfl, Nat.lt_of_lt_of_le hb' hk.size, hn', fun i hi j v hv => (hk.cell c _ hb' (fun e => by injection e with e; omega)).trans (hc i hi j v hv)⟩
theorem RingAt.grown (h : RingAt w g nums k) {r : Option Nat} (hg : w.grownBy w' r) (hr : ∀ b, r = some b → g < b) : RingAt w' g nums k := by
  cases r with
  | none => exact h.kpN (Kp.of_grown hg)
  | some b => exact h.kpRow (Kp.of_grown hg) (hr b rfl)
theorem RingAt.ne (h : RingAt w g nums k) {b : Nat} (hb : w.heap.size ≤ b) : some b ≠ some g := by
  intro e
  have := h.lt
  injection e
  omega
end

/-- What a function on the ring leaves: a value of which V holds, the ring k' on, nothing else turned. -/
def RPost (g : Nat) (nums : List Int) (k' : Nat) (w : World) (V : Value → Prop) (e : Ending) (w' : World) : Prop :=
  ∃ v, e = .returned v ∧ V v ∧ RingAt w' g nums k' ∧ Kp w.heap.size (some g) w w'

/-- The same for a function that takes so many numbers at most. -/
def RPostB (g : Nat) (nums : List Int) (kmax : Nat) (w : World) (V : Value → World → Prop) (e : Ending) (w' : World) : Prop :=
  ∃ v k', e = .returned v ∧ V v w' ∧ k' ≤ kmax ∧ RingAt w' g nums k' ∧ Kp w.heap.size (some g) w w'

/-- what Next takes before it reduces it -/
def nextRaw (nums : List Int) (k : Nat) : Int :=
  if nums.length = 0 then ((k : Int) + 1) * 7919 % 10007
  else ((k : Int) + 1) * 7919 % 10007 + nums.getD ((k + 1) % nums.length) 0 % 1048576 / (1 + ((k : Int) + 1) / (nums.length : Int))

set_option maxHeartbeats 400000 in
theorem next_raw (g : Nat) (nums : List Int) (k : Nat) (n : Int) (w : World) (h : RingAt w g nums k) (hk : k ≤ 1000000) (hn : 0 < n) (hn2 : n ≤ 1152921504606846976) :
    Calls Tryz.prog 18 #[.pointer (some ⟨g, 0, none⟩), .int .i64 n] w fun e w' => e = .returned (.int .i64 (nextRaw nums k % n)) ∧ ∃ m, w' = (w.setCell ⟨g, 1, none⟩ (.int .i64 ((k + 1 : Nat) : Int))).drewN m := by
  obtain ⟨⟨A, cap, hb, hr, hl⟩, hs⟩ := h
  clear hl
  have c0 : w.cell? ⟨g, 0, none⟩ = some (.slice A nums.length cap) := hb.cell 0
  have c1 : w.cell? ⟨g, 1, none⟩ = some (.int .i64 k) := hb.cell 1
  have f1 : w.frozen? ⟨g, 1, none⟩ = false := hb.frozen 1
  by_cases h0 : nums.length = 0
  · have HR : Hid (nextRaw nums k = ((k : Int) + 1) * 7919 % 10007) := Lib.hid (by unfold nextRaw; rw [if_pos h0])
    have h0' : ¬ 0 < nums.length := by omega
    go_enter Tryz.func18, Tryz.ntmps18
    go_wp2
    go_ret
    exact ⟨by rw [HR.out]; rfl, 0, rfl⟩
  · obtain ⟨b, o, rfl, hbs, hbr, hc⟩ := hr.at_ (by omega)
    have hi : (k + 1) % nums.length < nums.length := Nat.mod_lt _ (by omega)
    have c2 := Rd.cell1 (f := fun x => Value.int .i64 x) (fun _ => rfl) hc ((k + 1) % nums.length) hi
    have HR : Hid (nextRaw nums k = ((k : Int) + 1) * 7919 % 10007 + nums[(k + 1) % nums.length] % 1048576 / (1 + ((k : Int) + 1) / (nums.length : Int))) :=
      Lib.hid (by unfold nextRaw; rw [if_neg h0, List.getD_eq_getElem?_getD, List.getElem?_eq_getElem hi, Option.getD_some])
    have e1 : (0 : Int) ≤ ((k : Int) + 1) % (nums.length : Int) := Int.emod_nonneg _ (by omega)
    have e2 : ((k : Int) + 1) % (nums.length : Int) < (nums.length : Int) := Int.emod_lt_of_pos _ (by omega)
    have e3 : (0 : Int) ≤ ((k : Int) + 1) / (nums.length : Int) := Int.ediv_nonneg (by omega) (by omega)
    have e4 : ((k : Int) + 1) / (nums.length : Int) ≤ (k : Int) + 1 := Int.ediv_le_self _ (by omega)
    have m1 := Int.emod_nonneg (nums[(k + 1) % nums.length]) (show (1048576 : Int) ≠ 0 by omega)
    have m2 := Int.emod_lt_of_pos (nums[(k + 1) % nums.length]) (show (0 : Int) < 1048576 by omega)
    have hne : b ≠ g := fun e => hbr (by rw [e])
    have q1 := Int.ediv_nonneg m1 (show (0 : Int) ≤ 1 + ((k : Int) + 1) / (nums.length : Int) by omega)
    have q2 := Int.ediv_le_self (1 + ((k : Int) + 1) / (nums.length : Int)) m1
    go_enter Tryz.func18, Tryz.ntmps18
    go_wp2
    go_quiet ((go_at_call 48; exact quiet_left (mod_any _ _ _ (by omega) (by omega))))
    go_wp2
    go_ret
    exact ⟨by rw [HR.out]; rfl, nq, rfl⟩

theorem next_any (g : Nat) (nums : List Int) (k : Nat) (n : Int) (w : World) (h : RingAt w g nums k) (hk : k ≤ 1000000) (hn : 0 < n) (hn2 : n ≤ 1152921504606846976) :
    Calls Tryz.prog 18 #[.pointer (some ⟨g, 0, none⟩), .int .i64 n] w (RPost g nums (k + 1) w fun v => ∃ x : Int, v = .int .i64 x ∧ 0 ≤ x ∧ x < n) := by
  refine (next_raw g nums k n w h hk hn hn2).mono ?_
  rintro e w' ⟨rfl, m, rfl⟩
  exact ⟨_, rfl, ⟨_, rfl, Int.emod_nonneg _ (by omega), Int.emod_lt_of_pos _ hn⟩, (h.set (k + 1)).drewN m, ((Kp.refl _ (some g) w).setRow (p := ⟨g, 1, none⟩) rfl _).drewN m⟩

set_option maxHeartbeats 400000 in
theorem range_any (g : Nat) (nums : List Int) (k : Nat) (lo hi : Int) (w : World) (h : RingAt w g nums k) (hk : k ≤ 1000000) (h1 : -1152921504606846976 ≤ lo) (h2 : lo ≤ hi) (h3 : hi ≤ 1000000000000000000) (h4 : hi - lo < 1000000000000000000) :
    Calls Tryz.prog 17 #[.pointer (some ⟨g, 0, none⟩), .int .i64 lo, .int .i64 hi] w (RPost g nums (k + 1) w fun v => ∃ x : Int, v = .int .i64 x ∧ lo ≤ x ∧ x ≤ hi) := by
  go_enter Tryz.func17, Tryz.ntmps17
  go_wp2_with fail
  refine (next_any g nums k _ _ h hk (by omega) (by omega)).mono ?_
  rintro e w1 ⟨v, rfl, ⟨x, rfl, hx1, hx2⟩, hr1, hk1⟩
  go_wp2
  go_ret
  exact ⟨_, rfl, ⟨_, rfl, by omega, by omega⟩, hr1, hk1⟩
end Go.Proofs.YtogpgnljomchcaaGreat
