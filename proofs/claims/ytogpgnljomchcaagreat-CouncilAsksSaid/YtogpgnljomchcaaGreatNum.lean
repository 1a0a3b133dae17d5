/- Products of two numbers that are not below 0, compared: the program and the reference. -/
import Derived.Test.YtogpgnljomchcaaGreatRws
import Derived.Test.YtogpgnljomchcaaGreatReg
import Derived.Test.YtogpgnljomchcaaGreatBits
namespace Go.Proofs.YtogpgnljomchcaaGreat
open Go.RowKit

theorem ret_bool {a b : Bool} (h : a = b) : Ending.returned (.bool a) = .returned (.bool b) := by rw [h]
theorem ret_int {k : IntKind} {a b : Int} (h : a = b) : Ending.returned (.int k a) = .returned (.int k b) := by rw [h]
theorem wrapu (x : Int) : IntKind.u64.wrap x = x % 18446744073709551616 := by rfl

theorem council_within_any (n lo hi : Int) (w : World) :
    Calls Tryz.prog 30 #[.int .i64 n, .int .i64 lo, .int .i64 hi] w fun e w' => e = .returned (.bool (bt n lo hi)) ∧ Kp w.heap.size none w w' := by
  go_enter Tryz.func30, Tryz.ntmps30
  go_wp2
  all_goals
    go_ret
    refine ⟨ret_bool ?_, Kp.refl _ _ _⟩
    rw [Bool.eq_iff_iff]
    simp [bt]
    try omega

theorem bolideref09_between_any (n lo hi : Int) (w : World) :
    Calls Tryz.prog 50 #[.int .i64 n, .int .i64 lo, .int .i64 hi] w fun e w' => e = .returned (.bool (bt n lo hi)) ∧ Kp w.heap.size none w w' := by
  go_enter Tryz.func50, Tryz.ntmps50
  go_wp2
  all_goals
    go_ret
    refine ⟨ret_bool ?_, Kp.refl _ _ _⟩
    rw [Bool.eq_iff_iff]
    simp [bt]
    try omega

theorem span_size_any (n : Nat) (hn : n < 9223372036854775808) (w : World) :
    Calls Tryz.prog 111 #[.int .i64 n] w fun e w' => e = .returned (.int .u64 n) ∧ Kp w.heap.size none w w' := by
  have e1 : IntKind.u64.wrap (n : Int) = (n : Int) := by rw [wrapu]; omega
  have e2 : ¬ (n : Int) < 0 := by omega
  go_enter Tryz.func111, Tryz.ntmps111
  go_wp2
  go_ret
  exact ⟨rfl, Kp.refl _ _ _⟩

theorem bolideref01_size_any (n : Nat) (hn : n < 9223372036854775808) (w : World) :
    Calls Tryz.prog 120 #[.int .i64 n] w fun e w' => e = .returned (.int .u64 n) ∧ Kp w.heap.size none w w' := by
  have e1 : IntKind.u64.wrap (n : Int) = (n : Int) := by rw [wrapu]; omega
  have e2 : ¬ (n : Int) < 0 := by omega
  go_enter Tryz.func120, Tryz.ntmps120
  go_wp2
  go_ret
  exact ⟨rfl, Kp.refl _ _ _⟩

structure Pr (a b H L : Nat) : Prop where
  al : a < 9223372036854775808
  bl : b < 9223372036854775808
  eH : H = a * b / 18446744073709551616
  eL : L = a * b % 18446744073709551616
theorem pr_of (a b : Nat) (al : a < 9223372036854775808) (bl : b < 9223372036854775808) : ∃ H L, Pr a b H L := ⟨_, _, al, bl, rfl, rfl⟩
theorem Pr.eq {a b H L : Nat} (h : Pr a b H L) : a * b = H * 18446744073709551616 + L := by
  have := Nat.div_add_mod (a * b) 18446744073709551616
  rw [h.eH, h.eL]
  omega
theorem Pr.lt {a b H L : Nat} (h : Pr a b H L) : L < 18446744073709551616 := by rw [h.eL]; exact Nat.mod_lt _ (by decide)
/-- how two products compare -/
def cmpHL (H L H' L' : Nat) : Int := if H < H' ∨ (H = H' ∧ L < L') then -1 else if H = H' ∧ L = L' then 0 else 1
theorem cmp_ge {a b c d H L H' L' : Nat} (h : Pr a b H L) (k : Pr c d H' L') : 0 ≤ cmpHL H L H' L' ↔ c * d ≤ a * b := by
  rw [h.eq, k.eq]
  have h1 := h.lt
  have h2 := k.lt
  unfold cmpHL
  split
  · omega
  · split <;> omega

theorem span_times_any (a b H L : Nat) (h : Hid (Pr a b H L)) (w : World) :
    Calls Tryz.prog 110 #[.int .u64 a, .int .u64 b] w fun e w' => e = .returned (.agg #[.int .u64 H, .int .u64 L]) ∧ Kp w.heap.size none w w' := by
  go_enter Tryz.func110, Tryz.ntmps110
  go_wp2_with (go_at_call 116; refine (Tryz.bits_Mul64 a b (by have := h.out.al; omega) (by have := h.out.bl; omega) _).mono ?_; rintro e w1 ⟨he, rfl⟩; rw [← h.out.eH, ← h.out.eL] at he; subst he)
  exact bodyPost_ret (by simp [results, Tryz.results110, go_sem]) rfl ⟨rfl, (Kp.refl _ _ _).alloc (Nat.le_refl _) _⟩
set_option maxHeartbeats 400000 in
theorem span_product_any (a b H L : Nat) (h : Hid (Pr a b H L)) (w : World) :
    Calls Tryz.prog 90 #[.int .i64 a, .int .i64 b] w fun e w' => e = .returned (.agg #[.int .u64 H, .int .u64 L, .bool false]) ∧ Kp w.heap.size none w w' := by
  have a1 : ¬ (a : Int) < 0 := by omega
  have a2 : ¬ (b : Int) < 0 := by omega
  have a3 : decide ((a : Int) < 0) = false := by simp
  have a4 : decide ((b : Int) < 0) = false := by simp
  have hB := Blk.new w 155 #[.int .u64 0, .int .u64 0, .bool false]
  have K := (Kp.refl w.heap.size none w).alloc (Nat.le_refl _) (.cells #[.int .u64 0, .int .u64 0, .bool false] 155)
  go_enter Tryz.func90, Tryz.ntmps90
  go_wp2_with fail
  refine (span_size_any a h.out.al _).mono ?_
  rintro e w1 ⟨rfl, k1⟩
  replace hB := hB.kp k1 hB.lt (by simp)
  replace K := K.then_ k1 (by simp)
  go_wp2_with fail
  refine (span_size_any b h.out.bl _).mono ?_
  rintro e w2 ⟨rfl, k2⟩
  replace hB := hB.kp k2 hB.lt (by simp)
  replace K := K.then_ k2 (by have := hB.lt; omega)
  go_wp2_with fail
  refine (span_times_any a b H L h _).mono ?_
  rintro e w3 ⟨rfl, k3⟩
  replace hB := hB.kp k3 hB.lt (by simp)
  replace K := K.then_ k3 (by have := hB.lt; omega)
  have cc := fun i => hB.cell i
  have f := fun i => hB.frozen i
  go_wp2_with fail
  have hB' := ((hB.set_ 0 (.int .u64 H)).set_ 1 (.int .u64 L)).set_ 2 (.bool false)
  have cc' := fun i => hB'.cell i
  exact bodyPost_ret (by simp [results, Tryz.results90, go_sem, cc']) rfl ⟨rfl, ((K.setNew (Nat.le_refl _) _).setNew (Nat.le_refl _) _).setNew (Nat.le_refl _) _⟩
theorem Kp.new (w : World) (o : Obj) : Kp w.heap.size none w (w.alloc o) := (Kp.refl _ _ w).alloc (Nat.le_refl _) o
theorem Kp.new2 (w : World) (o p : Obj) : Kp w.heap.size none w ((w.alloc o).alloc p) := (Kp.new w o).alloc (by simp) p
def sgn (H L : Nat) : Int := if H = 0 ∧ L = 0 then 0 else 1
set_option maxHeartbeats 400000 in
theorem span_sign_any (H L : Nat) (w : World) :
    Calls Tryz.prog 112 #[.agg #[.int .u64 H, .int .u64 L, .bool false]] w fun e w' => e = .returned (.int .i64 (sgn H L)) ∧ Kp w.heap.size none w w' := by
  unfold sgn
  go_enter Tryz.func112, Tryz.ntmps112
  by_cases h1 : (H : Int) = 0
  · by_cases h2 : (L : Int) = 0
    · have e : (H = 0 ∧ L = 0) := by omega
      rw [if_pos e]
      go_wp2
      go_ret
      exact ⟨rfl, Kp.new _ _⟩
    · have e : ¬ (H = 0 ∧ L = 0) := by omega
      rw [if_neg e]
      go_wp2
      go_ret
      exact ⟨rfl, Kp.new _ _⟩
  · have e : ¬ (H = 0 ∧ L = 0) := by omega
    rw [if_neg e]
    go_wp2
    go_ret
    exact ⟨rfl, Kp.new _ _⟩
set_option maxHeartbeats 400000 in
theorem span_less_any (H L H' L' : Nat) (w : World) :
    Calls Tryz.prog 113 #[.agg #[.int .u64 H, .int .u64 L], .agg #[.int .u64 H', .int .u64 L']] w fun e w' => e = .returned (.bool (decide (H < H' ∨ (H = H' ∧ L < L')))) ∧ Kp w.heap.size none w w' := by
  go_enter Tryz.func113, Tryz.ntmps113
  go_wp2
  all_goals
    go_ret
    refine ⟨ret_bool ?_, Kp.new2 _ _ _⟩
    rw [Bool.eq_iff_iff]
    simp
    try omega
theorem sgn_two (H L : Nat) : (sgn H L = 0 ∧ H = 0 ∧ L = 0) ∨ (sgn H L = 1 ∧ ¬ (H = 0 ∧ L = 0)) := by
  unfold sgn
  split
  · exact .inl ⟨rfl, by assumption⟩
  · exact .inr ⟨rfl, by assumption⟩
set_option maxHeartbeats 800000 in
theorem span_compare_any (H L H' L' : Nat) (w : World) :
    Calls Tryz.prog 91 #[.agg #[.int .u64 H, .int .u64 L, .bool false], .agg #[.int .u64 H', .int .u64 L', .bool false]] w fun e w' => e = .returned (.int .i64 (cmpHL H L H' L')) ∧ Kp w.heap.size none w w' := by
  have hA := (Blk.new w 155 #[.int .u64 H, .int .u64 L, .bool false]).alloc (.cells #[.int .u64 H', .int .u64 L', .bool false] 155)
  have hB := Blk.newAt (w.alloc (.cells #[.int .u64 H, .int .u64 L, .bool false] 155)) 155 #[.int .u64 H', .int .u64 L', .bool false] (n := w.heap.size + 1) (by simp)
  have KK := Kp.new2 w (.cells #[.int .u64 H, .int .u64 L, .bool false] 155) (.cells #[.int .u64 H', .int .u64 L', .bool false] 155)
  go_enter Tryz.func91, Tryz.ntmps91
  go_wp2_with fail
  obtain ⟨S, hS⟩ : ∃ S : Nat → World → Prop, S = fun _ w' => Blk w' w.heap.size 155 #[.int .u64 H, .int .u64 L, .bool false] ∧ Blk w' (w.heap.size + 1) 155 #[.int .u64 H', .int .u64 L', .bool false] := ⟨_, rfl⟩
  have hS0 : ∀ w', S 0 w' ↔ (Blk w' w.heap.size 155 #[.int .u64 H, .int .u64 L, .bool false] ∧ Blk w' (w.heap.size + 1) 155 #[.int .u64 H', .int .u64 L', .bool false]) := fun w' => by rw [hS]
  clear hS
  have cx := fun (x : Ev (S 0)) i => ((hS0 _).1 x.h).1.cell i
  have cy := fun (x : Ev (S 0)) i => ((hS0 _).1 x.h).2.cell i
  replace hA := hA.drew
  replace hB := hB.drew
  replace KK := KK.drew
  have hevT := ev_true
  refine wp_region_ord S [(0, 1), (2, 1), (1, 2), (3, 2), (4, 0), (5, 0)] [] (by kernel_rfl) (by kernel_rfl) ((hS0 _).2 ⟨hA, hB⟩) ?_
  intro _hev
  iterate 2 (first | (refine wpOrd_v rfl rfl ?_; intro K hK; go_big_quiet_op; go_big_quiet_on) | (refine wpOrd_q rfl rfl ?_; intro K hK; go_big_quiet_op; go_big_quiet_on) | refine wpOrd_s (by decide) rfl rfl ?_)
  refine wpOrd_l rfl rfl ?_; intro K hK
  go_step
  refine (span_sign_any H L _).mono ?_
  rintro e w1 ⟨rfl, k1⟩
  replace hA := hA.kpN k1
  replace hB := hB.kpN k1
  replace KK := KK.thenN k1 (Nat.le_refl _)
  refine hK _ _ ((hS0 _).2 ⟨hA, hB⟩) ?_
  clear hK K k1
  refine wpOrd_l rfl rfl ?_; intro K hK
  go_step
  refine (span_sign_any H' L' _).mono ?_
  rintro e w2 ⟨rfl, k2⟩
  replace hA := hA.kpN k2
  replace hB := hB.kpN k2
  replace KK := KK.thenN k2 (Nat.le_refl _)
  refine hK _ _ ((hS0 _).2 ⟨hA, hB⟩) ?_
  clear hK K k2
  iterate 2 (first | (refine wpOrd_v rfl rfl ?_; intro K hK; go_big_quiet_op; go_big_quiet_on) | (refine wpOrd_q rfl rfl ?_; intro K hK; go_big_quiet_op; go_big_quiet_on) | refine wpOrd_s (by decide) rfl rfl ?_)
  refine wpOrd_nil ?_
  clear hevT _hev
  have ca := fun i => hA.cell i
  have cb := fun i => hB.cell i
  have fin : ∀ (e : Ending) (w' : World) (n : Int), e = .returned (.int .i64 n) → n = cmpHL H L H' L' → Kp w.heap.size none w w' → e = .returned (.int .i64 (cmpHL H L H' L')) ∧ Kp w.heap.size none w w' := fun e w' n h1 h2 h3 => ⟨h2 ▸ h1, h3⟩
  replace fin := Lib.hid fin
  rcases sgn_two H L with ⟨hs, h0⟩ | ⟨hs, h0⟩ <;> rcases sgn_two H' L' with ⟨hs', h0'⟩ | ⟨hs', h0'⟩ <;> rw [hs, hs']
  · go_wp2
    go_ret
    refine fin.out _ _ _ rfl ?_ KK
    obtain ⟨rfl, rfl⟩ := h0
    obtain ⟨rfl, rfl⟩ := h0'
    rfl
  · go_wp2
    go_ret
    refine fin.out _ _ _ rfl ?_ KK
    obtain ⟨rfl, rfl⟩ := h0
    unfold cmpHL
    rw [if_pos (by omega)]
    rfl
  · go_wp2
    go_ret
    refine fin.out _ _ _ rfl ?_ KK
    obtain ⟨rfl, rfl⟩ := h0'
    unfold cmpHL
    rw [if_neg (by omega), if_neg (by omega)]
    rfl
  · by_cases he : H = H' ∧ L = L'
    · obtain ⟨rfl, rfl⟩ := he
      go_wp2
      go_ret
      refine fin.out _ _ _ rfl ?_ KK
      unfold cmpHL
      rw [if_neg (by omega), if_pos ⟨rfl, rfl⟩]
    · rcases (show H ≠ H' ∨ (H = H' ∧ L ≠ L') by omega) with hne | ⟨rfl, hne⟩
      · have hne2 : ¬ (H : Int) = (H' : Int) := by omega
        obtain ⟨lt, hlt⟩ : ∃ lt, lt = decide (H < H' ∨ (H = H' ∧ L < L')) := ⟨_, rfl⟩
        clear hne
        have c := span_less_any H L H' L'
        rw [← hlt] at c
        replace hlt := Lib.hid hlt
        replace he := Lib.hid he
        go_wp2_with fail
        refine (c _).mono ?_
        rintro e w3 ⟨rfl, k3⟩
        replace KK := KK.thenN k3 (Nat.le_refl _)
        clear c
        cases lt
        · go_wp2
          go_ret
          refine fin.out _ _ _ rfl ?_ KK
          unfold cmpHL
          rw [if_neg (show ¬ (H < H' ∨ (H = H' ∧ L < L')) from by simpa using of_decide_eq_false hlt.out.symm), if_neg (show ¬ (H = H' ∧ L = L') from by simpa using he.out)]
        · go_wp2
          go_ret
          refine fin.out _ _ _ rfl ?_ KK
          unfold cmpHL
          rw [if_pos (show H < H' ∨ (H = H' ∧ L < L') from by simpa using of_decide_eq_true hlt.out.symm)]
      · have hne2 : ¬ (L : Int) = (L' : Int) := by omega
        obtain ⟨lt, hlt⟩ : ∃ lt, lt = decide (H < H ∨ (H = H ∧ L < L')) := ⟨_, rfl⟩
        clear hne
        have c := span_less_any H L H L'
        rw [← hlt] at c
        replace hlt := Lib.hid hlt
        replace he := Lib.hid he
        go_wp2_with fail
        refine (c _).mono ?_
        rintro e w3 ⟨rfl, k3⟩
        replace KK := KK.thenN k3 (Nat.le_refl _)
        clear c
        cases lt
        · go_wp2
          go_ret
          refine fin.out _ _ _ rfl ?_ KK
          unfold cmpHL
          rw [if_neg (show ¬ (H < H ∨ (H = H ∧ L < L')) from by simpa using of_decide_eq_false hlt.out.symm), if_neg (show ¬ (H = H ∧ L = L') from by simpa using he.out)]
        · go_wp2
          go_ret
          refine fin.out _ _ _ rfl ?_ KK
          unfold cmpHL
          rw [if_pos (show H < H ∨ (H = H ∧ L < L') from by simpa using of_decide_eq_true hlt.out.symm)]
set_option maxHeartbeats 800000 in
theorem span_Cross_any (a b c d H L H' L' : Nat) (h : Hid (Pr a d H L)) (k : Hid (Pr b c H' L')) (w : World) :
    Calls Tryz.prog 73 #[.agg #[.int .i64 a, .int .i64 b], .agg #[.int .i64 c, .int .i64 d]] w fun e w' => e = .returned (.int .i64 (cmpHL H L H' L')) ∧ Kp w.heap.size none w w' := by
  have hA := (Blk.new w 132 #[.int .i64 a, .int .i64 b]).alloc (.cells #[.int .i64 c, .int .i64 d] 132)
  have hB := Blk.newAt (w.alloc (.cells #[.int .i64 a, .int .i64 b] 132)) 132 #[.int .i64 c, .int .i64 d] (n := w.heap.size + 1) (by simp)
  have KK := Kp.new2 w (.cells #[.int .i64 a, .int .i64 b] 132) (.cells #[.int .i64 c, .int .i64 d] 132)
  go_enter Tryz.func73, Tryz.ntmps73
  go_wp2_with fail
  obtain ⟨S, hS⟩ : ∃ S : Nat → World → Prop, S = fun _ w' => Blk w' w.heap.size 132 #[.int .i64 a, .int .i64 b] ∧ Blk w' (w.heap.size + 1) 132 #[.int .i64 c, .int .i64 d] := ⟨_, rfl⟩
  have hS0 : ∀ w', S 0 w' ↔ (Blk w' w.heap.size 132 #[.int .i64 a, .int .i64 b] ∧ Blk w' (w.heap.size + 1) 132 #[.int .i64 c, .int .i64 d]) := fun w' => by rw [hS]
  clear hS
  have cx := fun (x : Ev (S 0)) i => ((hS0 _).1 x.h).1.cell i
  have cy := fun (x : Ev (S 0)) i => ((hS0 _).1 x.h).2.cell i
  replace hA := hA.drew
  replace hB := hB.drew
  replace KK := KK.drew
  have hevT := ev_true
  refine wp_region_ord S [(0, 0), (1, 1), (2, 0), (3, 1), (5, 0), (6, 1), (7, 0), (8, 1), (4, 2), (9, 2), (10, 2), (11, 0)] [] (by kernel_rfl) (by kernel_rfl) ((hS0 _).2 ⟨hA, hB⟩) ?_
  intro _hev
  iterate 8 (first | (refine wpOrd_v rfl rfl ?_; intro K hK; go_big_quiet_op; go_big_quiet_on) | (refine wpOrd_q rfl rfl ?_; intro K hK; go_big_quiet_op; go_big_quiet_on) | refine wpOrd_s (by decide) rfl rfl ?_)
  refine wpOrd_l rfl rfl ?_; intro K hK
  go_step
  refine (span_product_any a d H L h _).mono ?_
  rintro e w1 ⟨rfl, k1⟩
  replace hA := hA.kpN k1
  replace hB := hB.kpN k1
  replace KK := KK.thenN k1 (Nat.le_refl _)
  refine hK _ _ ((hS0 _).2 ⟨hA, hB⟩) ?_
  clear hK K k1
  refine wpOrd_l rfl rfl ?_; intro K hK
  go_step
  refine (span_product_any b c H' L' k _).mono ?_
  rintro e w1 ⟨rfl, k1⟩
  replace hA := hA.kpN k1
  replace hB := hB.kpN k1
  replace KK := KK.thenN k1 (Nat.le_refl _)
  refine hK _ _ ((hS0 _).2 ⟨hA, hB⟩) ?_
  clear hK K k1
  refine wpOrd_l rfl rfl ?_; intro K hK
  go_step
  refine (span_compare_any H L H' L' _).mono ?_
  rintro e w1 ⟨rfl, k1⟩
  replace hA := hA.kpN k1
  replace hB := hB.kpN k1
  replace KK := KK.thenN k1 (Nat.le_refl _)
  refine hK _ _ ((hS0 _).2 ⟨hA, hB⟩) ?_
  clear hK K k1
  iterate 1 (first | (refine wpOrd_v rfl rfl ?_; intro K hK; go_big_quiet_op; go_big_quiet_on) | (refine wpOrd_q rfl rfl ?_; intro K hK; go_big_quiet_op; go_big_quiet_on) | refine wpOrd_s (by decide) rfl rfl ?_)
  refine wpOrd_nil ?_
  clear hevT _hev
  go_wp2
  go_ret
  exact ⟨rfl, KK⟩
set_option maxHeartbeats 400000 in
theorem ref_wideOf_any (a b H L : Nat) (h : Hid (Pr a b H L)) (w : World) :
    Calls Tryz.prog 117 #[.int .i64 a, .int .i64 b] w fun e w' => e = .returned (.agg #[.bool false, .int .u64 H, .int .u64 L]) ∧ Kp w.heap.size none w w' := by
  have a1 : ¬ (a : Int) < 0 := by omega
  have a2 : ¬ (b : Int) < 0 := by omega
  have a3 : decide ((a : Int) < 0) = false := by simp
  have a4 : decide ((b : Int) < 0) = false := by simp
  have hB := Blk.new w 178 #[.bool false, .int .u64 0, .int .u64 0]
  have K := (Kp.refl w.heap.size none w).alloc (Nat.le_refl _) (.cells #[.bool false, .int .u64 0, .int .u64 0] 178)
  go_enter Tryz.func117, Tryz.ntmps117
  go_wp2_with fail
  refine (bolideref01_size_any a h.out.al _).mono ?_
  rintro e w1 ⟨rfl, k1⟩
  replace hB := hB.kp k1 hB.lt (by simp)
  replace K := K.then_ k1 (by simp)
  go_wp2_with fail
  refine (bolideref01_size_any b h.out.bl _).mono ?_
  rintro e w2 ⟨rfl, k2⟩
  replace hB := hB.kp k2 hB.lt (by simp)
  replace K := K.then_ k2 (by have := hB.lt; omega)
  have cc := fun i => hB.cell i
  have f := fun i => hB.frozen i
  go_wp2_with (go_at_call 116; refine (Tryz.bits_Mul64 a b (by have := h.out.al; omega) (by have := h.out.bl; omega) _).mono ?_; rintro e w1 ⟨he, rfl⟩; rw [← h.out.eH, ← h.out.eL] at he; subst he)
  have hB' := ((hB.set_ 0 (.bool false)).set_ 1 (.int .u64 H)).set_ 2 (.int .u64 L)
  have cc' := fun i => hB'.cell i
  exact bodyPost_ret (by simp [results, Tryz.results117, go_sem, cc']) rfl ⟨rfl, ((K.setNew (Nat.le_refl _) _).setNew (Nat.le_refl _) _).setNew (Nat.le_refl _) _⟩
set_option maxHeartbeats 800000 in
theorem ref_order_any (H L H' L' : Nat) (w : World) :
    Calls Tryz.prog 121 #[.agg #[.bool false, .int .u64 H, .int .u64 L], .agg #[.bool false, .int .u64 H', .int .u64 L']] w fun e w' => e = .returned (.int .i64 (cmpHL H L H' L')) ∧ Kp w.heap.size none w w' := by
  have fin : ∀ (e : Ending) (w' : World) (n : Int), e = .returned (.int .i64 n) → n = cmpHL H L H' L' → Kp w.heap.size none w w' → e = .returned (.int .i64 (cmpHL H L H' L')) ∧ Kp w.heap.size none w w' := fun e w' n h1 h2 h3 => ⟨h2 ▸ h1, h3⟩
  replace fin := Lib.hid fin
  go_enter Tryz.func121, Tryz.ntmps121
  rcases (show H < H' ∨ H = H' ∨ H' < H by omega) with h1 | rfl | h1
  · have h1' : (H : Int) < (H' : Int) := by omega
    go_wp2
    go_ret
    refine fin.out _ _ _ rfl ?_ (Kp.new2 _ _ _)
    unfold cmpHL
    rw [if_pos (by omega)]
  · rcases (show L < L' ∨ L = L' ∨ L' < L by omega) with h2 | rfl | h2
    · have h2' : (L : Int) < (L' : Int) := by omega
      go_wp2
      go_ret
      refine fin.out _ _ _ rfl ?_ (Kp.new2 _ _ _)
      unfold cmpHL
      rw [if_pos (by omega)]
    · go_wp2
      go_ret
      refine fin.out _ _ _ rfl ?_ (Kp.new2 _ _ _)
      unfold cmpHL
      rw [if_neg (by omega), if_pos ⟨rfl, rfl⟩]
    · have h2' : ¬ (L : Int) < (L' : Int) := by omega
      have h3' : ¬ (L : Int) = (L' : Int) := by omega
      go_wp2
      go_ret
      refine fin.out _ _ _ rfl ?_ (Kp.new2 _ _ _)
      unfold cmpHL
      rw [if_neg (by omega), if_neg (by omega)]
  · have h1' : ¬ (H : Int) < (H' : Int) := by omega
    have h2' : ¬ (H : Int) = (H' : Int) := by omega
    go_wp2
    go_ret
    refine fin.out _ _ _ rfl ?_ (Kp.new2 _ _ _)
    unfold cmpHL
    rw [if_neg (by omega), if_neg (by omega)]
set_option maxHeartbeats 800000 in
theorem ref_compare_any (H L H' L' : Nat) (w : World) :
    Calls Tryz.prog 118 #[.agg #[.bool false, .int .u64 H, .int .u64 L], .agg #[.bool false, .int .u64 H', .int .u64 L']] w fun e w' => e = .returned (.int .i64 (cmpHL H L H' L')) ∧ Kp w.heap.size none w w' := by
  have KK := Kp.new2 w (.cells #[.bool false, .int .u64 H, .int .u64 L] 178) (.cells #[.bool false, .int .u64 H', .int .u64 L'] 178)
  go_enter Tryz.func118, Tryz.ntmps118
  go_wp2_with fail
  refine (ref_order_any H L H' L' _).mono ?_
  rintro e w1 ⟨rfl, k1⟩
  replace KK := KK.thenN k1 (Nat.le_refl _)
  go_wp2
  go_ret
  exact ⟨rfl, KK⟩
set_option maxHeartbeats 800000 in
theorem ref_Cross_any (a b c d H L H' L' : Nat) (h : Hid (Pr a d H L)) (k : Hid (Pr b c H' L')) (w : World) :
    Calls Tryz.prog 114 #[.agg #[.int .i64 a, .int .i64 b], .agg #[.int .i64 c, .int .i64 d]] w fun e w' => e = .returned (.int .i64 (cmpHL H L H' L')) ∧ Kp w.heap.size none w w' := by
  have hA := (Blk.new w 132 #[.int .i64 a, .int .i64 b]).alloc (.cells #[.int .i64 c, .int .i64 d] 132)
  have hB := Blk.newAt (w.alloc (.cells #[.int .i64 a, .int .i64 b] 132)) 132 #[.int .i64 c, .int .i64 d] (n := w.heap.size + 1) (by simp)
  have KK := Kp.new2 w (.cells #[.int .i64 a, .int .i64 b] 132) (.cells #[.int .i64 c, .int .i64 d] 132)
  go_enter Tryz.func114, Tryz.ntmps114
  go_wp2_with fail
  obtain ⟨S, hS⟩ : ∃ S : Nat → World → Prop, S = fun _ w' => Blk w' w.heap.size 132 #[.int .i64 a, .int .i64 b] ∧ Blk w' (w.heap.size + 1) 132 #[.int .i64 c, .int .i64 d] := ⟨_, rfl⟩
  have hS0 : ∀ w', S 0 w' ↔ (Blk w' w.heap.size 132 #[.int .i64 a, .int .i64 b] ∧ Blk w' (w.heap.size + 1) 132 #[.int .i64 c, .int .i64 d]) := fun w' => by rw [hS]
  clear hS
  have cx := fun (x : Ev (S 0)) i => ((hS0 _).1 x.h).1.cell i
  have cy := fun (x : Ev (S 0)) i => ((hS0 _).1 x.h).2.cell i
  replace hA := hA.drew
  replace hB := hB.drew
  replace KK := KK.drew
  have hevT := ev_true
  refine wp_region_ord S [(0, 0), (1, 1), (2, 0), (3, 1), (5, 0), (6, 1), (7, 0), (8, 1), (4, 2), (9, 2), (10, 2), (11, 0)] [] (by kernel_rfl) (by kernel_rfl) ((hS0 _).2 ⟨hA, hB⟩) ?_
  intro _hev
  iterate 8 (first | (refine wpOrd_v rfl rfl ?_; intro K hK; go_big_quiet_op; go_big_quiet_on) | (refine wpOrd_q rfl rfl ?_; intro K hK; go_big_quiet_op; go_big_quiet_on) | refine wpOrd_s (by decide) rfl rfl ?_)
  refine wpOrd_l rfl rfl ?_; intro K hK
  go_step
  refine (ref_wideOf_any a d H L h _).mono ?_
  rintro e w1 ⟨rfl, k1⟩
  replace hA := hA.kpN k1
  replace hB := hB.kpN k1
  replace KK := KK.thenN k1 (Nat.le_refl _)
  refine hK _ _ ((hS0 _).2 ⟨hA, hB⟩) ?_
  clear hK K k1
  refine wpOrd_l rfl rfl ?_; intro K hK
  go_step
  refine (ref_wideOf_any b c H' L' k _).mono ?_
  rintro e w1 ⟨rfl, k1⟩
  replace hA := hA.kpN k1
  replace hB := hB.kpN k1
  replace KK := KK.thenN k1 (Nat.le_refl _)
  refine hK _ _ ((hS0 _).2 ⟨hA, hB⟩) ?_
  clear hK K k1
  refine wpOrd_l rfl rfl ?_; intro K hK
  go_step
  refine (ref_compare_any H L H' L' _).mono ?_
  rintro e w1 ⟨rfl, k1⟩
  replace hA := hA.kpN k1
  replace hB := hB.kpN k1
  replace KK := KK.thenN k1 (Nat.le_refl _)
  refine hK _ _ ((hS0 _).2 ⟨hA, hB⟩) ?_
  clear hK K k1
  iterate 1 (first | (refine wpOrd_v rfl rfl ?_; intro K hK; go_big_quiet_op; go_big_quiet_on) | (refine wpOrd_q rfl rfl ?_; intro K hK; go_big_quiet_op; go_big_quiet_on) | refine wpOrd_s (by decide) rfl rfl ?_)
  refine wpOrd_nil ?_
  clear hevT _hev
  go_wp2
  go_ret
  exact ⟨rfl, KK⟩
end Go.Proofs.YtogpgnljomchcaaGreat
