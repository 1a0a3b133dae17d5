/- bolidekit.OnlyItems: the items of one ledger. -/
import Derived.Test.YtogpgnljomchcaaGreatIo
namespace Go.Proofs.YtogpgnljomchcaaGreat
open Go.RowKit

theorem items_cells (x : CItem) : encItem x = [.int .i64 x.kind, .int .i64 x.tick, .bool x.drill, .int .i64 x.a, .int .i64 x.b, .bool x.yes, .int .i64 x.chance.least, .int .i64 x.chance.most, .int .i64 x.chance.all] := rfl
def OnlyPost (l : List CItem) (w : World) (e : Ending) (w' : World) : Prop :=
  ∃ A2 cap2, e = .returned (.slice A2 l.length cap2) ∧ Rd none w' 9 encItem A2 l.length l ∧ Kp w.heap.size none w w'
def OnlyRel (d : Bool) (l : List CItem) (w : World) (v n : Value) (wr : World) : Prop :=
  ∃ (j : Nat) (out : List CItem), n = .int .i64 (j : Int) ∧ j ≤ l.length ∧ out = (l.take j).filter (fun x => x.drill == d) ∧ Own wr w.heap.size 36 9 encItem v out ∧ Kp w.heap.size none w wr
set_option maxHeartbeats 2000000 in
theorem onlyItems_any (d : Bool) (A : Option Addr) (cap : Nat) (l : List CItem) (w : World) (hr : Rd none w 9 encItem A l.length l) (hn : l.length ≤ 1000000) :
    Calls Tryz.prog 10 #[.slice A l.length cap, .bool d] w (OnlyPost (l.filter fun x => x.drill == d) w) := by
  obtain ⟨i0, hi0, hz0, hz1, hz2⟩ := info_parts info_item
  go_enter Tryz.func10, Tryz.ntmps10
  go_wp2_with fail
  go_loopw [5, 6] (fun v n wr => OnlyRel d l w v n wr) (fun _ n _ => (l.length - intOf n).toNat)
  case atStart => exact ⟨0, [], rfl, Nat.zero_le _, by simp, Own.nil _ _ _ _ _, Kp.refl _ _ _⟩
  case round =>
    obtain ⟨j, out, rfl, hj, ho, own, K⟩ := hrel
    have hol : out.length ≤ j := by
      have h1 : out.length ≤ (l.take j).length := by rw [ho]; exact List.length_filter_le _ _
      simp only [List.length_take] at h1; omega
    have hs1 : w.heap.size ≤ wr.heap.size := K.size
    by_cases hj' : j < l.length
    · have hjj : (j : Int) < (l.length : Int) := by omega
      obtain ⟨b, o, eA, hb, -, hc⟩ := (hr.kpN K).at_ (by omega)
      have hcc := fun k u => hc j hj' k u
      have ht : l.take (j + 1) = l.take j ++ [l[j]] := List.take_succ_eq_append_getElem hj'
      obtain ⟨x, hx⟩ : ∃ x, x = l[j] := ⟨_, rfl⟩
      rw [← hx] at hcc ht
      subst eA
      clear hx hc
      have c0 : wr.cell? ⟨b, o + j * 9 + 0, none⟩ = some (.int .i64 x.kind) := by rw [Nat.add_assoc]; exact hcc 0 _ rfl
      have c1 : wr.cell? ⟨b, o + j * 9 + 1, none⟩ = some (.int .i64 x.tick) := by rw [Nat.add_assoc]; exact hcc 1 _ rfl
      have c2 : wr.cell? ⟨b, o + j * 9 + 2, none⟩ = some (.bool x.drill) := by rw [Nat.add_assoc]; exact hcc 2 _ rfl
      have c3 : wr.cell? ⟨b, o + j * 9 + 3, none⟩ = some (.int .i64 x.a) := by rw [Nat.add_assoc]; exact hcc 3 _ rfl
      have c4 : wr.cell? ⟨b, o + j * 9 + 4, none⟩ = some (.int .i64 x.b) := by rw [Nat.add_assoc]; exact hcc 4 _ rfl
      have c5 : wr.cell? ⟨b, o + j * 9 + 5, none⟩ = some (.bool x.yes) := by rw [Nat.add_assoc]; exact hcc 5 _ rfl
      have c6 : wr.cell? ⟨b, o + j * 9 + 6, none⟩ = some (.int .i64 x.chance.least) := by rw [Nat.add_assoc]; exact hcc 6 _ rfl
      have c7 : wr.cell? ⟨b, o + j * 9 + 7, none⟩ = some (.int .i64 x.chance.most) := by rw [Nat.add_assoc]; exact hcc 7 _ rfl
      have c8 : wr.cell? ⟨b, o + j * 9 + 8, none⟩ = some (.int .i64 x.chance.all) := by rw [Nat.add_assoc]; exact hcc 8 _ rfl
      simp only [Nat.add_zero] at c0
      clear hcc
      by_cases hd : x.drill = d
      · have hd' : (x.drill == d) = true := by simpa using hd
        have ho2 : out ++ [x] = (l.take (j + 1)).filter (fun x => x.drill == d) := by rw [ht, List.filter_append, ← ho]; simp [hd]
        replace ho2 := Lib.hid ho2
        replace hr := Lib.hid hr
        clear ht ho hd
        go_wp2_with (at_builtin; refine wpList_append_own_at _ (by rfl) (.tmp 20) (.tmp 25) 29 (by rfl) w.heap.size 36 i0 _ 9 72 Tryz.underlying29 hi0 hz0 hz1 hz2 (by rfl) (by omega) _ out.length (out.flatMap encItem) (by rfl) (Own.alloc own _) ⟨wr.heap.size, 0, none⟩ 1 1 (encItem x) (by rfl) (by rfl) (list_new _ _ _) (one_item x) (maxLen_of (by omega)) (by omega) (alloc_ge hs1 _) ?_; intro u4 w4 hown gu _ au; clear au)
        have own4 : Own w4 w.heap.size 36 9 encItem u4 (out ++ [x]) := by unfold Own; rw [List.length_append, List.flatMap_append]; simpa using hown
        have K4 : Kp w.heap.size none w w4 := (K.alloc hs1 _).trans (Kp.of_own (Own.alloc own _) gu (alloc_ge hs1 _))
        go_roundw
        case rel => exact ⟨j + 1, out ++ [x], by congr 1, by omega, ho2.out, own4, K4⟩
        case measure => simp [intOf]; omega
      · have hd' : (x.drill == d) = false := by simpa using hd
        have ho2 : out = (l.take (j + 1)).filter (fun x => x.drill == d) := by rw [ht, List.filter_append, ← ho]; simp [hd]
        replace ho2 := Lib.hid ho2
        replace hr := Lib.hid hr
        clear ht ho hd
        go_wp2
        go_roundw
        case rel => exact ⟨j + 1, out, by congr 1, by omega, ho2.out, own, K⟩
        case measure => simp [intOf]; omega
    · have hjj : ¬ (j : Int) < (l.length : Int) := by omega
      have ho2 : out = l.filter (fun x => x.drill == d) := by rw [ho, List.take_of_length_le (by omega)]
      obtain ⟨A2, cap2, rfl, hrd, -⟩ := own.rd (row := none) (fun _ => rfl) (fun b hb e => by cases e)
      replace ho2 := Lib.hid ho2
      clear ho
      go_wp2
      go_ret
      exact ⟨A2, cap2, by rw [← ho2.out]; rfl, by rw [← ho2.out]; exact hrd, K⟩
end Go.Proofs.YtogpgnljomchcaaGreat
