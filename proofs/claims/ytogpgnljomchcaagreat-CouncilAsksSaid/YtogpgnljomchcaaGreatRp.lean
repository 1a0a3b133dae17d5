/- bolideref09.Passed. -/
import Derived.Test.YtogpgnljomchcaaGreatPassAll
import Derived.Test.YtogpgnljomchcaaGreatSn
import Derived.Test.YtogpgnljomchcaaGreatRd
namespace Go.Proofs.YtogpgnljomchcaaGreat
open Go.RowKit

/-- a ledger in a cell -/
structure LS (W : World) (lb : Nat) (L : LV) (l : Ledger) (w : World) : Prop where
  b : Blk w lb 41 #[.int .i64 l.items, .slice L.fa l.facts.length L.fc, .slice L.ma l.motions.length L.mc, .slice L.sa l.sent.length L.sc]
  s : LAt w.heap.size w L l
  k : Kp W.heap.size none W w
theorem LS.kpN {W w w' : World} {lb : Nat} {L : LV} {l : Ledger} (s : LS W lb L l w) (q : Kp w.heap.size none w w') : LS W lb L l w' := ⟨s.b.kpN q, s.s.next q, s.k.thenN q (Nat.le_refl _)⟩
theorem passI_succ (p : Motion → Bool) (l : List Motion) (k : Nat) (hk : k < l.length) : passI p l (k + 1) = if p l[k] then (k : Int) else passI p l k := by
  rw [passI, List.getD_eq_getElem?_getD, List.getElem?_eq_getElem hk]
  rfl
set_option maxRecDepth 20000 in
set_option maxHeartbeats 4000000 in
theorem ref_Passed_any (L : LV) (l : Ledger) (t a : Int) (w : World) (s : LAt w.heap.size w L l) :
    Calls Tryz.prog 28 #[.agg #[.int .i64 l.items, .slice L.fa l.facts.length L.fc, .slice L.ma l.motions.length L.mc, .slice L.sa l.sent.length L.sc], .int .i64 t, .int .i64 a] w (PassPost (passI (passP t a) l.motions l.motions.length) w) := by
  obtain ⟨R, hR⟩ : ∃ R, R = passI (passP t a) l.motions l.motions.length := ⟨_, rfl⟩
  rw [← hR]
  have hml := s.ms
  have kk := Kp.new w (.cells #[.int .i64 l.items, .slice L.fa l.facts.length L.fc, .slice L.ma l.motions.length L.mc, .slice L.sa l.sent.length L.sc] 41)
  have S : LS w w.heap.size L l (w.alloc (.cells #[.int .i64 l.items, .slice L.fa l.facts.length L.fc, .slice L.ma l.motions.length L.mc, .slice L.sa l.sent.length L.sc] 41)) := ⟨Blk.new w _ _, s.next kk, kk⟩
  clear kk s
  go_enter Tryz.func28, Tryz.ntmps28
  go_upto_region 1 with (fail)
  change Code.wp _ _ _ _ (w.alloc (.cells #[.int .i64 l.items, .slice L.fa l.facts.length L.fc, .slice L.ma l.motions.length L.mc, .slice L.sa l.sent.length L.sc] 41))
  obtain ⟨lb, hlb⟩ : ∃ q, q = w.heap.size := ⟨_, rfl⟩
  rw [← hlb] at S
  try rw [← hlb]
  generalize w.alloc (.cells #[.int .i64 l.items, .slice L.fa l.facts.length L.fc, .slice L.ma l.motions.length L.mc, .slice L.sa l.sent.length L.sc] 41) = w1 at S ⊢
  clear hlb
  have cl := fun i => S.b.cell i
  go_wp2_with fail
  clear cl
  go_loopw [8] (fun n wr => ∃ k : Nat, n = .int .i64 ((k : Int) - 1) ∧ k ≤ l.motions.length ∧ R = passI (passP t a) l.motions k ∧ LS w lb L l wr) (fun n _ => (intOf n + 1).toNat)
  case atStart => exact ⟨l.motions.length, rfl, Nat.le_refl _, hR, S⟩
  case round =>
    clear S hR
    obtain ⟨k, rfl, hk, hR, S⟩ := hrel
    have cl := fun i => S.b.cell i
    cases k with
    | zero =>
      have hR1 : R = -1 := hR
      subst hR1
      have K9 := S.k
      replace S := Lib.hid S
      go_wp2
      exact bodyPost_ret (v := .tuple #[.int .i64 (-1), .bool false]) (by simp [results, Tryz.results28, go_sem]) rfl ⟨rfl, K9⟩
    | succ k =>
      have ek : ((k + 1 : Nat) : Int) - 1 = (k : Int) := by omega
      rw [ek]
      have hk1 : k < l.motions.length := by omega
      have hk2 : (k : Int) < (l.motions.length : Int) := by omega
      have hk0 : 0 ≤ (k : Int) := by omega
      rw [passI_succ _ _ _ hk1] at hR
      obtain ⟨b, o, Am, qm, eM, -, -, hc⟩ := S.s.mot k hk1
      obtain ⟨m, hm⟩ : ∃ m, m = l.motions[k] := ⟨_, rfl⟩
      rw [← hm] at hc hR
      clear hm
      obtain ⟨fa, fc, ma, mc, sa, sc, vo⟩ := L
      have eM' : ma = some ⟨b, o, none⟩ := eM
      subst eM'
      clear eM
      obtain ⟨vl, hvl⟩ : ∃ q, q = m.voted.length := ⟨_, rfl⟩
      rw [← hvl] at hc
      clear hvl
      have c0 : wr.cell? ⟨b, o + k * 8, none⟩ = some (.int .i64 m.target) := hc 0 _ rfl
      have c1 : wr.cell? ⟨b, o + k * 8 + 1, none⟩ = some (.int .i64 m.act) := by rw [Nat.add_assoc]; exact hc 1 _ rfl
      have c2 : wr.cell? ⟨b, o + k * 8 + 2, none⟩ = some (.int .i64 m.opened) := by rw [Nat.add_assoc]; exact hc 2 _ rfl
      have c3 : wr.cell? ⟨b, o + k * 8 + 3, none⟩ = some (.int .i64 m.state) := by rw [Nat.add_assoc]; exact hc 3 _ rfl
      have c4 : wr.cell? ⟨b, o + k * 8 + 4, none⟩ = some (.int .i64 m.yes) := by rw [Nat.add_assoc]; exact hc 4 _ rfl
      have c5 : wr.cell? ⟨b, o + k * 8 + 5, none⟩ = some (.int .i64 m.no) := by rw [Nat.add_assoc]; exact hc 5 _ rfl
      have c6 : wr.cell? ⟨b, o + k * 8 + 6, none⟩ = some (.slice Am vl qm) := by rw [Nat.add_assoc]; exact hc 6 _ rfl
      have c7 : wr.cell? ⟨b, o + k * 8 + 7, none⟩ = some (.int .i64 m.fact) := by rw [Nat.add_assoc]; exact hc 7 _ rfl
      clear hc
      have MB := Blk.new wr 52 #[.int .i64 m.target, .int .i64 m.act, .int .i64 m.opened, .int .i64 m.state, .int .i64 m.yes, .int .i64 m.no, (.slice Am vl qm), .int .i64 m.fact]
      have km := Kp.new wr (.cells #[.int .i64 m.target, .int .i64 m.act, .int .i64 m.opened, .int .i64 m.state, .int .i64 m.yes, .int .i64 m.no, (.slice Am vl qm), .int .i64 m.fact] 52)
      replace S := S.kpN km
      clear km
      replace hR := Lib.hid hR
      go_upto_region 5 with (fail)
      clear c0 c1 c2 c3 c4 c5 c6 c7 cl
      obtain ⟨mb, hmb⟩ : ∃ q, q = wr.heap.size := ⟨_, rfl⟩
      rw [← hmb] at MB ⊢
      clear hmb
      change Code.wp _ _ _ _ (wr.alloc (.cells #[.int .i64 m.target, .int .i64 m.act, .int .i64 m.opened, .int .i64 m.state, .int .i64 m.yes, .int .i64 m.no, (.slice Am vl qm), .int .i64 m.fact] 52))
      generalize wr.alloc (.cells #[.int .i64 m.target, .int .i64 m.act, .int .i64 m.opened, .int .i64 m.state, .int .i64 m.yes, .int .i64 m.no, (.slice Am vl qm), .int .i64 m.fact] 52) = w5 at S MB ⊢
      have cm := fun i => MB.cell i
      replace hR := hR.out
      have K9 := S.k
      replace S := Lib.hid S
      have done : R = (k : Int) → PassPost R w (.returned (.tuple #[.int .i64 (k : Int), .bool true])) w5 := fun e => by
        subst e
        exact ⟨by rw [decide_eq_true (by omega)], K9⟩
      replace done := Lib.hid done
      replace K9 := Lib.hid K9
      by_cases h1 : m.target = t
      · have e1 : (m.target == t) = true := by simpa using h1
        by_cases h2 : m.act = a
        · have e2 : (m.act == a) = true := by simpa using h2
          by_cases h3 : m.state = 2
          · have e3 : (m.state == 2) = true := by simpa using h3
            have hp : passP t a m = true := by unfold passP; rw [e1, e2, e3]; rfl
            rw [if_pos hp] at hR
            have hq := Lib.hid (done.out hR)
            clear hR h1 h2 h3 hp done
            go_wp2
            exact bodyPost_ret (v := .tuple #[.int .i64 (k : Int), .bool true]) (by simp [results, Tryz.results28, go_sem]) rfl hq.out
          · have e3 : (m.state == 2) = false := by simpa using h3
            have hp : passP t a m = false := by unfold passP; rw [e3]; simp
            rw [if_neg (by rw [hp]; decide)] at hR
            replace hR := Lib.hid hR
            clear h1 h2 h3 hp done
            go_wp2
            go_roundw
            case rel => exact ⟨k, rfl, by omega, hR.out, S.out⟩
            case measure => simp [intOf] <;> omega
        · have e2 : (m.act == a) = false := by simpa using h2
          have hp : passP t a m = false := by unfold passP; rw [e2]; simp
          rw [if_neg (by rw [hp]; decide)] at hR
          replace hR := Lib.hid hR
          clear h1 h2 hp done
          go_wp2
          go_roundw
          case rel => exact ⟨k, rfl, by omega, hR.out, S.out⟩
          case measure => simp [intOf] <;> omega
      · have e1 : (m.target == t) = false := by simpa using h1
        have hp : passP t a m = false := by unfold passP; rw [e1]; simp
        rw [if_neg (by rw [hp]; decide)] at hR
        replace hR := Lib.hid hR
        clear h1 hp done
        go_wp2
        go_roundw
        case rel => exact ⟨k, rfl, by omega, hR.out, S.out⟩
        case measure => simp [intOf] <;> omega
end Go.Proofs.YtogpgnljomchcaaGreat
