/- bolideref09.Same: equal houses. (Written by gen_sr.py.) -/
import Derived.Test.YtogpgnljomchcaaGreatSameAll
import Derived.Test.YtogpgnljomchcaaGreatSn
import Derived.Test.YtogpgnljomchcaaGreatReg
namespace Go.Proofs.YtogpgnljomchcaaGreat
open Go.RowKit

set_option maxRecDepth 20000 in
set_option maxHeartbeats 4000000 in
theorem ref_sameMotion_any (m n : Motion) (A A2 : Option Addr) (q q2 : Nat) (w : World) (hr : Rd none w 1 encI A m.voted.length m.voted) (hr2 : Rd none w 1 encI A2 n.voted.length n.voted) (hn : m.voted.length ≤ 17592186044416) (hn2 : n.voted.length ≤ 17592186044416) :
    Calls Tryz.prog 51 #[.agg #[.int .i64 m.target, .int .i64 m.act, .int .i64 m.opened, .int .i64 m.state, .int .i64 m.yes, .int .i64 m.no, (.slice A m.voted.length q), .int .i64 m.fact], .agg #[.int .i64 n.target, .int .i64 n.act, .int .i64 n.opened, .int .i64 n.state, .int .i64 n.yes, .int .i64 n.no, (.slice A2 n.voted.length q2), .int .i64 n.fact]] w fun e w' => e = .returned (.bool (decide (m = n))) ∧ Kp w.heap.size none w w' := by
  obtain ⟨R, hR⟩ : ∃ R, R = decide (m = n) := ⟨_, rfl⟩
  rw [← hR]
  have B1 := (Blk.new w 52 #[.int .i64 m.target, .int .i64 m.act, .int .i64 m.opened, .int .i64 m.state, .int .i64 m.yes, .int .i64 m.no, (.slice A m.voted.length q), .int .i64 m.fact]).alloc (.cells #[.int .i64 n.target, .int .i64 n.act, .int .i64 n.opened, .int .i64 n.state, .int .i64 n.yes, .int .i64 n.no, (.slice A2 n.voted.length q2), .int .i64 n.fact] 52)
  have B2 := Blk.newAt (w.alloc (.cells #[.int .i64 m.target, .int .i64 m.act, .int .i64 m.opened, .int .i64 m.state, .int .i64 m.yes, .int .i64 m.no, (.slice A m.voted.length q), .int .i64 m.fact] 52)) 52 #[.int .i64 n.target, .int .i64 n.act, .int .i64 n.opened, .int .i64 n.state, .int .i64 n.yes, .int .i64 n.no, (.slice A2 n.voted.length q2), .int .i64 n.fact] (n := w.heap.size + 1) (by simp)
  have K2 := Kp.new2 w (.cells #[.int .i64 m.target, .int .i64 m.act, .int .i64 m.opened, .int .i64 m.state, .int .i64 m.yes, .int .i64 m.no, (.slice A m.voted.length q), .int .i64 m.fact] 52) (.cells #[.int .i64 n.target, .int .i64 n.act, .int .i64 n.opened, .int .i64 n.state, .int .i64 n.yes, .int .i64 n.no, (.slice A2 n.voted.length q2), .int .i64 n.fact] 52)
  replace hr := hr.kpN K2
  replace hr2 := hr2.kpN K2
  have hlm : ∀ a b : Motion, a ≠ b → decide (a = b) = false := fun a b h => decide_eq_false h
  replace hR := Lib.hid hR
  replace hlm := Lib.hid hlm
  obtain ⟨mv, hmv⟩ : ∃ a, a = m.voted := ⟨_, rfl⟩
  obtain ⟨nv, hnv⟩ : ∃ a, a = n.voted := ⟨_, rfl⟩
  rw [← hmv] at hn
  rw [← hnv] at hn2
  rw [← hmv, ← hnv] at hr hr2 B1 B2 K2 ⊢
  replace hmv := Lib.hid hmv
  replace hnv := Lib.hid hnv
  go_enter Tryz.func51, Tryz.ntmps51
  go_upto_region 1 with (fail)
  obtain ⟨b1, hb1⟩ : ∃ a, a = w.heap.size := ⟨_, rfl⟩
  rw [← hb1] at B1 B2
  rw [← hb1]
  generalize (w.alloc (.cells #[.int .i64 m.target, .int .i64 m.act, .int .i64 m.opened, .int .i64 m.state, .int .i64 m.yes, .int .i64 m.no, (.slice A mv.length q), .int .i64 m.fact] 52)).alloc (.cells #[.int .i64 n.target, .int .i64 n.act, .int .i64 n.opened, .int .i64 n.state, .int .i64 n.yes, .int .i64 n.no, (.slice A2 nv.length q2), .int .i64 n.fact] 52) = w2 at B1 B2 K2 hr hr2 ⊢
  replace hb1 := Lib.hid hb1
  have c1 := fun i => B1.cell i
  have c2 := fun i => B2.cell i
  by_cases g_target : m.target = n.target
  case neg =>
    have f_target : (m.target != n.target) = true := by simpa using g_target
    obtain rfl : R = false := by rw [hR.out]; exact hlm.out _ _ fun e => g_target (by rw [e])
    clear g_target
    go_wp2
    go_ret
    exact ⟨rfl, K2⟩
  have f_target : (m.target != n.target) = false := by simpa using g_target
  replace g_target := Lib.hid g_target
  by_cases g_act : m.act = n.act
  case neg =>
    have f_act : (m.act != n.act) = true := by simpa using g_act
    obtain rfl : R = false := by rw [hR.out]; exact hlm.out _ _ fun e => g_act (by rw [e])
    clear g_act
    go_wp2
    go_ret
    exact ⟨rfl, K2⟩
  have f_act : (m.act != n.act) = false := by simpa using g_act
  replace g_act := Lib.hid g_act
  by_cases g_opened : m.opened = n.opened
  case neg =>
    have f_opened : (m.opened != n.opened) = true := by simpa using g_opened
    obtain rfl : R = false := by rw [hR.out]; exact hlm.out _ _ fun e => g_opened (by rw [e])
    clear g_opened
    go_wp2
    go_ret
    exact ⟨rfl, K2⟩
  have f_opened : (m.opened != n.opened) = false := by simpa using g_opened
  replace g_opened := Lib.hid g_opened
  by_cases g_state : m.state = n.state
  case neg =>
    have f_state : (m.state != n.state) = true := by simpa using g_state
    obtain rfl : R = false := by rw [hR.out]; exact hlm.out _ _ fun e => g_state (by rw [e])
    clear g_state
    go_wp2
    go_ret
    exact ⟨rfl, K2⟩
  have f_state : (m.state != n.state) = false := by simpa using g_state
  replace g_state := Lib.hid g_state
  by_cases g_yes : m.yes = n.yes
  case neg =>
    have f_yes : (m.yes != n.yes) = true := by simpa using g_yes
    obtain rfl : R = false := by rw [hR.out]; exact hlm.out _ _ fun e => g_yes (by rw [e])
    clear g_yes
    go_wp2
    go_ret
    exact ⟨rfl, K2⟩
  have f_yes : (m.yes != n.yes) = false := by simpa using g_yes
  replace g_yes := Lib.hid g_yes
  by_cases g_no : m.no = n.no
  case neg =>
    have f_no : (m.no != n.no) = true := by simpa using g_no
    obtain rfl : R = false := by rw [hR.out]; exact hlm.out _ _ fun e => g_no (by rw [e])
    clear g_no
    go_wp2
    go_ret
    exact ⟨rfl, K2⟩
  have f_no : (m.no != n.no) = false := by simpa using g_no
  replace g_no := Lib.hid g_no
  by_cases g_fact : m.fact = n.fact
  case neg =>
    have f_fact : (m.fact != n.fact) = true := by simpa using g_fact
    obtain rfl : R = false := by rw [hR.out]; exact hlm.out _ _ fun e => g_fact (by rw [e])
    clear g_fact
    go_wp2
    go_ret
    exact ⟨rfl, K2⟩
  have f_fact : (m.fact != n.fact) = false := by simpa using g_fact
  replace g_fact := Lib.hid g_fact
  have hlast : R = decide (mv = nv) := by
    rw [hR.out]
    by_cases hv : mv = nv
    · rw [decide_eq_true hv]
      refine decide_eq_true ?_
      have hv2 : m.voted = n.voted := by rw [← hmv.out, ← hnv.out]; exact hv
      have := And.intro g_target.out <| And.intro g_act.out <| And.intro g_opened.out <| And.intro g_state.out <| And.intro g_yes.out <| And.intro g_no.out g_fact.out
      obtain ⟨a, b, c, d, e, f, g, h⟩ := m
      obtain ⟨a2, b2, c2, d2, e2, f2, g2, h2⟩ := n
      simp only at this hv2
      obtain ⟨p0, p1, p2, p3, p4, p5, p6⟩ := this
      subst p0 p1 p2 p3 p4 p5 p6 hv2
      rfl
    · rw [decide_eq_false hv]
      exact hlm.out _ _ fun e => hv (by rw [hmv.out, hnv.out, e])
  by_cases hl : mv.length = nv.length
  case neg =>
    have hl' : ((mv.length : Int) != (nv.length : Int)) = true := by simp only [bne_iff_ne, ne_eq]; omega
    have hl2 : ¬ (mv.length : Int) = (nv.length : Int) := by omega
    have hRf : R = false := by rw [hlast]; exact decide_eq_false fun e => hl (by rw [e])
    subst hRf
    clear hl hlast hR
    go_wp2
    go_ret
    exact ⟨rfl, K2⟩
  rw [← hl] at B2 hr2
  clear c2
  have c2 := fun i => B2.cell i
  replace hl := Lib.hid hl
  replace hlast := Lib.hid hlast
  rw [← hl.out]
  go_wp2_with fail
  go_loopw [5] (fun v wr => EqAt mv nv w2 v wr) (fun v _ => mv.length - (intOf v).toNat)
  case atStart => exact ⟨0, rfl, by omega, rfl, Kp.refl _ _ _⟩
  case round =>
    clear c1 c2
    obtain ⟨i, rfl, hi, hj, KK⟩ := hrel
    have c1 := fun i => (B1.kpN KK).cell i
    have c2 := fun i => (B2.kpN KK).cell i
    by_cases h7 : i < mv.length
    case neg =>
      have hi' : ¬ (i : Int) < (mv.length : Int) := by omega
      have hl9 := hl.out
      have e : R = true := by
        rw [hlast.out]
        rw [List.take_of_length_le (by omega), List.take_of_length_le (by omega)] at hj
        simpa using hj
      subst e
      clear h7 hi hj hl hl9 hlast hR
      go_wp2
      go_ret
      exact ⟨rfl, K2.thenN KK (Nat.le_refl _)⟩
    have h8 : i < nv.length := by have := hl.out; omega
    obtain ⟨b, o, eA, hb, -, hc⟩ := (hr.kpN KK).at_ (by omega)
    obtain ⟨b2, o2, eA2, hb2, -, hc2⟩ := (hr2.kpN KK).at_ (by omega)
    have x0 : wr.cell? ⟨b, o + i, none⟩ = some (.int .i64 mv[i]) := by simpa using hc i h7 0 _ rfl
    have y0 : wr.cell? ⟨b2, o2 + i, none⟩ = some (.int .i64 nv[i]) := by simpa using hc2 i h8 0 _ rfl
    have hi' : (i : Int) < (mv.length : Int) := by omega
    have q1 := take_more hj h7 h8
    have t2 := neq_at (xs := mv) (ys := nv) h7 h8
    subst eA eA2
    clear hc hc2 hj hr hr2
    generalize mv[i] = x at x0 q1 t2
    generalize nv[i] = y at y0 q1 t2
    replace q1 := Lib.hid q1
    replace t2 := Lib.hid t2
    have KD := Lib.hid KK.drew
    clear h8 hi hb hb2
    replace h7 := Lib.hid h7
    go_upto_region 6 with (fail)
    by_cases g : y = x
    case neg =>
      have hne : x ≠ y := fun e => g e.symm
      have f1 : (x != y) = true := by simpa using hne
      obtain rfl : R = false := by rw [hlast.out]; exact decide_eq_false (t2.out hne)
      clear g hne
      obtain ⟨S, hS⟩ : ∃ S : Nat → World → Prop, S = fun _ w' => w' = wr.drew := ⟨_, rfl⟩
      have hS0 : ∀ w', S 0 w' ↔ w' = wr.drew := fun w' => by rw [hS]
      clear hS
      have z1 : ∀ (ev : Ev (S 0)) (i : Nat), ev.w.cell? ⟨b1, i, none⟩ = (#[.int .i64 m.target, .int .i64 m.act, .int .i64 m.opened, .int .i64 m.state, .int .i64 m.yes, .int .i64 m.no, (.slice (some ⟨b, o, none⟩) mv.length q), .int .i64 m.fact] : Array Value)[i]? := fun ev i => by rw [(hS0 _).1 ev.h]; exact c1 i
      have z2 : ∀ (ev : Ev (S 0)) (i : Nat), ev.w.cell? ⟨b1 + 1, i, none⟩ = (#[.int .i64 n.target, .int .i64 n.act, .int .i64 n.opened, .int .i64 n.state, .int .i64 n.yes, .int .i64 n.no, (.slice (some ⟨b2, o2, none⟩) mv.length q2), .int .i64 n.fact] : Array Value)[i]? := fun ev i => by rw [(hS0 _).1 ev.h]; exact c2 i
      have z3 : ∀ (ev : Ev (S 0)), ev.w.cell? ⟨b, o + i, none⟩ = some (.int .i64 x) := fun ev => by rw [(hS0 _).1 ev.h]; exact x0
      have z4 : ∀ (ev : Ev (S 0)), ev.w.cell? ⟨b2, o2 + i, none⟩ = some (.int .i64 y) := fun ev => by rw [(hS0 _).1 ev.h]; exact y0
      clear c1 c2 x0 y0
      have hevT := ev_true
      refine wp_region_ord S [(0, 0), (1, 1), (2, 0), (3, 0), (4, 1), (5, 0), (6, 1), (7, 0), (8, 0), (9, 1), (10, 0)] [] (by kernel_rfl) (by kernel_rfl) ((hS0 _).2 rfl) ?_
      intro _hev
      iterate 11 (first | (refine wpOrd_v rfl rfl ?_; intro K hK; go_big_quiet_op; go_big_quiet_on) | (refine wpOrd_q rfl rfl ?_; intro K hK; go_big_quiet_op; go_big_quiet_on) | refine wpOrd_s (by decide) rfl rfl ?_)
      refine wpOrd_nil ?_
      clear hevT _hev
      clear hS0 S z1 z2 z3 z4
      go_wp2
      go_ret
      exact ⟨rfl, K2.thenN KD.out (Nat.le_refl _)⟩
    subst g
    replace q1 := Lib.hid (q1.out rfl)
    clear t2
    obtain ⟨S, hS⟩ : ∃ S : Nat → World → Prop, S = fun _ w' => w' = wr.drew := ⟨_, rfl⟩
    have hS0 : ∀ w', S 0 w' ↔ w' = wr.drew := fun w' => by rw [hS]
    clear hS
    have z1 : ∀ (ev : Ev (S 0)) (i : Nat), ev.w.cell? ⟨b1, i, none⟩ = (#[.int .i64 m.target, .int .i64 m.act, .int .i64 m.opened, .int .i64 m.state, .int .i64 m.yes, .int .i64 m.no, (.slice (some ⟨b, o, none⟩) mv.length q), .int .i64 m.fact] : Array Value)[i]? := fun ev i => by rw [(hS0 _).1 ev.h]; exact c1 i
    have z2 : ∀ (ev : Ev (S 0)) (i : Nat), ev.w.cell? ⟨b1 + 1, i, none⟩ = (#[.int .i64 n.target, .int .i64 n.act, .int .i64 n.opened, .int .i64 n.state, .int .i64 n.yes, .int .i64 n.no, (.slice (some ⟨b2, o2, none⟩) mv.length q2), .int .i64 n.fact] : Array Value)[i]? := fun ev i => by rw [(hS0 _).1 ev.h]; exact c2 i
    have z3 : ∀ (ev : Ev (S 0)), ev.w.cell? ⟨b, o + i, none⟩ = some (.int .i64 y) := fun ev => by rw [(hS0 _).1 ev.h]; exact x0
    have z4 : ∀ (ev : Ev (S 0)), ev.w.cell? ⟨b2, o2 + i, none⟩ = some (.int .i64 y) := fun ev => by rw [(hS0 _).1 ev.h]; exact y0
    clear c1 c2 x0 y0
    have hevT := ev_true
    refine wp_region_ord S [(0, 0), (1, 1), (2, 0), (3, 0), (4, 1), (5, 0), (6, 1), (7, 0), (8, 0), (9, 1), (10, 0)] [] (by kernel_rfl) (by kernel_rfl) ((hS0 _).2 rfl) ?_
    intro _hev
    iterate 11 (first | (refine wpOrd_v rfl rfl ?_; intro K hK; go_big_quiet_op; go_big_quiet_on) | (refine wpOrd_q rfl rfl ?_; intro K hK; go_big_quiet_op; go_big_quiet_on) | refine wpOrd_s (by decide) rfl rfl ?_)
    refine wpOrd_nil ?_
    clear hevT _hev
    clear hS0 S z1 z2 z3 z4
    go_wp2
    go_roundw
    case rel => exact ⟨i + 1, by congr 1, h7.out, q1.out, KD.out⟩
    case measure => have := h7.out; simp [intOf]; omega
set_option maxRecDepth 20000 in
set_option maxHeartbeats 8000000 in
theorem ref_SameLedger_any (L L2 : LV) (l l2 : Ledger) (w : World) (s : LAt w.heap.size w L l) (s2 : LAt w.heap.size w L2 l2) :
    Calls Tryz.prog 24 #[.agg #[.int .i64 l.items, .slice L.fa l.facts.length L.fc, .slice L.ma l.motions.length L.mc, .slice L.sa l.sent.length L.sc], .agg #[.int .i64 l2.items, .slice L2.fa l2.facts.length L2.fc, .slice L2.ma l2.motions.length L2.mc, .slice L2.sa l2.sent.length L2.sc]] w fun e w' => e = .returned (.bool (decide (l = l2))) ∧ Kp w.heap.size none w w' := by
  obtain ⟨R, hR⟩ : ∃ R, R = decide (l = l2) := ⟨_, rfl⟩
  rw [← hR]
  have B1 := (Blk.new w 41 #[.int .i64 l.items, .slice L.fa l.facts.length L.fc, .slice L.ma l.motions.length L.mc, .slice L.sa l.sent.length L.sc]).alloc (.cells #[.int .i64 l2.items, .slice L2.fa l2.facts.length L2.fc, .slice L2.ma l2.motions.length L2.mc, .slice L2.sa l2.sent.length L2.sc] 41)
  have B2 := Blk.newAt (w.alloc (.cells #[.int .i64 l.items, .slice L.fa l.facts.length L.fc, .slice L.ma l.motions.length L.mc, .slice L.sa l.sent.length L.sc] 41)) 41 #[.int .i64 l2.items, .slice L2.fa l2.facts.length L2.fc, .slice L2.ma l2.motions.length L2.mc, .slice L2.sa l2.sent.length L2.sc] (n := w.heap.size + 1) (by simp)
  have K2 := Kp.new2 w (.cells #[.int .i64 l.items, .slice L.fa l.facts.length L.fc, .slice L.ma l.motions.length L.mc, .slice L.sa l.sent.length L.sc] 41) (.cells #[.int .i64 l2.items, .slice L2.fa l2.facts.length L2.fc, .slice L2.ma l2.motions.length L2.mc, .slice L2.sa l2.sent.length L2.sc] 41)
  have T1 := s.next K2
  have T2 := s2.next K2
  replace hR := Lib.hid hR
  clear s s2
  go_enter Tryz.func24, Tryz.ntmps24
  go_upto_region 1 with (fail)
  obtain ⟨b1, hb1⟩ : ∃ a, a = w.heap.size := ⟨_, rfl⟩
  rw [← hb1] at B1 B2
  rw [← hb1]
  generalize (w.alloc (.cells #[.int .i64 l.items, .slice L.fa l.facts.length L.fc, .slice L.ma l.motions.length L.mc, .slice L.sa l.sent.length L.sc] 41)).alloc (.cells #[.int .i64 l2.items, .slice L2.fa l2.facts.length L2.fc, .slice L2.ma l2.motions.length L2.mc, .slice L2.sa l2.sent.length L2.sc] 41) = w2 at B1 B2 K2 T1 T2 ⊢
  replace hb1 := Lib.hid hb1
  have c1 := fun i => B1.cell i
  have c2 := fun i => B2.cell i
  by_cases g_items : l.items = l2.items
  case neg =>
    have f_items : (l.items != l2.items) = true := by simp only [bne_iff_ne, ne_eq]; omega
    obtain rfl : R = false := by rw [hR.out]; exact decide_eq_false fun e => g_items (by rw [e])
    clear g_items
    go_wp2
    go_ret
    exact ⟨rfl, K2⟩
  have f_items : (l.items != l2.items) = false := by simp only [bne_eq_false_iff_eq]; omega
  replace g_items := Lib.hid g_items
  by_cases g_facts : l.facts.length = l2.facts.length
  case neg =>
    have f_facts : ((l.facts.length : Int) != (l2.facts.length : Int)) = true := by simp only [bne_iff_ne, ne_eq]; omega
    have f2_facts : ¬ (l.facts.length : Int) = (l2.facts.length : Int) := by omega
    obtain rfl : R = false := by rw [hR.out]; exact decide_eq_false fun e => g_facts (by rw [e])
    clear g_facts
    go_wp2
    go_ret
    exact ⟨rfl, K2⟩
  have f_facts : ((l.facts.length : Int) != (l2.facts.length : Int)) = false := by simp only [bne_eq_false_iff_eq]; omega
  replace g_facts := Lib.hid g_facts
  by_cases g_motions : l.motions.length = l2.motions.length
  case neg =>
    have f_motions : ((l.motions.length : Int) != (l2.motions.length : Int)) = true := by simp only [bne_iff_ne, ne_eq]; omega
    have f2_motions : ¬ (l.motions.length : Int) = (l2.motions.length : Int) := by omega
    obtain rfl : R = false := by rw [hR.out]; exact decide_eq_false fun e => g_motions (by rw [e])
    clear g_motions
    go_wp2
    go_ret
    exact ⟨rfl, K2⟩
  have f_motions : ((l.motions.length : Int) != (l2.motions.length : Int)) = false := by simp only [bne_eq_false_iff_eq]; omega
  replace g_motions := Lib.hid g_motions
  by_cases g_sent : l.sent.length = l2.sent.length
  case neg =>
    have f_sent : ((l.sent.length : Int) != (l2.sent.length : Int)) = true := by simp only [bne_iff_ne, ne_eq]; omega
    have f2_sent : ¬ (l.sent.length : Int) = (l2.sent.length : Int) := by omega
    obtain rfl : R = false := by rw [hR.out]; exact decide_eq_false fun e => g_sent (by rw [e])
    clear g_sent
    go_wp2
    go_ret
    exact ⟨rfl, K2⟩
  have f_sent : ((l.sent.length : Int) != (l2.sent.length : Int)) = false := by simp only [bne_eq_false_iff_eq]; omega
  replace g_sent := Lib.hid g_sent
  clear f_items f_facts f_motions f_sent
  rw [← g_facts.out, ← g_motions.out, ← g_sent.out] at B2
  clear c2
  have c2 := fun i => B2.cell i
  have T1f := T1.fs
  have T1m := T1.ms
  have T1s := T1.ss
  rw [← g_items.out] at B2
  clear c2
  have c2 := fun i => B2.cell i
  rw [← g_items.out, ← g_facts.out, ← g_motions.out, ← g_sent.out]
  go_wp2_with fail
  go_loopw [5] (fun v wr => EqAt l.facts l2.facts w2 v wr) (fun v _ => l.facts.length - (intOf v).toNat)
  case atStart => exact ⟨0, rfl, by omega, rfl, Kp.refl _ _ _⟩
  case round =>
  clear c1 c2
  obtain ⟨i, rfl, hi, hj, KK⟩ := hrel
  have c1 := fun i => (B1.kpN KK).cell i
  have c2 := fun i => (B2.kpN KK).cell i
  by_cases h7 : i < l.facts.length
  case pos =>
    have h8 : i < l2.facts.length := by have := g_facts.out; omega
    obtain ⟨b, o, eA, hb, -, hc⟩ := ((T1.kpN KK).f.rdN).at_ (by omega)
    obtain ⟨b2, o2, eA2, hb2, -, hc2⟩ := ((T2.kpN KK).f.rdN).at_ (by omega)
    have x0 : wr.cell? ⟨b, o + i * 6, none⟩ = some (.int .i64 (l.facts[i]).target) := hc i h7 0 _ rfl
    have y0 : wr.cell? ⟨b2, o2 + i * 6, none⟩ = some (.int .i64 (l2.facts[i]).target) := hc2 i h8 0 _ rfl
    have x1 : wr.cell? ⟨b, o + i * 6 + 1, none⟩ = some (.int .i64 (l.facts[i]).level) := by rw [Nat.add_assoc]; exact hc i h7 1 _ rfl
    have y1 : wr.cell? ⟨b2, o2 + i * 6 + 1, none⟩ = some (.int .i64 (l2.facts[i]).level) := by rw [Nat.add_assoc]; exact hc2 i h8 1 _ rfl
    have x2 : wr.cell? ⟨b, o + i * 6 + 2, none⟩ = some (.int .i64 (l.facts[i]).item) := by rw [Nat.add_assoc]; exact hc i h7 2 _ rfl
    have y2 : wr.cell? ⟨b2, o2 + i * 6 + 2, none⟩ = some (.int .i64 (l2.facts[i]).item) := by rw [Nat.add_assoc]; exact hc2 i h8 2 _ rfl
    have x3 : wr.cell? ⟨b, o + i * 6 + 3, none⟩ = some (.int .i64 (l.facts[i]).chance.least) := by rw [Nat.add_assoc]; exact hc i h7 3 _ rfl
    have y3 : wr.cell? ⟨b2, o2 + i * 6 + 3, none⟩ = some (.int .i64 (l2.facts[i]).chance.least) := by rw [Nat.add_assoc]; exact hc2 i h8 3 _ rfl
    have x4 : wr.cell? ⟨b, o + i * 6 + 4, none⟩ = some (.int .i64 (l.facts[i]).chance.most) := by rw [Nat.add_assoc]; exact hc i h7 4 _ rfl
    have y4 : wr.cell? ⟨b2, o2 + i * 6 + 4, none⟩ = some (.int .i64 (l2.facts[i]).chance.most) := by rw [Nat.add_assoc]; exact hc2 i h8 4 _ rfl
    have x5 : wr.cell? ⟨b, o + i * 6 + 5, none⟩ = some (.int .i64 (l.facts[i]).chance.all) := by rw [Nat.add_assoc]; exact hc i h7 5 _ rfl
    have y5 : wr.cell? ⟨b2, o2 + i * 6 + 5, none⟩ = some (.int .i64 (l2.facts[i]).chance.all) := by rw [Nat.add_assoc]; exact hc2 i h8 5 _ rfl
    have hi' : (i : Int) < (l.facts.length : Int) := by omega
    have q1 := take_more hj h7 h8
    have t2 := neq_at (xs := l.facts) (ys := l2.facts) h7 h8
    clear hc hc2 hj
    generalize l.facts[i] = x at x0 x1 x2 x3 x4 x5 q1 t2
    generalize l2.facts[i] = y at y0 y1 y2 y3 y4 y5 q1 t2
    obtain ⟨fa, fc, ma, mc, sa, sc, vo⟩ := L
    obtain ⟨fa2, fc2, ma2, mc2, sa2, sc2, vo2⟩ := L2
    have eA' : fa = some ⟨b, o, none⟩ := eA
    have eB' : fa2 = some ⟨b2, o2, none⟩ := eA2
    subst eA' eB'
    clear eA eA2
    replace q1 := Lib.hid q1
    replace t2 := Lib.hid t2
    have KD := Lib.hid KK.drew
    clear h8 hi hb hb2
    replace h7 := Lib.hid h7
    replace T1 := Lib.hid T1
    replace T2 := Lib.hid T2
    go_upto_region 6 with (fail)
    by_cases g0 : y.target = x.target
    case neg =>
      have hne : x ≠ y := fun e => g0 (by rw [e])
      have f0 : (x.target == y.target) = false := by simpa using Ne.symm g0
      obtain rfl : R = false := by rw [hR.out]; exact decide_eq_false fun e => t2.out hne (by rw [e])
      clear g0 hne
      obtain ⟨S, hS⟩ : ∃ S : Nat → World → Prop, S = fun _ w' => w' = wr.drew := ⟨_, rfl⟩
      have hS0 : ∀ w', S 0 w' ↔ w' = wr.drew := fun w' => by rw [hS]
      clear hS
      have z1 : ∀ (ev : Ev (S 0)) (i : Nat), ev.w.cell? ⟨b1, i, none⟩ = (#[.int .i64 l.items, .slice (some ⟨b, o, none⟩) l.facts.length fc, .slice ma l.motions.length mc, .slice sa l.sent.length sc] : Array Value)[i]? := fun ev i => by rw [(hS0 _).1 ev.h]; exact c1 i
      have z2 : ∀ (ev : Ev (S 0)) (i : Nat), ev.w.cell? ⟨b1 + 1, i, none⟩ = (#[.int .i64 l.items, .slice (some ⟨b2, o2, none⟩) l.facts.length fc2, .slice ma2 l.motions.length mc2, .slice sa2 l.sent.length sc2] : Array Value)[i]? := fun ev i => by rw [(hS0 _).1 ev.h]; exact c2 i
      have v0 : ∀ (ev : Ev (S 0)), ev.w.cell? ⟨b, o + i * 6, none⟩ = some (.int .i64 x.target) := fun ev => by rw [(hS0 _).1 ev.h]; exact x0
      have u0 : ∀ (ev : Ev (S 0)), ev.w.cell? ⟨b2, o2 + i * 6, none⟩ = some (.int .i64 y.target) := fun ev => by rw [(hS0 _).1 ev.h]; exact y0
      have v1 : ∀ (ev : Ev (S 0)), ev.w.cell? ⟨b, o + i * 6 + 1, none⟩ = some (.int .i64 x.level) := fun ev => by rw [(hS0 _).1 ev.h]; exact x1
      have u1 : ∀ (ev : Ev (S 0)), ev.w.cell? ⟨b2, o2 + i * 6 + 1, none⟩ = some (.int .i64 y.level) := fun ev => by rw [(hS0 _).1 ev.h]; exact y1
      have v2 : ∀ (ev : Ev (S 0)), ev.w.cell? ⟨b, o + i * 6 + 2, none⟩ = some (.int .i64 x.item) := fun ev => by rw [(hS0 _).1 ev.h]; exact x2
      have u2 : ∀ (ev : Ev (S 0)), ev.w.cell? ⟨b2, o2 + i * 6 + 2, none⟩ = some (.int .i64 y.item) := fun ev => by rw [(hS0 _).1 ev.h]; exact y2
      have v3 : ∀ (ev : Ev (S 0)), ev.w.cell? ⟨b, o + i * 6 + 3, none⟩ = some (.int .i64 x.chance.least) := fun ev => by rw [(hS0 _).1 ev.h]; exact x3
      have u3 : ∀ (ev : Ev (S 0)), ev.w.cell? ⟨b2, o2 + i * 6 + 3, none⟩ = some (.int .i64 y.chance.least) := fun ev => by rw [(hS0 _).1 ev.h]; exact y3
      have v4 : ∀ (ev : Ev (S 0)), ev.w.cell? ⟨b, o + i * 6 + 4, none⟩ = some (.int .i64 x.chance.most) := fun ev => by rw [(hS0 _).1 ev.h]; exact x4
      have u4 : ∀ (ev : Ev (S 0)), ev.w.cell? ⟨b2, o2 + i * 6 + 4, none⟩ = some (.int .i64 y.chance.most) := fun ev => by rw [(hS0 _).1 ev.h]; exact y4
      have v5 : ∀ (ev : Ev (S 0)), ev.w.cell? ⟨b, o + i * 6 + 5, none⟩ = some (.int .i64 x.chance.all) := fun ev => by rw [(hS0 _).1 ev.h]; exact x5
      have u5 : ∀ (ev : Ev (S 0)), ev.w.cell? ⟨b2, o2 + i * 6 + 5, none⟩ = some (.int .i64 y.chance.all) := fun ev => by rw [(hS0 _).1 ev.h]; exact y5
      clear c1 c2 x0 x1 x2 x3 x4 x5 y0 y1 y2 y3 y4 y5
      have hevT := ev_true
      refine wp_region_ord S [(0, 0), (1, 1), (2, 0), (3, 0), (4, 1), (5, 0), (6, 1), (7, 0), (8, 0), (9, 1), (10, 0)] [] (by kernel_rfl) (by kernel_rfl) ((hS0 _).2 rfl) ?_
      intro _hev
      iterate 11 (first | (refine wpOrd_v rfl rfl ?_; intro K hK; go_big_quiet_op; go_big_quiet_on) | (refine wpOrd_q rfl rfl ?_; intro K hK; go_big_quiet_op; go_big_quiet_on) | refine wpOrd_s (by decide) rfl rfl ?_)
      refine wpOrd_nil ?_
      clear hevT _hev
      clear hS0 S z1 z2 v0 u0 v1 u1 v2 u2 v3 u3 v4 u4 v5 u5
      go_wp2
      go_ret
      exact ⟨rfl, K2.thenN KD.out (Nat.le_refl _)⟩
    case pos =>
      rw [g0] at y0
      replace g0 := Lib.hid g0
      by_cases g1 : y.level = x.level
      case neg =>
        have hne : x ≠ y := fun e => g1 (by rw [e])
        have f1 : (x.level == y.level) = false := by simpa using Ne.symm g1
        obtain rfl : R = false := by rw [hR.out]; exact decide_eq_false fun e => t2.out hne (by rw [e])
        clear g1 hne
        obtain ⟨S, hS⟩ : ∃ S : Nat → World → Prop, S = fun _ w' => w' = wr.drew := ⟨_, rfl⟩
        have hS0 : ∀ w', S 0 w' ↔ w' = wr.drew := fun w' => by rw [hS]
        clear hS
        have z1 : ∀ (ev : Ev (S 0)) (i : Nat), ev.w.cell? ⟨b1, i, none⟩ = (#[.int .i64 l.items, .slice (some ⟨b, o, none⟩) l.facts.length fc, .slice ma l.motions.length mc, .slice sa l.sent.length sc] : Array Value)[i]? := fun ev i => by rw [(hS0 _).1 ev.h]; exact c1 i
        have z2 : ∀ (ev : Ev (S 0)) (i : Nat), ev.w.cell? ⟨b1 + 1, i, none⟩ = (#[.int .i64 l.items, .slice (some ⟨b2, o2, none⟩) l.facts.length fc2, .slice ma2 l.motions.length mc2, .slice sa2 l.sent.length sc2] : Array Value)[i]? := fun ev i => by rw [(hS0 _).1 ev.h]; exact c2 i
        have v0 : ∀ (ev : Ev (S 0)), ev.w.cell? ⟨b, o + i * 6, none⟩ = some (.int .i64 x.target) := fun ev => by rw [(hS0 _).1 ev.h]; exact x0
        have u0 : ∀ (ev : Ev (S 0)), ev.w.cell? ⟨b2, o2 + i * 6, none⟩ = some (.int .i64 x.target) := fun ev => by rw [(hS0 _).1 ev.h]; exact y0
        have v1 : ∀ (ev : Ev (S 0)), ev.w.cell? ⟨b, o + i * 6 + 1, none⟩ = some (.int .i64 x.level) := fun ev => by rw [(hS0 _).1 ev.h]; exact x1
        have u1 : ∀ (ev : Ev (S 0)), ev.w.cell? ⟨b2, o2 + i * 6 + 1, none⟩ = some (.int .i64 y.level) := fun ev => by rw [(hS0 _).1 ev.h]; exact y1
        have v2 : ∀ (ev : Ev (S 0)), ev.w.cell? ⟨b, o + i * 6 + 2, none⟩ = some (.int .i64 x.item) := fun ev => by rw [(hS0 _).1 ev.h]; exact x2
        have u2 : ∀ (ev : Ev (S 0)), ev.w.cell? ⟨b2, o2 + i * 6 + 2, none⟩ = some (.int .i64 y.item) := fun ev => by rw [(hS0 _).1 ev.h]; exact y2
        have v3 : ∀ (ev : Ev (S 0)), ev.w.cell? ⟨b, o + i * 6 + 3, none⟩ = some (.int .i64 x.chance.least) := fun ev => by rw [(hS0 _).1 ev.h]; exact x3
        have u3 : ∀ (ev : Ev (S 0)), ev.w.cell? ⟨b2, o2 + i * 6 + 3, none⟩ = some (.int .i64 y.chance.least) := fun ev => by rw [(hS0 _).1 ev.h]; exact y3
        have v4 : ∀ (ev : Ev (S 0)), ev.w.cell? ⟨b, o + i * 6 + 4, none⟩ = some (.int .i64 x.chance.most) := fun ev => by rw [(hS0 _).1 ev.h]; exact x4
        have u4 : ∀ (ev : Ev (S 0)), ev.w.cell? ⟨b2, o2 + i * 6 + 4, none⟩ = some (.int .i64 y.chance.most) := fun ev => by rw [(hS0 _).1 ev.h]; exact y4
        have v5 : ∀ (ev : Ev (S 0)), ev.w.cell? ⟨b, o + i * 6 + 5, none⟩ = some (.int .i64 x.chance.all) := fun ev => by rw [(hS0 _).1 ev.h]; exact x5
        have u5 : ∀ (ev : Ev (S 0)), ev.w.cell? ⟨b2, o2 + i * 6 + 5, none⟩ = some (.int .i64 y.chance.all) := fun ev => by rw [(hS0 _).1 ev.h]; exact y5
        clear c1 c2 x0 x1 x2 x3 x4 x5 y0 y1 y2 y3 y4 y5
        have hevT := ev_true
        refine wp_region_ord S [(0, 0), (1, 1), (2, 0), (3, 0), (4, 1), (5, 0), (6, 1), (7, 0), (8, 0), (9, 1), (10, 0)] [] (by kernel_rfl) (by kernel_rfl) ((hS0 _).2 rfl) ?_
        intro _hev
        iterate 11 (first | (refine wpOrd_v rfl rfl ?_; intro K hK; go_big_quiet_op; go_big_quiet_on) | (refine wpOrd_q rfl rfl ?_; intro K hK; go_big_quiet_op; go_big_quiet_on) | refine wpOrd_s (by decide) rfl rfl ?_)
        refine wpOrd_nil ?_
        clear hevT _hev
        clear hS0 S z1 z2 v0 u0 v1 u1 v2 u2 v3 u3 v4 u4 v5 u5
        go_wp2
        go_ret
        exact ⟨rfl, K2.thenN KD.out (Nat.le_refl _)⟩
      case pos =>
        rw [g1] at y1
        replace g1 := Lib.hid g1
        by_cases g2 : y.item = x.item
        case neg =>
          have hne : x ≠ y := fun e => g2 (by rw [e])
          have f2 : (x.item == y.item) = false := by simpa using Ne.symm g2
          obtain rfl : R = false := by rw [hR.out]; exact decide_eq_false fun e => t2.out hne (by rw [e])
          clear g2 hne
          obtain ⟨S, hS⟩ : ∃ S : Nat → World → Prop, S = fun _ w' => w' = wr.drew := ⟨_, rfl⟩
          have hS0 : ∀ w', S 0 w' ↔ w' = wr.drew := fun w' => by rw [hS]
          clear hS
          have z1 : ∀ (ev : Ev (S 0)) (i : Nat), ev.w.cell? ⟨b1, i, none⟩ = (#[.int .i64 l.items, .slice (some ⟨b, o, none⟩) l.facts.length fc, .slice ma l.motions.length mc, .slice sa l.sent.length sc] : Array Value)[i]? := fun ev i => by rw [(hS0 _).1 ev.h]; exact c1 i
          have z2 : ∀ (ev : Ev (S 0)) (i : Nat), ev.w.cell? ⟨b1 + 1, i, none⟩ = (#[.int .i64 l.items, .slice (some ⟨b2, o2, none⟩) l.facts.length fc2, .slice ma2 l.motions.length mc2, .slice sa2 l.sent.length sc2] : Array Value)[i]? := fun ev i => by rw [(hS0 _).1 ev.h]; exact c2 i
          have v0 : ∀ (ev : Ev (S 0)), ev.w.cell? ⟨b, o + i * 6, none⟩ = some (.int .i64 x.target) := fun ev => by rw [(hS0 _).1 ev.h]; exact x0
          have u0 : ∀ (ev : Ev (S 0)), ev.w.cell? ⟨b2, o2 + i * 6, none⟩ = some (.int .i64 x.target) := fun ev => by rw [(hS0 _).1 ev.h]; exact y0
          have v1 : ∀ (ev : Ev (S 0)), ev.w.cell? ⟨b, o + i * 6 + 1, none⟩ = some (.int .i64 x.level) := fun ev => by rw [(hS0 _).1 ev.h]; exact x1
          have u1 : ∀ (ev : Ev (S 0)), ev.w.cell? ⟨b2, o2 + i * 6 + 1, none⟩ = some (.int .i64 x.level) := fun ev => by rw [(hS0 _).1 ev.h]; exact y1
          have v2 : ∀ (ev : Ev (S 0)), ev.w.cell? ⟨b, o + i * 6 + 2, none⟩ = some (.int .i64 x.item) := fun ev => by rw [(hS0 _).1 ev.h]; exact x2
          have u2 : ∀ (ev : Ev (S 0)), ev.w.cell? ⟨b2, o2 + i * 6 + 2, none⟩ = some (.int .i64 y.item) := fun ev => by rw [(hS0 _).1 ev.h]; exact y2
          have v3 : ∀ (ev : Ev (S 0)), ev.w.cell? ⟨b, o + i * 6 + 3, none⟩ = some (.int .i64 x.chance.least) := fun ev => by rw [(hS0 _).1 ev.h]; exact x3
          have u3 : ∀ (ev : Ev (S 0)), ev.w.cell? ⟨b2, o2 + i * 6 + 3, none⟩ = some (.int .i64 y.chance.least) := fun ev => by rw [(hS0 _).1 ev.h]; exact y3
          have v4 : ∀ (ev : Ev (S 0)), ev.w.cell? ⟨b, o + i * 6 + 4, none⟩ = some (.int .i64 x.chance.most) := fun ev => by rw [(hS0 _).1 ev.h]; exact x4
          have u4 : ∀ (ev : Ev (S 0)), ev.w.cell? ⟨b2, o2 + i * 6 + 4, none⟩ = some (.int .i64 y.chance.most) := fun ev => by rw [(hS0 _).1 ev.h]; exact y4
          have v5 : ∀ (ev : Ev (S 0)), ev.w.cell? ⟨b, o + i * 6 + 5, none⟩ = some (.int .i64 x.chance.all) := fun ev => by rw [(hS0 _).1 ev.h]; exact x5
          have u5 : ∀ (ev : Ev (S 0)), ev.w.cell? ⟨b2, o2 + i * 6 + 5, none⟩ = some (.int .i64 y.chance.all) := fun ev => by rw [(hS0 _).1 ev.h]; exact y5
          clear c1 c2 x0 x1 x2 x3 x4 x5 y0 y1 y2 y3 y4 y5
          have hevT := ev_true
          refine wp_region_ord S [(0, 0), (1, 1), (2, 0), (3, 0), (4, 1), (5, 0), (6, 1), (7, 0), (8, 0), (9, 1), (10, 0)] [] (by kernel_rfl) (by kernel_rfl) ((hS0 _).2 rfl) ?_
          intro _hev
          iterate 11 (first | (refine wpOrd_v rfl rfl ?_; intro K hK; go_big_quiet_op; go_big_quiet_on) | (refine wpOrd_q rfl rfl ?_; intro K hK; go_big_quiet_op; go_big_quiet_on) | refine wpOrd_s (by decide) rfl rfl ?_)
          refine wpOrd_nil ?_
          clear hevT _hev
          clear hS0 S z1 z2 v0 u0 v1 u1 v2 u2 v3 u3 v4 u4 v5 u5
          go_wp2
          go_ret
          exact ⟨rfl, K2.thenN KD.out (Nat.le_refl _)⟩
        case pos =>
          rw [g2] at y2
          replace g2 := Lib.hid g2
          by_cases g3 : y.chance.least = x.chance.least
          case neg =>
            have hne : x ≠ y := fun e => g3 (by rw [e])
            have f3 : (x.chance.least == y.chance.least) = false := by simpa using Ne.symm g3
            obtain rfl : R = false := by rw [hR.out]; exact decide_eq_false fun e => t2.out hne (by rw [e])
            clear g3 hne
            obtain ⟨S, hS⟩ : ∃ S : Nat → World → Prop, S = fun _ w' => w' = wr.drew := ⟨_, rfl⟩
            have hS0 : ∀ w', S 0 w' ↔ w' = wr.drew := fun w' => by rw [hS]
            clear hS
            have z1 : ∀ (ev : Ev (S 0)) (i : Nat), ev.w.cell? ⟨b1, i, none⟩ = (#[.int .i64 l.items, .slice (some ⟨b, o, none⟩) l.facts.length fc, .slice ma l.motions.length mc, .slice sa l.sent.length sc] : Array Value)[i]? := fun ev i => by rw [(hS0 _).1 ev.h]; exact c1 i
            have z2 : ∀ (ev : Ev (S 0)) (i : Nat), ev.w.cell? ⟨b1 + 1, i, none⟩ = (#[.int .i64 l.items, .slice (some ⟨b2, o2, none⟩) l.facts.length fc2, .slice ma2 l.motions.length mc2, .slice sa2 l.sent.length sc2] : Array Value)[i]? := fun ev i => by rw [(hS0 _).1 ev.h]; exact c2 i
            have v0 : ∀ (ev : Ev (S 0)), ev.w.cell? ⟨b, o + i * 6, none⟩ = some (.int .i64 x.target) := fun ev => by rw [(hS0 _).1 ev.h]; exact x0
            have u0 : ∀ (ev : Ev (S 0)), ev.w.cell? ⟨b2, o2 + i * 6, none⟩ = some (.int .i64 x.target) := fun ev => by rw [(hS0 _).1 ev.h]; exact y0
            have v1 : ∀ (ev : Ev (S 0)), ev.w.cell? ⟨b, o + i * 6 + 1, none⟩ = some (.int .i64 x.level) := fun ev => by rw [(hS0 _).1 ev.h]; exact x1
            have u1 : ∀ (ev : Ev (S 0)), ev.w.cell? ⟨b2, o2 + i * 6 + 1, none⟩ = some (.int .i64 x.level) := fun ev => by rw [(hS0 _).1 ev.h]; exact y1
            have v2 : ∀ (ev : Ev (S 0)), ev.w.cell? ⟨b, o + i * 6 + 2, none⟩ = some (.int .i64 x.item) := fun ev => by rw [(hS0 _).1 ev.h]; exact x2
            have u2 : ∀ (ev : Ev (S 0)), ev.w.cell? ⟨b2, o2 + i * 6 + 2, none⟩ = some (.int .i64 x.item) := fun ev => by rw [(hS0 _).1 ev.h]; exact y2
            have v3 : ∀ (ev : Ev (S 0)), ev.w.cell? ⟨b, o + i * 6 + 3, none⟩ = some (.int .i64 x.chance.least) := fun ev => by rw [(hS0 _).1 ev.h]; exact x3
            have u3 : ∀ (ev : Ev (S 0)), ev.w.cell? ⟨b2, o2 + i * 6 + 3, none⟩ = some (.int .i64 y.chance.least) := fun ev => by rw [(hS0 _).1 ev.h]; exact y3
            have v4 : ∀ (ev : Ev (S 0)), ev.w.cell? ⟨b, o + i * 6 + 4, none⟩ = some (.int .i64 x.chance.most) := fun ev => by rw [(hS0 _).1 ev.h]; exact x4
            have u4 : ∀ (ev : Ev (S 0)), ev.w.cell? ⟨b2, o2 + i * 6 + 4, none⟩ = some (.int .i64 y.chance.most) := fun ev => by rw [(hS0 _).1 ev.h]; exact y4
            have v5 : ∀ (ev : Ev (S 0)), ev.w.cell? ⟨b, o + i * 6 + 5, none⟩ = some (.int .i64 x.chance.all) := fun ev => by rw [(hS0 _).1 ev.h]; exact x5
            have u5 : ∀ (ev : Ev (S 0)), ev.w.cell? ⟨b2, o2 + i * 6 + 5, none⟩ = some (.int .i64 y.chance.all) := fun ev => by rw [(hS0 _).1 ev.h]; exact y5
            clear c1 c2 x0 x1 x2 x3 x4 x5 y0 y1 y2 y3 y4 y5
            have hevT := ev_true
            refine wp_region_ord S [(0, 0), (1, 1), (2, 0), (3, 0), (4, 1), (5, 0), (6, 1), (7, 0), (8, 0), (9, 1), (10, 0)] [] (by kernel_rfl) (by kernel_rfl) ((hS0 _).2 rfl) ?_
            intro _hev
            iterate 11 (first | (refine wpOrd_v rfl rfl ?_; intro K hK; go_big_quiet_op; go_big_quiet_on) | (refine wpOrd_q rfl rfl ?_; intro K hK; go_big_quiet_op; go_big_quiet_on) | refine wpOrd_s (by decide) rfl rfl ?_)
            refine wpOrd_nil ?_
            clear hevT _hev
            clear hS0 S z1 z2 v0 u0 v1 u1 v2 u2 v3 u3 v4 u4 v5 u5
            go_wp2
            go_ret
            exact ⟨rfl, K2.thenN KD.out (Nat.le_refl _)⟩
          case pos =>
            rw [g3] at y3
            replace g3 := Lib.hid g3
            by_cases g4 : y.chance.most = x.chance.most
            case neg =>
              have hne : x ≠ y := fun e => g4 (by rw [e])
              have f4 : (x.chance.most == y.chance.most) = false := by simpa using Ne.symm g4
              obtain rfl : R = false := by rw [hR.out]; exact decide_eq_false fun e => t2.out hne (by rw [e])
              clear g4 hne
              obtain ⟨S, hS⟩ : ∃ S : Nat → World → Prop, S = fun _ w' => w' = wr.drew := ⟨_, rfl⟩
              have hS0 : ∀ w', S 0 w' ↔ w' = wr.drew := fun w' => by rw [hS]
              clear hS
              have z1 : ∀ (ev : Ev (S 0)) (i : Nat), ev.w.cell? ⟨b1, i, none⟩ = (#[.int .i64 l.items, .slice (some ⟨b, o, none⟩) l.facts.length fc, .slice ma l.motions.length mc, .slice sa l.sent.length sc] : Array Value)[i]? := fun ev i => by rw [(hS0 _).1 ev.h]; exact c1 i
              have z2 : ∀ (ev : Ev (S 0)) (i : Nat), ev.w.cell? ⟨b1 + 1, i, none⟩ = (#[.int .i64 l.items, .slice (some ⟨b2, o2, none⟩) l.facts.length fc2, .slice ma2 l.motions.length mc2, .slice sa2 l.sent.length sc2] : Array Value)[i]? := fun ev i => by rw [(hS0 _).1 ev.h]; exact c2 i
              have v0 : ∀ (ev : Ev (S 0)), ev.w.cell? ⟨b, o + i * 6, none⟩ = some (.int .i64 x.target) := fun ev => by rw [(hS0 _).1 ev.h]; exact x0
              have u0 : ∀ (ev : Ev (S 0)), ev.w.cell? ⟨b2, o2 + i * 6, none⟩ = some (.int .i64 x.target) := fun ev => by rw [(hS0 _).1 ev.h]; exact y0
              have v1 : ∀ (ev : Ev (S 0)), ev.w.cell? ⟨b, o + i * 6 + 1, none⟩ = some (.int .i64 x.level) := fun ev => by rw [(hS0 _).1 ev.h]; exact x1
              have u1 : ∀ (ev : Ev (S 0)), ev.w.cell? ⟨b2, o2 + i * 6 + 1, none⟩ = some (.int .i64 x.level) := fun ev => by rw [(hS0 _).1 ev.h]; exact y1
              have v2 : ∀ (ev : Ev (S 0)), ev.w.cell? ⟨b, o + i * 6 + 2, none⟩ = some (.int .i64 x.item) := fun ev => by rw [(hS0 _).1 ev.h]; exact x2
              have u2 : ∀ (ev : Ev (S 0)), ev.w.cell? ⟨b2, o2 + i * 6 + 2, none⟩ = some (.int .i64 x.item) := fun ev => by rw [(hS0 _).1 ev.h]; exact y2
              have v3 : ∀ (ev : Ev (S 0)), ev.w.cell? ⟨b, o + i * 6 + 3, none⟩ = some (.int .i64 x.chance.least) := fun ev => by rw [(hS0 _).1 ev.h]; exact x3
              have u3 : ∀ (ev : Ev (S 0)), ev.w.cell? ⟨b2, o2 + i * 6 + 3, none⟩ = some (.int .i64 x.chance.least) := fun ev => by rw [(hS0 _).1 ev.h]; exact y3
              have v4 : ∀ (ev : Ev (S 0)), ev.w.cell? ⟨b, o + i * 6 + 4, none⟩ = some (.int .i64 x.chance.most) := fun ev => by rw [(hS0 _).1 ev.h]; exact x4
              have u4 : ∀ (ev : Ev (S 0)), ev.w.cell? ⟨b2, o2 + i * 6 + 4, none⟩ = some (.int .i64 y.chance.most) := fun ev => by rw [(hS0 _).1 ev.h]; exact y4
              have v5 : ∀ (ev : Ev (S 0)), ev.w.cell? ⟨b, o + i * 6 + 5, none⟩ = some (.int .i64 x.chance.all) := fun ev => by rw [(hS0 _).1 ev.h]; exact x5
              have u5 : ∀ (ev : Ev (S 0)), ev.w.cell? ⟨b2, o2 + i * 6 + 5, none⟩ = some (.int .i64 y.chance.all) := fun ev => by rw [(hS0 _).1 ev.h]; exact y5
              clear c1 c2 x0 x1 x2 x3 x4 x5 y0 y1 y2 y3 y4 y5
              have hevT := ev_true
              refine wp_region_ord S [(0, 0), (1, 1), (2, 0), (3, 0), (4, 1), (5, 0), (6, 1), (7, 0), (8, 0), (9, 1), (10, 0)] [] (by kernel_rfl) (by kernel_rfl) ((hS0 _).2 rfl) ?_
              intro _hev
              iterate 11 (first | (refine wpOrd_v rfl rfl ?_; intro K hK; go_big_quiet_op; go_big_quiet_on) | (refine wpOrd_q rfl rfl ?_; intro K hK; go_big_quiet_op; go_big_quiet_on) | refine wpOrd_s (by decide) rfl rfl ?_)
              refine wpOrd_nil ?_
              clear hevT _hev
              clear hS0 S z1 z2 v0 u0 v1 u1 v2 u2 v3 u3 v4 u4 v5 u5
              go_wp2
              go_ret
              exact ⟨rfl, K2.thenN KD.out (Nat.le_refl _)⟩
            case pos =>
              rw [g4] at y4
              replace g4 := Lib.hid g4
              by_cases g5 : y.chance.all = x.chance.all
              case neg =>
                have hne : x ≠ y := fun e => g5 (by rw [e])
                have f5 : (x.chance.all == y.chance.all) = false := by simpa using Ne.symm g5
                obtain rfl : R = false := by rw [hR.out]; exact decide_eq_false fun e => t2.out hne (by rw [e])
                clear g5 hne
                obtain ⟨S, hS⟩ : ∃ S : Nat → World → Prop, S = fun _ w' => w' = wr.drew := ⟨_, rfl⟩
                have hS0 : ∀ w', S 0 w' ↔ w' = wr.drew := fun w' => by rw [hS]
                clear hS
                have z1 : ∀ (ev : Ev (S 0)) (i : Nat), ev.w.cell? ⟨b1, i, none⟩ = (#[.int .i64 l.items, .slice (some ⟨b, o, none⟩) l.facts.length fc, .slice ma l.motions.length mc, .slice sa l.sent.length sc] : Array Value)[i]? := fun ev i => by rw [(hS0 _).1 ev.h]; exact c1 i
                have z2 : ∀ (ev : Ev (S 0)) (i : Nat), ev.w.cell? ⟨b1 + 1, i, none⟩ = (#[.int .i64 l.items, .slice (some ⟨b2, o2, none⟩) l.facts.length fc2, .slice ma2 l.motions.length mc2, .slice sa2 l.sent.length sc2] : Array Value)[i]? := fun ev i => by rw [(hS0 _).1 ev.h]; exact c2 i
                have v0 : ∀ (ev : Ev (S 0)), ev.w.cell? ⟨b, o + i * 6, none⟩ = some (.int .i64 x.target) := fun ev => by rw [(hS0 _).1 ev.h]; exact x0
                have u0 : ∀ (ev : Ev (S 0)), ev.w.cell? ⟨b2, o2 + i * 6, none⟩ = some (.int .i64 x.target) := fun ev => by rw [(hS0 _).1 ev.h]; exact y0
                have v1 : ∀ (ev : Ev (S 0)), ev.w.cell? ⟨b, o + i * 6 + 1, none⟩ = some (.int .i64 x.level) := fun ev => by rw [(hS0 _).1 ev.h]; exact x1
                have u1 : ∀ (ev : Ev (S 0)), ev.w.cell? ⟨b2, o2 + i * 6 + 1, none⟩ = some (.int .i64 x.level) := fun ev => by rw [(hS0 _).1 ev.h]; exact y1
                have v2 : ∀ (ev : Ev (S 0)), ev.w.cell? ⟨b, o + i * 6 + 2, none⟩ = some (.int .i64 x.item) := fun ev => by rw [(hS0 _).1 ev.h]; exact x2
                have u2 : ∀ (ev : Ev (S 0)), ev.w.cell? ⟨b2, o2 + i * 6 + 2, none⟩ = some (.int .i64 x.item) := fun ev => by rw [(hS0 _).1 ev.h]; exact y2
                have v3 : ∀ (ev : Ev (S 0)), ev.w.cell? ⟨b, o + i * 6 + 3, none⟩ = some (.int .i64 x.chance.least) := fun ev => by rw [(hS0 _).1 ev.h]; exact x3
                have u3 : ∀ (ev : Ev (S 0)), ev.w.cell? ⟨b2, o2 + i * 6 + 3, none⟩ = some (.int .i64 x.chance.least) := fun ev => by rw [(hS0 _).1 ev.h]; exact y3
                have v4 : ∀ (ev : Ev (S 0)), ev.w.cell? ⟨b, o + i * 6 + 4, none⟩ = some (.int .i64 x.chance.most) := fun ev => by rw [(hS0 _).1 ev.h]; exact x4
                have u4 : ∀ (ev : Ev (S 0)), ev.w.cell? ⟨b2, o2 + i * 6 + 4, none⟩ = some (.int .i64 x.chance.most) := fun ev => by rw [(hS0 _).1 ev.h]; exact y4
                have v5 : ∀ (ev : Ev (S 0)), ev.w.cell? ⟨b, o + i * 6 + 5, none⟩ = some (.int .i64 x.chance.all) := fun ev => by rw [(hS0 _).1 ev.h]; exact x5
                have u5 : ∀ (ev : Ev (S 0)), ev.w.cell? ⟨b2, o2 + i * 6 + 5, none⟩ = some (.int .i64 y.chance.all) := fun ev => by rw [(hS0 _).1 ev.h]; exact y5
                clear c1 c2 x0 x1 x2 x3 x4 x5 y0 y1 y2 y3 y4 y5
                have hevT := ev_true
                refine wp_region_ord S [(0, 0), (1, 1), (2, 0), (3, 0), (4, 1), (5, 0), (6, 1), (7, 0), (8, 0), (9, 1), (10, 0)] [] (by kernel_rfl) (by kernel_rfl) ((hS0 _).2 rfl) ?_
                intro _hev
                iterate 11 (first | (refine wpOrd_v rfl rfl ?_; intro K hK; go_big_quiet_op; go_big_quiet_on) | (refine wpOrd_q rfl rfl ?_; intro K hK; go_big_quiet_op; go_big_quiet_on) | refine wpOrd_s (by decide) rfl rfl ?_)
                refine wpOrd_nil ?_
                clear hevT _hev
                clear hS0 S z1 z2 v0 u0 v1 u1 v2 u2 v3 u3 v4 u4 v5 u5
                go_wp2
                go_ret
                exact ⟨rfl, K2.thenN KD.out (Nat.le_refl _)⟩
              case pos =>
                rw [g5] at y5
                replace g5 := Lib.hid g5
                have he : x = y := by
                  have p0 := g0.out; have p1 := g1.out; have p2 := g2.out; have p3 := g3.out; have p4 := g4.out; have p5 := g5.out
                  obtain ⟨a, b, c, d, e, f⟩ := x; obtain ⟨a2, b2, c2, d2, e2, f2⟩ := y; simp only at p0 p1 p2 p3 p4 p5; subst p0 p1 p2 p3 p4 p5; rfl
                replace q1 := Lib.hid (q1.out he)
                clear he t2 g0 g1 g2 g3 g4 g5
                obtain ⟨S, hS⟩ : ∃ S : Nat → World → Prop, S = fun _ w' => w' = wr.drew := ⟨_, rfl⟩
                have hS0 : ∀ w', S 0 w' ↔ w' = wr.drew := fun w' => by rw [hS]
                clear hS
                have z1 : ∀ (ev : Ev (S 0)) (i : Nat), ev.w.cell? ⟨b1, i, none⟩ = (#[.int .i64 l.items, .slice (some ⟨b, o, none⟩) l.facts.length fc, .slice ma l.motions.length mc, .slice sa l.sent.length sc] : Array Value)[i]? := fun ev i => by rw [(hS0 _).1 ev.h]; exact c1 i
                have z2 : ∀ (ev : Ev (S 0)) (i : Nat), ev.w.cell? ⟨b1 + 1, i, none⟩ = (#[.int .i64 l.items, .slice (some ⟨b2, o2, none⟩) l.facts.length fc2, .slice ma2 l.motions.length mc2, .slice sa2 l.sent.length sc2] : Array Value)[i]? := fun ev i => by rw [(hS0 _).1 ev.h]; exact c2 i
                have v0 : ∀ (ev : Ev (S 0)), ev.w.cell? ⟨b, o + i * 6, none⟩ = some (.int .i64 x.target) := fun ev => by rw [(hS0 _).1 ev.h]; exact x0
                have u0 : ∀ (ev : Ev (S 0)), ev.w.cell? ⟨b2, o2 + i * 6, none⟩ = some (.int .i64 x.target) := fun ev => by rw [(hS0 _).1 ev.h]; exact y0
                have v1 : ∀ (ev : Ev (S 0)), ev.w.cell? ⟨b, o + i * 6 + 1, none⟩ = some (.int .i64 x.level) := fun ev => by rw [(hS0 _).1 ev.h]; exact x1
                have u1 : ∀ (ev : Ev (S 0)), ev.w.cell? ⟨b2, o2 + i * 6 + 1, none⟩ = some (.int .i64 x.level) := fun ev => by rw [(hS0 _).1 ev.h]; exact y1
                have v2 : ∀ (ev : Ev (S 0)), ev.w.cell? ⟨b, o + i * 6 + 2, none⟩ = some (.int .i64 x.item) := fun ev => by rw [(hS0 _).1 ev.h]; exact x2
                have u2 : ∀ (ev : Ev (S 0)), ev.w.cell? ⟨b2, o2 + i * 6 + 2, none⟩ = some (.int .i64 x.item) := fun ev => by rw [(hS0 _).1 ev.h]; exact y2
                have v3 : ∀ (ev : Ev (S 0)), ev.w.cell? ⟨b, o + i * 6 + 3, none⟩ = some (.int .i64 x.chance.least) := fun ev => by rw [(hS0 _).1 ev.h]; exact x3
                have u3 : ∀ (ev : Ev (S 0)), ev.w.cell? ⟨b2, o2 + i * 6 + 3, none⟩ = some (.int .i64 x.chance.least) := fun ev => by rw [(hS0 _).1 ev.h]; exact y3
                have v4 : ∀ (ev : Ev (S 0)), ev.w.cell? ⟨b, o + i * 6 + 4, none⟩ = some (.int .i64 x.chance.most) := fun ev => by rw [(hS0 _).1 ev.h]; exact x4
                have u4 : ∀ (ev : Ev (S 0)), ev.w.cell? ⟨b2, o2 + i * 6 + 4, none⟩ = some (.int .i64 x.chance.most) := fun ev => by rw [(hS0 _).1 ev.h]; exact y4
                have v5 : ∀ (ev : Ev (S 0)), ev.w.cell? ⟨b, o + i * 6 + 5, none⟩ = some (.int .i64 x.chance.all) := fun ev => by rw [(hS0 _).1 ev.h]; exact x5
                have u5 : ∀ (ev : Ev (S 0)), ev.w.cell? ⟨b2, o2 + i * 6 + 5, none⟩ = some (.int .i64 x.chance.all) := fun ev => by rw [(hS0 _).1 ev.h]; exact y5
                clear c1 c2 x0 x1 x2 x3 x4 x5 y0 y1 y2 y3 y4 y5
                have hevT := ev_true
                refine wp_region_ord S [(0, 0), (1, 1), (2, 0), (3, 0), (4, 1), (5, 0), (6, 1), (7, 0), (8, 0), (9, 1), (10, 0)] [] (by kernel_rfl) (by kernel_rfl) ((hS0 _).2 rfl) ?_
                intro _hev
                iterate 11 (first | (refine wpOrd_v rfl rfl ?_; intro K hK; go_big_quiet_op; go_big_quiet_on) | (refine wpOrd_q rfl rfl ?_; intro K hK; go_big_quiet_op; go_big_quiet_on) | refine wpOrd_s (by decide) rfl rfl ?_)
                refine wpOrd_nil ?_
                clear hevT _hev
                clear hS0 S z1 z2 v0 u0 v1 u1 v2 u2 v3 u3 v4 u4 v5 u5
                go_wp2
                go_roundw
                case rel => exact ⟨i + 1, by congr 1, h7.out, q1.out, KD.out⟩
                case measure => have := h7.out; simp [intOf]; omega
  case neg =>
  have hi' : ¬ (i : Int) < (l.facts.length : Int) := by omega
  have e_facts : l.facts = l2.facts := by
    have hl9 := g_facts.out
    rw [List.take_of_length_le (by omega), List.take_of_length_le (by omega)] at hj
    exact hj
  replace e_facts := Lib.hid e_facts
  replace B1 := B1.kpN KK
  replace B2 := B2.kpN KK
  replace T1 := T1.next KK
  replace T2 := T2.next KK
  replace K2 := K2.thenN KK (Nat.le_refl _)
  clear hj hi h7 KK
  clear c1 c2
  rename World => w2
  have c1 := fun i => B1.cell i
  have c2 := fun i => B2.cell i
  go_wp2_with fail
  go_loopw [6] (fun v wr => EqAt l.motions l2.motions w2 v wr) (fun v _ => l.motions.length - (intOf v).toNat)
  case atStart => exact ⟨0, rfl, by omega, rfl, Kp.refl _ _ _⟩
  case round =>
  clear c1 c2
  obtain ⟨i, rfl, hi, hj, KK⟩ := hrel
  have c1 := fun i => (B1.kpN KK).cell i
  have c2 := fun i => (B2.kpN KK).cell i
  by_cases h7 : i < l.motions.length
  case pos =>
    have h8 : i < l2.motions.length := by have := g_motions.out; omega
    obtain ⟨b, o, A, q, eM, -, lo, hc⟩ := (T1.kpN KK).mot i h7
    obtain ⟨b2, o2, A2, q2, eM2, -, lo2, hc2⟩ := (T2.kpN KK).mot i h8
    have hi' : (i : Int) < (l.motions.length : Int) := by omega
    have t1 := take_more hj h7 h8
    have t2 := neq_at (xs := l.motions) (ys := l2.motions) h7 h8
    have vb := T1.vs i
    have vb2 := T2.vs i
    have ev : votedOf l i = l.motions[i].voted := by unfold votedOf; rw [List.getElem?_eq_getElem h7]; rfl
    have ev2 : votedOf l2 i = l2.motions[i].voted := by unfold votedOf; rw [List.getElem?_eq_getElem h8]; rfl
    rw [ev] at vb
    rw [ev2] at vb2
    obtain ⟨m, hm⟩ : ∃ a, a = l.motions[i] := ⟨_, rfl⟩
    obtain ⟨n, hn⟩ : ∃ a, a = l2.motions[i] := ⟨_, rfl⟩
    rw [← hm] at lo hc t1 t2 vb
    rw [← hn] at lo2 hc2 t1 t2 vb2
    clear ev ev2 hm hn hj
    obtain ⟨fa, fc, ma, mc, sa, sc, vo⟩ := L
    have eM' : ma = some ⟨b, o, none⟩ := eM
    subst eM'
    clear eM
    obtain ⟨fa2, fc2, ma2, mc2, sa2, sc2, vo2⟩ := L2
    have eM' : ma2 = some ⟨b2, o2, none⟩ := eM2
    subst eM'
    clear eM2
    have hcall := ref_sameMotion_any m n A A2 q q2 wr.drew (lo.rdN.kpN (Kp.refl _ _ _).drew) (lo2.rdN.kpN (Kp.refl _ _ _).drew) vb vb2
    obtain ⟨vl, hvl⟩ : ∃ a, a = m.voted.length := ⟨_, rfl⟩
    obtain ⟨vl2, hvl2⟩ : ∃ a, a = n.voted.length := ⟨_, rfl⟩
    rw [← hvl] at hc hcall
    rw [← hvl2] at hc2 hcall
    clear hvl hvl2 lo lo2 vb vb2
    have x0 : wr.cell? ⟨b, o + i * 8, none⟩ = some (.int .i64 m.target) := hc 0 _ rfl
    have x1 : wr.cell? ⟨b, o + i * 8 + 1, none⟩ = some (.int .i64 m.act) := by rw [Nat.add_assoc]; exact hc 1 _ rfl
    have x2 : wr.cell? ⟨b, o + i * 8 + 2, none⟩ = some (.int .i64 m.opened) := by rw [Nat.add_assoc]; exact hc 2 _ rfl
    have x3 : wr.cell? ⟨b, o + i * 8 + 3, none⟩ = some (.int .i64 m.state) := by rw [Nat.add_assoc]; exact hc 3 _ rfl
    have x4 : wr.cell? ⟨b, o + i * 8 + 4, none⟩ = some (.int .i64 m.yes) := by rw [Nat.add_assoc]; exact hc 4 _ rfl
    have x5 : wr.cell? ⟨b, o + i * 8 + 5, none⟩ = some (.int .i64 m.no) := by rw [Nat.add_assoc]; exact hc 5 _ rfl
    have x6 : wr.cell? ⟨b, o + i * 8 + 6, none⟩ = some (.slice A vl q) := by rw [Nat.add_assoc]; exact hc 6 _ rfl
    have x7 : wr.cell? ⟨b, o + i * 8 + 7, none⟩ = some (.int .i64 m.fact) := by rw [Nat.add_assoc]; exact hc 7 _ rfl
    have y0 : wr.cell? ⟨b2, o2 + i * 8, none⟩ = some (.int .i64 n.target) := hc2 0 _ rfl
    have y1 : wr.cell? ⟨b2, o2 + i * 8 + 1, none⟩ = some (.int .i64 n.act) := by rw [Nat.add_assoc]; exact hc2 1 _ rfl
    have y2 : wr.cell? ⟨b2, o2 + i * 8 + 2, none⟩ = some (.int .i64 n.opened) := by rw [Nat.add_assoc]; exact hc2 2 _ rfl
    have y3 : wr.cell? ⟨b2, o2 + i * 8 + 3, none⟩ = some (.int .i64 n.state) := by rw [Nat.add_assoc]; exact hc2 3 _ rfl
    have y4 : wr.cell? ⟨b2, o2 + i * 8 + 4, none⟩ = some (.int .i64 n.yes) := by rw [Nat.add_assoc]; exact hc2 4 _ rfl
    have y5 : wr.cell? ⟨b2, o2 + i * 8 + 5, none⟩ = some (.int .i64 n.no) := by rw [Nat.add_assoc]; exact hc2 5 _ rfl
    have y6 : wr.cell? ⟨b2, o2 + i * 8 + 6, none⟩ = some (.slice A2 vl2 q2) := by rw [Nat.add_assoc]; exact hc2 6 _ rfl
    have y7 : wr.cell? ⟨b2, o2 + i * 8 + 7, none⟩ = some (.int .i64 n.fact) := by rw [Nat.add_assoc]; exact hc2 7 _ rfl
    clear hc hc2
    replace t1 := Lib.hid t1
    replace t2 := Lib.hid t2
    replace hcall := Lib.hid hcall
    have KD := Lib.hid KK.drew
    replace h7 := Lib.hid h7
    replace T1 := Lib.hid T1
    replace T2 := Lib.hid T2
    clear h8 hi
    go_upto_region 11 with (fail)
    obtain ⟨S, hS⟩ : ∃ S : Nat → World → Prop, S = fun _ w' => Kp wr.heap.size none wr w' := ⟨_, rfl⟩
    have hS0 : ∀ w', S 0 w' ↔ Kp wr.heap.size none wr w' := fun w' => by rw [hS]
    clear hS
    have B1r := B1.kpN KK
    have B2r := B2.kpN KK
    have z1 : ∀ (ev : Ev (S 0)) (i : Nat), ev.w.cell? ⟨b1, i, none⟩ = (#[.int .i64 l.items, .slice fa l.facts.length fc, .slice (some ⟨b, o, none⟩) l.motions.length mc, .slice sa l.sent.length sc] : Array Value)[i]? := fun ev i => (B1r.kpN ((hS0 _).1 ev.h)).cell i
    have z2 : ∀ (ev : Ev (S 0)) (i : Nat), ev.w.cell? ⟨b1 + 1, i, none⟩ = (#[.int .i64 l.items, .slice fa2 l.facts.length fc2, .slice (some ⟨b2, o2, none⟩) l.motions.length mc2, .slice sa2 l.sent.length sc2] : Array Value)[i]? := fun ev i => (B2r.kpN ((hS0 _).1 ev.h)).cell i
    have v0 : ∀ (ev : Ev (S 0)), ev.w.cell? ⟨b, o + i * 8, none⟩ = some (.int .i64 m.target) := fun ev => ((hS0 _).1 ev.h).cellN x0
    have v1 : ∀ (ev : Ev (S 0)), ev.w.cell? ⟨b, o + i * 8 + 1, none⟩ = some (.int .i64 m.act) := fun ev => ((hS0 _).1 ev.h).cellN x1
    have v2 : ∀ (ev : Ev (S 0)), ev.w.cell? ⟨b, o + i * 8 + 2, none⟩ = some (.int .i64 m.opened) := fun ev => ((hS0 _).1 ev.h).cellN x2
    have v3 : ∀ (ev : Ev (S 0)), ev.w.cell? ⟨b, o + i * 8 + 3, none⟩ = some (.int .i64 m.state) := fun ev => ((hS0 _).1 ev.h).cellN x3
    have v4 : ∀ (ev : Ev (S 0)), ev.w.cell? ⟨b, o + i * 8 + 4, none⟩ = some (.int .i64 m.yes) := fun ev => ((hS0 _).1 ev.h).cellN x4
    have v5 : ∀ (ev : Ev (S 0)), ev.w.cell? ⟨b, o + i * 8 + 5, none⟩ = some (.int .i64 m.no) := fun ev => ((hS0 _).1 ev.h).cellN x5
    have v6 : ∀ (ev : Ev (S 0)), ev.w.cell? ⟨b, o + i * 8 + 6, none⟩ = some (.slice A vl q) := fun ev => ((hS0 _).1 ev.h).cellN x6
    have v7 : ∀ (ev : Ev (S 0)), ev.w.cell? ⟨b, o + i * 8 + 7, none⟩ = some (.int .i64 m.fact) := fun ev => ((hS0 _).1 ev.h).cellN x7
    have u0 : ∀ (ev : Ev (S 0)), ev.w.cell? ⟨b2, o2 + i * 8, none⟩ = some (.int .i64 n.target) := fun ev => ((hS0 _).1 ev.h).cellN y0
    have u1 : ∀ (ev : Ev (S 0)), ev.w.cell? ⟨b2, o2 + i * 8 + 1, none⟩ = some (.int .i64 n.act) := fun ev => ((hS0 _).1 ev.h).cellN y1
    have u2 : ∀ (ev : Ev (S 0)), ev.w.cell? ⟨b2, o2 + i * 8 + 2, none⟩ = some (.int .i64 n.opened) := fun ev => ((hS0 _).1 ev.h).cellN y2
    have u3 : ∀ (ev : Ev (S 0)), ev.w.cell? ⟨b2, o2 + i * 8 + 3, none⟩ = some (.int .i64 n.state) := fun ev => ((hS0 _).1 ev.h).cellN y3
    have u4 : ∀ (ev : Ev (S 0)), ev.w.cell? ⟨b2, o2 + i * 8 + 4, none⟩ = some (.int .i64 n.yes) := fun ev => ((hS0 _).1 ev.h).cellN y4
    have u5 : ∀ (ev : Ev (S 0)), ev.w.cell? ⟨b2, o2 + i * 8 + 5, none⟩ = some (.int .i64 n.no) := fun ev => ((hS0 _).1 ev.h).cellN y5
    have u6 : ∀ (ev : Ev (S 0)), ev.w.cell? ⟨b2, o2 + i * 8 + 6, none⟩ = some (.slice A2 vl2 q2) := fun ev => ((hS0 _).1 ev.h).cellN y6
    have u7 : ∀ (ev : Ev (S 0)), ev.w.cell? ⟨b2, o2 + i * 8 + 7, none⟩ = some (.int .i64 n.fact) := fun ev => ((hS0 _).1 ev.h).cellN y7
    clear c1 c2 x0 y0 x1 y1 x2 y2 x3 y3 x4 y4 x5 y5 x6 y6 x7 y7
    by_cases hq : m = n
    case pos =>
      replace t1 := Lib.hid (t1.out hq)
      replace hcall := Lib.hid (show _ from (by have := hcall.out; rw [decide_eq_true hq] at this; exact this))
      clear hq t2
      have hevT := ev_true
      refine wp_region_ord S [(0, 0), (1, 1), (2, 0), (3, 0), (4, 1), (5, 0), (6, 1), (7, 0), (8, 0), (9, 1), (10, 2), (11, 0)] [] (by kernel_rfl) (by kernel_rfl) ((hS0 _).2 (Kp.refl _ _ _).drew) ?_
      intro _hev
      iterate 10 (first | (refine wpOrd_v rfl rfl ?_; intro K hK; go_big_quiet_op; go_big_quiet_on) | (refine wpOrd_q rfl rfl ?_; intro K hK; go_big_quiet_op; go_big_quiet_on) | refine wpOrd_s (by decide) rfl rfl ?_)
      refine wpOrd_l rfl rfl ?_; intro K hK
      go_step
      refine hcall.out.mono ?_
      rintro e w6 ⟨rfl, k6⟩
      refine hK _ _ ((hS0 _).2 ((Kp.refl _ _ _).drew.thenN k6 (Nat.le_refl _))) ?_
      clear hK K
      iterate 1 (first | (refine wpOrd_v rfl rfl ?_; intro K hK; go_big_quiet_op; go_big_quiet_on) | (refine wpOrd_q rfl rfl ?_; intro K hK; go_big_quiet_op; go_big_quiet_on) | refine wpOrd_s (by decide) rfl rfl ?_)
      refine wpOrd_nil ?_
      clear hevT _hev
      clear hS0 S B1r B2r z1 z2 v0 u0 v1 u1 v2 u2 v3 u3 v4 u4 v5 u5 v6 u6 v7 u7
      go_wp2
      go_roundw
      case rel => exact ⟨i + 1, by congr 1, h7.out, t1.out, KD.out.thenN k6 (Nat.le_refl _)⟩
      case measure => have := h7.out; simp [intOf]; omega
    case neg =>
      replace t2 := t2.out hq
      replace hcall := Lib.hid (show _ from (by have := hcall.out; rw [decide_eq_false hq] at this; exact this))
      obtain rfl : R = false := by rw [hR.out]; exact decide_eq_false fun e => t2 (by rw [e])
      clear hq t1 t2
      have hevT := ev_true
      refine wp_region_ord S [(0, 0), (1, 1), (2, 0), (3, 0), (4, 1), (5, 0), (6, 1), (7, 0), (8, 0), (9, 1), (10, 2), (11, 0)] [] (by kernel_rfl) (by kernel_rfl) ((hS0 _).2 (Kp.refl _ _ _).drew) ?_
      intro _hev
      iterate 10 (first | (refine wpOrd_v rfl rfl ?_; intro K hK; go_big_quiet_op; go_big_quiet_on) | (refine wpOrd_q rfl rfl ?_; intro K hK; go_big_quiet_op; go_big_quiet_on) | refine wpOrd_s (by decide) rfl rfl ?_)
      refine wpOrd_l rfl rfl ?_; intro K hK
      go_step
      refine hcall.out.mono ?_
      rintro e w6 ⟨rfl, k6⟩
      refine hK _ _ ((hS0 _).2 ((Kp.refl _ _ _).drew.thenN k6 (Nat.le_refl _))) ?_
      clear hK K
      iterate 1 (first | (refine wpOrd_v rfl rfl ?_; intro K hK; go_big_quiet_op; go_big_quiet_on) | (refine wpOrd_q rfl rfl ?_; intro K hK; go_big_quiet_op; go_big_quiet_on) | refine wpOrd_s (by decide) rfl rfl ?_)
      refine wpOrd_nil ?_
      clear hevT _hev
      clear hS0 S B1r B2r z1 z2 v0 u0 v1 u1 v2 u2 v3 u3 v4 u4 v5 u5 v6 u6 v7 u7
      go_wp2
      go_ret
      exact ⟨rfl, (K2.thenN KD.out (Nat.le_refl _)).thenN k6 (Nat.le_refl _)⟩
  case neg =>
  have hi' : ¬ (i : Int) < (l.motions.length : Int) := by omega
  have e_motions : l.motions = l2.motions := by
    have hl9 := g_motions.out
    rw [List.take_of_length_le (by omega), List.take_of_length_le (by omega)] at hj
    exact hj
  replace e_motions := Lib.hid e_motions
  replace B1 := B1.kpN KK
  replace B2 := B2.kpN KK
  replace T1 := T1.next KK
  replace T2 := T2.next KK
  replace K2 := K2.thenN KK (Nat.le_refl _)
  clear hj hi h7 KK
  clear c1 c2
  rename World => w2
  have c1 := fun i => B1.cell i
  have c2 := fun i => B2.cell i
  go_wp2_with fail
  go_loopw [7] (fun v wr => EqAt l.sent l2.sent w2 v wr) (fun v _ => l.sent.length - (intOf v).toNat)
  case atStart => exact ⟨0, rfl, by omega, rfl, Kp.refl _ _ _⟩
  case round =>
  clear c1 c2
  obtain ⟨i, rfl, hi, hj, KK⟩ := hrel
  have c1 := fun i => (B1.kpN KK).cell i
  have c2 := fun i => (B2.kpN KK).cell i
  by_cases h7 : i < l.sent.length
  case pos =>
    have h8 : i < l2.sent.length := by have := g_sent.out; omega
    obtain ⟨b, o, eA, hb, -, hc⟩ := ((T1.kpN KK).s.rdN).at_ (by omega)
    obtain ⟨b2, o2, eA2, hb2, -, hc2⟩ := ((T2.kpN KK).s.rdN).at_ (by omega)
    have x0 : wr.cell? ⟨b, o + i * 4, none⟩ = some (.int .i64 (l.sent[i]).tick) := hc i h7 0 _ rfl
    have y0 : wr.cell? ⟨b2, o2 + i * 4, none⟩ = some (.int .i64 (l2.sent[i]).tick) := hc2 i h8 0 _ rfl
    have x1 : wr.cell? ⟨b, o + i * 4 + 1, none⟩ = some (.int .i64 (l.sent[i]).target) := by rw [Nat.add_assoc]; exact hc i h7 1 _ rfl
    have y1 : wr.cell? ⟨b2, o2 + i * 4 + 1, none⟩ = some (.int .i64 (l2.sent[i]).target) := by rw [Nat.add_assoc]; exact hc2 i h8 1 _ rfl
    have x2 : wr.cell? ⟨b, o + i * 4 + 2, none⟩ = some (.int .i64 (l.sent[i]).level) := by rw [Nat.add_assoc]; exact hc i h7 2 _ rfl
    have y2 : wr.cell? ⟨b2, o2 + i * 4 + 2, none⟩ = some (.int .i64 (l2.sent[i]).level) := by rw [Nat.add_assoc]; exact hc2 i h8 2 _ rfl
    have x3 : wr.cell? ⟨b, o + i * 4 + 3, none⟩ = some (.bool (l.sent[i]).back) := by rw [Nat.add_assoc]; exact hc i h7 3 _ rfl
    have y3 : wr.cell? ⟨b2, o2 + i * 4 + 3, none⟩ = some (.bool (l2.sent[i]).back) := by rw [Nat.add_assoc]; exact hc2 i h8 3 _ rfl
    have hi' : (i : Int) < (l.sent.length : Int) := by omega
    have q1 := take_more hj h7 h8
    have t2 := neq_at (xs := l.sent) (ys := l2.sent) h7 h8
    clear hc hc2 hj
    generalize l.sent[i] = x at x0 x1 x2 x3 q1 t2
    generalize l2.sent[i] = y at y0 y1 y2 y3 q1 t2
    obtain ⟨fa, fc, ma, mc, sa, sc, vo⟩ := L
    obtain ⟨fa2, fc2, ma2, mc2, sa2, sc2, vo2⟩ := L2
    have eA' : sa = some ⟨b, o, none⟩ := eA
    have eB' : sa2 = some ⟨b2, o2, none⟩ := eA2
    subst eA' eB'
    clear eA eA2
    replace q1 := Lib.hid q1
    replace t2 := Lib.hid t2
    have KD := Lib.hid KK.drew
    clear h8 hi hb hb2
    replace h7 := Lib.hid h7
    replace T1 := Lib.hid T1
    replace T2 := Lib.hid T2
    go_upto_region 16 with (fail)
    by_cases g0 : y.tick = x.tick
    case neg =>
      have hne : x ≠ y := fun e => g0 (by rw [e])
      have f0 : (x.tick == y.tick) = false := by simpa using Ne.symm g0
      obtain rfl : R = false := by rw [hR.out]; exact decide_eq_false fun e => t2.out hne (by rw [e])
      clear g0 hne
      obtain ⟨S, hS⟩ : ∃ S : Nat → World → Prop, S = fun _ w' => w' = wr.drew := ⟨_, rfl⟩
      have hS0 : ∀ w', S 0 w' ↔ w' = wr.drew := fun w' => by rw [hS]
      clear hS
      have z1 : ∀ (ev : Ev (S 0)) (i : Nat), ev.w.cell? ⟨b1, i, none⟩ = (#[.int .i64 l.items, .slice fa l.facts.length fc, .slice ma l.motions.length mc, .slice (some ⟨b, o, none⟩) l.sent.length sc] : Array Value)[i]? := fun ev i => by rw [(hS0 _).1 ev.h]; exact c1 i
      have z2 : ∀ (ev : Ev (S 0)) (i : Nat), ev.w.cell? ⟨b1 + 1, i, none⟩ = (#[.int .i64 l.items, .slice fa2 l.facts.length fc2, .slice ma2 l.motions.length mc2, .slice (some ⟨b2, o2, none⟩) l.sent.length sc2] : Array Value)[i]? := fun ev i => by rw [(hS0 _).1 ev.h]; exact c2 i
      have v0 : ∀ (ev : Ev (S 0)), ev.w.cell? ⟨b, o + i * 4, none⟩ = some (.int .i64 x.tick) := fun ev => by rw [(hS0 _).1 ev.h]; exact x0
      have u0 : ∀ (ev : Ev (S 0)), ev.w.cell? ⟨b2, o2 + i * 4, none⟩ = some (.int .i64 y.tick) := fun ev => by rw [(hS0 _).1 ev.h]; exact y0
      have v1 : ∀ (ev : Ev (S 0)), ev.w.cell? ⟨b, o + i * 4 + 1, none⟩ = some (.int .i64 x.target) := fun ev => by rw [(hS0 _).1 ev.h]; exact x1
      have u1 : ∀ (ev : Ev (S 0)), ev.w.cell? ⟨b2, o2 + i * 4 + 1, none⟩ = some (.int .i64 y.target) := fun ev => by rw [(hS0 _).1 ev.h]; exact y1
      have v2 : ∀ (ev : Ev (S 0)), ev.w.cell? ⟨b, o + i * 4 + 2, none⟩ = some (.int .i64 x.level) := fun ev => by rw [(hS0 _).1 ev.h]; exact x2
      have u2 : ∀ (ev : Ev (S 0)), ev.w.cell? ⟨b2, o2 + i * 4 + 2, none⟩ = some (.int .i64 y.level) := fun ev => by rw [(hS0 _).1 ev.h]; exact y2
      have v3 : ∀ (ev : Ev (S 0)), ev.w.cell? ⟨b, o + i * 4 + 3, none⟩ = some (.bool x.back) := fun ev => by rw [(hS0 _).1 ev.h]; exact x3
      have u3 : ∀ (ev : Ev (S 0)), ev.w.cell? ⟨b2, o2 + i * 4 + 3, none⟩ = some (.bool y.back) := fun ev => by rw [(hS0 _).1 ev.h]; exact y3
      clear c1 c2 x0 x1 x2 x3 y0 y1 y2 y3
      have hevT := ev_true
      refine wp_region_ord S [(0, 0), (1, 1), (2, 0), (3, 0), (4, 1), (5, 0), (6, 1), (7, 0), (8, 0), (9, 1), (10, 0)] [] (by kernel_rfl) (by kernel_rfl) ((hS0 _).2 rfl) ?_
      intro _hev
      iterate 11 (first | (refine wpOrd_v rfl rfl ?_; intro K hK; go_big_quiet_op; go_big_quiet_on) | (refine wpOrd_q rfl rfl ?_; intro K hK; go_big_quiet_op; go_big_quiet_on) | refine wpOrd_s (by decide) rfl rfl ?_)
      refine wpOrd_nil ?_
      clear hevT _hev
      clear hS0 S z1 z2 v0 u0 v1 u1 v2 u2 v3 u3
      go_wp2
      go_ret
      exact ⟨rfl, K2.thenN KD.out (Nat.le_refl _)⟩
    case pos =>
      rw [g0] at y0
      replace g0 := Lib.hid g0
      by_cases g1 : y.target = x.target
      case neg =>
        have hne : x ≠ y := fun e => g1 (by rw [e])
        have f1 : (x.target == y.target) = false := by simpa using Ne.symm g1
        obtain rfl : R = false := by rw [hR.out]; exact decide_eq_false fun e => t2.out hne (by rw [e])
        clear g1 hne
        obtain ⟨S, hS⟩ : ∃ S : Nat → World → Prop, S = fun _ w' => w' = wr.drew := ⟨_, rfl⟩
        have hS0 : ∀ w', S 0 w' ↔ w' = wr.drew := fun w' => by rw [hS]
        clear hS
        have z1 : ∀ (ev : Ev (S 0)) (i : Nat), ev.w.cell? ⟨b1, i, none⟩ = (#[.int .i64 l.items, .slice fa l.facts.length fc, .slice ma l.motions.length mc, .slice (some ⟨b, o, none⟩) l.sent.length sc] : Array Value)[i]? := fun ev i => by rw [(hS0 _).1 ev.h]; exact c1 i
        have z2 : ∀ (ev : Ev (S 0)) (i : Nat), ev.w.cell? ⟨b1 + 1, i, none⟩ = (#[.int .i64 l.items, .slice fa2 l.facts.length fc2, .slice ma2 l.motions.length mc2, .slice (some ⟨b2, o2, none⟩) l.sent.length sc2] : Array Value)[i]? := fun ev i => by rw [(hS0 _).1 ev.h]; exact c2 i
        have v0 : ∀ (ev : Ev (S 0)), ev.w.cell? ⟨b, o + i * 4, none⟩ = some (.int .i64 x.tick) := fun ev => by rw [(hS0 _).1 ev.h]; exact x0
        have u0 : ∀ (ev : Ev (S 0)), ev.w.cell? ⟨b2, o2 + i * 4, none⟩ = some (.int .i64 x.tick) := fun ev => by rw [(hS0 _).1 ev.h]; exact y0
        have v1 : ∀ (ev : Ev (S 0)), ev.w.cell? ⟨b, o + i * 4 + 1, none⟩ = some (.int .i64 x.target) := fun ev => by rw [(hS0 _).1 ev.h]; exact x1
        have u1 : ∀ (ev : Ev (S 0)), ev.w.cell? ⟨b2, o2 + i * 4 + 1, none⟩ = some (.int .i64 y.target) := fun ev => by rw [(hS0 _).1 ev.h]; exact y1
        have v2 : ∀ (ev : Ev (S 0)), ev.w.cell? ⟨b, o + i * 4 + 2, none⟩ = some (.int .i64 x.level) := fun ev => by rw [(hS0 _).1 ev.h]; exact x2
        have u2 : ∀ (ev : Ev (S 0)), ev.w.cell? ⟨b2, o2 + i * 4 + 2, none⟩ = some (.int .i64 y.level) := fun ev => by rw [(hS0 _).1 ev.h]; exact y2
        have v3 : ∀ (ev : Ev (S 0)), ev.w.cell? ⟨b, o + i * 4 + 3, none⟩ = some (.bool x.back) := fun ev => by rw [(hS0 _).1 ev.h]; exact x3
        have u3 : ∀ (ev : Ev (S 0)), ev.w.cell? ⟨b2, o2 + i * 4 + 3, none⟩ = some (.bool y.back) := fun ev => by rw [(hS0 _).1 ev.h]; exact y3
        clear c1 c2 x0 x1 x2 x3 y0 y1 y2 y3
        have hevT := ev_true
        refine wp_region_ord S [(0, 0), (1, 1), (2, 0), (3, 0), (4, 1), (5, 0), (6, 1), (7, 0), (8, 0), (9, 1), (10, 0)] [] (by kernel_rfl) (by kernel_rfl) ((hS0 _).2 rfl) ?_
        intro _hev
        iterate 11 (first | (refine wpOrd_v rfl rfl ?_; intro K hK; go_big_quiet_op; go_big_quiet_on) | (refine wpOrd_q rfl rfl ?_; intro K hK; go_big_quiet_op; go_big_quiet_on) | refine wpOrd_s (by decide) rfl rfl ?_)
        refine wpOrd_nil ?_
        clear hevT _hev
        clear hS0 S z1 z2 v0 u0 v1 u1 v2 u2 v3 u3
        go_wp2
        go_ret
        exact ⟨rfl, K2.thenN KD.out (Nat.le_refl _)⟩
      case pos =>
        rw [g1] at y1
        replace g1 := Lib.hid g1
        by_cases g2 : y.level = x.level
        case neg =>
          have hne : x ≠ y := fun e => g2 (by rw [e])
          have f2 : (x.level == y.level) = false := by simpa using Ne.symm g2
          obtain rfl : R = false := by rw [hR.out]; exact decide_eq_false fun e => t2.out hne (by rw [e])
          clear g2 hne
          obtain ⟨S, hS⟩ : ∃ S : Nat → World → Prop, S = fun _ w' => w' = wr.drew := ⟨_, rfl⟩
          have hS0 : ∀ w', S 0 w' ↔ w' = wr.drew := fun w' => by rw [hS]
          clear hS
          have z1 : ∀ (ev : Ev (S 0)) (i : Nat), ev.w.cell? ⟨b1, i, none⟩ = (#[.int .i64 l.items, .slice fa l.facts.length fc, .slice ma l.motions.length mc, .slice (some ⟨b, o, none⟩) l.sent.length sc] : Array Value)[i]? := fun ev i => by rw [(hS0 _).1 ev.h]; exact c1 i
          have z2 : ∀ (ev : Ev (S 0)) (i : Nat), ev.w.cell? ⟨b1 + 1, i, none⟩ = (#[.int .i64 l.items, .slice fa2 l.facts.length fc2, .slice ma2 l.motions.length mc2, .slice (some ⟨b2, o2, none⟩) l.sent.length sc2] : Array Value)[i]? := fun ev i => by rw [(hS0 _).1 ev.h]; exact c2 i
          have v0 : ∀ (ev : Ev (S 0)), ev.w.cell? ⟨b, o + i * 4, none⟩ = some (.int .i64 x.tick) := fun ev => by rw [(hS0 _).1 ev.h]; exact x0
          have u0 : ∀ (ev : Ev (S 0)), ev.w.cell? ⟨b2, o2 + i * 4, none⟩ = some (.int .i64 x.tick) := fun ev => by rw [(hS0 _).1 ev.h]; exact y0
          have v1 : ∀ (ev : Ev (S 0)), ev.w.cell? ⟨b, o + i * 4 + 1, none⟩ = some (.int .i64 x.target) := fun ev => by rw [(hS0 _).1 ev.h]; exact x1
          have u1 : ∀ (ev : Ev (S 0)), ev.w.cell? ⟨b2, o2 + i * 4 + 1, none⟩ = some (.int .i64 x.target) := fun ev => by rw [(hS0 _).1 ev.h]; exact y1
          have v2 : ∀ (ev : Ev (S 0)), ev.w.cell? ⟨b, o + i * 4 + 2, none⟩ = some (.int .i64 x.level) := fun ev => by rw [(hS0 _).1 ev.h]; exact x2
          have u2 : ∀ (ev : Ev (S 0)), ev.w.cell? ⟨b2, o2 + i * 4 + 2, none⟩ = some (.int .i64 y.level) := fun ev => by rw [(hS0 _).1 ev.h]; exact y2
          have v3 : ∀ (ev : Ev (S 0)), ev.w.cell? ⟨b, o + i * 4 + 3, none⟩ = some (.bool x.back) := fun ev => by rw [(hS0 _).1 ev.h]; exact x3
          have u3 : ∀ (ev : Ev (S 0)), ev.w.cell? ⟨b2, o2 + i * 4 + 3, none⟩ = some (.bool y.back) := fun ev => by rw [(hS0 _).1 ev.h]; exact y3
          clear c1 c2 x0 x1 x2 x3 y0 y1 y2 y3
          have hevT := ev_true
          refine wp_region_ord S [(0, 0), (1, 1), (2, 0), (3, 0), (4, 1), (5, 0), (6, 1), (7, 0), (8, 0), (9, 1), (10, 0)] [] (by kernel_rfl) (by kernel_rfl) ((hS0 _).2 rfl) ?_
          intro _hev
          iterate 11 (first | (refine wpOrd_v rfl rfl ?_; intro K hK; go_big_quiet_op; go_big_quiet_on) | (refine wpOrd_q rfl rfl ?_; intro K hK; go_big_quiet_op; go_big_quiet_on) | refine wpOrd_s (by decide) rfl rfl ?_)
          refine wpOrd_nil ?_
          clear hevT _hev
          clear hS0 S z1 z2 v0 u0 v1 u1 v2 u2 v3 u3
          go_wp2
          go_ret
          exact ⟨rfl, K2.thenN KD.out (Nat.le_refl _)⟩
        case pos =>
          rw [g2] at y2
          replace g2 := Lib.hid g2
          by_cases g3 : y.back = x.back
          case neg =>
            have hne : x ≠ y := fun e => g3 (by rw [e])
            have f3 : (x.back == y.back) = false := by simpa using Ne.symm g3
            obtain rfl : R = false := by rw [hR.out]; exact decide_eq_false fun e => t2.out hne (by rw [e])
            clear g3 hne
            obtain ⟨S, hS⟩ : ∃ S : Nat → World → Prop, S = fun _ w' => w' = wr.drew := ⟨_, rfl⟩
            have hS0 : ∀ w', S 0 w' ↔ w' = wr.drew := fun w' => by rw [hS]
            clear hS
            have z1 : ∀ (ev : Ev (S 0)) (i : Nat), ev.w.cell? ⟨b1, i, none⟩ = (#[.int .i64 l.items, .slice fa l.facts.length fc, .slice ma l.motions.length mc, .slice (some ⟨b, o, none⟩) l.sent.length sc] : Array Value)[i]? := fun ev i => by rw [(hS0 _).1 ev.h]; exact c1 i
            have z2 : ∀ (ev : Ev (S 0)) (i : Nat), ev.w.cell? ⟨b1 + 1, i, none⟩ = (#[.int .i64 l.items, .slice fa2 l.facts.length fc2, .slice ma2 l.motions.length mc2, .slice (some ⟨b2, o2, none⟩) l.sent.length sc2] : Array Value)[i]? := fun ev i => by rw [(hS0 _).1 ev.h]; exact c2 i
            have v0 : ∀ (ev : Ev (S 0)), ev.w.cell? ⟨b, o + i * 4, none⟩ = some (.int .i64 x.tick) := fun ev => by rw [(hS0 _).1 ev.h]; exact x0
            have u0 : ∀ (ev : Ev (S 0)), ev.w.cell? ⟨b2, o2 + i * 4, none⟩ = some (.int .i64 x.tick) := fun ev => by rw [(hS0 _).1 ev.h]; exact y0
            have v1 : ∀ (ev : Ev (S 0)), ev.w.cell? ⟨b, o + i * 4 + 1, none⟩ = some (.int .i64 x.target) := fun ev => by rw [(hS0 _).1 ev.h]; exact x1
            have u1 : ∀ (ev : Ev (S 0)), ev.w.cell? ⟨b2, o2 + i * 4 + 1, none⟩ = some (.int .i64 x.target) := fun ev => by rw [(hS0 _).1 ev.h]; exact y1
            have v2 : ∀ (ev : Ev (S 0)), ev.w.cell? ⟨b, o + i * 4 + 2, none⟩ = some (.int .i64 x.level) := fun ev => by rw [(hS0 _).1 ev.h]; exact x2
            have u2 : ∀ (ev : Ev (S 0)), ev.w.cell? ⟨b2, o2 + i * 4 + 2, none⟩ = some (.int .i64 x.level) := fun ev => by rw [(hS0 _).1 ev.h]; exact y2
            have v3 : ∀ (ev : Ev (S 0)), ev.w.cell? ⟨b, o + i * 4 + 3, none⟩ = some (.bool x.back) := fun ev => by rw [(hS0 _).1 ev.h]; exact x3
            have u3 : ∀ (ev : Ev (S 0)), ev.w.cell? ⟨b2, o2 + i * 4 + 3, none⟩ = some (.bool y.back) := fun ev => by rw [(hS0 _).1 ev.h]; exact y3
            clear c1 c2 x0 x1 x2 x3 y0 y1 y2 y3
            have hevT := ev_true
            refine wp_region_ord S [(0, 0), (1, 1), (2, 0), (3, 0), (4, 1), (5, 0), (6, 1), (7, 0), (8, 0), (9, 1), (10, 0)] [] (by kernel_rfl) (by kernel_rfl) ((hS0 _).2 rfl) ?_
            intro _hev
            iterate 11 (first | (refine wpOrd_v rfl rfl ?_; intro K hK; go_big_quiet_op; go_big_quiet_on) | (refine wpOrd_q rfl rfl ?_; intro K hK; go_big_quiet_op; go_big_quiet_on) | refine wpOrd_s (by decide) rfl rfl ?_)
            refine wpOrd_nil ?_
            clear hevT _hev
            clear hS0 S z1 z2 v0 u0 v1 u1 v2 u2 v3 u3
            go_wp2
            go_ret
            exact ⟨rfl, K2.thenN KD.out (Nat.le_refl _)⟩
          case pos =>
            rw [g3] at y3
            replace g3 := Lib.hid g3
            have he : x = y := by
              have p0 := g0.out; have p1 := g1.out; have p2 := g2.out; have p3 := g3.out
              obtain ⟨a, b, c, d⟩ := x; obtain ⟨a2, b2, c2, d2⟩ := y; simp only at p0 p1 p2 p3; subst p0 p1 p2 p3; rfl
            replace q1 := Lib.hid (q1.out he)
            clear he t2 g0 g1 g2 g3
            obtain ⟨S, hS⟩ : ∃ S : Nat → World → Prop, S = fun _ w' => w' = wr.drew := ⟨_, rfl⟩
            have hS0 : ∀ w', S 0 w' ↔ w' = wr.drew := fun w' => by rw [hS]
            clear hS
            have z1 : ∀ (ev : Ev (S 0)) (i : Nat), ev.w.cell? ⟨b1, i, none⟩ = (#[.int .i64 l.items, .slice fa l.facts.length fc, .slice ma l.motions.length mc, .slice (some ⟨b, o, none⟩) l.sent.length sc] : Array Value)[i]? := fun ev i => by rw [(hS0 _).1 ev.h]; exact c1 i
            have z2 : ∀ (ev : Ev (S 0)) (i : Nat), ev.w.cell? ⟨b1 + 1, i, none⟩ = (#[.int .i64 l.items, .slice fa2 l.facts.length fc2, .slice ma2 l.motions.length mc2, .slice (some ⟨b2, o2, none⟩) l.sent.length sc2] : Array Value)[i]? := fun ev i => by rw [(hS0 _).1 ev.h]; exact c2 i
            have v0 : ∀ (ev : Ev (S 0)), ev.w.cell? ⟨b, o + i * 4, none⟩ = some (.int .i64 x.tick) := fun ev => by rw [(hS0 _).1 ev.h]; exact x0
            have u0 : ∀ (ev : Ev (S 0)), ev.w.cell? ⟨b2, o2 + i * 4, none⟩ = some (.int .i64 x.tick) := fun ev => by rw [(hS0 _).1 ev.h]; exact y0
            have v1 : ∀ (ev : Ev (S 0)), ev.w.cell? ⟨b, o + i * 4 + 1, none⟩ = some (.int .i64 x.target) := fun ev => by rw [(hS0 _).1 ev.h]; exact x1
            have u1 : ∀ (ev : Ev (S 0)), ev.w.cell? ⟨b2, o2 + i * 4 + 1, none⟩ = some (.int .i64 x.target) := fun ev => by rw [(hS0 _).1 ev.h]; exact y1
            have v2 : ∀ (ev : Ev (S 0)), ev.w.cell? ⟨b, o + i * 4 + 2, none⟩ = some (.int .i64 x.level) := fun ev => by rw [(hS0 _).1 ev.h]; exact x2
            have u2 : ∀ (ev : Ev (S 0)), ev.w.cell? ⟨b2, o2 + i * 4 + 2, none⟩ = some (.int .i64 x.level) := fun ev => by rw [(hS0 _).1 ev.h]; exact y2
            have v3 : ∀ (ev : Ev (S 0)), ev.w.cell? ⟨b, o + i * 4 + 3, none⟩ = some (.bool x.back) := fun ev => by rw [(hS0 _).1 ev.h]; exact x3
            have u3 : ∀ (ev : Ev (S 0)), ev.w.cell? ⟨b2, o2 + i * 4 + 3, none⟩ = some (.bool x.back) := fun ev => by rw [(hS0 _).1 ev.h]; exact y3
            clear c1 c2 x0 x1 x2 x3 y0 y1 y2 y3
            have hevT := ev_true
            refine wp_region_ord S [(0, 0), (1, 1), (2, 0), (3, 0), (4, 1), (5, 0), (6, 1), (7, 0), (8, 0), (9, 1), (10, 0)] [] (by kernel_rfl) (by kernel_rfl) ((hS0 _).2 rfl) ?_
            intro _hev
            iterate 11 (first | (refine wpOrd_v rfl rfl ?_; intro K hK; go_big_quiet_op; go_big_quiet_on) | (refine wpOrd_q rfl rfl ?_; intro K hK; go_big_quiet_op; go_big_quiet_on) | refine wpOrd_s (by decide) rfl rfl ?_)
            refine wpOrd_nil ?_
            clear hevT _hev
            clear hS0 S z1 z2 v0 u0 v1 u1 v2 u2 v3 u3
            go_wp2
            go_roundw
            case rel => exact ⟨i + 1, by congr 1, h7.out, q1.out, KD.out⟩
            case measure => have := h7.out; simp [intOf]; omega
  case neg =>
  have hi' : ¬ (i : Int) < (l.sent.length : Int) := by omega
  have e_sent : l.sent = l2.sent := by
    have hl9 := g_sent.out
    rw [List.take_of_length_le (by omega), List.take_of_length_le (by omega)] at hj
    exact hj
  replace e_sent := Lib.hid e_sent
  replace B1 := B1.kpN KK
  replace B2 := B2.kpN KK
  replace T1 := T1.next KK
  replace T2 := T2.next KK
  replace K2 := K2.thenN KK (Nat.le_refl _)
  clear hj hi h7 KK
  have hRt : R = true := by
    rw [hR.out]
    refine decide_eq_true ?_
    have p0 := g_items.out
    have p1 := e_facts.out
    have p2 := e_motions.out
    have p3 := e_sent.out
    obtain ⟨a, b, c, d⟩ := l
    obtain ⟨a2, b2, c2, d2⟩ := l2
    simp only at p0 p1 p2 p3
    subst p0 p1 p2 p3
    rfl
  subst hRt
  clear hR T1 T2
  go_wp2
  go_ret
  exact ⟨rfl, K2⟩
set_option maxRecDepth 20000 in
set_option maxHeartbeats 4000000 in
theorem ref_Same_any (X Y : HV) (x y : House) (w : World) (s : SAt w.heap.size w X x) (s2 : SAt w.heap.size w Y y) :
    Calls Tryz.prog 23 #[.agg #[.int .i64 x.tick, .int .i64 x.real.items, .slice X.r.fa x.real.facts.length X.r.fc, .slice X.r.ma x.real.motions.length X.r.mc, .slice X.r.sa x.real.sent.length X.r.sc, .int .i64 x.drill.items, .slice X.d.fa x.drill.facts.length X.d.fc, .slice X.d.ma x.drill.motions.length X.d.mc, .slice X.d.sa x.drill.sent.length X.d.sc], .agg #[.int .i64 y.tick, .int .i64 y.real.items, .slice Y.r.fa y.real.facts.length Y.r.fc, .slice Y.r.ma y.real.motions.length Y.r.mc, .slice Y.r.sa y.real.sent.length Y.r.sc, .int .i64 y.drill.items, .slice Y.d.fa y.drill.facts.length Y.d.fc, .slice Y.d.ma y.drill.motions.length Y.d.mc, .slice Y.d.sa y.drill.sent.length Y.d.sc]] w fun e w' => e = .returned (.bool (decide (x = y))) ∧ Kp w.heap.size none w w' := by
  obtain ⟨R, hR⟩ : ∃ R, R = decide (x = y) := ⟨_, rfl⟩
  rw [← hR]
  have B1 := (Blk.new w 43 #[.int .i64 x.tick, .int .i64 x.real.items, .slice X.r.fa x.real.facts.length X.r.fc, .slice X.r.ma x.real.motions.length X.r.mc, .slice X.r.sa x.real.sent.length X.r.sc, .int .i64 x.drill.items, .slice X.d.fa x.drill.facts.length X.d.fc, .slice X.d.ma x.drill.motions.length X.d.mc, .slice X.d.sa x.drill.sent.length X.d.sc]).alloc (.cells #[.int .i64 y.tick, .int .i64 y.real.items, .slice Y.r.fa y.real.facts.length Y.r.fc, .slice Y.r.ma y.real.motions.length Y.r.mc, .slice Y.r.sa y.real.sent.length Y.r.sc, .int .i64 y.drill.items, .slice Y.d.fa y.drill.facts.length Y.d.fc, .slice Y.d.ma y.drill.motions.length Y.d.mc, .slice Y.d.sa y.drill.sent.length Y.d.sc] 43)
  have B2 := Blk.newAt (w.alloc (.cells #[.int .i64 x.tick, .int .i64 x.real.items, .slice X.r.fa x.real.facts.length X.r.fc, .slice X.r.ma x.real.motions.length X.r.mc, .slice X.r.sa x.real.sent.length X.r.sc, .int .i64 x.drill.items, .slice X.d.fa x.drill.facts.length X.d.fc, .slice X.d.ma x.drill.motions.length X.d.mc, .slice X.d.sa x.drill.sent.length X.d.sc] 43)) 43 #[.int .i64 y.tick, .int .i64 y.real.items, .slice Y.r.fa y.real.facts.length Y.r.fc, .slice Y.r.ma y.real.motions.length Y.r.mc, .slice Y.r.sa y.real.sent.length Y.r.sc, .int .i64 y.drill.items, .slice Y.d.fa y.drill.facts.length Y.d.fc, .slice Y.d.ma y.drill.motions.length Y.d.mc, .slice Y.d.sa y.drill.sent.length Y.d.sc] (n := w.heap.size + 1) (by simp)
  have K2 := Kp.new2 w (.cells #[.int .i64 x.tick, .int .i64 x.real.items, .slice X.r.fa x.real.facts.length X.r.fc, .slice X.r.ma x.real.motions.length X.r.mc, .slice X.r.sa x.real.sent.length X.r.sc, .int .i64 x.drill.items, .slice X.d.fa x.drill.facts.length X.d.fc, .slice X.d.ma x.drill.motions.length X.d.mc, .slice X.d.sa x.drill.sent.length X.d.sc] 43) (.cells #[.int .i64 y.tick, .int .i64 y.real.items, .slice Y.r.fa y.real.facts.length Y.r.fc, .slice Y.r.ma y.real.motions.length Y.r.mc, .slice Y.r.sa y.real.sent.length Y.r.sc, .int .i64 y.drill.items, .slice Y.d.fa y.drill.facts.length Y.d.fc, .slice Y.d.ma y.drill.motions.length Y.d.mc, .slice Y.d.sa y.drill.sent.length Y.d.sc] 43)
  have T1 := s.next K2
  have T2 := s2.next K2
  replace hR := Lib.hid hR
  clear s s2
  go_enter Tryz.func23, Tryz.ntmps23
  go_upto_region 1 with (fail)
  obtain ⟨b1, hb1⟩ : ∃ a, a = w.heap.size := ⟨_, rfl⟩
  rw [← hb1] at B1 B2
  rw [← hb1]
  generalize (w.alloc (.cells #[.int .i64 x.tick, .int .i64 x.real.items, .slice X.r.fa x.real.facts.length X.r.fc, .slice X.r.ma x.real.motions.length X.r.mc, .slice X.r.sa x.real.sent.length X.r.sc, .int .i64 x.drill.items, .slice X.d.fa x.drill.facts.length X.d.fc, .slice X.d.ma x.drill.motions.length X.d.mc, .slice X.d.sa x.drill.sent.length X.d.sc] 43)).alloc (.cells #[.int .i64 y.tick, .int .i64 y.real.items, .slice Y.r.fa y.real.facts.length Y.r.fc, .slice Y.r.ma y.real.motions.length Y.r.mc, .slice Y.r.sa y.real.sent.length Y.r.sc, .int .i64 y.drill.items, .slice Y.d.fa y.drill.facts.length Y.d.fc, .slice Y.d.ma y.drill.motions.length Y.d.mc, .slice Y.d.sa y.drill.sent.length Y.d.sc] 43) = w2 at B1 B2 K2 T1 T2 ⊢
  replace hb1 := Lib.hid hb1
  have c1 := fun i => B1.cell i
  have c2 := fun i => B2.cell i
  by_cases g0 : x.tick = y.tick
  case neg =>
    have f0 : (x.tick == y.tick) = false := by simpa using g0
    obtain rfl : R = false := by rw [hR.out]; exact decide_eq_false fun e => g0 (by rw [e])
    clear g0
    go_wp2
    go_ret
    exact ⟨rfl, K2⟩
  have f0 : (x.tick == y.tick) = true := by simpa using g0
  replace g0 := Lib.hid g0
  go_wp2_with fail
  refine (ref_SameLedger_any X.r Y.r x.real y.real _ T1.r T2.r).mono ?_
  rintro e w3 ⟨rfl, k3⟩
  replace T1 := T1.next k3
  replace T2 := T2.next k3
  replace B1 := B1.kpN k3
  replace B2 := B2.kpN k3
  have K3 := K2.thenN k3 (Nat.le_refl _)
  clear k3 c1 c2 K2
  have c1 := fun i => B1.cell i
  have c2 := fun i => B2.cell i
  by_cases g1 : x.real = y.real
  case neg =>
    rw [decide_eq_false g1]
    obtain rfl : R = false := by rw [hR.out]; exact decide_eq_false fun e => g1 (by rw [e])
    clear g1
    go_wp2
    go_ret
    exact ⟨rfl, K3⟩
  rw [decide_eq_true g1]
  replace g1 := Lib.hid g1
  go_wp2_with fail
  refine (ref_SameLedger_any X.d Y.d x.drill y.drill _ T1.d T2.d).mono ?_
  rintro e w4 ⟨rfl, k4⟩
  have K4 := K3.thenN k4 (Nat.le_refl _)
  have hlast : decide (x.drill = y.drill) = R := by
    rw [hR.out]
    have p0 := g0.out
    have p1 := g1.out
    obtain ⟨a, b, c⟩ := x
    obtain ⟨a2, b2, c2⟩ := y
    simp only at p0 p1
    subst p0 p1
    simp
  rw [hlast]
  clear hlast k4 c1 c2 B1 B2 T1 T2 hR K3
  go_wp2
  go_ret
  exact ⟨rfl, K4⟩
end Go.Proofs.YtogpgnljomchcaaGreat
