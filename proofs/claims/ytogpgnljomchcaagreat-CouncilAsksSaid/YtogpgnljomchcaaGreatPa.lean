/- Items that can all be done, one after the other: what holds of the house, in plain Lean. -/
import Derived.Test.YtogpgnljomchcaaGreatHouse
namespace Go.Proofs.YtogpgnljomchcaaGreat

def Did (c : Council) : House → List CItem → House → Prop
  | h, [], h' => h' = h
  | h, x :: r, h' => doE c h x = 0 ∧ Did c (doH c h x) r h'
theorem Did.run {c : Council} : ∀ {l : List CItem} {h h' : House}, Did c h l h' → ∀ i, runItems c i h l = (h', -1, 0)
  | [], h, h', d, i => by
    have d' : h' = h := d
    subst d'
    rfl
  | x :: r, h, h', d, i => by
    unfold Did at d
    unfold runItems
    rw [if_pos d.1]
    exact d.2.run (i + 1)
theorem run_done {c : Council} : ∀ {l : List CItem} {h : House} (i : Int), (runItems c i h l).2.2 = 0 → Did c h l (runItems c i h l).1
  | [], h, i, _ => rfl
  | x :: r, h, i, e => by
    unfold runItems at e ⊢
    by_cases h0 : doE c h x = 0
    · rw [if_pos h0] at e ⊢
      exact ⟨h0, run_done (i + 1) e⟩
    · rw [if_neg h0] at e
      exact absurd e h0
theorem Did.app {c : Council} : ∀ {l r : List CItem} {h h1 h2 : House}, Did c h l h1 → Did c h1 r h2 → Did c h (l ++ r) h2
  | [], r, h, h1, h2, d, e => by
    have d' : h1 = h := d
    subst d'
    exact e
  | x :: l, r, h, h1, h2, d, e => ⟨d.1, Did.app d.2 e⟩
theorem Did.split {c : Council} : ∀ {l r : List CItem} {h h2 : House}, Did c h (l ++ r) h2 → ∃ h1, Did c h l h1 ∧ Did c h1 r h2
  | [], r, h, h2, d => ⟨h, rfl, d⟩
  | x :: l, r, h, h2, d => by
    obtain ⟨h1, a, b⟩ := Did.split (l := l) d.2
    exact ⟨h1, ⟨d.1, a⟩, b⟩
theorem Did.inv {c : Council} {P : House → Prop} (step : ∀ h x, P h → doE c h x = 0 → P (doH c h x)) : ∀ {l : List CItem} {h h' : House}, Did c h l h' → P h → P h'
  | [], h, h', d, p => by
    have d' : h' = h := d
    subst d'
    exact p
  | x :: r, h, h', d, p => Did.inv step (l := r) d.2 (step h x p d.1)
/-- the same, with the items so far -/
theorem Did.inv2 {c : Council} {P : List CItem → House → Prop} (step : ∀ p h x, P p h → doE c h x = 0 → P (p ++ [x]) (doH c h x)) : ∀ {l : List CItem} {p : List CItem} {h h' : House}, Did c h l h' → P p h → P (p ++ l) h'
  | [], p, h, h', d, q => by
    have d' : h' = h := d
    subst d'
    simpa using q
  | x :: r, p, h, h', d, q => by
    have := Did.inv2 step (l := r) d.2 (step p h x q d.1)
    simpa using this
theorem Did.ok {c : Council} (hc : CouncilOk c) : ∀ {l : List CItem} {n : Nat} {h h' : House}, Did c h l h' → HouseOk c n h → HouseOk c (n + l.length) h'
  | [], n, h, h', d, p => by
    have d' : h' = h := d
    subst d'
    exact p
  | x :: r, n, h, h', d, p => by
    have := Did.ok hc (l := r) d.2 (do_ok hc p d.1)
    rw [List.length_cons, show n + (r.length + 1) = n + 1 + r.length from by omega]
    exact this
theorem build_done {c : Council} {l : List CItem} {h : House} (hc : checkC c = 0) (hl : l.length ≤ 2000) (d : Did c zeroHouse l h) : buildC c l = (h, -1, 0) := by
  unfold buildC
  rw [if_neg (by simpa using hc), if_neg (by omega), d.run]
theorem doE_zero {c : Council} {h : House} {x : CItem} (e : doE c h x = 0) : 0 ≤ x.tick ∧ x.tick ≤ 1073741824 ∧ h.tick ≤ x.tick ∧ deedE c (h.led x.drill) (h.led (!x.drill)) x = 0 := by
  unfold doE at e
  split at e
  · cases e
  split at e
  · cases e
  exact ⟨by omega, by omega, by omega, e⟩
theorem doH_led (c : Council) (h : House) (x : CItem) (e : Bool) : (doH c h x).led e = if e = x.drill then oneMore (deedL c (h.led x.drill) x) else h.led e := by
  have e1 : (doH c h x).led e = (h.put x.drill (oneMore (deedL c (h.led x.drill) x))).led e := by cases e <;> rfl
  rw [e1, led_put]
theorem doH_own (c : Council) (h : House) (x : CItem) : (doH c h x).led x.drill = oneMore (deedL c (h.led x.drill) x) := by rw [doH_led, if_pos rfl]
theorem doH_other (c : Council) (h : House) (x : CItem) {e : Bool} (hne : e ≠ x.drill) : (doH c h x).led e = h.led e := by rw [doH_led, if_neg hne]
theorem doH_tick (c : Council) (h : House) (x : CItem) : (doH c h x).tick = x.tick := rfl
/-- a property of each ledger -/
theorem Did.led {c : Council} {P : Ledger → Prop} (one : ∀ l, P l → P (oneMore l)) (deed : ∀ own other x, P own → deedE c own other x = 0 → P (deedL c own x)) {l : List CItem} {h h' : House} (d : Did c h l h') (h0 : ∀ d, P (h.led d)) : ∀ d, P (h'.led d) := by
  refine Did.inv (P := fun h => ∀ d, P (h.led d)) (fun h x p e b => ?_) d h0
  have z := doE_zero e
  rw [doH_led]
  split
  · exact one _ (deed _ _ x (p x.drill) z.2.2.2)
  · exact p b
inductive DeedIs (c : Council) (own other : Ledger) (x : CItem) : Prop
  | fact (k : x.kind = 1) (a0 : 1 ≤ x.a) (a1 : x.a ≤ 999) (ch : chanceErr x.chance = 0) (e : deedL c own x = factL c own x)
  | move (k : x.kind = 2) (w : LawC) (z : Known) (hw : lawOf c x.b = some w) (hz : knownOf own x.a = some z) (hl : w.level ≤ z.level) (hn : ∀ m ∈ own.motions, openSame x.a x.b m = false) (e : deedL c own x = moveL own x)
  | vote (k : x.kind = 3) (hh : hasM own x.a = true) (y : Member) (hy : memOf c x.b = some y) (ho : (motD own x.a).state = 1) (hv : x.b ∉ (motD own x.a).voted) (hw : x.tick ≤ (motD own x.a).opened + (lawD c (motD own x.a).act).window) (e : deedL c own x = voteL c own x)
  | close (k : x.kind = 4) (hh : hasM own x.a = true) (ho : (motD own x.a).state = 1) (hq : ¬ ((motD own x.a).voted.length < c.members.length ∧ x.tick ≤ (motD own x.a).opened + (lawD c (motD own x.a).act).window)) (e : deedL c own x = closeL c own x)
theorem deed_is {c : Council} {own other : Ledger} {x : CItem} (he : deedE c own other x = 0) : DeedIs c own other x := by
  unfold deedE at he
  by_cases k1 : x.kind = 1
  · rw [if_pos k1] at he
    unfold factE at he
    split at he
    · cases he
    · exact .fact k1 (by omega) (by omega) he (by unfold deedL; rw [if_pos k1])
  rw [if_neg k1] at he
  by_cases k2 : x.kind = 2
  · rw [if_pos k2] at he
    unfold moveE at he
    split at he
    · rename_i w z hw hz
      split at he
      · cases he
      split at he
      · cases he
      split at he
      · cases he
      rename_i g1 g2 g3
      exact .move k2 w z hw hz (by omega) (fun m hm => by
        have := List.any_eq_false.1 (by simpa using g2 : own.motions.any (openSame x.a x.b) = false) m hm
        simpa using this) (by unfold deedL; rw [if_neg k1, if_pos k2])
    · cases he
  rw [if_neg k2] at he
  by_cases k3 : x.kind = 3
  · rw [if_pos k3] at he
    unfold voteE at he
    split at he
    · rename_i hh
      split at he
      · cases he
      · rename_i y hy
        split at he
        · cases he
        split at he
        · cases he
        split at he
        · cases he
        rename_i g1 g2 g3
        exact .vote k3 hh y hy (by omega) g2 (by omega) (by unfold deedL; rw [if_neg k1, if_neg k2, if_pos k3])
    · split at he <;> cases he
  rw [if_neg k3] at he
  by_cases k4 : x.kind = 4
  · rw [if_pos k4] at he
    unfold closeE at he
    split at he
    · rename_i hh
      split at he
      · cases he
      split at he
      · cases he
      rename_i g1 g2
      exact .close k4 hh (by omega) g2 (by unfold deedL; rw [if_neg k1, if_neg k2, if_neg k3])
    · split at he <;> cases he
  rw [if_neg k4] at he
  cases he
/-- the other ledger only says which error there is -/
theorem deedE_other {c : Council} {own o1 : Ledger} (o2 : Ledger) {x : CItem} (he : deedE c own o1 x = 0) : deedE c own o2 x = 0 := by
  unfold deedE at he ⊢
  split
  · rename_i k; rw [if_pos k] at he; exact he
  rename_i k1
  rw [if_neg k1] at he
  split
  · rename_i k; rw [if_pos k] at he; exact he
  rename_i k2
  rw [if_neg k2] at he
  split
  · rename_i k
    rw [if_pos k] at he
    unfold voteE at he ⊢
    split
    · rename_i hh; rw [if_pos hh] at he; exact he
    · rename_i hh; rw [if_neg hh] at he; split at he <;> cases he
  rename_i k3
  rw [if_neg k3] at he
  split
  · rename_i k
    rw [if_pos k] at he
    unfold closeE at he ⊢
    split
    · rename_i hh; rw [if_pos hh] at he; exact he
    · rename_i hh; rw [if_neg hh] at he; split at he <;> cases he
  · rename_i k; rw [if_neg k] at he; cases he
theorem set_mem {α : Type} {l : List α} {i : Nat} {m z : α} (h : z ∈ l.set i m) : z ∈ l ∨ z = m := List.mem_or_eq_of_mem_set h

/-! ### Exercises -/
def Sim (d : Bool) (h g : House) : Prop := g.led d = h.led d ∧ g.tick ≤ h.tick ∧ g.led (!d) = zeroLedger
theorem Did.only {c : Council} (d : Bool) : ∀ {l : List CItem} {h h' g : House}, Did c h l h' → Sim d h g → ∃ g', Did c g (l.filter fun x => x.drill == d) g' ∧ Sim d h' g'
  | [], h, h', g, q, s => by
    have q' : h' = h := q
    subst q'
    exact ⟨g, rfl, s⟩
  | x :: r, h, h', g, q, s => by
    have z := doE_zero q.1
    by_cases hx : x.drill = d
    · have e0 : doE c g x = 0 := by
        unfold doE
        rw [if_neg (by omega), if_neg (by have := s.2.1; omega), hx, s.1]
        rw [hx] at z
        exact deedE_other _ z.2.2.2
      have s2 : Sim d (doH c h x) (doH c g x) := by
        refine ⟨?_, by rw [doH_tick, doH_tick]; omega, ?_⟩
        · rw [← hx, doH_own, doH_own, hx, s.1]
        · rw [doH_other]
          · exact s.2.2
          · rw [hx]; cases d <;> decide
      obtain ⟨g', a, b⟩ := Did.only d (l := r) q.2 s2
      refine ⟨g', ?_, b⟩
      rw [List.filter_cons, if_pos (by simpa using hx)]
      exact ⟨e0, a⟩
    · have s2 : Sim d (doH c h x) g := by
        refine ⟨?_, by rw [doH_tick]; have := s.2.1; omega, s.2.2⟩
        rw [doH_other _ _ _ (Ne.symm hx)]
        exact s.1
      obtain ⟨g', a, b⟩ := Did.only d (l := r) q.2 s2
      refine ⟨g', ?_, b⟩
      rw [List.filter_cons, if_neg (by simpa using hx)]
      exact a
theorem Did.items {c : Council} {l : List CItem} {h' : House} (d : Did c zeroHouse l h') : h'.real.items + h'.drill.items = l.length := by
  have := Did.inv2 (c := c) (P := fun p h => h.real.items + h.drill.items = p.length) (fun p h x q e => by
    have o := doH_own c h x
    have u : ∀ e, e ≠ x.drill → (doH c h x).led e = h.led e := fun e he => doH_other c h x he
    have i1 := deedL_items c (h.led x.drill) x
    simp only [List.length_append, List.length_cons, List.length_nil]
    cases hx : x.drill
    · rw [hx] at o u i1
      have u1 := u true (by decide)
      change (doH c h x).drill = h.drill at u1
      change (doH c h x).real = oneMore (deedL c h.real x) at o
      rw [u1, o]
      simp only [oneMore]
      change (deedL c h.real x).items = h.real.items at i1
      omega
    · rw [hx] at o u i1
      have u1 := u false (by decide)
      change (doH c h x).real = h.real at u1
      change (doH c h x).drill = oneMore (deedL c h.drill x) at o
      rw [u1, o]
      simp only [oneMore]
      change (deedL c h.drill x).items = h.drill.items at i1
      omega) (p := []) d rfl
  simpa using this
/-! ### Who passed has the votes -/
def MotGood (c : Council) (m : Motion) : Prop := (m.state = 2 → votesOk c (lawD c m.act) m.yes m.no = true) ∧ (m.state = 3 → votesOk c (lawD c m.act) m.yes m.no = false) ∧ m.voted.Nodup ∧ m.yes + m.no = (m.voted.map (wOf c)).sum ∧ (lawOf c m.act).isSome
def PassInv (c : Council) (l : Ledger) : Prop := ∀ m ∈ l.motions, MotGood c m
/-! ### Open motions -/
def OpenInv (c : Council) (l : Ledger) : Prop :=
  l.facts.Pairwise (fun a b => a.target < b.target) ∧
  (∀ m ∈ l.motions, m.state = 1 → ∃ k, knownOf l m.target = some k ∧ (lawD c m.act).level ≤ k.level) ∧
  l.motions.Pairwise fun a b => a.state = 1 → b.state = 1 → ¬ (a.target = b.target ∧ a.act = b.act)
theorem motD_at {l : Ledger} {n : Int} (h : hasM l n = true) : ∃ hi : n.toNat < l.motions.length, motD l n = l.motions[n.toNat] := by
  obtain ⟨-, hi, e⟩ := motD_mem h
  exact ⟨hi, by rw [e]; simp [hi]⟩
/-! ### Alarms follow levels -/
def sentOk (t : Int) : Int → Int → List Alarm → Option (Int × Int)
  | lv, at_, [] => some (lv, at_)
  | lv, at_, a :: r => if a.tick < at_ then none else if a.target ≠ t then sentOk t lv a.tick r else if a.level = lv ∨ a.back ≠ decide (a.level < lv) then none else sentOk t a.level a.tick r
def SentInv (l : Ledger) (tick : Int) : Prop := l.facts.Pairwise (fun a b => a.target < b.target) ∧ ∀ t, ∃ at_, sentOk t 0 0 l.sent = some (beforeL l t, at_) ∧ at_ ≤ tick
theorem SentInv.mono {l : Ledger} {t t' : Int} (h : SentInv l t) (ht : t ≤ t') : SentInv l t' := ⟨h.1, fun u => by
  obtain ⟨a, b, c⟩ := h.2 u
  exact ⟨a, b, by omega⟩⟩
theorem SentInv.same {l l' : Ledger} {t : Int} (h : SentInv l t) (h1 : l'.facts = l.facts) (h2 : l'.sent = l.sent) : SentInv l' t := by
  unfold SentInv beforeL knownOf at h ⊢
  rw [h1, h2]
  exact h
def KInv (c : Council) (l : Ledger) : Prop := ∀ k ∈ l.facts, chanceErr k.chance = 0 ∧ k.level = levelOf c k.chance
end Go.Proofs.YtogpgnljomchcaaGreat
