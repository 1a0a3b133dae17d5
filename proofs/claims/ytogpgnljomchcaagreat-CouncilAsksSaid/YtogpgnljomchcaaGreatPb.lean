/- The order of two votes; the facts of the day: plain Lean. -/
import Derived.Test.YtogpgnljomchcaaGreatPa
namespace Go.Proofs.YtogpgnljomchcaaGreat

/-! ### Equal but for the order of those who voted -/
structure MEq (m n : Motion) : Prop where
  target : m.target = n.target
  act : m.act = n.act
  opened : m.opened = n.opened
  state : m.state = n.state
  yes : m.yes = n.yes
  no : m.no = n.no
  fact : m.fact = n.fact
  voted : m.voted.Perm n.voted
theorem MEq.refl (m : Motion) : MEq m m := ⟨rfl, rfl, rfl, rfl, rfl, rfl, rfl, List.Perm.refl _⟩
inductive MsEq : List Motion → List Motion → Prop
  | nil : MsEq [] []
  | cons {a b : Motion} {l k : List Motion} (h : MEq a b) (t : MsEq l k) : MsEq (a :: l) (b :: k)
theorem MsEq.refl : ∀ l : List Motion, MsEq l l
  | [] => .nil
  | a :: l => .cons (MEq.refl a) (MsEq.refl l)
theorem MsEq.len {l k : List Motion} (h : MsEq l k) : l.length = k.length := by
  induction h with
  | nil => rfl
  | cons _ _ ih => simp [ih]
theorem MsEq.get {l k : List Motion} (h : MsEq l k) : ∀ (i : Nat) (h1 : i < l.length) (h2 : i < k.length), MEq l[i] k[i] := by
  induction h with
  | nil => intro i h1; simp at h1
  | cons a t ih =>
    intro i h1 h2
    cases i with
    | zero => exact a
    | succ i => exact ih i (by simpa using h1) (by simpa using h2)
theorem MsEq.set {l k : List Motion} (h : MsEq l k) {m n : Motion} (q : MEq m n) : ∀ i : Nat, MsEq (l.set i m) (k.set i n) := by
  induction h with
  | nil => intro i; exact .nil
  | cons a t ih =>
    intro i
    cases i with
    | zero => exact .cons q t
    | succ i => exact .cons a (ih i)
theorem MsEq.app {l k : List Motion} (h : MsEq l k) (m : Motion) : MsEq (l ++ [m]) (k ++ [m]) := by
  induction h with
  | nil => exact .cons (MEq.refl m) .nil
  | cons a t ih => exact .cons a ih
theorem MsEq.map {l k : List Motion} (h : MsEq l k) {f : Motion → Motion} (hf : ∀ a b, MEq a b → MEq (f a) (f b)) : MsEq (l.map f) (k.map f) := by
  induction h with
  | nil => exact .nil
  | cons a t ih => exact .cons (hf _ _ a) ih
theorem MsEq.any {l k : List Motion} (h : MsEq l k) {f : Motion → Bool} (hf : ∀ a b, MEq a b → f a = f b) : l.any f = k.any f := by
  induction h with
  | nil => rfl
  | cons a t ih => simp [ih, hf _ _ a]
structure LEq (l k : Ledger) : Prop where
  items : l.items = k.items
  facts : l.facts = k.facts
  sent : l.sent = k.sent
  motions : MsEq l.motions k.motions
theorem LEq.refl (l : Ledger) : LEq l l := ⟨rfl, rfl, rfl, MsEq.refl _⟩
structure HEq2 (h g : House) : Prop where
  tick : h.tick = g.tick
  led : ∀ d, LEq (h.led d) (g.led d)
theorem LEq.has {l k : Ledger} (h : LEq l k) (n : Int) : hasM l n = hasM k n := by unfold hasM; rw [h.motions.len]
theorem LEq.mot {l k : Ledger} (h : LEq l k) {n : Int} (hh : hasM l n = true) : MEq (motD l n) (motD k n) := by
  obtain ⟨h1, e1⟩ := motD_at hh
  obtain ⟨h2, e2⟩ := motD_at (h.has n ▸ hh)
  rw [e1, e2]
  exact h.motions.get _ _ _
theorem LEq.known {l k : Ledger} (h : LEq l k) (t : Int) : knownOf l t = knownOf k t := by unfold knownOf; rw [h.facts]
theorem LEq.deedE {c : Council} {l k : Ledger} (h : LEq l k) (o : Ledger) (x : CItem) (e : deedE c l o x = 0) : Go.Proofs.YtogpgnljomchcaaGreat.deedE c k o x = 0 := by
  unfold Go.Proofs.YtogpgnljomchcaaGreat.deedE at e ⊢
  split
  · rename_i k1; rw [if_pos k1] at e; exact e
  rename_i k1
  rw [if_neg k1] at e
  split
  · rename_i k2
    rw [if_pos k2] at e
    unfold moveE at e ⊢
    rw [← h.known, ← h.motions.any (f := openSame x.a x.b) (fun a b q => by unfold openSame; rw [q.state, q.target, q.act]), ← h.motions.len]
    exact e
  rename_i k2
  rw [if_neg k2] at e
  split
  · rename_i k3
    rw [if_pos k3] at e
    unfold voteE at e ⊢
    rw [← h.has]
    split
    · rename_i hh
      rw [if_pos hh] at e
      have q := h.mot hh
      have hmem : (x.b ∈ (motD k x.a).voted) = (x.b ∈ (motD l x.a).voted) := propext q.voted.mem_iff.symm
      rw [← q.state, ← q.opened, ← q.act]
      simp only [hmem]
      exact e
    · rename_i hh; rw [if_neg hh] at e; exact e
  rename_i k3
  rw [if_neg k3] at e
  split
  · rename_i k4
    rw [if_pos k4] at e
    unfold closeE at e ⊢
    rw [← h.has]
    split
    · rename_i hh
      rw [if_pos hh] at e
      have q := h.mot hh
      rw [← q.state, ← q.opened, ← q.act, ← q.voted.length_eq]
      exact e
    · rename_i hh; rw [if_neg hh] at e; exact e
  · rename_i k4; rw [if_neg k4] at e; cases e
theorem LEq.deedL {c : Council} {l k : Ledger} (h : LEq l k) (o : Ledger) (x : CItem) (e : Go.Proofs.YtogpgnljomchcaaGreat.deedE c l o x = 0) : LEq (deedL c l x) (Go.Proofs.YtogpgnljomchcaaGreat.deedL c k x) := by
  have e2 := h.deedE o x e
  rcases deed_is e with ⟨k1, _, _, _, f1⟩ | ⟨k1, w, z, hw, hz, hl, hn, f1⟩ | ⟨k1, hh, y, hy, ho, hv, hw, f1⟩ | ⟨k1, hh, ho, hq, f1⟩ <;>
  rcases deed_is e2 with ⟨k2, _, _, _, f2⟩ | ⟨k2, w', z', hw', hz', hl', hn', f2⟩ | ⟨k2, hh', y', hy', ho', hv', hw', f2⟩ | ⟨k2, hh', ho', hq', f2⟩ <;> first | (exfalso; omega) | skip
  · rw [f1, f2]
    have en : newK c l x = newK c k x := by unfold newK; rw [h.items]
    unfold factL
    rw [← en, ← h.facts, ← h.sent, show beforeL k x.a = beforeL l x.a by unfold beforeL; rw [h.known]]
    refine ⟨h.items, rfl, rfl, h.motions.map fun a b q => ?_⟩
    unfold voidM
    by_cases hv : a.state = 1 ∧ a.target = (newK c l x).target ∧ (newK c l x).level < (lawD c a.act).level
    · rw [if_pos hv, if_pos (by rw [← q.state, ← q.target, ← q.act]; exact hv)]
      exact ⟨q.target, q.act, q.opened, rfl, q.yes, q.no, rfl, q.voted⟩
    · rw [if_neg hv, if_neg (by rw [← q.state, ← q.target, ← q.act]; exact hv)]
      exact q
  · rw [f1, f2]
    exact ⟨h.items, h.facts, h.sent, h.motions.app _⟩
  · rw [f1, f2]
    have q := h.mot hh
    have r : MEq (voteM c (motD l x.a) x) (voteM c (motD k x.a) x) := by
      refine ⟨q.target, q.act, q.opened, q.state, ?_, ?_, q.fact, ?_⟩
      · unfold voteM; simp only; rw [q.yes]
      · unfold voteM; simp only; rw [q.no]
      · exact q.voted.append_right _
    exact ⟨h.items, h.facts, h.sent, h.motions.set r _⟩
  · rw [f1, f2]
    have q := h.mot hh
    have r : MEq (closeM c l (motD l x.a)) (closeM c k (motD k x.a)) := by
      refine ⟨q.target, q.act, q.opened, ?_, q.yes, q.no, ?_, q.voted⟩
      · unfold closeM; simp only; rw [q.act, q.yes, q.no]
      · unfold closeM itemOf; simp only; rw [q.target, h.known]
    exact ⟨h.items, h.facts, h.sent, h.motions.set r _⟩
theorem LEq.oneMore {l k : Ledger} (h : LEq l k) : LEq (oneMore l) (Go.Proofs.YtogpgnljomchcaaGreat.oneMore k) := ⟨by unfold Go.Proofs.YtogpgnljomchcaaGreat.oneMore; simp only; rw [h.items], h.facts, h.sent, h.motions⟩
theorem Did.eqv {c : Council} : ∀ {l : List CItem} {h h' g : House}, Did c h l h' → HEq2 h g → ∃ g', Did c g l g' ∧ HEq2 h' g'
  | [], h, h', g, d, q => by
    have d' : h' = h := d
    subst d'
    exact ⟨g, rfl, q⟩
  | x :: r, h, h', g, d, q => by
    have z := doE_zero d.1
    have e0 : doE c g x = 0 := by
      unfold doE
      rw [if_neg (by omega), if_neg (by rw [← q.tick]; omega)]
      exact (q.led x.drill).deedE _ x (deedE_other _ z.2.2.2)
    have q2 : HEq2 (doH c h x) (doH c g x) := ⟨rfl, fun b => by
      rw [doH_led, doH_led]
      split
      · exact ((q.led x.drill).deedL _ x z.2.2.2).oneMore
      · exact q.led b⟩
    obtain ⟨g', a, b⟩ := Did.eqv (l := r) d.2 q2
    exact ⟨g', ⟨e0, a⟩, b⟩
theorem voteE_zero {c : Council} {own other : Ledger} {x : CItem} (k : x.kind = 3) (hh : hasM own x.a = true) {y : Member} (hy : memOf c x.b = some y) (ho : (motD own x.a).state = 1) (hv : x.b ∉ (motD own x.a).voted) (hw : x.tick ≤ (motD own x.a).opened + (lawD c (motD own x.a).act).window) : deedE c own other x = 0 := by
  unfold deedE
  rw [if_neg (by omega), if_neg (by omega), if_pos k]
  unfold voteE
  rw [if_pos hh, hy]
  simp only
  rw [if_neg (by omega), if_neg hv, if_neg (by omega)]
theorem voteL_has (c : Council) (own : Ledger) (x : CItem) (n : Int) : hasM (oneMore (voteL c own x)) n = hasM own n := by unfold hasM oneMore voteL; simp
theorem motD_set {own : Ledger} {i : Nat} {m : Motion} {n : Int} (hn : n.toNat < own.motions.length) : motD { own with motions := own.motions.set i m } n = if i = n.toNat then m else motD own n := by
  unfold motD
  simp only [List.getD_eq_getElem?_getD]
  by_cases h : i = n.toNat
  · rw [if_pos h, h]
    simp [hn]
  · rw [if_neg h, List.getElem?_set_ne h]
theorem motD_vote {c : Council} {own : Ledger} {x : CItem} {n : Int} (hn : hasM own n = true) : motD (oneMore (voteL c own x)) n = if x.a.toNat = n.toNat then voteM c (motD own x.a) x else motD own n :=
  motD_set (own := { own with items := own.items + 1 }) (motD_mem hn).2.1
/-- two votes of one ledger at one tick, in the other order -/
theorem votes_swap {c : Council} {h : House} {a b : CItem} (ka : a.kind = 3) (kb : b.kind = 3) (ht : a.tick = b.tick) (hd : a.drill = b.drill) (ea : doE c h a = 0) (eb : doE c (doH c h a) b = 0) :
    doE c h b = 0 ∧ doE c (doH c h b) a = 0 ∧ HEq2 (doH c (doH c h a) b) (doH c (doH c h b) a) := by
  have za := doE_zero ea
  have zb := doE_zero eb
  obtain ⟨own, hown⟩ : ∃ q, q = h.led a.drill := ⟨_, rfl⟩
  obtain ⟨da, hda⟩ : ∃ q, q = a.drill := ⟨_, rfl⟩
  have l1 : (doH c h a).led b.drill = oneMore (deedL c own a) := by rw [← hd, doH_own, hown]
  have o1 : (doH c h a).led (!b.drill) = h.led (!b.drill) := doH_other _ _ _ (by rw [hd]; cases b.drill <;> decide)
  rw [← hown] at za
  rw [l1, o1] at zb
  rcases deed_is za.2.2.2 with ⟨k1, _, _, _, f1⟩ | ⟨k1, w, z, hw, hz, hl, hn, f1⟩ | ⟨k1, hh, y, hy, ho, hv, hw, f1⟩ | ⟨k1, hh, ho, hq, f1⟩ <;> first | (exfalso; omega) | skip
  rw [f1] at zb l1
  rcases deed_is zb.2.2.2 with ⟨k2, _, _, _, f2⟩ | ⟨k2, w', z', hw', hz', hl', hn', f2⟩ | ⟨k2, hh', y', hy', ho', hv', hw', f2⟩ | ⟨k2, hh', ho', hq', f2⟩ <;> first | (exfalso; omega) | skip
  rw [voteL_has] at hh'
  rw [motD_vote hh'] at ho' hv' hw'
  have p1 : (motD own b.a).state = 1 ∧ b.b ∉ (motD own b.a).voted ∧ b.tick ≤ (motD own b.a).opened + (lawD c (motD own b.a).act).window ∧ (a.a.toNat = b.a.toNat → b.b ≠ a.b ∧ motD own b.a = motD own a.a) := by
    by_cases hi : a.a.toNat = b.a.toNat
    · rw [if_pos hi] at ho' hv' hw'
      have e : motD own b.a = motD own a.a := by unfold motD; rw [hi]
      rw [e]
      have hv2 : b.b ∉ (motD own a.a).voted ++ [a.b] := hv'
      rw [List.mem_append, not_or] at hv2
      exact ⟨ho, hv2.1, hw', fun _ => ⟨by simpa using hv2.2, rfl⟩⟩
    · rw [if_neg hi] at ho' hv' hw'
      exact ⟨ho', hv', hw', fun q => absurd q hi⟩
  obtain ⟨q1, q2, q3, q4⟩ := p1
  have E1 : doE c h b = 0 := by
    unfold doE
    rw [if_neg (by omega), if_neg (by omega), ← hd, ← hown]
    exact voteE_zero kb hh' hy' q1 q2 q3
  have zb2 := doE_zero E1
  rw [← hd, ← hown] at zb2
  have f3 : deedL c own b = voteL c own b := by unfold deedL; rw [if_neg (by omega), if_neg (by omega), if_pos kb]
  have l2 : (doH c h b).led a.drill = oneMore (voteL c own b) := by rw [hd, doH_own, ← hd, ← hown, f3]
  have hh3 : hasM (oneMore (voteL c own b)) a.a = true := by rw [voteL_has]; exact hh
  have E2 : doE c (doH c h b) a = 0 := by
    unfold doE
    rw [if_neg (by omega), if_neg (by rw [doH_tick]; omega), l2]
    refine voteE_zero ka hh3 hy ?_ ?_ ?_
    · rw [motD_vote hh]; split
      · exact q1
      · exact ho
    · rw [motD_vote hh]; split
      · rename_i hi
        obtain ⟨r1, r2⟩ := q4 hi.symm
        show a.b ∉ (motD own b.a).voted ++ [b.b]
        rw [r2, List.mem_append, not_or]
        exact ⟨hv, by simpa using fun e => r1 e.symm⟩
      · exact hv
    · rw [motD_vote hh]; split
      · rename_i hi
        obtain ⟨r1, r2⟩ := q4 hi.symm
        show a.tick ≤ (motD own b.a).opened + (lawD c (motD own b.a).act).window
        rw [r2]; exact hw
      · exact hw
  refine ⟨E1, E2, ht.symm, fun d => ?_⟩
  rw [doH_led, doH_led (h := doH c h b)]
  by_cases hdd : d = b.drill
  · rw [if_pos hdd, if_pos (by rw [hd]; exact hdd), l1, l2]
    have f4 : deedL c (oneMore (voteL c own b)) a = voteL c (oneMore (voteL c own b)) a := by unfold deedL; rw [if_neg (by omega), if_neg (by omega), if_pos ka]
    rw [f2, f4]
    refine LEq.oneMore ⟨rfl, rfl, rfl, ?_⟩
    show MsEq ((own.motions.set a.a.toNat (voteM c (motD own a.a) a)).set b.a.toNat (voteM c (motD (oneMore (voteL c own a)) b.a) b)) ((own.motions.set b.a.toNat (voteM c (motD own b.a) b)).set a.a.toNat (voteM c (motD (oneMore (voteL c own b)) a.a) a))
    rw [motD_vote hh', motD_vote hh]
    by_cases hi : a.a.toNat = b.a.toNat
    · obtain ⟨r1, r2⟩ := q4 hi
      rw [if_pos hi, if_pos hi.symm, hi, List.set_set, List.set_set, r2]
      have r : MEq (voteM c (voteM c (motD own a.a) a) b) (voteM c (voteM c (motD own a.a) b) a) := by
        refine ⟨rfl, rfl, rfl, rfl, ?_, ?_, rfl, ?_⟩
        rotate_left 2
        · show (((motD own a.a).voted ++ [a.b]) ++ [b.b]).Perm (((motD own a.a).voted ++ [b.b]) ++ [a.b])
          rw [List.append_assoc, List.append_assoc]
          exact List.Perm.append_left _ (List.Perm.swap _ _ _)
        · unfold voteM; cases a.yes <;> cases b.yes <;> simp <;> omega
        · unfold voteM; cases a.yes <;> cases b.yes <;> simp <;> omega
      exact (MsEq.refl _).set r _
    · rw [if_neg hi, if_neg (Ne.symm hi), List.set_comm _ _ (Ne.symm hi)]
      exact MsEq.refl _
  · rw [if_neg hdd, if_neg (by rw [hd]; exact hdd), doH_other _ _ _ (by rw [hd]; exact hdd), doH_other _ _ _ hdd]
    exact LEq.refl _
theorem Did.swap {c : Council} {p r : List CItem} {a b : CItem} {h h' : House} (ka : a.kind = 3) (kb : b.kind = 3) (ht : a.tick = b.tick) (hd : a.drill = b.drill) (d : Did c h (p ++ a :: b :: r) h') : ∃ g', Did c h (p ++ b :: a :: r) g' ∧ HEq2 h' g' := by
  obtain ⟨h1, d1, d2⟩ := d.split
  obtain ⟨e1, e2, q⟩ := votes_swap ka kb ht hd d2.1 d2.2.1
  obtain ⟨g', d3, q3⟩ := Did.eqv d2.2.2 q
  exact ⟨g', d1.app ⟨e1, e2, d3⟩, q3⟩

/-! ### The facts of the day -/
def IsFact (p : List CItem) (j : Nat) (t : Int) : Prop := ∃ y, p[j]? = some y ∧ y.kind = 1 ∧ y.a = t
def IsClose (p : List CItem) (j : Nat) (t : Int) : Prop := ∃ y, p[j]? = some y ∧ y.kind = 4 ∧ y.a = t
theorem at_old {p : List CItem} {x y : CItem} {j : Nat} (h : p[j]? = some y) : (p ++ [x])[j]? = some y := by
  rw [List.getElem?_append_left (List.getElem?_eq_some_iff.1 h).1]; exact h
theorem at_new {p : List CItem} {x y : CItem} {j : Nat} (h : (p ++ [x])[j]? = some y) : p[j]? = some y ∨ (j = p.length ∧ y = x) := by
  rcases Nat.lt_or_ge j p.length with hj | hj
  · rw [List.getElem?_append_left hj] at h; exact .inl h
  · rw [List.getElem?_append_right hj] at h
    rcases Nat.eq_zero_or_pos (j - p.length) with h0 | h0
    · rw [h0] at h
      exact .inr ⟨by omega, by simpa using h.symm⟩
    · rw [List.getElem?_eq_none (by simp; omega)] at h; cases h
theorem IsFact.old {p : List CItem} {j : Nat} {t : Int} (h : IsFact p j t) (x : CItem) : IsFact (p ++ [x]) j t := by
  obtain ⟨y, a, b⟩ := h; exact ⟨y, at_old a, b⟩
theorem IsClose.old {p : List CItem} {j : Nat} {t : Int} (h : IsClose p j t) (x : CItem) : IsClose (p ++ [x]) j t := by
  obtain ⟨y, a, b⟩ := h; exact ⟨y, at_old a, b⟩
theorem IsFact.new {p : List CItem} {x : CItem} {j : Nat} {t : Int} (h : IsFact (p ++ [x]) j t) : IsFact p j t ∨ (j = p.length ∧ x.kind = 1 ∧ x.a = t) := by
  obtain ⟨y, a, b⟩ := h
  rcases at_new a with a | ⟨a, e⟩
  · exact .inl ⟨y, a, b⟩
  · exact .inr ⟨a, e ▸ b⟩
theorem IsFact.lt {p : List CItem} {j : Nat} {t : Int} (h : IsFact p j t) : j < p.length := by
  obtain ⟨y, a, _⟩ := h; exact (List.getElem?_eq_some_iff.1 a).1
theorem IsClose.lt {p : List CItem} {j : Nat} {t : Int} (h : IsClose p j t) : j < p.length := by
  obtain ⟨y, a, _⟩ := h; exact (List.getElem?_eq_some_iff.1 a).1
structure MDay (p : List CItem) (i : Nat) (m : Motion) : Prop where
  h : m.state ≠ 1 → ∃ j : Nat, m.fact = j ∧ IsFact p j m.target ∧ (m.state ≠ 4 → ∃ e, j < e ∧ IsClose p e i ∧ ∀ k, j < k → k < e → ¬ IsFact p k m.target)
theorem MDay.old {p : List CItem} {i : Nat} {m : Motion} (h : MDay p i m) (x : CItem) : MDay (p ++ [x]) i m := by
  refine ⟨fun hs => ?_⟩
  obtain ⟨j, a, b, c⟩ := h.h hs
  refine ⟨j, a, b.old x, fun h4 => ?_⟩
  obtain ⟨e, f1, f2, f3⟩ := c h4
  refine ⟨e, f1, f2.old x, fun k k1 k2 q => ?_⟩
  rcases q.new with q | ⟨q, _⟩
  · exact f3 k k1 k2 q
  · have := f2.lt; omega
structure DayInv (p : List CItem) (l : Ledger) : Prop where
  items : l.items = p.length
  sorted : l.facts.Pairwise fun a b => a.target < b.target
  known : ∀ m ∈ l.motions, (knownOf l m.target).isSome
  fact : ∀ k ∈ l.facts, ∃ j : Nat, k.item = j ∧ IsFact p j k.target ∧ ∀ i, j < i → ¬ IsFact p i k.target
  mot : ∀ (i : Nat) (hi : i < l.motions.length), MDay p i l.motions[i]
theorem knownOf_mem {l : Ledger} {t : Int} {k : Known} (h : knownOf l t = some k) : k ∈ l.facts ∧ k.target = t := by
  unfold knownOf at h
  exact ⟨List.mem_of_find?_eq_some h, by simpa using List.find?_some h⟩
theorem withK_mem2 {k z : Known} : ∀ {l : List Known}, l.Pairwise (fun a b => a.target < b.target) → z ∈ withK k l → z = k ∨ (z ∈ l ∧ z.target ≠ k.target)
  | [], _, h => by
    have : z = k := by simpa [withK] using h
    exact .inl this
  | y :: r, hs, h => by
    have h1 := List.pairwise_cons.1 hs
    unfold withK at h
    split at h
    · rename_i e
      rcases List.mem_cons.1 h with h | h
      · exact .inl h
      · exact .inr ⟨by simp [h], by have := h1.1 z h; omega⟩
    · split at h
      · rcases List.mem_cons.1 h with h | h
        · exact .inl h
        · refine .inr ⟨h, ?_⟩
          rcases List.mem_cons.1 h with rfl | h
          · omega
          · have := h1.1 z h; omega
      · rcases List.mem_cons.1 h with rfl | h
        · exact .inr ⟨by simp, by omega⟩
        · rcases withK_mem2 h1.2 h with h | h
          · exact .inl h
          · exact .inr ⟨by simp [h.1], h.2⟩
theorem DayInv.same {p : List CItem} {l : Ledger} (h : DayInv p l) (x : CItem) (hk : x.kind ≠ 1) {ms : List Motion} (hm : ∀ m ∈ ms, (knownOf l m.target).isSome) (hd : ∀ (i : Nat) (hi : i < ms.length), MDay (p ++ [x]) i ms[i]) : DayInv (p ++ [x]) (oneMore { l with motions := ms }) := by
  refine ⟨?_, h.sorted, hm, fun k hk2 => ?_, hd⟩
  · have := h.items
    simp only [oneMore, List.length_append, List.length_cons, List.length_nil]
    omega
  · obtain ⟨j, a, b, c⟩ := h.fact k hk2
    refine ⟨j, a, b.old x, fun i hi q => ?_⟩
    rcases q.new with q | ⟨_, q, _⟩
    · exact c i hi q
    · exact hk q
theorem day_deed (c : Council) (p : List CItem) (own other : Ledger) (x : CItem) (q : DayInv p own) (e : deedE c own other x = 0) : DayInv (p ++ [x]) (oneMore (deedL c own x)) := by
  rcases deed_is e with ⟨k1, _, _, _, e⟩ | ⟨k1, w, z, hw, hz, hl, hn, e⟩ | ⟨k1, hh, y, hy, ho, hv, hw, e⟩ | ⟨k1, hh, ho, hq, e⟩
  · rw [e]
    have hx : IsFact (p ++ [x]) p.length x.a := ⟨x, by simp, k1, rfl⟩
    refine ⟨?_, withK_sorted _ q.sorted, fun m hm => ?_, fun k hk => ?_, fun i hi => ?_⟩
    · have := q.items
      simp only [oneMore, factL, List.length_append, List.length_cons, List.length_nil]
      omega
    · obtain ⟨z, hz, rfl⟩ := List.mem_map.1 hm
      rw [(voidM_same c _ z).1]
      exact withK_known _ _ q.sorted (q.known z hz)
    · rcases withK_mem2 q.sorted hk with rfl | ⟨hk, hne⟩
      · refine ⟨p.length, q.items, hx, fun i hi r => ?_⟩
        have := r.lt
        simp at this
        omega
      · obtain ⟨j, a, b, c⟩ := q.fact k hk
        refine ⟨j, a, b.old x, fun i hi r => ?_⟩
        rcases r.new with r | ⟨_, _, r⟩
        · exact c i hi r
        · exact hne r.symm
    · have hi' : i < own.motions.length := by simpa [oneMore, factL] using hi
      have e2 : (oneMore (factL c own x)).motions[i] = voidM c (newK c own x) own.motions[i] := by simp [oneMore, factL]
      rw [e2]
      unfold voidM
      split
      · rename_i hv
        refine ⟨fun _ => ⟨p.length, q.items, ?_, fun h4 => absurd rfl h4⟩⟩
        show IsFact (p ++ [x]) p.length own.motions[i].target
        rw [hv.2.1]
        exact hx
      · exact (q.mot i hi').old x
  · rw [e]
    refine q.same x (by omega) (fun m hm => ?_) (fun i hi => ?_)
    · rcases List.mem_append.1 hm with hm | hm
      · exact q.known m hm
      · have : m = newM x := by simpa using hm
        subst this
        show (knownOf own x.a).isSome
        rw [hz]; rfl
    · rcases Nat.lt_or_ge i own.motions.length with h1 | h1
      · rw [List.getElem_append_left h1]
        exact (q.mot i h1).old x
      · rw [List.getElem_append_right h1]
        refine ⟨fun hs => ?_⟩
        have hi2 : i - own.motions.length = 0 := by simp at hi; omega
        simp only [hi2, List.getElem_cons_zero] at hs
        exact absurd rfl hs
  · rw [e]
    obtain ⟨hi, hm⟩ := motD_at hh
    refine q.same x (by omega) (fun m hm => ?_) (fun i hi2 => ?_)
    · rcases set_mem hm with hm | rfl
      · exact q.known m hm
      · exact q.known (motD own x.a) (motD_mem hh).1
    · rw [List.getElem_set]
      split
      · exact ⟨fun hs => absurd ho hs⟩
      · exact (q.mot i (by simpa using hi2)).old x
  · rw [e]
    obtain ⟨hi, hm⟩ := motD_at hh
    refine q.same x (by omega) (fun m hm => ?_) (fun i hi2 => ?_)
    · rcases set_mem hm with hm | rfl
      · exact q.known m hm
      · exact q.known (motD own x.a) (motD_mem hh).1
    · rw [List.getElem_set]
      split
      · rename_i hii
        refine ⟨fun _ => ?_⟩
        have hs := q.known _ (motD_mem hh).1
        cases hk : knownOf own (motD own x.a).target with
        | none => rw [hk] at hs; cases hs
        | some k =>
          obtain ⟨k2, k3⟩ := knownOf_mem hk
          obtain ⟨j, a, b, c2⟩ := q.fact k k2
          have hf : (closeM c own (motD own x.a)).fact = k.item := by
            show itemOf own (motD own x.a).target = k.item
            unfold itemOf; rw [hk]
          have ht : (closeM c own (motD own x.a)).target = k.target := k3.symm
          refine ⟨j, by rw [hf]; exact a, by rw [ht]; exact b.old x, fun _ => ⟨p.length, b.lt, ⟨x, by simp, k1, ?_⟩, fun i h1 h2 r => ?_⟩⟩
          · have h0 : 0 ≤ x.a := by
              unfold hasM at hh
              simp only [Bool.and_eq_true, decide_eq_true_eq] at hh
              exact hh.1
            omega
          · rw [ht] at r
            rcases r.new with r | ⟨r, _⟩
            · exact c2 i h1 r
            · omega
      · exact (q.mot i (by simpa using hi2)).old x
theorem Did.day {c : Council} {l : List CItem} {h : House} (d : Did c zeroHouse l h) : ∀ b, DayInv (l.filter fun x => x.drill == b) (h.led b) := by
  have := Did.inv2 (c := c) (P := fun p h => ∀ b, DayInv (p.filter fun x => x.drill == b) (h.led b)) (fun p h x q e b => by
    have z := doE_zero e
    rw [doH_led, List.filter_append, List.filter_cons]
    by_cases hb : b = x.drill
    · subst hb
      rw [if_pos rfl, if_pos (by simp)]
      exact day_deed c _ _ _ x (q x.drill) z.2.2.2
    · rw [if_neg hb, if_neg (by simpa using Ne.symm hb)]
      simpa using q b) (p := []) d (fun b => by
        cases b <;> exact ⟨rfl, List.Pairwise.nil, fun m hm => absurd hm List.not_mem_nil, fun m hm => absurd hm List.not_mem_nil, fun i hi => absurd hi (by simp [zeroHouse, House.led, zeroLedger])⟩)
  simpa using this
end Go.Proofs.YtogpgnljomchcaaGreat
