/- Plain laws on blows: a stone between two others; a rock inside another one. -/
import Derived.Test.YtdiigflbohbndaaDoorPlain2
import Derived.Test.YtdiigflbohbndaaDoorBlow1
namespace Go.Proofs.YtdiigflbohbndaaDoor
open Go.RowKit

/-- The first is slowed more, and held less, than the second. -/
structure StLe (s t : Stone) : Prop where
  size : s.size ≤ t.size
  dens : s.dens ≤ t.dens
  shape : t.shape ≤ s.shape
  slope : s.slope ≤ t.slope
  held : heldBy s ≤ heldBy t
theorem StLe.refl (s : Stone) : StLe s s := ⟨Int.le_refl _, Int.le_refl _, Int.le_refl _, Int.le_refl _, Int.le_refl _⟩
theorem StLe.trans {s t u : Stone} (h : StLe s t) (k : StLe t u) : StLe s u := ⟨Int.le_trans h.size k.size, Int.le_trans h.dens k.dens, Int.le_trans k.shape h.shape, Int.le_trans h.slope k.slope, Int.le_trans h.held k.held⟩
theorem ediv_anti {n d d' : Int} (hn : 0 ≤ n) (hd : 0 < d) (h : d ≤ d') : n / d' ≤ n / d := by
  rw [Int.le_ediv_iff_mul_le hd]
  have h0 : 0 ≤ n / d' := Int.ediv_nonneg hn (by omega)
  have h1 : n / d' * d ≤ n / d' * d' := Int.mul_le_mul_of_nonneg_left h h0
  have h2 : n / d' * d' ≤ n := Int.ediv_mul_le n (by omega)
  omega
theorem way_anti {t p q : Int} (ht : 1 ≤ t) (hp : 0 < p) (h : p ≤ q) : wayOf t q ≤ wayOf t p := by
  unfold wayOf
  have e : ∀ m : Int, 0 < m → (t * 1000 + m - 1) / m = (t * 1000 - 1) / m + 1 := fun m hm => by
    rw [show t * 1000 + m - 1 = (t * 1000 - 1) + 1 * m by omega, Int.add_mul_ediv_right _ _ (by omega)]
  rw [e q (by omega), e p hp]
  have := ediv_anti (n := t * 1000 - 1) (by omega) hp h
  omega
theorem slowed_less {s t : Stone} (hs : StoneOk s) (ht : StoneOk t) (h : StLe s t) {x : Layer} (hx : LayOk x) {v : Int} (hv : 0 ≤ v) : slowedOf s x v ≤ slowedOf t x v := by
  unfold slowedOf lessOf
  have w1 : wayOf x.thick t.slope ≤ wayOf x.thick s.slope := way_anti hx.1.1 (by have := hs.slope; omega) h.slope
  have w0 := way_nonneg ht hx.1.1
  have w2 : wayOf x.thick t.slope * t.shape ≤ wayOf x.thick s.slope * s.shape := Int.mul_le_mul w1 h.shape (by have := ht.shape; omega) (by omega)
  have p0 : 0 ≤ x.dens * v := Int.mul_nonneg hx.2.1 hv
  have n1 : x.dens * v * (wayOf x.thick t.slope * t.shape) ≤ x.dens * v * (wayOf x.thick s.slope * s.shape) := Int.mul_le_mul_of_nonneg_left w2 p0
  have n0 : 0 ≤ x.dens * v * (wayOf x.thick t.slope * t.shape) := Int.mul_nonneg p0 (Int.mul_nonneg w0 (by have := ht.shape; omega))
  have d1 : s.dens * s.size ≤ t.dens * t.size := Int.mul_le_mul h.dens h.size (by have := hs.size; omega) (by have := ht.dens; omega)
  have e1 := Int.ediv_le_ediv (den_pos ht) n1
  have e2 := ediv_anti (n := x.dens * v * (wayOf x.thick s.slope * s.shape)) (Int.le_trans n0 n1) (den_pos hs) (show s.dens * s.size * 1000 ≤ t.dens * t.size * 1000 by omega)
  have e3 := Int.le_trans e1 e2
  omega
theorem slowed_le {s t : Stone} (hs : StoneOk s) (ht : StoneOk t) (h : StLe s t) {x : Layer} (hx : LayOk x) {v v' : Int} (hv : 0 ≤ v) (hvv : v ≤ v') : slowedOf s x v ≤ slowedOf t x v' :=
  Int.le_trans (slowed_mono hs hx hv hvv) (slowed_less hs ht h hx (by omega))
theorem mass_le {s t : Stone} (hs : StoneOk s) (ht : StoneOk t) (h : StLe s t) : 0 ≤ massOf s.size s.dens ∧ massOf s.size s.dens ≤ massOf t.size t.dens := by
  refine ⟨(mass_val hs.size hs.dens).2.1, ?_⟩
  unfold massOf
  have h0 := hs.size
  have h1 := hs.dens
  have h3 : s.size * s.size ≤ t.size * t.size := Int.mul_le_mul h.size h.size (by omega) (by have := ht.size; omega)
  have p3 : 0 ≤ s.size * s.size := Int.mul_nonneg (by omega) (by omega)
  have h4 : s.size * s.size * s.size ≤ t.size * t.size * t.size := Int.mul_le_mul h3 h.size (by omega) (by omega)
  have p4 : 0 ≤ s.size * s.size * s.size := Int.mul_nonneg p3 (by omega)
  exact Int.ediv_le_ediv (by omega) (Int.mul_le_mul h4 h.dens (by omega) (by omega))
theorem energy_le {s t : Stone} (hs : StoneOk s) (ht : StoneOk t) (h : StLe s t) {v v' : Int} (hv : 0 ≤ v) (hvv : v ≤ v') : massOf s.size s.dens * v ≤ massOf t.size t.dens * v' := by
  obtain ⟨m0, m1⟩ := mass_le hs ht h
  exact Int.mul_le_mul m1 hvv hv (by omega)
/-- A stone between two others ends in a blow of theirs. -/
theorem blows_enclose {a s b : Stone} (ha : StoneOk a) (hs : StoneOk s) (hb : StoneOk b) (h1 : StLe a s) (h2 : StLe s b) : ∀ (ls : List Layer) (i : Nat) (va v vb : Int), (∀ x ∈ ls, LayOk x) → 0 ≤ va → va ≤ v → v ≤ vb →
    ∃ bl ∈ blowsFrom a b ls i va vb, bl.layer = ((i + (fallFrom s ls v).1 : Nat) : Int) ∧ bl.lo ≤ massOf s.size s.dens * (fallFrom s ls v).2 ∧ massOf s.size s.dens * (fallFrom s ls v).2 ≤ bl.hi
  | [], i, va, v, vb, _, h0, hv, hvb => ⟨blowAt a b i va vb, by simp [blowsFrom], by simp [blowAt, fallFrom], energy_le (v' := v) ha hs h1 h0 hv, energy_le (v := v) hs hb h2 (Int.le_trans h0 hv) hvb⟩
  | x :: xs, i, va, v, vb, hl, h0, hv, hvb => by
    have hx := hl x List.mem_cons_self
    cases hbu : burstsAt x.dens v (holdOf s.strong s.spin s.pile)
    · have hna : burstsAt x.dens va (heldBy b) = false := by
        rw [Bool.eq_false_iff]
        intro k
        have := bursts_mono hx.2.1 hv h2.held k
        unfold heldBy at this
        rw [this] at hbu
        cases hbu
      obtain ⟨bl, hm, hbl, hlo, hhi⟩ := blows_enclose ha hs hb h1 h2 xs (i + 1) (slowedOf a x va) (slowedOf s x v) (slowedOf b x vb) (fun y hy => hl y (List.mem_cons_of_mem _ hy)) (slowed_nonneg _ _ _) (slowed_le ha hs h1 hx h0 hv) (slowed_le hs hb h2 hx (by omega) hvb)
      rw [fall_go hbu]
      refine ⟨bl, ?_, ?_, hlo, hhi⟩
      · unfold blowsFrom
        rw [hna]
        simp only [Bool.false_eq_true, if_false]
        exact List.mem_append_right _ hm
      · rw [hbl]
        congr 1
        omega
    · have hyb : burstsAt x.dens vb (heldBy a) = true := bursts_mono hx.2.1 hvb h1.held hbu
      rw [fall_burst hbu]
      refine ⟨blowAt a b i va vb, ?_, by simp [blowAt], energy_le ha hs h1 h0 hv, energy_le hs hb h2 (by omega) hvb⟩
      unfold blowsFrom
      rw [hyb]
      simp
theorem blows_some {a b : Stone} (ha : StoneOk a) (hb : StoneOk b) (h : StLe a b) {ls : List Layer} {i : Nat} {va vb : Int} (hl : ∀ x ∈ ls, LayOk x) (h0 : 0 ≤ va) (hv : va ≤ vb) : 0 < (blowsFrom a b ls i va vb).length := by
  obtain ⟨bl, hm, _⟩ := blows_enclose ha ha hb (StLe.refl a) h ls i va va vb hl h0 (Int.le_refl _) hv
  exact List.length_pos_of_mem hm
/-- A pair inside another one has its blows inside the other's. -/
theorem blows_inside {a a' b' b : Stone} (ha : StoneOk a) (ha' : StoneOk a') (hb' : StoneOk b') (hb : StoneOk b) (h1 : StLe a a') (h2 : StLe a' b') (h3 : StLe b' b) : ∀ (ls : List Layer) (i : Nat) (va va' vb' vb : Int), (∀ x ∈ ls, LayOk x) →
    0 ≤ va → va ≤ va' → va' ≤ vb' → vb' ≤ vb → ∀ bl ∈ blowsFrom a' b' ls i va' vb', ∃ bk ∈ blowsFrom a b ls i va vb, bl.layer = bk.layer ∧ bk.lo ≤ bl.lo ∧ bl.lo ≤ bl.hi ∧ bl.hi ≤ bk.hi
  | [], i, va, va', vb', vb, _, h0, hv1, hv2, hv3, bl, hm => by
    simp only [blowsFrom, List.mem_singleton] at hm
    subst hm
    exact ⟨blowAt a b i va vb, by simp [blowsFrom], rfl, energy_le ha ha' h1 h0 hv1, energy_le ha' hb' h2 (by omega) hv2, energy_le hb' hb h3 (by omega) hv3⟩
  | x :: xs, i, va, va', vb', vb, hl, h0, hv1, hv2, hv3, bl, hm => by
    have hx := hl x List.mem_cons_self
    unfold blowsFrom at hm
    rcases List.mem_append.1 hm with hm | hm
    · cases hbu : burstsAt x.dens vb' (heldBy a')
      · rw [hbu] at hm; simp at hm
      · rw [hbu] at hm
        simp only [if_true, List.mem_singleton] at hm
        subst hm
        refine ⟨blowAt a b i va vb, ?_, rfl, energy_le ha ha' h1 h0 hv1, energy_le ha' hb' h2 (by omega) hv2, energy_le hb' hb h3 (by omega) hv3⟩
        unfold blowsFrom
        rw [bursts_mono hx.2.1 hv3 h1.held hbu]
        simp
    · cases hbu : burstsAt x.dens va' (heldBy b')
      · rw [hbu] at hm
        simp only [Bool.false_eq_true, if_false] at hm
        have hna : burstsAt x.dens va (heldBy b) = false := by
          rw [Bool.eq_false_iff]
          intro k
          rw [bursts_mono hx.2.1 hv1 h3.held k] at hbu
          cases hbu
        obtain ⟨bk, hk, e⟩ := blows_inside ha ha' hb' hb h1 h2 h3 xs (i + 1) (slowedOf a x va) (slowedOf a' x va') (slowedOf b' x vb') (slowedOf b x vb) (fun y hy => hl y (List.mem_cons_of_mem _ hy)) (slowed_nonneg _ _ _) (slowed_le ha ha' h1 hx h0 hv1) (slowed_le ha' hb' h2 hx (by omega) hv2) (slowed_le hb' hb h3 hx (by omega) hv3) bl hm
        refine ⟨bk, ?_, e⟩
        unfold blowsFrom
        rw [hna]
        simp only [Bool.false_eq_true, if_false]
        exact List.mem_append_right _ hk
      · rw [hbu] at hm; simp at hm
theorem blows_from (a b : Stone) : ∀ (ls : List Layer) (i : Nat) (va vb : Int), ∀ bl ∈ blowsFrom a b ls i va vb, (i : Int) ≤ bl.layer ∧ bl.layer ≤ ((i + ls.length : Nat) : Int)
  | [], i, va, vb, bl, hm => by
    simp only [blowsFrom, List.mem_singleton] at hm
    subst hm
    simp [blowAt]
  | x :: xs, i, va, vb, bl, hm => by
    unfold blowsFrom at hm
    rcases List.mem_append.1 hm with hm | hm
    · split at hm
      · simp only [List.mem_singleton] at hm
        subst hm
        simp only [blowAt]
        omega
      · simp at hm
    · split at hm
      · simp at hm
      · have := blows_from a b xs (i + 1) _ _ bl hm
        simp only [List.length_cons]
        omega
theorem blows_sorted (a b : Stone) : ∀ (ls : List Layer) (i : Nat) (va vb : Int), (blowsFrom a b ls i va vb).Pairwise fun x y => x.layer < y.layer
  | [], i, va, vb => by simp [blowsFrom]
  | x :: xs, i, va, vb => by
    unfold blowsFrom
    rw [List.pairwise_append]
    refine ⟨by split <;> simp, ?_, ?_⟩
    · split
      · simp
      · exact blows_sorted a b xs _ _ _
    intro p hp q hq
    split at hp
    · simp only [List.mem_singleton] at hp
      subst hp
      split at hq
      · simp at hq
      · have := blows_from a b xs (i + 1) _ _ q hq
        simp only [blowAt]
        omega
    · simp at hp
/-- The weak stone of a rock, one of its stones, its strong one. -/
theorem hold_between {a b n m : Int} (p : Bool) (h : a ≤ b) (ha : 0 ≤ a) (hn : n ≤ m) (hm : m ≤ 1000) : holdOf a m p ≤ holdOf b n p := by
  unfold holdOf
  split
  · exact Int.ediv_le_ediv (by omega) (Int.mul_le_mul h (by omega) (by omega) (by omega))
  · exact h
theorem weak_le {s : Stone} {r : Rock} {f : Fall} (hr : RockOk r f) (h : StoneIn s r f) : StLe (weakS r f) s := by
  have hok := weak_ok hr
  obtain ⟨h1, h2, h3, h4, h5, h6, h7, h8⟩ := h
  refine ⟨h1.1, h2.1, h5.2, h8.1, ?_⟩
  show holdOf r.strong.lo r.spin.hi r.pile ≤ holdOf s.strong s.spin s.pile
  rw [h6]
  exact hold_between r.pile h3.1 hok.strong.1 h4.2 hok.spin.2
theorem strong_le {s : Stone} {r : Rock} {f : Fall} (hr : RockOk r f) (h : StoneIn s r f) (hs : StoneOk s) : StLe s (strongS r f) := by
  have hok := strong_ok hr
  obtain ⟨h1, h2, h3, h4, h5, h6, h7, h8⟩ := h
  refine ⟨h1.2, h2.2, h5.1, h8.2, ?_⟩
  show holdOf s.strong s.spin s.pile ≤ holdOf r.strong.hi r.spin.lo r.pile
  rw [h6]
  exact hold_between r.pile h3.2 hs.strong.1 h4.1 hs.spin.2
theorem weak_strong {r : Rock} {f : Fall} (hr : RockOk r f) : StLe (weakS r f) (strongS r f) := by
  have h1 := weak_ok hr
  have h2 := strong_ok hr
  obtain ⟨⟨r1, r2, r3⟩, ⟨s1, s2, s3⟩, ⟨t1, t2, t3⟩, ⟨n1, n2, n3⟩, ⟨k1, k2, k3⟩, ⟨v1, v2, v3⟩, ⟨l1, l2, l3⟩⟩ := hr
  exact ⟨r2, s2, k2, l2, hold_between (a := r.strong.lo) (b := r.strong.hi) (n := r.spin.lo) (m := r.spin.hi) r.pile t2 t1 n2 n3⟩
theorem speed_le {r : Rock} {f : Fall} (hr : RockOk r f) : 0 ≤ f.speed.lo * f.speed.lo ∧ f.speed.lo * f.speed.lo ≤ f.speed.hi * f.speed.hi := by
  have h1 := (weak_ok hr).speed
  obtain ⟨_, _, _, _, _, ⟨v1, v2, v3⟩, _⟩ := hr
  simp only [weakS] at h1
  exact ⟨Int.mul_nonneg (by omega) (by omega), sq_mono (by omega) v2⟩
theorem blowsOf_some {ls : List Layer} {r : Rock} {f : Fall} (hl : ∀ x ∈ ls, LayOk x) (hr : RockOk r f) : 0 < (blowsOf ls r f).length :=
  blows_some (weak_ok hr) (strong_ok hr) (weak_strong hr) hl (speed_le hr).1 (speed_le hr).2
theorem blowsOf_enclose {ls : List Layer} {r : Rock} {f : Fall} {s : Stone} (hl : ∀ x ∈ ls, LayOk x) (hr : RockOk r f) (h : StoneIn s r f) (hs : StoneOk s) :
    ∃ bl ∈ blowsOf ls r f, bl.layer = ((endsOf ls s).1 : Int) ∧ bl.lo ≤ (endsOf ls s).2 ∧ (endsOf ls s).2 ≤ bl.hi := by
  have hv := (weak_ok hr).speed
  simp only [weakS] at hv
  obtain ⟨bl, hm, h1, h2, h3⟩ := blows_enclose (weak_ok hr) hs (strong_ok hr) (weak_le hr h) (strong_le hr h hs) ls 0 (f.speed.lo * f.speed.lo) (s.speed * s.speed) (f.speed.hi * f.speed.hi) hl (speed_le hr).1
    (sq_mono (by omega) h.speed.1) (sq_mono (by have := hs.speed; omega) h.speed.2)
  rw [Nat.zero_add] at h1
  exact ⟨bl, hm, h1, h2, h3⟩
theorem blowsOf_inside {ls : List Layer} {r r' : Rock} {f f' : Fall} (hl : ∀ x ∈ ls, LayOk x) (hr : RockOk r f) (hr' : RockOk r' f') (h : RockIn r' r) (hf : FallIn f' f) :
    ∀ bl ∈ blowsOf ls r' f', ∃ bk ∈ blowsOf ls r f, bl.layer = bk.layer ∧ bk.lo ≤ bl.lo ∧ bl.lo ≤ bl.hi ∧ bl.hi ≤ bk.hi := by
  obtain ⟨h1, h2, h3, h4, h5, h6⟩ := h
  obtain ⟨f1, f2⟩ := hf
  have ok1 := weak_ok hr
  have ok2 := weak_ok hr'
  have ok3 := strong_ok hr'
  have ok4 := strong_ok hr
  have p1 := ok1.speed
  have p2 := ok2.speed
  have p3 := ok3.speed
  have p4 := ok4.speed
  have q1 := ok1.strong
  have q2 := ok1.spin
  have q3 := ok3.strong
  have q4 := ok3.spin
  simp only [weakS, strongS] at p1 p2 p3 p4 q1 q2 q3 q4
  refine blows_inside ok1 ok2 ok3 ok4 ⟨h1.1, h2.1, h5.2, f2.1, ?_⟩ (weak_strong hr') ⟨h1.2, h2.2, h5.1, f2.2, ?_⟩ ls 0 _ _ _ _ hl (speed_le hr).1 (sq_mono (by omega) f1.1) (speed_le hr').2 (sq_mono (by omega) f1.2)
  · show holdOf r.strong.lo r.spin.hi r.pile ≤ holdOf r'.strong.lo r'.spin.hi r'.pile
    rw [h6]
    exact hold_between r.pile h3.1 (by omega) h4.2 (by omega)
  · show holdOf r'.strong.hi r'.spin.lo r'.pile ≤ holdOf r.strong.hi r.spin.lo r.pile
    rw [h6]
    exact hold_between r.pile h3.2 (by omega) h4.1 (by omega)
end Go.Proofs.YtdiigflbohbndaaDoor
