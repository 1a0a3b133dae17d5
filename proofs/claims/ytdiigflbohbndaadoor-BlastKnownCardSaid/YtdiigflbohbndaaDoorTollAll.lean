/- Plain laws on blows: a stone between two others; a rock inside another one. Plain laws: the harm of a blow at a cell; the toll of a stretch and its worst cell. -/
import Derived.Test.YtdiigflbohbndaaDoorPlain2
import Derived.Test.YtdiigflbohbndaaDoorBlow1
import Derived.Test.YtdiigflbohbndaaDoorPlain1
namespace Go.Proofs.YtdiigflbohbndaaDoor
open Go.RowKit

/-- The first is slowed more, and held less, than the second. -/
structure StLe (s t : Stone) : Prop where
  size : s.size ≤ t.size
  dens : s.dens ≤ t.dens
  shape : t.shape ≤ s.shape
  slope : s.slope ≤ t.slope
  held : heldBy s ≤ heldBy t
theorem StLe.refl (s : Stone) : StLe s s := ⟨Int.le_refl _, Int.le_refl _, Int.le_refl _, Int.le_refl _, Int.le_refl _⟩
theorem StLe.trans {s t u : Stone} (h : StLe s t) (k : StLe t u) : StLe s u := ⟨Int.le_trans h.size k.size, Int.le_trans h.dens k.dens, Int.le_trans k.shape h.shape, Int.le_trans h.slope k.slope, Int.le_trans h.held k.held⟩
theorem ediv_anti {n d d' : Int} (hn : 0 ≤ n) (hd : 0 < d) (h : d ≤ d') : n / d' ≤ n / d := by
  rw [Int.le_ediv_iff_mul_le hd]
  have h0 : 0 ≤ n / d' := Int.ediv_nonneg hn (by omega)
  have h1 : n / d' * d ≤ n / d' * d' := Int.mul_le_mul_of_nonneg_left h h0
  have h2 : n / d' * d' ≤ n := Int.ediv_mul_le n (by omega)
  omega
theorem way_anti {t p q : Int} (ht : 1 ≤ t) (hp : 0 < p) (h : p ≤ q) : wayOf t q ≤ wayOf t p := by
  unfold wayOf
  have e : ∀ m : Int, 0 < m → (t * 1000 + m - 1) / m = (t * 1000 - 1) / m + 1 := fun m hm => by
    rw [show t * 1000 + m - 1 = (t * 1000 - 1) + 1 * m by omega, Int.add_mul_ediv_right _ _ (by omega)]
  rw [e q (by omega), e p hp]
  have := ediv_anti (n := t * 1000 - 1) (by omega) hp h
  omega
theorem slowed_less {s t : Stone} (hs : StoneOk s) (ht : StoneOk t) (h : StLe s t) {x : Layer} (hx : LayOk x) {v : Int} (hv : 0 ≤ v) : slowedOf s x v ≤ slowedOf t x v := by
  unfold slowedOf lessOf
  have w1 : wayOf x.thick t.slope ≤ wayOf x.thick s.slope := way_anti hx.1.1 (by have := hs.slope; omega) h.slope
  have w0 := way_nonneg ht hx.1.1
  have w2 : wayOf x.thick t.slope * t.shape ≤ wayOf x.thick s.slope * s.shape := Int.mul_le_mul w1 h.shape (by have := ht.shape; omega) (by omega)
  have p0 : 0 ≤ x.dens * v := Int.mul_nonneg hx.2.1 hv
  have n1 : x.dens * v * (wayOf x.thick t.slope * t.shape) ≤ x.dens * v * (wayOf x.thick s.slope * s.shape) := Int.mul_le_mul_of_nonneg_left w2 p0
  have n0 : 0 ≤ x.dens * v * (wayOf x.thick t.slope * t.shape) := Int.mul_nonneg p0 (Int.mul_nonneg w0 (by have := ht.shape; omega))
  have d1 : s.dens * s.size ≤ t.dens * t.size := Int.mul_le_mul h.dens h.size (by have := hs.size; omega) (by have := ht.dens; omega)
  have e1 := Int.ediv_le_ediv (den_pos ht) n1
  have e2 := ediv_anti (n := x.dens * v * (wayOf x.thick s.slope * s.shape)) (Int.le_trans n0 n1) (den_pos hs) (show s.dens * s.size * 1000 ≤ t.dens * t.size * 1000 by omega)
  have e3 := Int.le_trans e1 e2
  omega
theorem slowed_le {s t : Stone} (hs : StoneOk s) (ht : StoneOk t) (h : StLe s t) {x : Layer} (hx : LayOk x) {v v' : Int} (hv : 0 ≤ v) (hvv : v ≤ v') : slowedOf s x v ≤ slowedOf t x v' :=
  Int.le_trans (slowed_mono hs hx hv hvv) (slowed_less hs ht h hx (by omega))
theorem mass_le {s t : Stone} (hs : StoneOk s) (ht : StoneOk t) (h : StLe s t) : 0 ≤ massOf s.size s.dens ∧ massOf s.size s.dens ≤ massOf t.size t.dens := by
  refine ⟨(mass_val hs.size hs.dens).2.1, ?_⟩
  unfold massOf
  have h0 := hs.size
  have h1 := hs.dens
  have h3 : s.size * s.size ≤ t.size * t.size := Int.mul_le_mul h.size h.size (by omega) (by have := ht.size; omega)
  have p3 : 0 ≤ s.size * s.size := Int.mul_nonneg (by omega) (by omega)
  have h4 : s.size * s.size * s.size ≤ t.size * t.size * t.size := Int.mul_le_mul h3 h.size (by omega) (by omega)
  have p4 : 0 ≤ s.size * s.size * s.size := Int.mul_nonneg p3 (by omega)
  exact Int.ediv_le_ediv (by omega) (Int.mul_le_mul h4 h.dens (by omega) (by omega))
theorem energy_le {s t : Stone} (hs : StoneOk s) (ht : StoneOk t) (h : StLe s t) {v v' : Int} (hv : 0 ≤ v) (hvv : v ≤ v') : massOf s.size s.dens * v ≤ massOf t.size t.dens * v' := by
  obtain ⟨m0, m1⟩ := mass_le hs ht h
  exact Int.mul_le_mul m1 hvv hv (by omega)
/-- A stone between two others ends in a blow of theirs. -/
theorem blows_enclose {a s b : Stone} (ha : StoneOk a) (hs : StoneOk s) (hb : StoneOk b) (h1 : StLe a s) (h2 : StLe s b) : ∀ (ls : List Layer) (i : Nat) (va v vb : Int), (∀ x ∈ ls, LayOk x) → 0 ≤ va → va ≤ v → v ≤ vb →
    ∃ bl ∈ blowsFrom a b ls i va vb, bl.layer = ((i + (fallFrom s ls v).1 : Nat) : Int) ∧ bl.lo ≤ massOf s.size s.dens * (fallFrom s ls v).2 ∧ massOf s.size s.dens * (fallFrom s ls v).2 ≤ bl.hi
  | [], i, va, v, vb, _, h0, hv, hvb => ⟨blowAt a b i va vb, by simp [blowsFrom], by simp [blowAt, fallFrom], energy_le (v' := v) ha hs h1 h0 hv, energy_le (v := v) hs hb h2 (Int.le_trans h0 hv) hvb⟩
  | x :: xs, i, va, v, vb, hl, h0, hv, hvb => by
    have hx := hl x List.mem_cons_self
    cases hbu : burstsAt x.dens v (holdOf s.strong s.spin s.pile)
    · have hna : burstsAt x.dens va (heldBy b) = false := by
        rw [Bool.eq_false_iff]
        intro k
        have := bursts_mono hx.2.1 hv h2.held k
        unfold heldBy at this
        rw [this] at hbu
        cases hbu
      obtain ⟨bl, hm, hbl, hlo, hhi⟩ := blows_enclose ha hs hb h1 h2 xs (i + 1) (slowedOf a x va) (slowedOf s x v) (slowedOf b x vb) (fun y hy => hl y (List.mem_cons_of_mem _ hy)) (slowed_nonneg _ _ _) (slowed_le ha hs h1 hx h0 hv) (slowed_le hs hb h2 hx (by omega) hvb)
      rw [fall_go hbu]
      refine ⟨bl, ?_, ?_, hlo, hhi⟩
      · unfold blowsFrom
        rw [hna]
        simp only [Bool.false_eq_true, if_false]
        exact List.mem_append_right _ hm
      · rw [hbl]
        congr 1
        omega
    · have hyb : burstsAt x.dens vb (heldBy a) = true := bursts_mono hx.2.1 hvb h1.held hbu
      rw [fall_burst hbu]
      refine ⟨blowAt a b i va vb, ?_, by simp [blowAt], energy_le ha hs h1 h0 hv, energy_le hs hb h2 (by omega) hvb⟩
      unfold blowsFrom
      rw [hyb]
      simp
theorem blows_some {a b : Stone} (ha : StoneOk a) (hb : StoneOk b) (h : StLe a b) {ls : List Layer} {i : Nat} {va vb : Int} (hl : ∀ x ∈ ls, LayOk x) (h0 : 0 ≤ va) (hv : va ≤ vb) : 0 < (blowsFrom a b ls i va vb).length := by
  obtain ⟨bl, hm, _⟩ := blows_enclose ha ha hb (StLe.refl a) h ls i va va vb hl h0 (Int.le_refl _) hv
  exact List.length_pos_of_mem hm
/-- A pair inside another one has its blows inside the other's. -/
theorem blows_inside {a a' b' b : Stone} (ha : StoneOk a) (ha' : StoneOk a') (hb' : StoneOk b') (hb : StoneOk b) (h1 : StLe a a') (h2 : StLe a' b') (h3 : StLe b' b) : ∀ (ls : List Layer) (i : Nat) (va va' vb' vb : Int), (∀ x ∈ ls, LayOk x) →
    0 ≤ va → va ≤ va' → va' ≤ vb' → vb' ≤ vb → ∀ bl ∈ blowsFrom a' b' ls i va' vb', ∃ bk ∈ blowsFrom a b ls i va vb, bl.layer = bk.layer ∧ bk.lo ≤ bl.lo ∧ bl.lo ≤ bl.hi ∧ bl.hi ≤ bk.hi
  | [], i, va, va', vb', vb, _, h0, hv1, hv2, hv3, bl, hm => by
    simp only [blowsFrom, List.mem_singleton] at hm
    subst hm
    exact ⟨blowAt a b i va vb, by simp [blowsFrom], rfl, energy_le ha ha' h1 h0 hv1, energy_le ha' hb' h2 (by omega) hv2, energy_le hb' hb h3 (by omega) hv3⟩
  | x :: xs, i, va, va', vb', vb, hl, h0, hv1, hv2, hv3, bl, hm => by
    have hx := hl x List.mem_cons_self
    unfold blowsFrom at hm
    rcases List.mem_append.1 hm with hm | hm
    · cases hbu : burstsAt x.dens vb' (heldBy a')
      · rw [hbu] at hm; simp at hm
      · rw [hbu] at hm
        simp only [if_true, List.mem_singleton] at hm
        subst hm
        refine ⟨blowAt a b i va vb, ?_, rfl, energy_le ha ha' h1 h0 hv1, energy_le ha' hb' h2 (by omega) hv2, energy_le hb' hb h3 (by omega) hv3⟩
        unfold blowsFrom
        rw [bursts_mono hx.2.1 hv3 h1.held hbu]
        simp
    · cases hbu : burstsAt x.dens va' (heldBy b')
      · rw [hbu] at hm
        simp only [Bool.false_eq_true, if_false] at hm
        have hna : burstsAt x.dens va (heldBy b) = false := by
          rw [Bool.eq_false_iff]
          intro k
          rw [bursts_mono hx.2.1 hv1 h3.held k] at hbu
          cases hbu
        obtain ⟨bk, hk, e⟩ := blows_inside ha ha' hb' hb h1 h2 h3 xs (i + 1) (slowedOf a x va) (slowedOf a' x va') (slowedOf b' x vb') (slowedOf b x vb) (fun y hy => hl y (List.mem_cons_of_mem _ hy)) (slowed_nonneg _ _ _) (slowed_le ha ha' h1 hx h0 hv1) (slowed_le ha' hb' h2 hx (by omega) hv2) (slowed_le hb' hb h3 hx (by omega) hv3) bl hm
        refine ⟨bk, ?_, e⟩
        unfold blowsFrom
        rw [hna]
        simp only [Bool.false_eq_true, if_false]
        exact List.mem_append_right _ hk
      · rw [hbu] at hm; simp at hm
theorem blows_from (a b : Stone) : ∀ (ls : List Layer) (i : Nat) (va vb : Int), ∀ bl ∈ blowsFrom a b ls i va vb, (i : Int) ≤ bl.layer ∧ bl.layer ≤ ((i + ls.length : Nat) : Int)
  | [], i, va, vb, bl, hm => by
    simp only [blowsFrom, List.mem_singleton] at hm
    subst hm
    simp [blowAt]
  | x :: xs, i, va, vb, bl, hm => by
    unfold blowsFrom at hm
    rcases List.mem_append.1 hm with hm | hm
    · split at hm
      · simp only [List.mem_singleton] at hm
        subst hm
        simp only [blowAt]
        omega
      · simp at hm
    · split at hm
      · simp at hm
      · have := blows_from a b xs (i + 1) _ _ bl hm
        simp only [List.length_cons]
        omega
theorem blows_sorted (a b : Stone) : ∀ (ls : List Layer) (i : Nat) (va vb : Int), (blowsFrom a b ls i va vb).Pairwise fun x y => x.layer < y.layer
  | [], i, va, vb => by simp [blowsFrom]
  | x :: xs, i, va, vb => by
    unfold blowsFrom
    rw [List.pairwise_append]
    refine ⟨by split <;> simp, ?_, ?_⟩
    · split
      · simp
      · exact blows_sorted a b xs _ _ _
    intro p hp q hq
    split at hp
    · simp only [List.mem_singleton] at hp
      subst hp
      split at hq
      · simp at hq
      · have := blows_from a b xs (i + 1) _ _ q hq
        simp only [blowAt]
        omega
    · simp at hp
/-- The weak stone of a rock, one of its stones, its strong one. -/
theorem hold_between {a b n m : Int} (p : Bool) (h : a ≤ b) (ha : 0 ≤ a) (hn : n ≤ m) (hm : m ≤ 1000) : holdOf a m p ≤ holdOf b n p := by
  unfold holdOf
  split
  · exact Int.ediv_le_ediv (by omega) (Int.mul_le_mul h (by omega) (by omega) (by omega))
  · exact h
theorem weak_le {s : Stone} {r : Rock} {f : Fall} (hr : RockOk r f) (h : StoneIn s r f) : StLe (weakS r f) s := by
  have hok := weak_ok hr
  obtain ⟨h1, h2, h3, h4, h5, h6, h7, h8⟩ := h
  refine ⟨h1.1, h2.1, h5.2, h8.1, ?_⟩
  show holdOf r.strong.lo r.spin.hi r.pile ≤ holdOf s.strong s.spin s.pile
  rw [h6]
  exact hold_between r.pile h3.1 hok.strong.1 h4.2 hok.spin.2
theorem strong_le {s : Stone} {r : Rock} {f : Fall} (hr : RockOk r f) (h : StoneIn s r f) (hs : StoneOk s) : StLe s (strongS r f) := by
  have hok := strong_ok hr
  obtain ⟨h1, h2, h3, h4, h5, h6, h7, h8⟩ := h
  refine ⟨h1.2, h2.2, h5.1, h8.2, ?_⟩
  show holdOf s.strong s.spin s.pile ≤ holdOf r.strong.hi r.spin.lo r.pile
  rw [h6]
  exact hold_between r.pile h3.2 hs.strong.1 h4.1 hs.spin.2
theorem weak_strong {r : Rock} {f : Fall} (hr : RockOk r f) : StLe (weakS r f) (strongS r f) := by
  have h1 := weak_ok hr
  have h2 := strong_ok hr
  obtain ⟨⟨r1, r2, r3⟩, ⟨s1, s2, s3⟩, ⟨t1, t2, t3⟩, ⟨n1, n2, n3⟩, ⟨k1, k2, k3⟩, ⟨v1, v2, v3⟩, ⟨l1, l2, l3⟩⟩ := hr
  exact ⟨r2, s2, k2, l2, hold_between (a := r.strong.lo) (b := r.strong.hi) (n := r.spin.lo) (m := r.spin.hi) r.pile t2 t1 n2 n3⟩
theorem speed_le {r : Rock} {f : Fall} (hr : RockOk r f) : 0 ≤ f.speed.lo * f.speed.lo ∧ f.speed.lo * f.speed.lo ≤ f.speed.hi * f.speed.hi := by
  have h1 := (weak_ok hr).speed
  obtain ⟨_, _, _, _, _, ⟨v1, v2, v3⟩, _⟩ := hr
  simp only [weakS] at h1
  exact ⟨Int.mul_nonneg (by omega) (by omega), sq_mono (by omega) v2⟩
theorem blowsOf_some {ls : List Layer} {r : Rock} {f : Fall} (hl : ∀ x ∈ ls, LayOk x) (hr : RockOk r f) : 0 < (blowsOf ls r f).length :=
  blows_some (weak_ok hr) (strong_ok hr) (weak_strong hr) hl (speed_le hr).1 (speed_le hr).2
theorem blowsOf_enclose {ls : List Layer} {r : Rock} {f : Fall} {s : Stone} (hl : ∀ x ∈ ls, LayOk x) (hr : RockOk r f) (h : StoneIn s r f) (hs : StoneOk s) :
    ∃ bl ∈ blowsOf ls r f, bl.layer = ((endsOf ls s).1 : Int) ∧ bl.lo ≤ (endsOf ls s).2 ∧ (endsOf ls s).2 ≤ bl.hi := by
  have hv := (weak_ok hr).speed
  simp only [weakS] at hv
  obtain ⟨bl, hm, h1, h2, h3⟩ := blows_enclose (weak_ok hr) hs (strong_ok hr) (weak_le hr h) (strong_le hr h hs) ls 0 (f.speed.lo * f.speed.lo) (s.speed * s.speed) (f.speed.hi * f.speed.hi) hl (speed_le hr).1
    (sq_mono (by omega) h.speed.1) (sq_mono (by have := hs.speed; omega) h.speed.2)
  rw [Nat.zero_add] at h1
  exact ⟨bl, hm, h1, h2, h3⟩
theorem blowsOf_inside {ls : List Layer} {r r' : Rock} {f f' : Fall} (hl : ∀ x ∈ ls, LayOk x) (hr : RockOk r f) (hr' : RockOk r' f') (h : RockIn r' r) (hf : FallIn f' f) :
    ∀ bl ∈ blowsOf ls r' f', ∃ bk ∈ blowsOf ls r f, bl.layer = bk.layer ∧ bk.lo ≤ bl.lo ∧ bl.lo ≤ bl.hi ∧ bl.hi ≤ bk.hi := by
  obtain ⟨h1, h2, h3, h4, h5, h6⟩ := h
  obtain ⟨f1, f2⟩ := hf
  have ok1 := weak_ok hr
  have ok2 := weak_ok hr'
  have ok3 := strong_ok hr'
  have ok4 := strong_ok hr
  have p1 := ok1.speed
  have p2 := ok2.speed
  have p3 := ok3.speed
  have p4 := ok4.speed
  have q1 := ok1.strong
  have q2 := ok1.spin
  have q3 := ok3.strong
  have q4 := ok3.spin
  simp only [weakS, strongS] at p1 p2 p3 p4 q1 q2 q3 q4
  refine blows_inside ok1 ok2 ok3 ok4 ⟨h1.1, h2.1, h5.2, f2.1, ?_⟩ (weak_strong hr') ⟨h1.2, h2.2, h5.1, f2.2, ?_⟩ ls 0 _ _ _ _ hl (speed_le hr).1 (sq_mono (by omega) f1.1) (speed_le hr').2 (sq_mono (by omega) f1.2)
  · show holdOf r.strong.lo r.spin.hi r.pile ≤ holdOf r'.strong.lo r'.spin.hi r'.pile
    rw [h6]
    exact hold_between r.pile h3.1 (by omega) h4.2 (by omega)
  · show holdOf r'.strong.hi r'.spin.lo r'.pile ≤ holdOf r.strong.hi r.spin.lo r.pile
    rw [h6]
    exact hold_between r.pile h3.2 (by omega) h4.1 (by omega)
end Go.Proofs.YtdiigflbohbndaaDoor
namespace Go.Proofs.YtdiigflbohbndaaDoor
open Go.RowKit

/-- The harm of a blow of an energy in a layer of n, at a cell. -/
def harmsOf (n : Nat) (gs : List Grade) (ps : List Int) (bs : List Bool) (layer en : Int) (a : Nat) : Int :=
  if layer < n then harmOf ps a (min (max 0 (reachOf en gs 0 - (n - layer))) 400).toNat
  else if bs[a]? = some true then waveOf ps bs a (min (reachOf en gs 0) 400).toNat
  else harmOf ps a (min (reachOf en gs 0) 400).toNat
theorem harmsOf_mono {n : Nat} {gs : List Grade} {ps : List Int} {bs : List Bool} (hg : GradesOk gs) (hl : LandOk ps bs.length) {layer en en' : Int} {a : Nat} (ha : a < ps.length) (h : en ≤ en') : harmsOf n gs ps bs layer en a ≤ harmsOf n gs ps bs layer en' a := by
  have hr := reach_mono h gs 0 (fun x hx => (hg.rng x hx).2.2.1) hg.inc
  have hp : NonNeg ps := hl.p
  unfold harmsOf
  split
  · exact harm_mono hp ha (by omega)
  · split
    · exact wave_mono hp hl.m ha (by omega)
    · exact harm_mono hp ha (by omega)
theorem harm_nonneg {ps : List Int} (h : NonNeg ps) {a : Nat} (ha : a < ps.length) (F : Nat) : 0 ≤ harmOf ps a F := by
  have h1 := harm_own h ha F
  have h2 := h ps[a] (List.getElem_mem ha)
  omega
theorem harmsOf_nonneg {n : Nat} {gs : List Grade} {ps : List Int} {bs : List Bool} (hl : LandOk ps bs.length) {layer en : Int} {a : Nat} (ha : a < ps.length) : 0 ≤ harmsOf n gs ps bs layer en a := by
  have hp : NonNeg ps := hl.p
  unfold harmsOf
  split
  · exact harm_nonneg hp ha _
  · split
    · exact wave_nonneg hp hl.m ha _
    · exact harm_nonneg hp ha _
theorem harmOf_le {ps : List Int} (h : NonNeg ps) (hl : ps.length ≤ 400) {a : Nat} (ha : a < ps.length) (F : Nat) : harmOf ps a F ≤ 1717986918400 := by
  have h1 := harm_sum h ha F
  have h2 := (sum_bd ps h).2
  omega
theorem harmsOf_le {n : Nat} {gs : List Grade} {ps : List Int} {bs : List Bool} (hl : LandOk ps bs.length) {layer en : Int} {a : Nat} (ha : a < ps.length) : harmsOf n gs ps bs layer en a ≤ 1717986918400 := by
  have hp : NonNeg ps := hl.p
  unfold harmsOf
  split
  · exact harmOf_le hp hl.l4 ha _
  · split
    · exact Int.le_trans (wave_harm hp hl.m ha _) (harmOf_le hp hl.l4 ha _)
    · exact harmOf_le hp hl.l4 ha _
structure TS where
  lo : Int
  hi : Int
  wo : Nat
def tStep (a : Nat) (l u : Int) (s : TS) : TS := ⟨if s.lo < 0 ∨ l < s.lo then l else s.lo, if s.hi < u then u else s.hi, if s.hi < u then a else s.wo⟩
def tCell (H : Int → Int → Nat → Int) (a : Nat) : List Blow → TS → TS
  | [], s => s
  | b :: bl, s => tCell H a bl (tStep a (H b.layer b.lo a) (H b.layer b.hi a) s)
def tRun (H : Int → Int → Nat → Int) (bl : List Blow) : Nat → Nat → TS → TS
  | 0, _, s => s
  | n + 1, a, s => tRun H bl n (a + 1) (tCell H a bl s)
/-- The toll of the cells from one to another one, and the first worst cell. -/
def tollOf (H : Int → Int → Nat → Int) (bl : List Blow) (a b : Nat) : TS := tRun H bl (b + 1 - a) a ⟨-1, -1, a⟩
theorem tRun_succ (H : Int → Int → Nat → Int) (bl : List Blow) (a b : Nat) (h : a ≤ b) (s : TS) : tRun H bl (b + 1 - a) a s = tRun H bl (b + 1 - (a + 1)) (a + 1) (tCell H a bl s) := by
  rw [show b + 1 - a = (b + 1 - (a + 1)) + 1 by omega]
  rfl
theorem tCell_cons (H : Int → Int → Nat → Int) (a : Nat) (b : Blow) (bl : List Blow) (s : TS) : tCell H a (b :: bl) s = tCell H a bl (tStep a (H b.layer b.lo a) (H b.layer b.hi a) s) := rfl
/-- What has been seen is in the toll, and nothing else. -/
structure Good (H : Int → Int → Nat → Int) (done : Nat → Blow → Prop) (s : TS) : Prop where
  all : ∀ a b, done a b → s.lo ≤ H b.layer b.lo a ∧ H b.layer b.hi a ≤ s.hi
  lo : ∃ a b, done a b ∧ s.lo = H b.layer b.lo a
  hi : ∃ b, done s.wo b ∧ s.hi = H b.layer b.hi s.wo
  first : ∀ a b, done a b → a < s.wo → H b.layer b.hi a < s.hi
theorem Good.same {H : Int → Int → Nat → Int} {done done' : Nat → Blow → Prop} {s : TS} (h : Good H done s) (e : ∀ a b, done a b ↔ done' a b) : Good H done' s := by
  obtain ⟨h1, ⟨x, y, h2, h2'⟩, ⟨z, h3, h3'⟩, h4⟩ := h
  exact ⟨fun a b d => h1 a b ((e a b).2 d), ⟨x, y, (e _ _).1 h2, h2'⟩, ⟨z, (e _ _).1 h3, h3'⟩, fun a b d => h4 a b ((e a b).2 d)⟩
theorem Good.step {H : Int → Int → Nat → Int} {done : Nat → Blow → Prop} {s : TS} (h : Good H done s) (hs : 0 ≤ s.lo) (a : Nat) (b : Blow) (ha : ∀ a' b', done a' b' → a' ≤ a) :
    Good H (fun a' b' => done a' b' ∨ (a' = a ∧ b' = b)) (tStep a (H b.layer b.lo a) (H b.layer b.hi a) s) := by
  obtain ⟨h1, ⟨x, y, h2, h2'⟩, ⟨z, h3, h3'⟩, h4⟩ := h
  have hwo := ha _ _ h3
  refine ⟨?_, ?_, ?_, ?_⟩
  · rintro a' b' (d | ⟨rfl, rfl⟩)
    · have := h1 a' b' d
      simp only [tStep]
      constructor <;> split <;> omega
    · simp only [tStep]
      constructor <;> split <;> omega
  · simp only [tStep]
    by_cases hc : s.lo < 0 ∨ H b.layer b.lo a < s.lo
    · rw [if_pos hc]; exact ⟨a, b, .inr ⟨rfl, rfl⟩, rfl⟩
    · rw [if_neg hc]; exact ⟨x, y, .inl h2, h2'⟩
  · simp only [tStep]
    by_cases hc : s.hi < H b.layer b.hi a
    · exact ⟨b, .inr ⟨if_pos hc, rfl⟩, by rw [if_pos hc, if_pos hc]⟩
    · exact ⟨z, .inl (by rw [if_neg hc]; exact h3), by rw [if_neg hc, if_neg hc]; exact h3'⟩
  · intro a' b' d hlt
    by_cases hc : s.hi < H b.layer b.hi a
    · simp only [tStep, if_pos hc] at hlt ⊢
      rcases d with d | ⟨rfl, rfl⟩
      · have := (h1 a' b' d).2; omega
      · omega
    · simp only [tStep, if_neg hc] at hlt ⊢
      rcases d with d | ⟨rfl, rfl⟩
      · exact h4 a' b' d hlt
      · omega
/-- Good, or nothing seen yet. -/
def GoodO (H : Int → Int → Nat → Int) (a0 : Nat) (done : Nat → Blow → Prop) (s : TS) : Prop := (Good H done s ∧ 0 ≤ s.lo) ∨ (s = ⟨-1, -1, a0⟩ ∧ ∀ a b, ¬ done a b)
theorem GoodO.same {H : Int → Int → Nat → Int} {a0 : Nat} {done done' : Nat → Blow → Prop} {s : TS} (h : GoodO H a0 done s) (e : ∀ a b, done a b ↔ done' a b) : GoodO H a0 done' s := by
  rcases h with ⟨h, h0⟩ | ⟨h, h0⟩
  · exact .inl ⟨h.same e, h0⟩
  · exact .inr ⟨h, fun a b d => h0 a b ((e a b).2 d)⟩
theorem GoodO.step {H : Int → Int → Nat → Int} {a0 : Nat} {done : Nat → Blow → Prop} {s : TS} (h : GoodO H a0 done s) (a : Nat) (b : Blow) (ha : ∀ a' b', done a' b' → a' ≤ a) (h0 : 0 ≤ H b.layer b.lo a) (h1 : 0 ≤ H b.layer b.hi a) :
    GoodO H a0 (fun a' b' => done a' b' ∨ (a' = a ∧ b' = b)) (tStep a (H b.layer b.lo a) (H b.layer b.hi a) s) := by
  left
  rcases h with ⟨h, hs⟩ | ⟨rfl, hn⟩
  · refine ⟨h.step hs a b ha, ?_⟩
    simp only [tStep]
    split <;> omega
  · have e : tStep a (H b.layer b.lo a) (H b.layer b.hi a) ⟨-1, -1, a0⟩ = ⟨H b.layer b.lo a, H b.layer b.hi a, a⟩ := by
      simp only [tStep]
      rw [if_pos (by omega), if_pos (by omega), if_pos (by omega)]
    rw [e]
    refine ⟨⟨?_, ⟨a, b, .inr ⟨rfl, rfl⟩, rfl⟩, ⟨b, .inr ⟨rfl, rfl⟩, rfl⟩, ?_⟩, h0⟩
    · rintro a' b' (d | ⟨rfl, rfl⟩)
      · exact absurd d (hn _ _)
      · exact ⟨Int.le_refl _, Int.le_refl _⟩
    · rintro a' b' (d | ⟨rfl, rfl⟩) hlt
      · exact absurd d (hn _ _)
      · exact absurd hlt (Nat.lt_irrefl _)
theorem GoodO.cell {H : Int → Int → Nat → Int} {a0 a : Nat} : ∀ (bl : List Blow) {done : Nat → Blow → Prop} {s : TS}, GoodO H a0 done s → (∀ a' b', done a' b' → a' ≤ a) → (∀ b ∈ bl, 0 ≤ H b.layer b.lo a ∧ 0 ≤ H b.layer b.hi a) →
    GoodO H a0 (fun a' b' => done a' b' ∨ (a' = a ∧ b' ∈ bl)) (tCell H a bl s)
  | [], done, s, h, _, _ => h.same fun a b => by simp
  | b :: bl, done, s, h, ha, h0 => by
    rw [tCell_cons]
    have h1 := h.step a b ha (h0 b List.mem_cons_self).1 (h0 b List.mem_cons_self).2
    refine (GoodO.cell bl h1 ?_ fun c hc => h0 c (List.mem_cons_of_mem _ hc)).same fun a' b' => ?_
    · rintro a' b' (d | ⟨rfl, rfl⟩)
      · exact ha _ _ d
      · exact Nat.le_refl _
    · rw [List.mem_cons]
      constructor
      · rintro ((h | ⟨h1, h2⟩) | ⟨h1, h2⟩)
        · exact .inl h
        · exact .inr ⟨h1, .inl h2⟩
        · exact .inr ⟨h1, .inr h2⟩
      · rintro (h | ⟨h1, h2 | h2⟩)
        · exact .inl (.inl h)
        · exact .inl (.inr ⟨h1, h2⟩)
        · exact .inr ⟨h1, h2⟩
theorem GoodO.run {H : Int → Int → Nat → Int} {a0 : Nat} (bl : List Blow) : ∀ (n a : Nat) {done : Nat → Blow → Prop} {s : TS}, GoodO H a0 done s → (∀ a' b', done a' b' → a' ≤ a) → (∀ a', a ≤ a' → a' < a + n → ∀ b ∈ bl, 0 ≤ H b.layer b.lo a' ∧ 0 ≤ H b.layer b.hi a') →
    GoodO H a0 (fun a' b' => done a' b' ∨ ((a ≤ a' ∧ a' < a + n) ∧ b' ∈ bl)) (tRun H bl n a s)
  | 0, a, done, s, h, _, _ => h.same fun a' b => ⟨.inl, fun h => h.elim id fun h => absurd h.1 (by omega)⟩
  | n + 1, a, done, s, h, ha, h0 => by
    have h1 := h.cell bl ha (h0 a (Nat.le_refl _) (by omega))
    refine (GoodO.run bl n (a + 1) h1 ?_ fun a' h2 h3 => h0 a' (by omega) (by omega)).same fun a' b' => ?_
    · rintro a' b' (d | ⟨rfl, _⟩)
      · have := ha _ _ d; omega
      · omega
    · constructor
      · rintro ((h | ⟨rfl, h2⟩) | ⟨h1, h2⟩)
        · exact .inl h
        · exact .inr ⟨by omega, h2⟩
        · exact .inr ⟨by omega, h2⟩
      · rintro (h | ⟨h1, h2⟩)
        · exact .inl (.inl h)
        · rcases Nat.lt_or_ge a a' with h3 | h3
          · exact .inr ⟨by omega, h2⟩
          · exact .inl (.inr ⟨by omega, h2⟩)
/-- What a toll is. -/
theorem tollOf_good {H : Int → Int → Nat → Int} {bl : List Blow} {a b : Nat} (hab : a ≤ b) (hbl : 0 < bl.length) (h0 : ∀ a', a ≤ a' → a' ≤ b → ∀ x ∈ bl, 0 ≤ H x.layer x.lo a' ∧ 0 ≤ H x.layer x.hi a') :
    Good H (fun a' x => (a ≤ a' ∧ a' ≤ b) ∧ x ∈ bl) (tollOf H bl a b) ∧ 0 ≤ (tollOf H bl a b).lo := by
  have h := (GoodO.run (H := H) (a0 := a) bl (b + 1 - a) a (done := fun _ _ => False) (s := ⟨-1, -1, a⟩) (.inr ⟨rfl, fun _ _ h => h⟩) (fun _ _ h => h.elim) fun a' h1 h2 => h0 a' h1 (by omega)).same (done' := fun a' x => (a ≤ a' ∧ a' ≤ b) ∧ x ∈ bl) fun a' x => by
    constructor
    · rintro (h | ⟨h1, h2⟩)
      · exact h.elim
      · exact ⟨by omega, h2⟩
    · rintro ⟨h1, h2⟩
      exact .inr ⟨by omega, h2⟩
  rcases h with h | ⟨_, h⟩
  · exact h
  · exact absurd ⟨⟨Nat.le_refl _, hab⟩, List.getElem_mem hbl⟩ (h a bl[0])
/-- Of a stretch inside another one, of blows inside others: the toll lies inside. -/
theorem Good.inside {H : Int → Int → Nat → Int} {d d' : Nat → Blow → Prop} {s s' : TS} (h : Good H d s) (h' : Good H d' s')
    (hd : ∀ a b, d a b → ∃ b', d' a b' ∧ H b'.layer b'.lo a ≤ H b.layer b.lo a ∧ H b.layer b.lo a ≤ H b.layer b.hi a ∧ H b.layer b.hi a ≤ H b'.layer b'.hi a) : s'.lo ≤ s.lo ∧ s.lo ≤ s.hi ∧ s.hi ≤ s'.hi := by
  obtain ⟨a1, b1, h1, h2⟩ := h.lo
  obtain ⟨b2, h3, h4⟩ := h.hi
  obtain ⟨c1, e1, e2, e3, e4⟩ := hd _ _ h1
  obtain ⟨c2, g1, g2, g3, g4⟩ := hd _ _ h3
  have k1 := h'.all _ _ e1
  have k2 := h'.all _ _ g1
  have k3 := h.all _ _ h1
  have k4 := h.all _ _ h3
  omega
end Go.Proofs.YtdiigflbohbndaaDoor
