/- The statement on stronger, faster and thicker: its walk. -/
import Derived.Test.YtdiigflbohbndaaDoorLaw1
import Derived.Test.YtdiigflbohbndaaDoorPlain2
import Derived.Test.YtdiigflbohbndaaDoorThick
import Derived.Test.YtdiigflbohbndaaDoorTree
import Derived.Deep.DeepCutAuto
import Derived.WideShapes
namespace Go.Proofs.YtdiigflbohbndaaDoor
open Go.RowKit

/-- A new stone, written field by field. -/
theorem Blk.stone {w : World} {b : Nat} {t : TypeId} {x0 x1 x2 x3 x4 x5 x6 x7 : Value} (s : Stone) (h : Blk w b t #[x0, x1, x2, x3, x4, x5, x6, x7]) :
    Blk ((((((((w.setCell ⟨b, 0, none⟩ (.int .i64 s.size)).setCell ⟨b, 1, none⟩ (.int .i64 s.dens)).setCell ⟨b, 2, none⟩ (.int .i64 s.strong)).setCell ⟨b, 3, none⟩ (.int .i64 s.spin)).setCell ⟨b, 4, none⟩ (.int .i64 s.shape)).setCell ⟨b, 5, none⟩ (.bool s.pile)).setCell ⟨b, 6, none⟩ (.int .i64 s.speed)).setCell ⟨b, 7, none⟩ (.int .i64 s.slope))
      b t #[.int .i64 s.size, .int .i64 s.dens, .int .i64 s.strong, .int .i64 s.spin, .int .i64 s.shape, .bool s.pile, .int .i64 s.speed, .int .i64 s.slope] := by
  have h2 := (((((((h.set_ 0 (.int .i64 s.size)).set_ 1 (.int .i64 s.dens)).set_ 2 (.int .i64 s.strong)).set_ 3 (.int .i64 s.spin)).set_ 4 (.int .i64 s.shape)).set_ 5 (.bool s.pile)).set_ 6 (.int .i64 s.speed)).set_ 7 (.int .i64 s.slope)
  simp only [List.setIfInBounds_toArray, List.set_cons_zero, List.set_cons_succ] at h2
  exact h2
theorem Kp.stone {w w' : World} {B b : Nat} {row : Option Nat} (s : Stone) (h : Kp B row w w') (hb : B ≤ b) :
    Kp B row w ((((((((w'.setCell ⟨b, 0, none⟩ (.int .i64 s.size)).setCell ⟨b, 1, none⟩ (.int .i64 s.dens)).setCell ⟨b, 2, none⟩ (.int .i64 s.strong)).setCell ⟨b, 3, none⟩ (.int .i64 s.spin)).setCell ⟨b, 4, none⟩ (.int .i64 s.shape)).setCell ⟨b, 5, none⟩ (.bool s.pile)).setCell ⟨b, 6, none⟩ (.int .i64 s.speed)).setCell ⟨b, 7, none⟩ (.int .i64 s.slope)) :=
  (((((((h.setNew hb _).setNew hb _).setNew hb _).setNew hb _).setNew hb _).setNew hb _).setNew hb _).setNew hb _
theorem Blk.farStone {w : World} {g b : Nat} {t : TypeId} {cs : Array Value} (s : Stone) (h : Blk w g t cs) (hne : g ≠ b) :
    Blk ((((((((w.setCell ⟨b, 0, none⟩ (.int .i64 s.size)).setCell ⟨b, 1, none⟩ (.int .i64 s.dens)).setCell ⟨b, 2, none⟩ (.int .i64 s.strong)).setCell ⟨b, 3, none⟩ (.int .i64 s.spin)).setCell ⟨b, 4, none⟩ (.int .i64 s.shape)).setCell ⟨b, 5, none⟩ (.bool s.pile)).setCell ⟨b, 6, none⟩ (.int .i64 s.speed)).setCell ⟨b, 7, none⟩ (.int .i64 s.slope)) g t cs :=
  (((((((h.far hne _).far hne _).far hne _).far hne _).far hne _).far hne _).far hne _).far hne _
theorem Blk.freshAt {w : World} {g : Nat} {t : TypeId} {cs : Array Value} (_ : Blk w g t cs) (t2 : TypeId) (cs2 : Array Value) : ∃ b, b = w.heap.size ∧ Blk (w.alloc (.cells cs2 t2)) b t2 cs2 := ⟨_, rfl, Blk.new w t2 cs2⟩
theorem Blk.fresh {w : World} {g : Nat} {t : TypeId} {cs : Array Value} (_ : Blk w g t cs) (t2 : TypeId) (cs2 : Array Value) : Blk (w.alloc (.cells cs2 t2)) w.heap.size t2 cs2 := Blk.new w t2 cs2
section
variable {α : Type} {row r : Option Nat} {w w' : World} {sz n : Nat} {enc : α → List Value} {A : Option Addr} {xs : List α}
theorem Rd.apart (h : Rd row w sz enc A n xs) (b : Nat) (hge : ∀ ad, A = some ad → b < ad.block) : Rd (some b) w sz enc A n xs := by
  refine ⟨h.1, fun hn => ?_⟩
  obtain ⟨b', o, e, hb, _, hc⟩ := h.2 hn
  exact ⟨b', o, e, hb, sne (by have := hge _ e; simp only at this; omega), hc⟩
theorem Rd.below (h : Rd row w sz enc A n xs) (o : Obj) : Rd (some w.heap.size) (w.alloc o) sz enc A n xs := by
  have h2 := h.alloc o
  refine ⟨h.1, fun hn => ?_⟩
  obtain ⟨b', o', e, hb, _, _⟩ := h.2 hn
  obtain ⟨b2, o2, e2, hb2, _, hc⟩ := h2.2 hn
  rw [e] at e2; injection e2 with e2; injection e2 with e3 e4
  subst e3 e4
  exact ⟨b', o', e, hb2, sne (by omega), hc⟩
theorem Rd.kp2 {g : Nat} (h : Rd r w sz enc A n xs) (h' : Rd (some g) w sz enc A n xs) (k : Kp w.heap.size (some g) w w') : Rd r w' sz enc A n xs := by
  have h2 := h'.kp k
  refine ⟨h.1, fun hn => ?_⟩
  obtain ⟨b', o', e, hb, hr, _⟩ := h.2 hn
  obtain ⟨b2, o2, e2, hb2, _, hc⟩ := h2.2 hn
  rw [e] at e2; injection e2 with e2; injection e2 with e3 e4
  subst e3 e4
  exact ⟨b', o', e, hb2, hr, hc⟩
theorem Rd.stone {b : Nat} (s : Stone) (h : Rd (some b) w sz enc A n xs) :
    Rd (some b) ((((((((w.setCell ⟨b, 0, none⟩ (.int .i64 s.size)).setCell ⟨b, 1, none⟩ (.int .i64 s.dens)).setCell ⟨b, 2, none⟩ (.int .i64 s.strong)).setCell ⟨b, 3, none⟩ (.int .i64 s.spin)).setCell ⟨b, 4, none⟩ (.int .i64 s.shape)).setCell ⟨b, 5, none⟩ (.bool s.pile)).setCell ⟨b, 6, none⟩ (.int .i64 s.speed)).setCell ⟨b, 7, none⟩ (.int .i64 s.slope)) sz enc A n xs :=
  (((((((h.setCell rfl _).setCell rfl _).setCell rfl _).setCell rfl _).setCell rfl _).setCell rfl _).setCell rfl _).setCell rfl _
theorem Rd.setRow {p : Addr} (h : Rd (some p.block) w sz enc A n xs) (u : Value) : Rd (some p.block) (w.setCell p u) sz enc A n xs := h.setCell rfl u
end
theorem ends_ok (A : Option Addr) (cap : Nat) (ls : List Layer) (s : Stone) (w : World) (h : Rd none w 2 encLayer A ls.length ls) (hb : Bnd w) (ha : AirOk ls) (hs : StoneOk s) :
    Calls Tryd.prog 20 #[.slice A ls.length cap, .agg #[.int .i64 s.size, .int .i64 s.dens, .int .i64 s.strong, .int .i64 s.spin, .int .i64 s.shape, .bool s.pile, .int .i64 s.speed, .int .i64 s.slope]] w fun e w' => e = .returned (.tuple #[.int .i64 (endsOf ls s).1, .int .i64 (endsOf ls s).2, .int .i64 0]) ∧ Kp w.heap.size none w w' :=
  (blast_Ends_any A cap ls s w h hb).mono fun e w' ⟨⟨n, x, y, h1, h2⟩, h3⟩ => by
    refine ⟨?_, h3⟩
    rcases h2 with ⟨_, _, rfl, rfl, rfl⟩ | ⟨h4, _⟩
    · exact h1
    · exact absurd ⟨ha, hs⟩ h4
theorem emod_nat2 (n : Int) (m : Nat) (hm : 0 < m) : ∃ k : Nat, n % (m : Int) = k ∧ k < m := by
  obtain ⟨k, hk⟩ := Int.eq_ofNat_of_zero_le (Int.emod_nonneg n (show (m : Int) ≠ 0 by omega))
  have := Int.emod_lt_of_pos n (show (0 : Int) < (m : Int) by omega)
  exact ⟨k, hk, by omega⟩
theorem Rd.flat {α : Type} {row : Option Nat} {w : World} {sz n : Nat} {enc : α → List Value} {ad : Addr} {xs : List α} (h : Rd row w sz enc (some ad) n xs) (he : ∀ x, (enc x).length = sz) :
    ∀ j u, (xs.flatMap enc)[j]? = some u → w.cell? (ad.add j) = some u := by
  intro j u hj
  have hlen := (List.getElem?_eq_some_iff.1 hj).1
  rw [flat_len he] at hlen
  have hsz : 0 < sz := by
    rcases Nat.eq_zero_or_pos sz with h0 | h0
    · subst h0; simp at hlen
    · exact h0
  have hi : j / sz < xs.length := Nat.div_lt_of_lt_mul (by rw [Nat.mul_comm]; exact hlen)
  have hm : j % sz < sz := Nat.mod_lt _ hsz
  have e : j / sz * sz + j % sz = j := by rw [Nat.mul_comm]; exact Nat.div_add_mod j sz
  obtain ⟨b, o, ea, hb, _, hc⟩ := h.2 (by have h9 := h.1; have : 0 < xs.length := Nat.lt_of_le_of_lt (Nat.zero_le _) hi; omega)
  injection ea with ea
  subst ea
  rw [← e] at hj ⊢
  rw [flat_at he xs _ hi _ hm] at hj
  have := hc (j / sz) hi (j % sz) u hj
  rw [Go.WideShapes.add_plain]
  exact this
theorem one_layers (ls : List Layer) : ∀ u ∈ ls.flatMap encLayer, u.oneCell' = true := by
  intro u hu
  obtain ⟨x, _, hx⟩ := List.mem_flatMap.1 hu
  exact two_int .i64 x.thick x.dens u hx
section
variable {w : World} {B e n c : Nat} {A : Option Addr} {xs : List Layer}
theorem Own.block (h : Own w B e 2 encLayer (.slice A n c) xs) (hn : 0 < xs.length) : ∃ g, A = some ⟨g, 0, none⟩ ∧ B ≤ g := by
  rcases h.2 with ⟨h1, h0⟩ | ⟨g, cap, cur, h1, hb, _⟩
  · omega
  · injection h1 with h1 _ _
    exact ⟨g, h1, hb⟩
theorem Own.thickAt {g : Nat} (h : Own w B e 2 encLayer (.slice (some ⟨g, 0, none⟩) n c) xs) (i : Nat) (hi : i < xs.length) : w.cell? ⟨g, i * 2, none⟩ = some (.int .i64 xs[i].thick) := by
  have h1 := World.ownsRow.cells h (g := g) rfl (i * 2) (.int .i64 xs[i].thick) (by
    have := flat_at (enc := encLayer) (sz := 2) (fun _ => rfl) xs i hi 0 (by omega)
    rw [Nat.add_zero] at this
    rw [this]; rfl)
  rw [Go.WideShapes.add_plain, Nat.zero_add] at h1
  exact h1
theorem Own.eqn {g : Nat} (h : Own w B e 2 encLayer (.slice (some ⟨g, 0, none⟩) n c) xs) : n = xs.length := by
  rcases h.2 with ⟨h1, _⟩ | ⟨g, cap, cur, h1, hb, _⟩
  · cases h1
  · injection h1
theorem Own.frozen {g : Nat} (h : Own w B e 2 encLayer (.slice (some ⟨g, 0, none⟩) n c) xs) (j : Nat) : w.frozen? ⟨g, j, none⟩ = false := by
  have hn := h.eqn
  subst hn
  exact World.ownsRow.frozenAt h j
theorem Own.thickSet {g : Nat} (h : Own w B e 2 encLayer (.slice (some ⟨g, 0, none⟩) n c) xs) (i : Nat) (hi : i < xs.length) (t : Int) :
    Own (w.setCell ⟨g, i * 2, none⟩ (.int .i64 t)) B e 2 encLayer (.slice (some ⟨g, 0, none⟩) n c) (xs.set i ⟨t, xs[i].dens⟩) := by
  have hn := h.eqn
  subst hn
  have h1 := (World.ownsRow.stored h (i * 2) (.int .i64 t)).1
  have h2 := flat_set xs i hi t
  rw [List.getElem?_eq_getElem hi] at h2
  unfold Own
  rw [List.length_set]
  rw [show ((some xs[i]).getD ⟨0, 0⟩) = xs[i] from rfl] at h2
  rw [h2]
  exact h1
end
def ThickRel (ls : List Layer) (m : Nat) (B b : Nat) (s : Stone) (A : Option Addr) (c : Nat) (W : World) (vi : Value) (wr : World) : Prop :=
  ∃ i : Nat, vi = .int .i64 i ∧ i ≤ ls.length ∧ Own wr B 43 2 encLayer (.slice A ls.length c) (thickTo m ls i) ∧ Blk wr b 36 #[.int .i64 s.size, .int .i64 s.dens, .int .i64 s.strong, .int .i64 s.spin, .int .i64 s.shape, .bool s.pile, .int .i64 s.speed, .int .i64 s.slope] ∧ Kp W.heap.size none W wr
def AirStone (w : World) (r : Rock) (f : Fall) (v12 v13 : Value) (wx : World) : Prop :=
  ∃ (A : Option Addr) (c : Nat) (ls : List Layer) (b : Nat) (s : Stone), v12 = .slice A ls.length c ∧ v13 = .pointer (some ⟨b, 0, none⟩) ∧ Rd none wx 2 encLayer A ls.length ls ∧ ls.length ≤ 6 ∧ (∀ x ∈ ls, LayerOk x) ∧
    w.heap.size ≤ b ∧ Blk wx b 36 #[.int .i64 s.size, .int .i64 s.dens, .int .i64 s.strong, .int .i64 s.spin, .int .i64 s.shape, .bool s.pile, .int .i64 s.speed, .int .i64 s.slope] ∧ StoneIn s r f ∧ Kp w.heap.size none w wx
set_option maxRecDepth 100000 in
set_option maxHeartbeats 4000000 in
theorem law_BlastOrders_any (A : Option Addr) (cap : Nat) (nums : List Int) (st0 fa0 th0 : Int) (w : World) (h : Rd none w 1 (fun x => [Value.int .i64 x]) A nums.length nums) (hn : nums.length ≤ 17592186044416) (hb : Bnd w) :
    Calls Tryd.prog 3 #[.slice A nums.length cap, .int .i64 st0, .int .i64 fa0, .int .i64 th0] w fun e w' => e = .returned (.bool true) ∧ Kp w.heap.size none w w' := by
  go_enter Tryd.func3, Tryd.ntmps3
  go_wp2_with fail
  refine (newRing_any A cap nums _ h hn).mono ?_
  rintro e w1 ⟨g, rfl, hg, hr, K1⟩
  go_wp2_with fail
  refine (rockOf_any g nums 0 _ hr (by omega)).mono ?_
  rintro e w2 ⟨v, rfl, ⟨r, f, rfl, hrk, hlow⟩, hr2, k2⟩
  have K2 := K1.thenOwn k2 (Nat.le_refl _) hg
  clear k2 K1 hr h hn
  have hz2 : g < w2.heap.size := hr2.lt
  have hw2 := K2.size
  have KQ := (K2.alloc K2.size (.cells #[.int .i64 r.size.lo, .int .i64 r.size.hi, .int .i64 r.dens.lo, .int .i64 r.dens.hi, .int .i64 r.strong.lo, .int .i64 r.strong.hi, .int .i64 r.spin.lo, .int .i64 r.spin.hi, .int .i64 r.shape.lo, .int .i64 r.shape.hi, .bool r.pile] 28)).alloc (alloc_ge K2.size _) (.cells #[.int .i64 f.speed.lo, .int .i64 f.speed.hi, .int .i64 f.slope.lo, .int .i64 f.slope.hi] 30)
  have HR := (hr2.alloc (.cells #[.int .i64 r.size.lo, .int .i64 r.size.hi, .int .i64 r.dens.lo, .int .i64 r.dens.hi, .int .i64 r.strong.lo, .int .i64 r.strong.hi, .int .i64 r.spin.lo, .int .i64 r.spin.hi, .int .i64 r.shape.lo, .int .i64 r.shape.hi, .bool r.pile] 28)).alloc (.cells #[.int .i64 f.speed.lo, .int .i64 f.speed.hi, .int .i64 f.slope.lo, .int .i64 f.slope.hi] 30)
  have RB := (Blk.new w2 28 #[.int .i64 r.size.lo, .int .i64 r.size.hi, .int .i64 r.dens.lo, .int .i64 r.dens.hi, .int .i64 r.strong.lo, .int .i64 r.strong.hi, .int .i64 r.spin.lo, .int .i64 r.spin.hi, .int .i64 r.shape.lo, .int .i64 r.shape.hi, .bool r.pile]).alloc (.cells #[.int .i64 f.speed.lo, .int .i64 f.speed.hi, .int .i64 f.slope.lo, .int .i64 f.slope.hi] 30)
  have FB := Blk.newAt (w2.alloc (.cells #[.int .i64 r.size.lo, .int .i64 r.size.hi, .int .i64 r.dens.lo, .int .i64 r.dens.hi, .int .i64 r.strong.lo, .int .i64 r.strong.hi, .int .i64 r.spin.lo, .int .i64 r.spin.hi, .int .i64 r.shape.lo, .int .i64 r.shape.hi, .bool r.pile] 28)) 30 #[.int .i64 f.speed.lo, .int .i64 f.speed.hi, .int .i64 f.slope.lo, .int .i64 f.slope.hi] (n := w2.heap.size + 1) (by simp)
  generalize hw3 : (w2.alloc (.cells #[.int .i64 r.size.lo, .int .i64 r.size.hi, .int .i64 r.dens.lo, .int .i64 r.dens.hi, .int .i64 r.strong.lo, .int .i64 r.strong.hi, .int .i64 r.spin.lo, .int .i64 r.spin.hi, .int .i64 r.shape.lo, .int .i64 r.shape.hi, .bool r.pile] 28)).alloc (.cells #[.int .i64 f.speed.lo, .int .i64 f.speed.hi, .int .i64 f.slope.lo, .int .i64 f.slope.hi] 30) = w3 at KQ HR RB FB
  go_upto_region 3 with (fail)
  clear hw3
  go_cut [12, 13] (fun s12 s13 wx => AirStone w r f s12 s13 wx)
  case first =>
    have hne0 : some w2.heap.size ≠ some g := sne (by omega)
    have hne1 : some (w2.heap.size + 1) ≠ some g := sne (by omega)
    have hzw : w2.heap.size + 1 < w3.heap.size := FB.lt
    replace RB := RB.drew
    replace FB := FB.drew
    replace KQ := KQ.drew
    replace HR := HR.drew
    obtain ⟨S0, hS⟩ : ∃ S : World → Prop, S = fun w' => Blk w' w2.heap.size 28 #[.int .i64 r.size.lo, .int .i64 r.size.hi, .int .i64 r.dens.lo, .int .i64 r.dens.hi, .int .i64 r.strong.lo, .int .i64 r.strong.hi, .int .i64 r.spin.lo, .int .i64 r.spin.hi, .int .i64 r.shape.lo, .int .i64 r.shape.hi, .bool r.pile] ∧ Blk w' (w2.heap.size + 1) 30 #[.int .i64 f.speed.lo, .int .i64 f.speed.hi, .int .i64 f.slope.lo, .int .i64 f.slope.hi] := ⟨_, rfl⟩
    have hS0 : ∀ w', S0 w' ↔ (Blk w' w2.heap.size 28 #[.int .i64 r.size.lo, .int .i64 r.size.hi, .int .i64 r.dens.lo, .int .i64 r.dens.hi, .int .i64 r.strong.lo, .int .i64 r.strong.hi, .int .i64 r.spin.lo, .int .i64 r.spin.hi, .int .i64 r.shape.lo, .int .i64 r.shape.hi, .bool r.pile] ∧ Blk w' (w2.heap.size + 1) 30 #[.int .i64 f.speed.lo, .int .i64 f.speed.hi, .int .i64 f.slope.lo, .int .i64 f.slope.hi]) := fun w' => by rw [hS]
    clear hS
    have cx := fun (x : Ev S0) i => ((hS0 _).1 x.h).1.cell i
    have cy := fun (x : Ev S0) i => ((hS0 _).1 x.h).2.cell i
    have hevT := ev_true
    refine wp_region_tr S0 (.st 0 0 (.st 2 0 (.st 3 1 (.st 4 1 (.b2 1 (.b2 5 (.st 6 2 (.st 7 0 (.st 8 2 .nil))) 6 (.st 5 2 (.st 7 0 (.st 8 2 .nil)))) 6 (.st 1 2 (.st 5 2 (.st 7 0 (.st 8 2 .nil))))))))) (by kernel_rfl) (by kernel_rfl) ((hS0 _).2 ⟨RB, FB⟩) ?_
    intro _hev
    iterate 4 (first | (refine wpTr_v rfl rfl ?_; intro K hK; go_big_quiet_op; go_big_quiet_on) | (refine wpTr_q rfl rfl ?_; intro K hK; go_big_quiet_op; go_big_quiet_on) | refine wpTr_s rfl rfl ?_)
    refine wpTr_b2 ?_ ?_
    · refine wpOne_l rfl rfl ?_; intro K hK
      go_step
      refine (layersOf_any g nums _ _ HR (by omega)).mono ?_
      rintro e w4 ⟨v, k', rfl, ⟨A1, c1, ls, rfl, hL, hl6, hlo, hge⟩, hk', HR, k4⟩
      replace RB := RB.kp k4 RB.lt hne0
      replace FB := FB.kp k4 FB.lt hne1
      replace KQ := KQ.thenOwn k4 (Nat.le_refl _) hg
      refine hK _ _ ((hS0 _).2 ⟨RB, FB⟩) ?_
      clear hK K k4 hge
      refine wpTr_b2 ?_ ?_
      · refine wpOne_l rfl rfl ?_; intro K hK
        go_step
        refine (stoneOf_any g nums _ r f _ HR (by omega) hrk).mono ?_
        rintro e w5 ⟨v, rfl, ⟨s, rfl, hs0⟩, HR, k5⟩
        replace hL := hL.kp k5
        replace RB := RB.kp k5 RB.lt hne0
        replace FB := FB.kp k5 FB.lt hne1
        replace KQ := KQ.thenOwn k5 (Nat.le_refl _) hg
        refine hK _ _ ((hS0 _).2 ⟨RB, FB⟩) ?_
        clear hK K k5
        refine wpTr_l rfl rfl ?_; intro K hK
        obtain ⟨pb, hpe, PB⟩ := RB.freshAt 36 #[.int .i64 0, .int .i64 0, .int .i64 0, .int .i64 0, .int .i64 0, .bool false, .int .i64 0, .int .i64 0]
        have hpb : w2.heap.size + 1 < pb := by have := FB.lt; omega
        have hLs := hL.below (.cells #[.int .i64 0, .int .i64 0, .int .i64 0, .int .i64 0, .int .i64 0, .bool false, .int .i64 0, .int .i64 0] 36)
        rw [← hpe] at hLs
        go_step
        first | rw [← hpe] | rw [← show pb = w3.heap.size from hpe]
        replace RB := RB.alloc (.cells #[.int .i64 0, .int .i64 0, .int .i64 0, .int .i64 0, .int .i64 0, .bool false, .int .i64 0, .int .i64 0] 36)
        replace FB := FB.alloc (.cells #[.int .i64 0, .int .i64 0, .int .i64 0, .int .i64 0, .int .i64 0, .bool false, .int .i64 0, .int .i64 0] 36)
        replace KQ := KQ.alloc KQ.size (.cells #[.int .i64 0, .int .i64 0, .int .i64 0, .int .i64 0, .int .i64 0, .bool false, .int .i64 0, .int .i64 0] 36)
        replace HR := HR.alloc (.cells #[.int .i64 0, .int .i64 0, .int .i64 0, .int .i64 0, .int .i64 0, .bool false, .int .i64 0, .int .i64 0] 36)
        replace hL := hL.alloc (.cells #[.int .i64 0, .int .i64 0, .int .i64 0, .int .i64 0, .int .i64 0, .bool false, .int .i64 0, .int .i64 0] 36)
        refine hK _ _ ((hS0 _).2 ⟨RB, FB⟩) ?_
        clear hK K hpe
        iterate 1 (first | (refine wpTr_v rfl rfl ?_; intro K hK; go_big_quiet_op; go_big_quiet_on) | (refine wpTr_q rfl rfl ?_; intro K hK; go_big_quiet_op; go_big_quiet_on) | refine wpTr_s rfl rfl ?_)
        refine wpTr_l rfl rfl ?_; intro K hK
        have cP := fun i => PB.cell i
        have fP := fun i => PB.frozen i
        go_step
        replace PB := PB.stone s
        replace hLs := hLs.stone s
        replace RB := RB.farStone s (show w2.heap.size ≠ pb by omega)
        replace FB := FB.farStone s (show w2.heap.size + 1 ≠ pb by omega)
        replace KQ := KQ.stone s (show w.heap.size ≤ pb by omega)
        refine hK _ _ ((hS0 _).2 ⟨RB, FB⟩) ?_
        clear hK K cP fP
        refine wpTr_nil ?_
        clear hevT _hev
        go_wp2_with fail
        go_meet
        case rel => exact ⟨A1, c1, ls, pb, s, rfl, rfl, hLs.free, hl6, hlo, by omega, PB, hs0, KQ⟩
      · refine wpOne_l rfl rfl ?_; intro K hK
        obtain ⟨pb, hpe, PB⟩ := RB.freshAt 36 #[.int .i64 0, .int .i64 0, .int .i64 0, .int .i64 0, .int .i64 0, .bool false, .int .i64 0, .int .i64 0]
        have hpb : w2.heap.size + 1 < pb := by have := FB.lt; omega
        have hLs := hL.below (.cells #[.int .i64 0, .int .i64 0, .int .i64 0, .int .i64 0, .int .i64 0, .bool false, .int .i64 0, .int .i64 0] 36)
        rw [← hpe] at hLs
        go_step
        first | rw [← hpe] | rw [← show pb = w3.heap.size from hpe]
        replace RB := RB.alloc (.cells #[.int .i64 0, .int .i64 0, .int .i64 0, .int .i64 0, .int .i64 0, .bool false, .int .i64 0, .int .i64 0] 36)
        replace FB := FB.alloc (.cells #[.int .i64 0, .int .i64 0, .int .i64 0, .int .i64 0, .int .i64 0, .bool false, .int .i64 0, .int .i64 0] 36)
        replace KQ := KQ.alloc KQ.size (.cells #[.int .i64 0, .int .i64 0, .int .i64 0, .int .i64 0, .int .i64 0, .bool false, .int .i64 0, .int .i64 0] 36)
        replace HR := HR.alloc (.cells #[.int .i64 0, .int .i64 0, .int .i64 0, .int .i64 0, .int .i64 0, .bool false, .int .i64 0, .int .i64 0] 36)
        replace hL := hL.alloc (.cells #[.int .i64 0, .int .i64 0, .int .i64 0, .int .i64 0, .int .i64 0, .bool false, .int .i64 0, .int .i64 0] 36)
        refine hK _ _ ((hS0 _).2 ⟨RB, FB⟩) ?_
        clear hK K hpe
        refine wpTr_l rfl rfl ?_; intro K hK
        go_step
        refine (stoneOf_any g nums _ r f _ HR (by omega) hrk).mono ?_
        rintro e w5 ⟨v, rfl, ⟨s, rfl, hs0⟩, HR, k5⟩
        replace hLs := hLs.kp2 hL k5
        replace hL := hL.kp k5
        replace PB := PB.kp k5 PB.lt (sne (by omega))
        replace RB := RB.kp k5 RB.lt hne0
        replace FB := FB.kp k5 FB.lt hne1
        replace KQ := KQ.thenOwn k5 (Nat.le_refl _) hg
        refine hK _ _ ((hS0 _).2 ⟨RB, FB⟩) ?_
        clear hK K k5
        iterate 1 (first | (refine wpTr_v rfl rfl ?_; intro K hK; go_big_quiet_op; go_big_quiet_on) | (refine wpTr_q rfl rfl ?_; intro K hK; go_big_quiet_op; go_big_quiet_on) | refine wpTr_s rfl rfl ?_)
        refine wpTr_l rfl rfl ?_; intro K hK
        have cP := fun i => PB.cell i
        have fP := fun i => PB.frozen i
        go_step
        replace PB := PB.stone s
        replace hLs := hLs.stone s
        replace RB := RB.farStone s (show w2.heap.size ≠ pb by omega)
        replace FB := FB.farStone s (show w2.heap.size + 1 ≠ pb by omega)
        replace KQ := KQ.stone s (show w.heap.size ≤ pb by omega)
        refine hK _ _ ((hS0 _).2 ⟨RB, FB⟩) ?_
        clear hK K cP fP
        refine wpTr_nil ?_
        clear hevT _hev
        go_wp2_with fail
        go_meet
        case rel => exact ⟨A1, c1, ls, pb, s, rfl, rfl, hLs.free, hl6, hlo, by omega, PB, hs0, KQ⟩
    · refine wpOne_l rfl rfl ?_; intro K hK
      obtain ⟨pb, hpe, PB⟩ := RB.freshAt 36 #[.int .i64 0, .int .i64 0, .int .i64 0, .int .i64 0, .int .i64 0, .bool false, .int .i64 0, .int .i64 0]
      have hpb : w2.heap.size + 1 < pb := by have := FB.lt; omega
      go_step
      first | rw [← hpe] | rw [← show pb = w3.heap.size from hpe]
      replace RB := RB.alloc (.cells #[.int .i64 0, .int .i64 0, .int .i64 0, .int .i64 0, .int .i64 0, .bool false, .int .i64 0, .int .i64 0] 36)
      replace FB := FB.alloc (.cells #[.int .i64 0, .int .i64 0, .int .i64 0, .int .i64 0, .int .i64 0, .bool false, .int .i64 0, .int .i64 0] 36)
      replace KQ := KQ.alloc KQ.size (.cells #[.int .i64 0, .int .i64 0, .int .i64 0, .int .i64 0, .int .i64 0, .bool false, .int .i64 0, .int .i64 0] 36)
      replace HR := HR.alloc (.cells #[.int .i64 0, .int .i64 0, .int .i64 0, .int .i64 0, .int .i64 0, .bool false, .int .i64 0, .int .i64 0] 36)
      refine hK _ _ ((hS0 _).2 ⟨RB, FB⟩) ?_
      clear hK K hpe
      refine wpTr_l rfl rfl ?_; intro K hK
      go_step
      refine (layersOf_any g nums _ _ HR (by omega)).mono ?_
      rintro e w4 ⟨v, k', rfl, ⟨A1, c1, ls, rfl, hL, hl6, hlo, hge⟩, hk', HR, k4⟩
      have hLs := hL.apart pb (fun ad e => Nat.lt_of_lt_of_le PB.lt (hge ad e))
      replace PB := PB.kp k4 PB.lt (sne (by omega))
      replace RB := RB.kp k4 RB.lt hne0
      replace FB := FB.kp k4 FB.lt hne1
      replace KQ := KQ.thenOwn k4 (Nat.le_refl _) hg
      refine hK _ _ ((hS0 _).2 ⟨RB, FB⟩) ?_
      clear hK K k4 hge
      refine wpTr_l rfl rfl ?_; intro K hK
      go_step
      refine (stoneOf_any g nums _ r f _ HR (by omega) hrk).mono ?_
      rintro e w5 ⟨v, rfl, ⟨s, rfl, hs0⟩, HR, k5⟩
      replace hLs := hLs.kp2 hL k5
      replace hL := hL.kp k5
      replace PB := PB.kp k5 PB.lt (sne (by omega))
      replace RB := RB.kp k5 RB.lt hne0
      replace FB := FB.kp k5 FB.lt hne1
      replace KQ := KQ.thenOwn k5 (Nat.le_refl _) hg
      refine hK _ _ ((hS0 _).2 ⟨RB, FB⟩) ?_
      clear hK K k5
      iterate 1 (first | (refine wpTr_v rfl rfl ?_; intro K hK; go_big_quiet_op; go_big_quiet_on) | (refine wpTr_q rfl rfl ?_; intro K hK; go_big_quiet_op; go_big_quiet_on) | refine wpTr_s rfl rfl ?_)
      refine wpTr_l rfl rfl ?_; intro K hK
      have cP := fun i => PB.cell i
      have fP := fun i => PB.frozen i
      go_step
      replace PB := PB.stone s
      replace hLs := hLs.stone s
      replace RB := RB.farStone s (show w2.heap.size ≠ pb by omega)
      replace FB := FB.farStone s (show w2.heap.size + 1 ≠ pb by omega)
      replace KQ := KQ.stone s (show w.heap.size ≤ pb by omega)
      refine hK _ _ ((hS0 _).2 ⟨RB, FB⟩) ?_
      clear hK K cP fP
      refine wpTr_nil ?_
      clear hevT _hev
      go_wp2_with fail
      go_meet
      case rel => exact ⟨A1, c1, ls, pb, s, rfl, rfl, hLs.free, hl6, hlo, by omega, PB, hs0, KQ⟩
  case rest =>
    obtain ⟨A1, c1, ls, b, s, rfl, rfl, hL, hl6, hlo, hbw, PB, hs0, KC⟩ := hcut
    have hs := stoneOk_of_in hs0 hrk
    have hst : s.strong ≤ 34359738368 := Int.le_trans hs0.strong.2 hlow.1
    have hsp : s.speed ≤ 5000 := Int.le_trans hs0.speed.2 hlow.2
    have hair : AirOk ls := ⟨by omega, fun i hi => by
      obtain ⟨h1, h2, h3, h4⟩ := hlo ls[i] (List.getElem_mem hi)
      exact ⟨⟨h1, by omega⟩, h3, h4⟩⟩
    have hthin : ∀ x ∈ ls, LayerOk x := hlo
    clear KQ HR RB FB hrk hlow hr2 hz2 hw2 hs0 hlo
    obtain ⟨m1, hm1, hm1b⟩ := emod_nat2 st0 68719476736 (by omega)
    obtain ⟨m2, hm2, hm2b⟩ := emod_nat2 fa0 1000 (by omega)
    obtain ⟨m3, hm3, hm3b⟩ := emod_nat2 th0 100 (by omega)
    obtain ⟨t, et⟩ : ∃ t : Stone, t = ⟨s.size, s.dens, s.strong + m1, s.spin, s.shape, s.pile, s.speed, s.slope⟩ := ⟨_, rfl⟩
    obtain ⟨u, eu⟩ : ∃ u : Stone, u = ⟨s.size, s.dens, s.strong, s.spin, s.shape, s.pile, s.speed + m2, s.slope⟩ := ⟨_, rfl⟩
    have ht : StoneOk t := by rw [et]; exact ⟨hs.size, hs.dens, by have := hs.strong; simp only; omega, hs.spin, hs.shape, hs.speed, hs.slope⟩
    have hu : StoneOk u := by rw [eu]; exact ⟨hs.size, hs.dens, hs.strong, hs.spin, hs.shape, by have := hs.speed; simp only; omega, hs.slope⟩
    have es1 : wrap64 (s.strong + (m1 : Int)) = s.strong + m1 := by have := hs.strong; unfold wrap64; omega
    have es2 : wrap64 (s.speed + (m2 : Int)) = s.speed + m2 := by have := hs.speed; unfold wrap64; omega
    replace es1 := Lib.hid es1
    replace es2 := Lib.hid es2
    replace hs := Lib.hid hs
    replace ht := Lib.hid ht
    replace hu := Lib.hid hu
    replace et := Lib.hid et
    replace eu := Lib.hid eu
    replace hair := Lib.hid hair
    replace hthin := Lib.hid hthin
    replace hm1 := Lib.hid hm1
    replace hm2 := Lib.hid hm2
    replace hm3 := Lib.hid hm3
    clear hst hsp hm1b hm2b
    have c0 := fun i => PB.cell i
    go_wp2_with fail
    refine (ends_ok A1 c1 ls s _ hL (hb.kpN KC) hair.out hs.out).mono ?_
    rintro e w6 ⟨rfl, k6⟩
    obtain ⟨n, en⟩ : ∃ n, n = (endsOf ls s).1 := ⟨_, rfl⟩
    obtain ⟨x, ex⟩ : ∃ x, x = (endsOf ls s).2 := ⟨_, rfl⟩
    rw [← en, ← ex]
    replace en := Lib.hid en
    replace ex := Lib.hid ex
    have hL6 := hL.kpN k6
    have P6 := PB.kpN k6
    have K6 := KC.thenN k6 (Nat.le_refl _)
    clear k6 hL PB KC c0
    have c6 := fun i => P6.cell i
    have T7 := P6.fresh 36 #[.int .i64 s.size, .int .i64 s.dens, .int .i64 s.strong, .int .i64 s.spin, .int .i64 s.shape, .bool s.pile, .int .i64 s.speed, .int .i64 s.slope]
    have P7 := P6.alloc (.cells #[.int .i64 s.size, .int .i64 s.dens, .int .i64 s.strong, .int .i64 s.spin, .int .i64 s.shape, .bool s.pile, .int .i64 s.speed, .int .i64 s.slope] 36)
    have K7 := K6.alloc K6.size (.cells #[.int .i64 s.size, .int .i64 s.dens, .int .i64 s.strong, .int .i64 s.spin, .int .i64 s.shape, .bool s.pile, .int .i64 s.speed, .int .i64 s.slope] 36)
    have hL7 := hL6.below (.cells #[.int .i64 s.size, .int .i64 s.dens, .int .i64 s.strong, .int .i64 s.spin, .int .i64 s.shape, .bool s.pile, .int .i64 s.speed, .int .i64 s.slope] 36)
    have hw6 := K6.size
    have hb6 := P6.lt
    go_wp2_with fail
    clear c6
    generalize w6.alloc (.cells #[.int .i64 s.size, .int .i64 s.dens, .int .i64 s.strong, .int .i64 s.spin, .int .i64 s.shape, .bool s.pile, .int .i64 s.speed, .int .i64 s.slope] 36) = w7 at T7 P7 K7 hL7 ⊢
    obtain ⟨S, hS⟩ : ∃ S : Nat → World → Prop, S = fun n w' => if n = 0 then Blk w' w6.heap.size 36 #[.int .i64 s.size, .int .i64 s.dens, .int .i64 s.strong, .int .i64 s.spin, .int .i64 s.shape, .bool s.pile, .int .i64 s.speed, .int .i64 s.slope] else True := ⟨_, rfl⟩
    have hS0 : ∀ w', S 0 w' ↔ (Blk w' w6.heap.size 36 #[.int .i64 s.size, .int .i64 s.dens, .int .i64 s.strong, .int .i64 s.spin, .int .i64 s.shape, .bool s.pile, .int .i64 s.speed, .int .i64 s.slope]) := fun w' => by rw [hS]; exact Iff.rfl
    have hS1 : ∀ w', S 1 w' ↔ (True) := fun w' => by rw [hS]; exact Iff.rfl
    clear hS
    have cx := fun (x : Ev (S 0)) i => ((hS0 _).1 x.h).cell i
    replace T7 := T7.drew
    replace P7 := P7.drew
    replace K7 := K7.drew
    replace hL7 := hL7.drew
    have hevT := ev_true
    refine wp_region_ord S [(0, 0), (1, 1), (2, 0), (3, 2), (4, 0), (5, 0), (6, 3)] [6] (by kernel_rfl) (by kernel_rfl) ((hS0 _).2 T7) ?_
    intro _hev
    iterate 3 (first | (refine wpOrd_v rfl rfl ?_; intro K hK; go_big_quiet_op; go_big_quiet_on) | (refine wpOrd_q rfl rfl ?_; intro K hK; go_big_quiet_op; go_big_quiet_on) | refine wpOrd_s (by decide) rfl rfl ?_)
    refine wpOrd_l rfl rfl ?_; intro K hK
    go_step
    refine (kit_Mod64_any st0 68719476736 (by omega) _).mono ?_
    rintro e w8 ⟨rfl, k8⟩
    rw [show st0 % 68719476736 = (m1 : Int) from hm1.out]
    have T8 := T7.kpN k8
    have P8 := P7.kpN k8
    have hL8 := hL7.kpN k8
    have K8 := K7.thenN k8 (Nat.le_refl _)
    refine hK _ _ ((hS0 _).2 T8) ?_
    clear hK K k8 T7 P7 hL7 K7
    have cT := fun i => T8.cell i
    have fT := fun i => T8.frozen i
    iterate 2 (first | (refine wpOrd_v rfl rfl ?_; intro K hK; go_big_quiet_op; go_big_quiet_on) | (refine wpOrd_q rfl rfl ?_; intro K hK; go_big_quiet_op; go_big_quiet_on) | refine wpOrd_s (by decide) rfl rfl ?_)
    refine wpOrd_a rfl rfl ?_; intro K hK
    go_step
    rw [es1.out]
    have T9 : Blk (w8.setCell ⟨w6.heap.size, 2, none⟩ (.int .i64 (s.strong + m1))) w6.heap.size 36 #[.int .i64 t.size, .int .i64 t.dens, .int .i64 t.strong, .int .i64 t.spin, .int .i64 t.shape, .bool t.pile, .int .i64 t.speed, .int .i64 t.slope] := by
      have h2 := T8.set_ 2 (.int .i64 (s.strong + m1))
      simp only [List.setIfInBounds_toArray, List.set_cons_zero, List.set_cons_succ] at h2
      rw [et.out]; exact h2
    have P9 := P8.far (p := ⟨w6.heap.size, 2, none⟩) (show b ≠ w6.heap.size by omega) (.int .i64 (s.strong + m1))
    have hL9 := hL8.setRow (p := ⟨w6.heap.size, 2, none⟩) (.int .i64 (s.strong + m1))
    have K9 := K8.setNew (p := ⟨w6.heap.size, 2, none⟩) hw6 (.int .i64 (s.strong + m1))
    refine hK _ _ ((hS1 _).2 trivial) ?_
    clear hK K cT fT T8 P8 hL8 K8
    change wpOrd _ _ _ _ _ 1 _ _
    refine wpOrd_nil ?_
    clear hevT _hev
    clear cx hS0 hS1 S
    generalize w8.setCell ⟨w6.heap.size, 2, none⟩ (.int .i64 (s.strong + m1)) = w9 at T9 P9 hL9 K9 ⊢
    have cT := fun i => T9.cell i
    go_wp2_with fail
    refine (ends_ok A1 c1 ls t _ hL9.free (hb.kpN K9) hair.out ht.out).mono ?_
    rintro e w10 ⟨rfl, k10⟩
    obtain ⟨na, ena⟩ : ∃ n, n = (endsOf ls t).1 := ⟨_, rfl⟩
    rw [← ena]
    replace ena := Lib.hid ena
    generalize (endsOf ls t).2 = xa
    have T10 := T9.kpN k10
    have P10 := P9.kpN k10
    have hL10 := hL9.kpN k10
    have K10 := K9.thenN k10 (Nat.le_refl _)
    clear k10 T9 P9 hL9 K9 cT
    have cT := fun i => T10.cell i
    have fT := fun i => T10.frozen i
    have cP := fun i => P10.cell i
    have T11 := T10.stone s
    have P11 := P10.farStone s (show b ≠ w6.heap.size by omega)
    have hL11 := hL10.stone s
    have K11 := K10.stone s hw6
    go_wp2_with fail
    clear cT fT cP T10 P10 hL10 K10
    generalize ((((((((w10.setCell ⟨w6.heap.size, 0, none⟩ (.int .i64 s.size)).setCell ⟨w6.heap.size, 1, none⟩ (.int .i64 s.dens)).setCell ⟨w6.heap.size, 2, none⟩ (.int .i64 s.strong)).setCell ⟨w6.heap.size, 3, none⟩ (.int .i64 s.spin)).setCell ⟨w6.heap.size, 4, none⟩ (.int .i64 s.shape)).setCell ⟨w6.heap.size, 5, none⟩ (.bool s.pile)).setCell ⟨w6.heap.size, 6, none⟩ (.int .i64 s.speed)).setCell ⟨w6.heap.size, 7, none⟩ (.int .i64 s.slope)) = w11 at T11 P11 hL11 K11 ⊢
    obtain ⟨S, hS⟩ : ∃ S : Nat → World → Prop, S = fun n w' => if n = 0 then Blk w' w6.heap.size 36 #[.int .i64 s.size, .int .i64 s.dens, .int .i64 s.strong, .int .i64 s.spin, .int .i64 s.shape, .bool s.pile, .int .i64 s.speed, .int .i64 s.slope] else True := ⟨_, rfl⟩
    have hS0 : ∀ w', S 0 w' ↔ (Blk w' w6.heap.size 36 #[.int .i64 s.size, .int .i64 s.dens, .int .i64 s.strong, .int .i64 s.spin, .int .i64 s.shape, .bool s.pile, .int .i64 s.speed, .int .i64 s.slope]) := fun w' => by rw [hS]; exact Iff.rfl
    have hS1 : ∀ w', S 1 w' ↔ (True) := fun w' => by rw [hS]; exact Iff.rfl
    clear hS
    have cx := fun (x : Ev (S 0)) i => ((hS0 _).1 x.h).cell i
    replace T11 := T11.drew
    replace P11 := P11.drew
    replace K11 := K11.drew
    replace hL11 := hL11.drew
    have hevT := ev_true
    refine wp_region_ord S [(0, 0), (1, 1), (2, 0), (3, 2), (4, 0), (5, 0), (6, 3)] [6] (by kernel_rfl) (by kernel_rfl) ((hS0 _).2 T11) ?_
    intro _hev
    iterate 3 (first | (refine wpOrd_v rfl rfl ?_; intro K hK; go_big_quiet_op; go_big_quiet_on) | (refine wpOrd_q rfl rfl ?_; intro K hK; go_big_quiet_op; go_big_quiet_on) | refine wpOrd_s (by decide) rfl rfl ?_)
    refine wpOrd_l rfl rfl ?_; intro K hK
    go_step
    refine (kit_Mod64_any fa0 1000 (by omega) _).mono ?_
    rintro e w12 ⟨rfl, k12⟩
    rw [show fa0 % 1000 = (m2 : Int) from hm2.out]
    have T12 := T11.kpN k12
    have P12 := P11.kpN k12
    have hL12 := hL11.kpN k12
    have K12 := K11.thenN k12 (Nat.le_refl _)
    refine hK _ _ ((hS0 _).2 T12) ?_
    clear hK K k12 T11 P11 hL11 K11
    have cT := fun i => T12.cell i
    have fT := fun i => T12.frozen i
    iterate 2 (first | (refine wpOrd_v rfl rfl ?_; intro K hK; go_big_quiet_op; go_big_quiet_on) | (refine wpOrd_q rfl rfl ?_; intro K hK; go_big_quiet_op; go_big_quiet_on) | refine wpOrd_s (by decide) rfl rfl ?_)
    refine wpOrd_a rfl rfl ?_; intro K hK
    go_step
    rw [es2.out]
    have T13 : Blk (w12.setCell ⟨w6.heap.size, 6, none⟩ (.int .i64 (s.speed + m2))) w6.heap.size 36 #[.int .i64 u.size, .int .i64 u.dens, .int .i64 u.strong, .int .i64 u.spin, .int .i64 u.shape, .bool u.pile, .int .i64 u.speed, .int .i64 u.slope] := by
      have h2 := T12.set_ 6 (.int .i64 (s.speed + m2))
      simp only [List.setIfInBounds_toArray, List.set_cons_zero, List.set_cons_succ] at h2
      rw [eu.out]; exact h2
    have P13 := P12.far (p := ⟨w6.heap.size, 6, none⟩) (show b ≠ w6.heap.size by omega) (.int .i64 (s.speed + m2))
    have hL13 := hL12.setRow (p := ⟨w6.heap.size, 6, none⟩) (.int .i64 (s.speed + m2))
    have K13 := K12.setNew (p := ⟨w6.heap.size, 6, none⟩) hw6 (.int .i64 (s.speed + m2))
    refine hK _ _ ((hS1 _).2 trivial) ?_
    clear hK K cT fT T12 P12 hL12 K12
    change wpOrd _ _ _ _ _ 1 _ _
    refine wpOrd_nil ?_
    clear hevT _hev
    clear cx hS0 hS1 S
    generalize w12.setCell ⟨w6.heap.size, 6, none⟩ (.int .i64 (s.speed + m2)) = w13 at T13 P13 hL13 K13 ⊢
    have cT := fun i => T13.cell i
    go_wp2_with fail
    refine (ends_ok A1 c1 ls u _ hL13.free (hb.kpN K13) hair.out hu.out).mono ?_
    rintro e w14 ⟨rfl, k14⟩
    obtain ⟨nb, enb⟩ : ∃ n, n = (endsOf ls u).1 := ⟨_, rfl⟩
    rw [← enb]
    replace enb := Lib.hid enb
    generalize (endsOf ls u).2 = xb
    have P14 := P13.kpN k14
    have hL14 := (hL13.kpN k14).free
    have K14 := K13.thenN k14 (Nat.le_refl _)
    clear k14 T13 P13 hL13 K13 cT
    have hb14 := P14.lt
    have hw14 := K14.size
    have hl6' := hl6
    obtain ⟨i0, hi, hz0, hz1, hz2⟩ := info_parts layer_info
    go_upto_region 11 with (fail)
    go_cut [24] (fun s24 wx => Own wx w14.heap.size 43 2 encLayer s24 ls ∧ Blk wx b 36 #[.int .i64 s.size, .int .i64 s.dens, .int .i64 s.strong, .int .i64 s.spin, .int .i64 s.shape, .bool s.pile, .int .i64 s.speed, .int .i64 s.slope] ∧ Kp w.heap.size none w wx)
    case first =>
      have OE : Own (w14.alloc (.cells #[] 43)) w14.heap.size 43 2 encLayer (.slice (some ⟨w14.heap.size, 0, none⟩) 0 0) [] :=
        ⟨rfl, .inr ⟨w14.heap.size, 0, #[], rfl, Nat.le_refl _, Blk.new w14 43 #[], Nat.le_refl _, Nat.zero_le _, rfl, rfl⟩⟩
      have PE := P14.alloc (.cells #[] 43)
      have KE := K14.alloc K14.size (.cells #[] 43)
      have hLE := hL14.alloc (.cells #[] 43)
      cases A1 with
      | none =>
        have hls : ls = [] := by
          rcases Nat.eq_zero_or_pos ls.length with h0 | h0
          · exact List.eq_nil_of_length_eq_zero h0
          · obtain ⟨_, _, e, _⟩ := hL14.at_ h0
            cases e
        subst hls
        go_wp2_with fail
        go_meet
        case rel => exact ⟨OE, PE, KE⟩
      | some ad =>
        go_wp2_with (at_builtin; go_loud (refine wpList_append_own_at _ (by rfl) (.tmp 77) (.tmp 78) 33 (by rfl) w14.heap.size 43 i0 _ 2 16 Tryd.underlying33 hi hz0 hz1 hz2 (by rfl) (by omega) _ 0 [] (by rfl) OE ad ls.length c1 (ls.flatMap encLayer) (by rfl) (flat_len (enc := encLayer) (sz := 2) (fun _ => rfl) ls) (hLE.flat (fun _ => rfl)) (one_layers ls) (maxLen_of (by omega)) (by omega) (by simp) ?_; intro v4 w4 hown4 hgrow _ hat))
        have OW : Own w4 w14.heap.size 43 2 encLayer v4 ls := by unfold Own; simpa using hown4
        have kk : Kp w14.heap.size none _ w4 := Kp.of_own OE hgrow (by simp)
        have P4 := PE.kp kk hb14 (by simp)
        have K4 := KE.trans (kk.mono hw14)
        clear hown4 hgrow hat
        go_wp2_with fail
        go_meet
        case rel => exact ⟨OW, P4, K4⟩
    case rest =>
      obtain ⟨OW, PW, KW⟩ := hcut
      obtain ⟨A4, c4, rfl⟩ := OW.slice
      clear hL14 P14 K14 hi hz0 hz1 hz2
      go_wp2_with fail
      go_loopw [25] (fun vi wr => ThickRel ls m3 w14.heap.size b s A4 c4 w vi wr) (fun vi _ => ls.length - (intOf vi).toNat)
      case atStart => exact ⟨0, rfl, by omega, by rw [thick_zero]; exact OW, PW, KW⟩
      case round =>
        obtain ⟨i, rfl, hi, OI, PI, KI⟩ := hrel
        by_cases h7 : i < ls.length
        · have hi' : (i : Int) < (ls.length : Int) := by omega
          have hlen : (ls.length : Int) ≤ 6 := by omega
          obtain ⟨g4, rfl, hg4⟩ := OI.block (by rw [thick_len]; omega)
          have hlt4 : i < (thickTo (m3 : Int) ls i).length := by rw [thick_len]; exact h7
          have et4 : (thickTo (m3 : Int) ls i)[i] = ls[i] := thick_at (m3 : Int) ls i h7
          have esu := thick_succ (m3 : Int) ls i h7
          have hb1 := hthin.out ls[i] (List.getElem_mem h7)
          generalize ls[i] = y at et4 esu hb1
          have ct := OI.thickAt i hlt4
          rw [et4] at ct
          have ew : wrap64 (y.thick + (m3 : Int)) = y.thick + m3 := by have := hb1.1; have := hb1.2.1; unfold wrap64; omega
          replace ew := Lib.hid ew
          replace et4 := Lib.hid et4
          replace esu := Lib.hid esu
          clear hb1
          replace h7 := Lib.hid h7
          go_wp2_with fail
          obtain ⟨S, hS⟩ : ∃ S : Nat → World → Prop, S = fun n w' => if n = 0 then w'.cell? ⟨g4, i * 2, none⟩ = some (.int .i64 y.thick) else True := ⟨_, rfl⟩
          have hS0 : ∀ w', S 0 w' ↔ (w'.cell? ⟨g4, i * 2, none⟩ = some (.int .i64 y.thick)) := fun w' => by rw [hS]; exact Iff.rfl
          have hS1 : ∀ w', S 1 w' ↔ (True) := fun w' => by rw [hS]; exact Iff.rfl
          clear hS
          have cx := fun (x : Ev (S 0)) => (hS0 _).1 x.h
          replace OI := OI.drew
          replace PI := PI.drew
          replace KI := KI.drew
          have hevT := ev_true
          refine wp_region_ord S [(0, 0), (1, 0), (2, 0), (3, 0), (4, 1), (5, 0), (6, 2), (7, 0), (8, 0), (9, 0), (10, 3)] [10] (by kernel_rfl) (by kernel_rfl) ((hS0 _).2 ct) ?_
          intro _hev
          iterate 6 (first | (refine wpOrd_v rfl rfl ?_; intro K hK; go_big_quiet_op; go_big_quiet_on) | (refine wpOrd_q rfl rfl ?_; intro K hK; go_big_quiet_op; go_big_quiet_on) | refine wpOrd_s (by decide) rfl rfl ?_)
          refine wpOrd_l rfl rfl ?_; intro K hK
          go_step
          refine (kit_Mod64_any th0 100 (by omega) _).mono ?_
          rintro e w15 ⟨rfl, k15⟩
          rw [show th0 % 100 = (m3 : Int) from hm3.out]
          replace OI := OI.kpN k15
          replace PI := PI.kpN k15
          replace KI := KI.thenN k15 (Nat.le_refl _)
          have ct2 := OI.thickAt i hlt4
          rw [et4.out] at ct2
          have ft2 := OI.frozen
          have ON := OI.thickSet i hlt4 (y.thick + m3)
          rw [et4.out, ← esu.out] at ON
          refine hK _ _ ((hS0 _).2 ct2) ?_
          clear hK K k15 ct
          iterate 3 (first | (refine wpOrd_v rfl rfl ?_; intro K hK; go_big_quiet_op; go_big_quiet_on) | (refine wpOrd_q rfl rfl ?_; intro K hK; go_big_quiet_op; go_big_quiet_on) | refine wpOrd_s (by decide) rfl rfl ?_)
          refine wpOrd_a rfl rfl ?_; intro K hK
          go_step
          rw [ew.out]
          have PN := PI.far (p := ⟨g4, i * 2, none⟩) (show b ≠ g4 by omega) (.int .i64 (y.thick + m3))
          have KN := KI.setNew (p := ⟨g4, i * 2, none⟩) (show w.heap.size ≤ g4 by omega) (.int .i64 (y.thick + m3))
          refine hK _ _ ((hS1 _).2 trivial) ?_
          clear hK K ct2 ft2
          change wpOrd _ _ _ _ _ 1 _ _
          refine wpOrd_nil ?_
          clear hevT _hev
          clear cx hS0 hS1 S OI PI KI
          go_wp2
          go_roundw
          case rel => exact ⟨i + 1, rfl, h7.out, ON, PN, KN⟩
          case measure => have := h7.out; simp [intOf]; omega
        · have he : i = ls.length := by omega
          subst he
          have hi' : ¬ (ls.length : Int) < (ls.length : Int) := by omega
          have hel := thick_len (m3 : Int) ls ls.length
          have htk := thicker_all (m3 : Int) (by omega) ls
          have hok2 := thick_ok (m3 : Int) (by omega) (by omega) ls ls.length hthin.out
          have hls := hthin.out
          generalize thickTo (m3 : Int) ls ls.length = ms at OI hel htk hok2
          obtain ⟨A5, c5, e5, hM, _⟩ := OI.rd (row := none) (fun _ => rfl) (fun _ _ => by simp)
          injection e5 with e5 _ e6
          subst e5 e6
          rw [hel] at hM
          have hair2 : AirOk ms := ⟨by omega, fun j hj => hok2 _ (List.getElem_mem hj)⟩
          have cP := fun i => PI.cell i
          replace htk := Lib.hid htk
          replace hok2 := Lib.hid hok2
          replace hair2 := Lib.hid hair2
          replace hel := Lib.hid hel
          replace hM := Lib.hid hM
          clear hls hi h7 OI OW PW KW
          go_wp2_with fail
          refine (ends_ok A4 c4 ms s _ (by first | exact hM.out | (rw [hel.out]; exact hM.out)) (hb.kpN KI) hair2.out hs.out).mono ?_
          rintro e w16 ⟨rfl, k16⟩
          obtain ⟨nc, enc⟩ : ∃ n, n = (endsOf ms s).1 := ⟨_, rfl⟩
          obtain ⟨xc, exc⟩ : ∃ x, x = (endsOf ms s).2 := ⟨_, rfl⟩
          have hall : ∀ x ∈ ls, LayOk x := fun x hx => by
            obtain ⟨j, hj, rfl⟩ := List.getElem_of_mem hx
            exact hair.out.2 j hj
          have q1 : n ≤ na := by rw [en.out, ena.out, et.out]; exact ends_stronger hs.out ls hall
          have q2 : nb ≤ n := by rw [en.out, enb.out, eu.out]; exact ends_faster hs.out ls hall
          have q3 : n ≤ nc ∧ (nc = n → xc ≤ x) := by
            rw [en.out, ex.out, enc, exc]
            exact ends_thicker hs.out htk.out hall hok2.out
          clear hall
          have K16 := KI.thenN k16 (Nat.le_refl _)
          rw [← enc, ← exc]
          clear k16 KI enc exc cP et eu en ex ena enb hM hel
          obtain ⟨q3, q4⟩ := q3
          have i1 : (n : Int) ≤ (na : Int) := by omega
          have i2 : (nb : Int) ≤ (n : Int) := by omega
          have i3 : (n : Int) ≤ (nc : Int) := by omega
          rcases (show nc = n ∨ nc ≠ n by omega) with hcn | hcn
          · subst hcn
            have i4 := q4 rfl
            clear q4
            go_wp2_with fail
            refine (awake_any _ (hb.kpN K16)).mono ?_
            rintro e w17 ⟨rfl, k17⟩
            have K17 := K16.thenN k17 (Nat.le_refl _)
            clear k17 K16
            go_wp2
            exact bodyPost_ret (v := .bool true) (by simp [results, Tryd.results3, go_sem]) rfl ⟨rfl, K17⟩
          · have i4 : ¬ (nc : Int) = (n : Int) := by omega
            clear q4
            go_wp2_with fail
            refine (awake_any _ (hb.kpN K16)).mono ?_
            rintro e w17 ⟨rfl, k17⟩
            have K17 := K16.thenN k17 (Nat.le_refl _)
            clear k17 K16
            go_wp2
            exact bodyPost_ret (v := .bool true) (by simp [results, Tryd.results3, go_sem]) rfl ⟨rfl, K17⟩
end Go.Proofs.YtdiigflbohbndaaDoor
