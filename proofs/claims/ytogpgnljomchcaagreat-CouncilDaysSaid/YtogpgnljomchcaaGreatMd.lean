/- made: a ring, a council and items made of numbers. -/
import Derived.Test.YtogpgnljomchcaaGreatIo
namespace Go.Proofs.YtogpgnljomchcaaGreat
open Go.RowKit

/-- an operation whose guard says no, its slot written out -/
theorem wpOrd_s2 {P : Program} {l : List Oper} {S : Nat → World → Prop} {Q : Act → World → Prop} {p i k : Nat} {r : List (Nat × Nat)} {a : Act} {w : World} {o : Oper} {d : Option Nat} (hk : k ≠ 3)
    (ho : nthOp l i = some o) (hw : Region.wanted o (yielded l.toArray a.tmps) = false) (hd : o.dst = d)
    (h : ∀ K : Act → Prop, (∀ a, wpOrd P l S Q r p a w → K a) → Oper.quiet P { dst := d, op := .move (.const undef), type := 0, pos := "", after := #[], guard := none } a (fun w' => w' = w) K) :
    wpOrd P l S Q ((i, k) :: r) p a w := by
  refine wpOrd_s hk ho hw ?_
  obtain ⟨v, h1, h2⟩ := h _ fun _ h => h
  have h3 : Oper.quietUpon P (fun w' => w' = w) w v (.ok (.value undef) w) := h1 w rfl
  obtain ⟨_, h4⟩ := h3
  subst h4 hd
  exact h2
theorem RingAt.past {w w' : World} {g zb k : Nat} {t : TypeId} {nums : List Int} (h : RingAt w g nums k) (hz : Blk w zb t #[.slice none 0 0, .slice none 0 0, .slice none 0 0]) (hne : g ≠ zb) (hg : w.grownBy w' (some zb)) : RingAt w' g nums k := by
  obtain ⟨⟨A, cap, hb, hr, hl⟩, hs⟩ := h
  refine ⟨⟨A, cap, (hg.block g hb.lt (fun e => hne (by injection e))).trans hb, ⟨hr.1, fun hn => ?_⟩, hl⟩, hs⟩
  obtain ⟨c, o, ea, hb', hn', hc⟩ := hr.2 hn
  have hcz : c ≠ zb := by
    rintro rfl
    have h1 := hc 0 (by rw [hr.1]; exact hn) 0 (.int .i64 (nums[0]'(by rw [hr.1]; exact hn))) rfl
    rw [hz.cell] at h1
    have h2 := Array.mem_of_getElem? h1
    simp at h2
  exact ⟨c, o, ea, Nat.lt_of_lt_of_le hb' hg.size, hn', fun i hi j v hv => (World.cell?_of_block (hg.block c hb' (fun e => hcz (by injection e)))).trans (hc i hi j v hv)⟩
def MadePost (nums : List Int) (w : World) (e : Ending) (w' : World) : Prop :=
  ∃ (g : Nat) (V : CV) (c : Council) (A : Option Addr) (cap : Nat) (l : List CItem) (x : House) (k : Nat), e = .returned (.tuple #[.pointer (some ⟨g, 0, none⟩), .agg #[.slice V.am c.members.length V.cm, .slice V.al c.laws.length V.cl, .slice V.av c.levels.length V.cv], .slice A l.length cap]) ∧ COk c ∧ l.length ≤ 16 ∧ Did c zeroHouse l x ∧
    CAt w'.heap.size w' V c ∧ CFar V (g + 1) ∧ Rd (some g) w' 9 encItem A l.length l ∧ k ≤ 1100 ∧ RingAt w' g nums k ∧ w.heap.size ≤ g ∧ Kp w.heap.size none w w'
def MadeC (nums : List Int) (w : World) (e : Ending) (w' : World) : Prop :=
  ∃ (g : Nat) (V : CV) (c : Council) (A : Option Addr) (cap : Nat) (l : List CItem) (x : House) (k : Nat), e = .returned (.tuple #[.pointer (some ⟨g, 0, none⟩), .agg #[.slice V.am c.members.length V.cm, .slice V.al c.laws.length V.cl, .slice V.av c.levels.length V.cv], .slice A l.length cap]) ∧ COk c ∧ l.length ≤ 16 ∧ Did c zeroHouse l x ∧
    CAt w'.heap.size w' V c ∧ CFar V (g + 1) ∧ Rd (some g) w' 9 encItem A l.length l ∧ k ≤ 1100 ∧ RingAt w' g nums k ∧ w.heap.size ≤ g ∧ Kp w.heap.size none w w' ∧ l.length ≤ cap
set_option maxRecDepth 20000 in
set_option maxHeartbeats 8000000 in
theorem made_cap (A : Option Addr) (cap : Nat) (nums : List Int) (w : World) (h : Rd none w 1 (fun x => [Value.int .i64 x]) A nums.length nums) (hn : nums.length ≤ 17592186044416) :
    Calls Tryz.prog 5 #[.slice A nums.length cap] w (MadeC nums w) := by
  have ZB := Blk.new w 28 #[.slice none 0 0, .slice none 0 0, .slice none 0 0]
  have K0 := Kp.new w (.cells #[.slice none 0 0, .slice none 0 0, .slice none 0 0] 28)
  replace h := h.kpN K0
  go_enter Tryz.func5, Tryz.ntmps5
  go_upto_region 1 with (fail)
  obtain ⟨zb, hzb⟩ : ∃ q, q = w.heap.size := ⟨_, rfl⟩
  rw [← hzb] at ZB ⊢
  have hzw : w.heap.size ≤ zb := by omega
  clear hzb
  generalize w.alloc (.cells #[.slice none 0 0, .slice none 0 0, .slice none 0 0] 28) = w0 at h ZB K0 ⊢
  go_wp2_with fail
  refine (newRing_any A cap nums _ h hn).mono ?_
  rintro e w1 ⟨g, rfl, hg, hr, K1⟩
  clear h hn
  have hgz : zb < g := by have := ZB.lt; omega
  have hgw : w.heap.size ≤ g := by omega
  replace ZB := ZB.kpN K1
  replace K0 := K0.thenN K1 (Nat.le_refl _)
  clear K1
  go_wp2_with fail
  refine (councilOf_any g nums 0 _ hr (by omega)).mono ?_
  rintro e w2 ⟨V, c, k', rfl, hok, hC, hk', hr2, k2, hf⟩
  have hg1 := hr.lt
  have hfar : CFar V (g + 1) := ⟨fun ad e => by have := hf.1 ad e; omega, fun ad e => by have := hf.2.1 ad e; omega, fun ad e => by have := hf.2.2 ad e; omega⟩
  replace ZB := ZB.kp k2 ZB.lt (sne (by omega))
  replace K0 := K0.thenOwn k2 (Nat.le_refl _) hgw
  clear k2 hr hf
  have CB := Blk.new w2 28 #[.slice V.am c.members.length V.cm, .slice V.al c.laws.length V.cl, .slice V.av c.levels.length V.cv]
  have kc := Kp.new w2 (.cells #[.slice V.am c.members.length V.cm, .slice V.al c.laws.length V.cl, .slice V.av c.levels.length V.cv] 28)
  replace hC := hC.next kc
  go_upto_region 3 with (fail)
  obtain ⟨cb, hcb⟩ : ∃ q, q = w2.heap.size := ⟨_, rfl⟩
  rw [← hcb] at CB ⊢
  change Code.wp _ _ _ _ (w2.alloc (.cells #[.slice V.am c.members.length V.cm, .slice V.al c.laws.length V.cl, .slice V.av c.levels.length V.cv] 28))
  have hgc : g < cb := by have := hr2.lt; omega
  have hcz : zb < cb := by have := ZB.lt; omega
  replace hr2 := hr2.kpN kc
  replace ZB := ZB.kpN kc
  replace K0 := K0.thenN kc (Nat.le_refl _)
  generalize w2.alloc (.cells #[.slice V.am c.members.length V.cm, .slice V.al c.laws.length V.cl, .slice V.av c.levels.length V.cv] 28) = w3 at *
  clear hcb kc
  have kd := (Kp.refl w3.heap.size none w3).drew
  have ZB' := ZB.kpN kd
  have hC' := hC.next kd
  have hr3 := hr2.kpN kd
  have CB' := CB.kpN kd
  have K3 := K0.thenN kd (Nat.le_refl _)
  clear ZB hC hr2 CB K0 kd
  obtain ⟨S, hS⟩ : ∃ S : Nat → World → Prop, S = fun n w' => if n = 0 then Blk w' cb 28 #[.slice V.am c.members.length V.cm, .slice V.al c.laws.length V.cl, .slice V.av c.levels.length V.cv] else True := ⟨_, rfl⟩
  have hS0 : ∀ w', S 0 w' ↔ (Blk w' cb 28 #[.slice V.am c.members.length V.cm, .slice V.al c.laws.length V.cl, .slice V.av c.levels.length V.cv]) := fun w' => by rw [hS]; exact Iff.rfl
  have hS1 : ∀ w', S 1 w' ↔ (True) := fun w' => by rw [hS]; exact Iff.rfl
  clear hS
  have cc := fun (q : Ev (S 0)) i => ((hS0 _).1 q.h).cell i
  have hevT := ev_true
  refine wp_region_ord S [(0, 0), (1, 1), (2, 0), (3, 1), (4, 2), (5, 0), (6, 2), (7, 0)] [] (by kernel_rfl) (by kernel_rfl) ((hS0 _).2 CB') ?_
  intro _hev
  iterate 4 (first | (refine wpOrd_v rfl rfl ?_; intro K hK; go_big_quiet_op; go_big_quiet_on) | (refine wpOrd_q rfl rfl ?_; intro K hK; go_big_quiet_op; go_big_quiet_on) | refine wpOrd_s (by decide) rfl rfl ?_)
  refine wpOrd_l rfl rfl ?_; intro K hK
  generalize w3.drew = w4 at *
  go_step
  refine (itemsOf_any g nums k' V c 16 _ hr3 (by omega) hC' hfar hok (by omega)).mono ?_
  rintro e w5 ⟨A2, cap2, l, x, k2, rfl, hl, hD, hrd, hlf, hk2, hr5, k5, hlc, -⟩
  have hz4 := ZB'.lt
  replace hC' := hC'.turn k5 hfar (by omega)
  replace ZB' := ZB'.kp k5 ZB'.lt (sne (by omega))
  replace CB' := CB'.kp k5 CB'.lt (sne (by omega))
  replace K3 := K3.thenOwn k5 (Nat.le_refl _) hgw
  clear hr3 k5
  refine hK _ _ ((hS0 _).2 CB') ?_
  clear hK K
  iterate 1 (first | (refine wpOrd_v rfl rfl ?_; intro K hK; go_big_quiet_op; go_big_quiet_on) | (refine wpOrd_q rfl rfl ?_; intro K hK; go_big_quiet_op; go_big_quiet_on) | refine wpOrd_s (by decide) rfl rfl ?_)
  have cz := fun i => ZB'.cell i
  have fz := fun i => ZB'.frozen i
  refine wpOrd_l rfl rfl ?_; intro K hK
  go_step
  have hg := setC0_grown w5 zb (.slice V.am c.members.length V.cm) (.slice V.al c.laws.length V.cl) (.slice V.av c.levels.length V.cv)
  have Z9 := ZB'.setC0 (.slice V.am c.members.length V.cm) (.slice V.al c.laws.length V.cl) (.slice V.av c.levels.length V.cv)
  change K _ (setC0 w5 zb (.slice V.am c.members.length V.cm) (.slice V.al c.laws.length V.cl) (.slice V.av c.levels.length V.cv))
  clear cz fz
  have hz5 := ZB'.lt
  have CB9 : Blk (setC0 w5 zb (.slice V.am c.members.length V.cm) (.slice V.al c.laws.length V.cl) (.slice V.av c.levels.length V.cv)) cb 28 #[.slice V.am c.members.length V.cm, .slice V.al c.laws.length V.cl, .slice V.av c.levels.length V.cv] := (hg.block cb CB'.lt (fun e => by injection e with e; omega)).trans CB'
  have hr9 := hr5.past ZB' (by omega) hg
  have K9 := K3.grown hg K3.size (fun q e => by injection e with e; omega)
  have C9 := hC'.turn (⟨hg.os, hg.tape, hg.output, hg.size, fun i hi hn => hg.block i hi hn⟩ : Kp w5.heap.size (some zb) w5 _) (n := zb + 1) ⟨fun ad e => by have := hfar.1 ad e; omega, fun ad e => by have := hfar.2.1 ad e; omega, fun ad e => by have := hfar.2.2 ad e; omega⟩ (by omega)
  have hrd9 : Rd (some g) (setC0 w5 zb (.slice V.am c.members.length V.cm) (.slice V.al c.laws.length V.cl) (.slice V.av c.levels.length V.cv)) 9 encItem A2 l.length l := by
    refine ⟨rfl, fun hn => ?_⟩
    obtain ⟨b, o, ea, hb', hn', hc⟩ := hrd.2 hn
    have := hlf _ ea
    exact ⟨b, o, ea, Nat.lt_of_lt_of_le hb' hg.size, hn', fun i hi j v hv => (World.cell?_of_block (hg.block b hb' (fun e => by injection e with e; simp only at this; omega))).trans (hc i hi j v hv)⟩
  generalize setC0 w5 zb (.slice V.am c.members.length V.cm) (.slice V.al c.laws.length V.cl) (.slice V.av c.levels.length V.cv) = w9 at Z9 CB9 hr9 K9 C9 hrd9 ⊢
  clear hg ZB' CB' hr5 K3 hC' hrd
  refine hK _ _ ((hS0 _).2 CB9) ?_
  clear hK K
  iterate 1 (first | (refine wpOrd_v rfl rfl ?_; intro K hK; go_big_quiet_op; go_big_quiet_on) | (refine wpOrd_q rfl rfl ?_; intro K hK; go_big_quiet_op; go_big_quiet_on) | refine wpOrd_s (by decide) rfl rfl ?_)
  refine wpOrd_nil ?_
  clear hevT _hev
  clear hS0 hS1 S cc
  have cz := fun i => Z9.cell i
  replace C9 := Lib.hid C9
  replace hrd9 := Lib.hid hrd9
  go_wp2_with fail
  exact bodyPost_ret (v := .tuple #[.pointer (some ⟨g, 0, none⟩), .agg #[.slice V.am c.members.length V.cm, .slice V.al c.laws.length V.cl, .slice V.av c.levels.length V.cv], .slice A2 l.length cap2]) (by simp [results, Tryz.results5, go_sem, cz]) rfl ⟨g, V, c, A2, cap2, l, x, k2, rfl, hok, hl, hD, C9.out, hfar, hrd9.out, by omega, hr9, hgw, K9, hlc⟩
theorem made_any (A : Option Addr) (cap : Nat) (nums : List Int) (w : World) (h : Rd none w 1 (fun x => [Value.int .i64 x]) A nums.length nums) (hn : nums.length ≤ 17592186044416) :
    Calls Tryz.prog 5 #[.slice A nums.length cap] w (MadePost nums w) := by
  refine (made_cap A cap nums w h hn).mono ?_
  rintro e w' ⟨g, V, c, A2, cap2, l, x, k, h1, h2, h3, h4, h5, h6, h7, h8, h9, h10, h11, -⟩
  exact ⟨g, V, c, A2, cap2, l, x, k, h1, h2, h3, h4, h5, h6, h7, h8, h9, h10, h11⟩
end Go.Proofs.YtogpgnljomchcaaGreat
