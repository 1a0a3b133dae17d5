/- CouncilExercises: the walk. -/
import Derived.Test.YtogpgnljomchcaaMr
import Derived.Test.YtogpgnljomchcaaSameAll
import Derived.Test.YtogpgnljomchcaaOi
import Derived.Test.YtogpgnljomchcaaAl
import Derived.Test.YtogpgnljomchcaaPb
import Derived.Deep.DeepCutAuto
import Derived.Deep.CutBlock
namespace Go.Proofs.Ytogpgnljomchcaa
open Go.RowKit

/-- a ring, a council's cell, items -/
structure ES (W : World) (g cb : Nat) (nums : List Int) (k : Nat) (V : CV) (c : Council) (A : Option Addr) (l : List CItem) (w : World) : Prop where
  cl : Blk w cb 26 #[.slice V.am c.members.length V.cm, .slice V.al c.laws.length V.cl, .slice V.av c.levels.length V.cv]
  ca : CAt w.heap.size w V c
  far : CFar V (g + 1)
  ring : RingAt w g nums k
  rd : Rd (some g) w 9 encItem A l.length l
  kp : Kp W.heap.size none W w
  gW : W.heap.size ≤ g
  gc : g < cb
section
variable {W w w' : World} {g cb k k' : Nat} {nums : List Int} {V : CV} {c : Council} {A : Option Addr} {l : List CItem}
theorem ES.kpN (s : ES W g cb nums k V c A l w) (q : Kp w.heap.size none w w') : ES W g cb nums k V c A l w' :=
  ⟨s.cl.kpN q, s.ca.next q, s.far, s.ring.kpN q, s.rd.kpN q, s.kp.thenN q (Nat.le_refl _), s.gW, s.gc⟩
theorem ES.turn (s : ES W g cb nums k V c A l w) (r : RingAt w' g nums k') (q : Kp w.heap.size (some g) w w') : ES W g cb nums k' V c A l w' :=
  ⟨s.cl.kp q s.cl.lt (sne (by have := s.gc; omega)), (s.ca.turnB q s.far (by omega)).wide q.size, s.far, r, s.rd.kp q, s.kp.thenOwn q (Nat.le_refl _) s.gW, s.gW, s.gc⟩
end
/-- a house in a cell, its rows laid behind the ring -/
structure HouseAt (g hb : Nat) (X : HV) (v : Ky → Value) (x : House) (w : World) : Prop where
  hl : Blk w hb 46 #[.int .i64 x.tick, .int .i64 x.real.items, .slice X.r.fa x.real.facts.length X.r.fc, .slice X.r.ma x.real.motions.length X.r.mc, .slice X.r.sa x.real.sent.length X.r.sc, .int .i64 x.drill.items, .slice X.d.fa x.drill.facts.length X.d.fc, .slice X.d.ma x.drill.motions.length X.d.mc, .slice X.d.sa x.drill.sent.length X.d.sc]
  hX : X = hvOf v
  ha : ∃ B, g < B ∧ HAt B w v x
  gb : g < hb
section
variable {w w' : World} {g hb : Nat} {X : HV} {v : Ky → Value} {x : House}
theorem HouseAt.kpN (s : HouseAt g hb X v x w) (q : Kp w.heap.size none w w') : HouseAt g hb X v x w' := by
  obtain ⟨B, hB, h⟩ := s.ha
  exact ⟨s.hl.kpN q, s.hX, ⟨B, hB, h.kpN q⟩, s.gb⟩
theorem HouseAt.turn (s : HouseAt g hb X v x w) (q : Kp w.heap.size (some g) w w') : HouseAt g hb X v x w' := by
  obtain ⟨B, hB, h⟩ := s.ha
  exact ⟨s.hl.kp q s.hl.lt (sne (by have := s.gb; omega)), s.hX, ⟨B, hB, h.turn q hB⟩, s.gb⟩
theorem HouseAt.sat {c : Council} {n : Nat} (s : HouseAt g hb X v x w) (ho : HouseOk c n x) (hn : n ≤ 1000000) : SAt w.heap.size w X x := by
  obtain ⟨B, hB, h⟩ := s.ha
  rw [s.hX]
  exact h.sat ho hn
end
def zLV : LV := ⟨none, 0, none, 0, none, 0, fun _ => (none, 0)⟩
theorem LAt.zero (B : Nat) (w : World) : LAt B w zLV zeroLedger :=
  ⟨Lo.nil _ _ _ _ _, Lo.nil _ _ _ _ _, Lo.nil _ _ _ _ _, fun _ => Lo.nil _ _ _ _ _, by simp [zeroLedger], by simp [zeroLedger], by simp [zeroLedger], fun i => by simp [zeroLedger, votedOf, vOf]⟩
theorem SAt.onlyReal {B : Nat} {w : World} {X : HV} {x : House} (s : SAt B w X x) : SAt B w ⟨X.r, zLV⟩ ⟨0, x.real, zeroLedger⟩ := ⟨s.r, LAt.zero _ _⟩
theorem SAt.onlyDrill {B : Nat} {w : World} {X : HV} {x : House} (s : SAt B w X x) : SAt B w ⟨zLV, X.d⟩ ⟨0, zeroLedger, x.drill⟩ := ⟨LAt.zero _ _, s.d⟩
def OnlyAt (W : World) (g cb hb : Nat) (nums : List Int) (k : Nat) (V : CV) (c : Council) (A : Option Addr) (l : List CItem) (X : HV) (v : Ky → Value) (x a : House) (p n e : Value) (wx : World) : Prop :=
  ∃ ab Xa va, p = .pointer (some ⟨ab, 0, none⟩) ∧ n = .int .i64 (-1) ∧ e = .int .i64 0 ∧ ES W g cb nums k V c A l wx ∧ HouseAt g hb X v x wx ∧ HouseAt g ab Xa va a wx
def OnlyAt2 (W : World) (g cb hb ab : Nat) (nums : List Int) (k : Nat) (V : CV) (c : Council) (A : Option Addr) (l : List CItem) (X Xa : HV) (v va : Ky → Value) (x a b : House) (p n e : Value) (wx : World) : Prop :=
  ∃ bb Xb vb, p = .pointer (some ⟨bb, 0, none⟩) ∧ n = .int .i64 (-1) ∧ e = .int .i64 0 ∧ ES W g cb nums k V c A l wx ∧ HouseAt g hb X v x wx ∧ HouseAt g ab Xa va a wx ∧ HouseAt g bb Xb vb b wx
theorem put_house {g ab B : Nat} {wb w : World} {v : Ky → Value} {a : House} (Q : Kp wb.heap.size none wb w) (YB : Blk w ab 46 zeroCells) (HA : HAt B w v a) (hap : ∀ k, (v k).ownBlock ≠ some ab) (hB : wb.heap.size ≤ ab) (X : HV) (hX : X = hvOf v) (hg : g < B) (hgb : g < wb.heap.size) :
    ∃ wq, wq = putH w ab X a ∧ Kp wb.heap.size none wb wq ∧ HouseAt g ab X v a wq :=
  ⟨_, rfl, Q.grownN (putH_grown _ _ _ _) Q.size hB, ⟨Blk.setR0 YB _ _ _ _ _ _ _ _ _, hX, ⟨B, hg, HA.set (putH_grown _ _ _ _) hap⟩, by omega⟩⟩
set_option maxRecDepth 20000 in
set_option maxHeartbeats 8000000 in
theorem law_CouncilExercises_any (A : Option Addr) (cap : Nat) (nums : List Int) (w : World) (h : Rd none w 1 (fun x => [Value.int .i64 x]) A nums.length nums) (hn : nums.length ≤ 17592186044416) :
    Calls Try.prog 11 #[.slice A nums.length cap] w fun e w' => e = .returned (.bool true) ∧ Kp w.heap.size none w w' := by
  go_enter Try.func11, Try.ntmps11
  go_wp2_with fail
  refine (made_any A cap nums w h hn).mono ?_
  rintro e w1 ⟨g, V, c, A2, cap2, l, x, k, rfl, hok, hl, hD, hC, hfar, hrd, hk, hrg, hgW, K1⟩
  clear h hn
  have hg1 := hrg.lt
  have kc := Kp.new w1 (.cells #[.slice V.am c.members.length V.cm, .slice V.al c.laws.length V.cl, .slice V.av c.levels.length V.cv] 26)
  have E : ES w g w1.heap.size nums k V c A2 l (w1.alloc (.cells #[.slice V.am c.members.length V.cm, .slice V.al c.laws.length V.cl, .slice V.av c.levels.length V.cv] 26)) := ⟨Blk.new w1 _ _, hC.next kc, hfar, hrg.kpN kc, hrd.kpN kc, K1.thenN kc (Nat.le_refl _), hgW, hg1⟩
  clear hC hfar hrd hrg K1 kc
  go_upto_region 2 with (fail)
  obtain ⟨cb, hcb⟩ : ∃ q, q = w1.heap.size := ⟨_, rfl⟩
  rw [← hcb] at E ⊢
  change Code.wp _ _ _ _ (w1.alloc (.cells #[.slice V.am c.members.length V.cm, .slice V.al c.laws.length V.cl, .slice V.av c.levels.length V.cv] 26))
  generalize w1.alloc (.cells #[.slice V.am c.members.length V.cm, .slice V.al c.laws.length V.cl, .slice V.av c.levels.length V.cv] 26) = w2 at E ⊢
  clear hcb hg1
  have hbx := build_done hok.chk (by omega) hD
  have hxo : HouseOk c (0 + l.length) x := hD.ok (councilOk_of hok.chk) (zeroHouse_ok c 0)
  rw [Nat.zero_add] at hxo
  obtain ⟨a, hDa, hSa⟩ := hD.only false (g := zeroHouse) ⟨rfl, Int.le_refl _, rfl⟩
  obtain ⟨b, hDb, hSb⟩ := hD.only true (g := zeroHouse) ⟨rfl, Int.le_refl _, rfl⟩
  have hit := hD.items
  obtain ⟨fl, hfl⟩ : ∃ q, q = l.filter (fun x => x.drill == false) := ⟨_, rfl⟩
  obtain ⟨gl, hgl⟩ : ∃ q, q = l.filter (fun x => x.drill == true) := ⟨_, rfl⟩
  rw [← hfl] at hDa
  rw [← hgl] at hDb
  have hfl16 : fl.length ≤ 16 := by have : fl.length ≤ l.length := by rw [hfl]; exact List.length_filter_le _ _
                                    omega
  have hgl16 : gl.length ≤ 16 := by have : gl.length ≤ l.length := by rw [hgl]; exact List.length_filter_le _ _
                                    omega
  have hba := build_done hok.chk (by omega) hDa
  have hbb := build_done hok.chk (by omega) hDb
  have hao : HouseOk c (0 + fl.length) a := hDa.ok (councilOk_of hok.chk) (zeroHouse_ok c 0)
  have hbo : HouseOk c (0 + gl.length) b := hDb.ok (councilOk_of hok.chk) (zeroHouse_ok c 0)
  have hra : a.real = x.real := hSa.1
  have hdb : b.drill = x.drill := hSb.1
  have hrb : b.real = zeroLedger := hSb.2.2
  replace hbx := Lib.hid hbx
  replace hba := Lib.hid hba
  replace hbb := Lib.hid hbb
  replace hxo := Lib.hid hxo
  replace hao := Lib.hid hao
  replace hbo := Lib.hid hbo
  replace hra := Lib.hid hra
  replace hdb := Lib.hid hdb
  replace hrb := Lib.hid hrb
  replace hit := Lib.hid hit
  replace hD := Lib.hid hD
  replace hfl := Lib.hid hfl
  replace hgl := Lib.hid hgl
  clear hDa hDb hSa hSb
  have cc := fun i => E.cl.cell i
  go_wp2_with fail
  refine (build_see V c A2 cap2 l _ E.ca E.rd.free (by omega)).mono ?_
  rw [hbx.out]
  rintro e w3 ⟨v, X, hX, rfl, HA, -, k3⟩
  replace HA : HAt w2.heap.size w3 v x := HA
  simp only
  have hg2 := E.ring.lt
  replace E := E.kpN k3
  clear k3 cc
  have kh := Kp.new w3 (.cells #[.int .i64 x.tick, .int .i64 x.real.items, .slice X.r.fa x.real.facts.length X.r.fc, .slice X.r.ma x.real.motions.length X.r.mc, .slice X.r.sa x.real.sent.length X.r.sc, .int .i64 x.drill.items, .slice X.d.fa x.drill.facts.length X.d.fc, .slice X.d.ma x.drill.motions.length X.d.mc, .slice X.d.sa x.drill.sent.length X.d.sc] 46)
  have HX : HouseAt g w3.heap.size X v x (w3.alloc (.cells #[.int .i64 x.tick, .int .i64 x.real.items, .slice X.r.fa x.real.facts.length X.r.fc, .slice X.r.ma x.real.motions.length X.r.mc, .slice X.r.sa x.real.sent.length X.r.sc, .int .i64 x.drill.items, .slice X.d.fa x.drill.facts.length X.d.fc, .slice X.d.ma x.drill.motions.length X.d.mc, .slice X.d.sa x.drill.sent.length X.d.sc] 46)) := ⟨Blk.new _ _ _, hX, ⟨_, hg2, HA.kpN kh⟩, E.ring.lt⟩
  replace E := E.kpN kh
  clear kh HA hX hg2
  go_upto_region 3 with (fail)
  obtain ⟨hb, hhb⟩ : ∃ q, q = w3.heap.size := ⟨_, rfl⟩
  rw [← hhb] at HX
  rw [← hhb]
  change Code.wp _ _ _ _ (w3.alloc (.cells #[.int .i64 x.tick, .int .i64 x.real.items, .slice X.r.fa x.real.facts.length X.r.fc, .slice X.r.ma x.real.motions.length X.r.mc, .slice X.r.sa x.real.sent.length X.r.sc, .int .i64 x.drill.items, .slice X.d.fa x.drill.facts.length X.d.fc, .slice X.d.ma x.drill.motions.length X.d.mc, .slice X.d.sa x.drill.sent.length X.d.sc] 46))
  generalize w3.alloc (.cells #[.int .i64 x.tick, .int .i64 x.real.items, .slice X.r.fa x.real.facts.length X.r.fc, .slice X.r.ma x.real.motions.length X.r.mc, .slice X.r.sa x.real.sent.length X.r.sc, .int .i64 x.drill.items, .slice X.d.fa x.drill.facts.length X.d.fc, .slice X.d.ma x.drill.motions.length X.d.mc, .slice X.d.sa x.drill.sent.length X.d.sc] 46) = w4 at E HX ⊢
  clear hhb
  go_cut [9, 10, 11] (fun p n e wx => OnlyAt w g cb hb nums k V c A2 l X v x a p n e wx)
  case first =>
    have Q5 := (Kp.refl w4.heap.size none w4).drew
    have CB := E.cl
    have hrd0 := E.rd.free
    have hca0 := E.ca
    have hg4 := E.ring.lt
    obtain ⟨S0, hS⟩ : ∃ S0 : World → Prop, S0 = fun w' => Blk w' cb 26 #[.slice V.am c.members.length V.cm, .slice V.al c.laws.length V.cl, .slice V.av c.levels.length V.cv] := ⟨_, rfl⟩
    have hS0 : ∀ w', S0 w' ↔ Blk w' cb 26 #[.slice V.am c.members.length V.cm, .slice V.al c.laws.length V.cl, .slice V.av c.levels.length V.cv] := fun w' => by rw [hS]
    clear hS
    have cc := fun (q : Ev S0) i => ((hS0 _).1 q.h).cell i
    have hevT := ev_true
    refine wp_region_tr S0 (.st 0 1 (.st 1 0 (.b2 2 (.b2 3 (.st 4 0 (.st 5 0 (.st 6 0 (.st 7 0 (.st 8 2 (.st 9 2 (.st 10 0 (.st 11 0 .nil)))))))) 8 (.st 3 2 (.st 4 0 (.st 5 0 (.st 6 0 (.st 7 0 (.st 9 2 (.st 10 0 (.st 11 0 .nil))))))))) 8 (.st 2 2 (.st 3 2 (.st 4 0 (.st 5 0 (.st 6 0 (.st 7 0 (.st 9 2 (.st 10 0 (.st 11 0 .nil)))))))))))) (by kernel_rfl) (by kernel_rfl) ((hS0 _).2 (CB.kpN Q5)) ?_
    intro _hev
    iterate 2 (first | (refine wpTr_v rfl rfl ?_; intro K hK; go_big_quiet_op; go_big_quiet_on) | (refine wpTr_q rfl rfl ?_; intro K hK; go_big_quiet_op; go_big_quiet_on) | refine wpTr_s rfl rfl ?_)
    refine wpTr_b2 ?_ ?_
    · refine wpOne_l rfl rfl ?_; intro K hK
      have ho := fun W (r : Rd none W 9 encItem A2 l.length l) => onlyItems_any false A2 cap2 l W r (by omega)
      rw [← hfl.out] at ho
      go_step
      refine (ho _ (hrd0.kpN Q5)).mono ?_
      clear ho
      rintro e w6 ⟨A6, c6, rfl, R6, k6⟩
      replace Q5 := Q5.thenN k6 (Nat.le_refl _)
      try (replace YB := YB.kpN k6)
      refine hK _ _ ((hS0 _).2 (CB.kpN Q5)) ?_
      clear hK K k6
      refine wpTr_b2 ?_ ?_
      · refine wpOne_l rfl rfl ?_; intro K hK
        go_step
        refine (build_see V c A6 c6 fl _ ((hca0.kpN Q5).wide Q5.size) R6 (by omega)).mono ?_
        rw [hba.out]
        rintro e w7 ⟨va, Xa, hXa, rfl, HA, -, k7⟩
        simp only
        replace hXa := Lib.hid hXa
        have hgA := Nat.lt_of_lt_of_le hg4 Q5.size
        replace Q5 := Q5.thenN k7 (Nat.le_refl _)
        try (have hap : ∀ k, (va k).ownBlock ≠ some ab := fun k e => by have := (HA.ge k _ e).1; have := YB.lt; omega)
        try (replace YB := YB.kpN k7)
        refine hK _ _ ((hS0 _).2 (CB.kpN Q5)) ?_
        clear hK K k7 R6
        iterate 4 (first | (refine wpTr_v rfl rfl ?_; intro K hK; go_big_quiet_op; go_big_quiet_on) | (refine wpTr_q rfl rfl ?_; intro K hK; go_big_quiet_op; go_big_quiet_on) | refine wpTr_s rfl rfl ?_)
        refine wpTr_l rfl rfl ?_; intro K hK
        have YB := Blk.new w7 46 zeroCells
        have ky := Kp.new w7 (.cells zeroCells 46)
        go_step
        obtain ⟨ab, hab⟩ : ∃ q, q = w7.heap.size := ⟨_, rfl⟩
        have hab4 : w4.heap.size ≤ ab := by rw [hab]; exact Q5.size
        replace Q5 := Q5.thenN ky (Nat.le_refl _)
        have hap : ∀ k, (va k).ownBlock ≠ some ab := fun k e => by have := (HA.ge k _ e).2; omega
        replace HA := HA.kpN (Kp.new w7 (.cells zeroCells 46))
        rw [← hab] at YB ⊢
        clear hab ky
        change K _ (World.alloc w7 (.cells zeroCells 46))
        generalize World.alloc w7 (.cells zeroCells 46) = w8 at YB Q5 HA ⊢
        refine hK _ _ ((hS0 _).2 (CB.kpN Q5)) ?_
        clear hK K
        refine wpTr_l rfl rfl ?_; intro K hK
        obtain ⟨wq, hwq, Q9, HY⟩ := put_house (g := g) Q5 YB HA hap hab4 Xa hXa.out hgA hg4
        replace hwq := Lib.hid hwq
        have YB9 : Blk _ ab 46 #[.int .i64 0, .int .i64 0, .slice none 0 0, .slice none 0 0, .slice none 0 0, .int .i64 0, .slice none 0 0, .slice none 0 0, .slice none 0 0] := YB
        have cB := fun i => YB9.cell i
        have fB := fun i => YB.frozen i
        go_step
        change K _ (putH _ ab Xa a)
        rw [← hwq.out]
        refine hK _ _ ((hS0 _).2 (CB.kpN Q9)) ?_
        clear hK K cB fB hwq YB9 YB HA hap Q5
        iterate 2 (first | (refine wpTr_v rfl rfl ?_; intro K hK; go_big_quiet_op; go_big_quiet_on) | (refine wpTr_q rfl rfl ?_; intro K hK; go_big_quiet_op; go_big_quiet_on) | refine wpTr_s rfl rfl ?_)
        refine wpTr_nil ?_
        clear hevT _hev
        go_wp2_with fail
        go_meet
        case rel => exact ⟨ab, Xa, va, rfl, rfl, rfl, E.kpN Q9, HX.kpN Q9, HY⟩
      · refine wpOne_l rfl rfl ?_; intro K hK
        have YB := Blk.new w6 46 zeroCells
        have ky := Kp.new w6 (.cells zeroCells 46)
        replace R6 := R6.kpN ky
        go_step
        obtain ⟨ab, hab⟩ : ∃ q, q = w6.heap.size := ⟨_, rfl⟩
        have hab4 : w4.heap.size ≤ ab := by rw [hab]; exact Q5.size
        replace Q5 := Q5.thenN ky (Nat.le_refl _)
        rw [← hab] at YB ⊢
        clear hab ky
        change K _ (World.alloc w6 (.cells zeroCells 46))
        generalize World.alloc w6 (.cells zeroCells 46) = w8 at YB Q5 R6 ⊢
        refine hK _ _ ((hS0 _).2 (CB.kpN Q5)) ?_
        clear hK K
        refine wpTr_l rfl rfl ?_; intro K hK
        go_step
        refine (build_see V c A6 c6 fl _ ((hca0.kpN Q5).wide Q5.size) R6 (by omega)).mono ?_
        rw [hba.out]
        rintro e w7 ⟨va, Xa, hXa, rfl, HA, -, k7⟩
        simp only
        replace hXa := Lib.hid hXa
        have hgA := Nat.lt_of_lt_of_le hg4 Q5.size
        replace Q5 := Q5.thenN k7 (Nat.le_refl _)
        try (have hap : ∀ k, (va k).ownBlock ≠ some ab := fun k e => by have := (HA.ge k _ e).1; have := YB.lt; omega)
        try (replace YB := YB.kpN k7)
        refine hK _ _ ((hS0 _).2 (CB.kpN Q5)) ?_
        clear hK K k7 R6
        iterate 4 (first | (refine wpTr_v rfl rfl ?_; intro K hK; go_big_quiet_op; go_big_quiet_on) | (refine wpTr_q rfl rfl ?_; intro K hK; go_big_quiet_op; go_big_quiet_on) | refine wpTr_s rfl rfl ?_)
        refine wpTr_l rfl rfl ?_; intro K hK
        obtain ⟨wq, hwq, Q9, HY⟩ := put_house (g := g) Q5 YB HA hap hab4 Xa hXa.out hgA hg4
        replace hwq := Lib.hid hwq
        have YB9 : Blk _ ab 46 #[.int .i64 0, .int .i64 0, .slice none 0 0, .slice none 0 0, .slice none 0 0, .int .i64 0, .slice none 0 0, .slice none 0 0, .slice none 0 0] := YB
        have cB := fun i => YB9.cell i
        have fB := fun i => YB.frozen i
        go_step
        change K _ (putH _ ab Xa a)
        rw [← hwq.out]
        refine hK _ _ ((hS0 _).2 (CB.kpN Q9)) ?_
        clear hK K cB fB hwq YB9 YB HA hap Q5
        iterate 2 (first | (refine wpTr_v rfl rfl ?_; intro K hK; go_big_quiet_op; go_big_quiet_on) | (refine wpTr_q rfl rfl ?_; intro K hK; go_big_quiet_op; go_big_quiet_on) | refine wpTr_s rfl rfl ?_)
        refine wpTr_nil ?_
        clear hevT _hev
        go_wp2_with fail
        go_meet
        case rel => exact ⟨ab, Xa, va, rfl, rfl, rfl, E.kpN Q9, HX.kpN Q9, HY⟩
    · refine wpOne_l rfl rfl ?_; intro K hK
      generalize w4.drew = wz at Q5 ⊢
      have YB := Blk.new wz 46 zeroCells
      have ky := Kp.new wz (.cells zeroCells 46)
      go_step
      obtain ⟨ab, hab⟩ : ∃ q, q = wz.heap.size := ⟨_, rfl⟩
      have hab4 : w4.heap.size ≤ ab := by rw [hab]; exact Q5.size
      replace Q5 := Q5.thenN ky (Nat.le_refl _)
      rw [← hab] at YB ⊢
      clear hab ky
      change K _ (World.alloc wz (.cells zeroCells 46))
      generalize World.alloc wz (.cells zeroCells 46) = w8 at YB Q5 ⊢
      refine hK _ _ ((hS0 _).2 (CB.kpN Q5)) ?_
      clear hK K
      refine wpTr_l rfl rfl ?_; intro K hK
      have ho := fun W (r : Rd none W 9 encItem A2 l.length l) => onlyItems_any false A2 cap2 l W r (by omega)
      rw [← hfl.out] at ho
      go_step
      refine (ho _ (hrd0.kpN Q5)).mono ?_
      clear ho
      rintro e w6 ⟨A6, c6, rfl, R6, k6⟩
      replace Q5 := Q5.thenN k6 (Nat.le_refl _)
      try (replace YB := YB.kpN k6)
      refine hK _ _ ((hS0 _).2 (CB.kpN Q5)) ?_
      clear hK K k6
      refine wpTr_l rfl rfl ?_; intro K hK
      go_step
      refine (build_see V c A6 c6 fl _ ((hca0.kpN Q5).wide Q5.size) R6 (by omega)).mono ?_
      rw [hba.out]
      rintro e w7 ⟨va, Xa, hXa, rfl, HA, -, k7⟩
      simp only
      replace hXa := Lib.hid hXa
      have hgA := Nat.lt_of_lt_of_le hg4 Q5.size
      replace Q5 := Q5.thenN k7 (Nat.le_refl _)
      try (have hap : ∀ k, (va k).ownBlock ≠ some ab := fun k e => by have := (HA.ge k _ e).1; have := YB.lt; omega)
      try (replace YB := YB.kpN k7)
      refine hK _ _ ((hS0 _).2 (CB.kpN Q5)) ?_
      clear hK K k7 R6
      iterate 4 (first | (refine wpTr_v rfl rfl ?_; intro K hK; go_big_quiet_op; go_big_quiet_on) | (refine wpTr_q rfl rfl ?_; intro K hK; go_big_quiet_op; go_big_quiet_on) | refine wpTr_s rfl rfl ?_)
      refine wpTr_l rfl rfl ?_; intro K hK
      obtain ⟨wq, hwq, Q9, HY⟩ := put_house (g := g) Q5 YB HA hap hab4 Xa hXa.out hgA hg4
      replace hwq := Lib.hid hwq
      have YB9 : Blk _ ab 46 #[.int .i64 0, .int .i64 0, .slice none 0 0, .slice none 0 0, .slice none 0 0, .int .i64 0, .slice none 0 0, .slice none 0 0, .slice none 0 0] := YB
      have cB := fun i => YB9.cell i
      have fB := fun i => YB.frozen i
      go_step
      change K _ (putH _ ab Xa a)
      rw [← hwq.out]
      refine hK _ _ ((hS0 _).2 (CB.kpN Q9)) ?_
      clear hK K cB fB hwq YB9 YB HA hap Q5
      iterate 2 (first | (refine wpTr_v rfl rfl ?_; intro K hK; go_big_quiet_op; go_big_quiet_on) | (refine wpTr_q rfl rfl ?_; intro K hK; go_big_quiet_op; go_big_quiet_on) | refine wpTr_s rfl rfl ?_)
      refine wpTr_nil ?_
      clear hevT _hev
      go_wp2_with fail
      go_meet
      case rel => exact ⟨ab, Xa, va, rfl, rfl, rfl, E.kpN Q9, HX.kpN Q9, HY⟩
  case rest =>
  clear E HX
  rename World => w5
  obtain ⟨b1, X1, v1, rfl, rfl, rfl, E, HX, HA1⟩ := hcut
  go_upto_region 4 with (fail)
  go_cut [12, 13, 14] (fun p n e wx => OnlyAt2 w g cb hb b1 nums k V c A2 l X X1 v v1 x a b p n e wx)
  case first =>
    have Q5 := (Kp.refl w5.heap.size none w5).drew
    have CB := E.cl
    have hrd0 := E.rd.free
    have hca0 := E.ca
    have hg4 := E.ring.lt
    obtain ⟨S0, hS⟩ : ∃ S0 : World → Prop, S0 = fun w' => Blk w' cb 26 #[.slice V.am c.members.length V.cm, .slice V.al c.laws.length V.cl, .slice V.av c.levels.length V.cv] := ⟨_, rfl⟩
    have hS0 : ∀ w', S0 w' ↔ Blk w' cb 26 #[.slice V.am c.members.length V.cm, .slice V.al c.laws.length V.cl, .slice V.av c.levels.length V.cv] := fun w' => by rw [hS]
    clear hS
    have cc := fun (q : Ev S0) i => ((hS0 _).1 q.h).cell i
    have hevT := ev_true
    refine wp_region_tr S0 (.st 0 1 (.st 1 0 (.b2 2 (.b2 3 (.st 4 0 (.st 5 0 (.st 6 0 (.st 7 0 (.st 8 2 (.st 9 2 (.st 10 0 (.st 11 0 .nil)))))))) 8 (.st 3 2 (.st 4 0 (.st 5 0 (.st 6 0 (.st 7 0 (.st 9 2 (.st 10 0 (.st 11 0 .nil))))))))) 8 (.st 2 2 (.st 3 2 (.st 4 0 (.st 5 0 (.st 6 0 (.st 7 0 (.st 9 2 (.st 10 0 (.st 11 0 .nil)))))))))))) (by kernel_rfl) (by kernel_rfl) ((hS0 _).2 (CB.kpN Q5)) ?_
    intro _hev
    iterate 2 (first | (refine wpTr_v rfl rfl ?_; intro K hK; go_big_quiet_op; go_big_quiet_on) | (refine wpTr_q rfl rfl ?_; intro K hK; go_big_quiet_op; go_big_quiet_on) | refine wpTr_s rfl rfl ?_)
    refine wpTr_b2 ?_ ?_
    · refine wpOne_l rfl rfl ?_; intro K hK
      have ho := fun W (r : Rd none W 9 encItem A2 l.length l) => onlyItems_any true A2 cap2 l W r (by omega)
      rw [← hgl.out] at ho
      go_step
      refine (ho _ (hrd0.kpN Q5)).mono ?_
      clear ho
      rintro e w6 ⟨A6, c6, rfl, R6, k6⟩
      replace Q5 := Q5.thenN k6 (Nat.le_refl _)
      try (replace YB := YB.kpN k6)
      refine hK _ _ ((hS0 _).2 (CB.kpN Q5)) ?_
      clear hK K k6
      refine wpTr_b2 ?_ ?_
      · refine wpOne_l rfl rfl ?_; intro K hK
        go_step
        refine (build_see V c A6 c6 gl _ ((hca0.kpN Q5).wide Q5.size) R6 (by omega)).mono ?_
        rw [hbb.out]
        rintro e w7 ⟨va, Xa, hXa, rfl, HA, -, k7⟩
        simp only
        replace hXa := Lib.hid hXa
        have hgA := Nat.lt_of_lt_of_le hg4 Q5.size
        replace Q5 := Q5.thenN k7 (Nat.le_refl _)
        try (have hap : ∀ k, (va k).ownBlock ≠ some ab := fun k e => by have := (HA.ge k _ e).1; have := YB.lt; omega)
        try (replace YB := YB.kpN k7)
        refine hK _ _ ((hS0 _).2 (CB.kpN Q5)) ?_
        clear hK K k7 R6
        iterate 4 (first | (refine wpTr_v rfl rfl ?_; intro K hK; go_big_quiet_op; go_big_quiet_on) | (refine wpTr_q rfl rfl ?_; intro K hK; go_big_quiet_op; go_big_quiet_on) | refine wpTr_s rfl rfl ?_)
        refine wpTr_l rfl rfl ?_; intro K hK
        have YB := Blk.new w7 46 zeroCells
        have ky := Kp.new w7 (.cells zeroCells 46)
        go_step
        obtain ⟨ab, hab⟩ : ∃ q, q = w7.heap.size := ⟨_, rfl⟩
        have hab4 : w5.heap.size ≤ ab := by rw [hab]; exact Q5.size
        replace Q5 := Q5.thenN ky (Nat.le_refl _)
        have hap : ∀ k, (va k).ownBlock ≠ some ab := fun k e => by have := (HA.ge k _ e).2; omega
        replace HA := HA.kpN (Kp.new w7 (.cells zeroCells 46))
        rw [← hab] at YB ⊢
        clear hab ky
        change K _ (World.alloc w7 (.cells zeroCells 46))
        generalize World.alloc w7 (.cells zeroCells 46) = w8 at YB Q5 HA ⊢
        refine hK _ _ ((hS0 _).2 (CB.kpN Q5)) ?_
        clear hK K
        refine wpTr_l rfl rfl ?_; intro K hK
        obtain ⟨wq, hwq, Q9, HY⟩ := put_house (g := g) Q5 YB HA hap hab4 Xa hXa.out hgA hg4
        replace hwq := Lib.hid hwq
        have YB9 : Blk _ ab 46 #[.int .i64 0, .int .i64 0, .slice none 0 0, .slice none 0 0, .slice none 0 0, .int .i64 0, .slice none 0 0, .slice none 0 0, .slice none 0 0] := YB
        have cB := fun i => YB9.cell i
        have fB := fun i => YB.frozen i
        go_step
        change K _ (putH _ ab Xa b)
        rw [← hwq.out]
        refine hK _ _ ((hS0 _).2 (CB.kpN Q9)) ?_
        clear hK K cB fB hwq YB9 YB HA hap Q5
        iterate 2 (first | (refine wpTr_v rfl rfl ?_; intro K hK; go_big_quiet_op; go_big_quiet_on) | (refine wpTr_q rfl rfl ?_; intro K hK; go_big_quiet_op; go_big_quiet_on) | refine wpTr_s rfl rfl ?_)
        refine wpTr_nil ?_
        clear hevT _hev
        go_wp2_with fail
        go_meet
        case rel => exact ⟨ab, Xa, va, rfl, rfl, rfl, E.kpN Q9, HX.kpN Q9, HA1.kpN Q9, HY⟩
      · refine wpOne_l rfl rfl ?_; intro K hK
        have YB := Blk.new w6 46 zeroCells
        have ky := Kp.new w6 (.cells zeroCells 46)
        replace R6 := R6.kpN ky
        go_step
        obtain ⟨ab, hab⟩ : ∃ q, q = w6.heap.size := ⟨_, rfl⟩
        have hab4 : w5.heap.size ≤ ab := by rw [hab]; exact Q5.size
        replace Q5 := Q5.thenN ky (Nat.le_refl _)
        rw [← hab] at YB ⊢
        clear hab ky
        change K _ (World.alloc w6 (.cells zeroCells 46))
        generalize World.alloc w6 (.cells zeroCells 46) = w8 at YB Q5 R6 ⊢
        refine hK _ _ ((hS0 _).2 (CB.kpN Q5)) ?_
        clear hK K
        refine wpTr_l rfl rfl ?_; intro K hK
        go_step
        refine (build_see V c A6 c6 gl _ ((hca0.kpN Q5).wide Q5.size) R6 (by omega)).mono ?_
        rw [hbb.out]
        rintro e w7 ⟨va, Xa, hXa, rfl, HA, -, k7⟩
        simp only
        replace hXa := Lib.hid hXa
        have hgA := Nat.lt_of_lt_of_le hg4 Q5.size
        replace Q5 := Q5.thenN k7 (Nat.le_refl _)
        try (have hap : ∀ k, (va k).ownBlock ≠ some ab := fun k e => by have := (HA.ge k _ e).1; have := YB.lt; omega)
        try (replace YB := YB.kpN k7)
        refine hK _ _ ((hS0 _).2 (CB.kpN Q5)) ?_
        clear hK K k7 R6
        iterate 4 (first | (refine wpTr_v rfl rfl ?_; intro K hK; go_big_quiet_op; go_big_quiet_on) | (refine wpTr_q rfl rfl ?_; intro K hK; go_big_quiet_op; go_big_quiet_on) | refine wpTr_s rfl rfl ?_)
        refine wpTr_l rfl rfl ?_; intro K hK
        obtain ⟨wq, hwq, Q9, HY⟩ := put_house (g := g) Q5 YB HA hap hab4 Xa hXa.out hgA hg4
        replace hwq := Lib.hid hwq
        have YB9 : Blk _ ab 46 #[.int .i64 0, .int .i64 0, .slice none 0 0, .slice none 0 0, .slice none 0 0, .int .i64 0, .slice none 0 0, .slice none 0 0, .slice none 0 0] := YB
        have cB := fun i => YB9.cell i
        have fB := fun i => YB.frozen i
        go_step
        change K _ (putH _ ab Xa b)
        rw [← hwq.out]
        refine hK _ _ ((hS0 _).2 (CB.kpN Q9)) ?_
        clear hK K cB fB hwq YB9 YB HA hap Q5
        iterate 2 (first | (refine wpTr_v rfl rfl ?_; intro K hK; go_big_quiet_op; go_big_quiet_on) | (refine wpTr_q rfl rfl ?_; intro K hK; go_big_quiet_op; go_big_quiet_on) | refine wpTr_s rfl rfl ?_)
        refine wpTr_nil ?_
        clear hevT _hev
        go_wp2_with fail
        go_meet
        case rel => exact ⟨ab, Xa, va, rfl, rfl, rfl, E.kpN Q9, HX.kpN Q9, HA1.kpN Q9, HY⟩
    · refine wpOne_l rfl rfl ?_; intro K hK
      generalize w5.drew = wz at Q5 ⊢
      have YB := Blk.new wz 46 zeroCells
      have ky := Kp.new wz (.cells zeroCells 46)
      go_step
      obtain ⟨ab, hab⟩ : ∃ q, q = wz.heap.size := ⟨_, rfl⟩
      have hab4 : w5.heap.size ≤ ab := by rw [hab]; exact Q5.size
      replace Q5 := Q5.thenN ky (Nat.le_refl _)
      rw [← hab] at YB ⊢
      clear hab ky
      change K _ (World.alloc wz (.cells zeroCells 46))
      generalize World.alloc wz (.cells zeroCells 46) = w8 at YB Q5 ⊢
      refine hK _ _ ((hS0 _).2 (CB.kpN Q5)) ?_
      clear hK K
      refine wpTr_l rfl rfl ?_; intro K hK
      have ho := fun W (r : Rd none W 9 encItem A2 l.length l) => onlyItems_any true A2 cap2 l W r (by omega)
      rw [← hgl.out] at ho
      go_step
      refine (ho _ (hrd0.kpN Q5)).mono ?_
      clear ho
      rintro e w6 ⟨A6, c6, rfl, R6, k6⟩
      replace Q5 := Q5.thenN k6 (Nat.le_refl _)
      try (replace YB := YB.kpN k6)
      refine hK _ _ ((hS0 _).2 (CB.kpN Q5)) ?_
      clear hK K k6
      refine wpTr_l rfl rfl ?_; intro K hK
      go_step
      refine (build_see V c A6 c6 gl _ ((hca0.kpN Q5).wide Q5.size) R6 (by omega)).mono ?_
      rw [hbb.out]
      rintro e w7 ⟨va, Xa, hXa, rfl, HA, -, k7⟩
      simp only
      replace hXa := Lib.hid hXa
      have hgA := Nat.lt_of_lt_of_le hg4 Q5.size
      replace Q5 := Q5.thenN k7 (Nat.le_refl _)
      try (have hap : ∀ k, (va k).ownBlock ≠ some ab := fun k e => by have := (HA.ge k _ e).1; have := YB.lt; omega)
      try (replace YB := YB.kpN k7)
      refine hK _ _ ((hS0 _).2 (CB.kpN Q5)) ?_
      clear hK K k7 R6
      iterate 4 (first | (refine wpTr_v rfl rfl ?_; intro K hK; go_big_quiet_op; go_big_quiet_on) | (refine wpTr_q rfl rfl ?_; intro K hK; go_big_quiet_op; go_big_quiet_on) | refine wpTr_s rfl rfl ?_)
      refine wpTr_l rfl rfl ?_; intro K hK
      obtain ⟨wq, hwq, Q9, HY⟩ := put_house (g := g) Q5 YB HA hap hab4 Xa hXa.out hgA hg4
      replace hwq := Lib.hid hwq
      have YB9 : Blk _ ab 46 #[.int .i64 0, .int .i64 0, .slice none 0 0, .slice none 0 0, .slice none 0 0, .int .i64 0, .slice none 0 0, .slice none 0 0, .slice none 0 0] := YB
      have cB := fun i => YB9.cell i
      have fB := fun i => YB.frozen i
      go_step
      change K _ (putH _ ab Xa b)
      rw [← hwq.out]
      refine hK _ _ ((hS0 _).2 (CB.kpN Q9)) ?_
      clear hK K cB fB hwq YB9 YB HA hap Q5
      iterate 2 (first | (refine wpTr_v rfl rfl ?_; intro K hK; go_big_quiet_op; go_big_quiet_on) | (refine wpTr_q rfl rfl ?_; intro K hK; go_big_quiet_op; go_big_quiet_on) | refine wpTr_s rfl rfl ?_)
      refine wpTr_nil ?_
      clear hevT _hev
      go_wp2_with fail
      go_meet
      case rel => exact ⟨ab, Xa, va, rfl, rfl, rfl, E.kpN Q9, HX.kpN Q9, HA1.kpN Q9, HY⟩
  case rest =>
  clear E HX HA1
  rename World => w6
  obtain ⟨b2, X2, v2, rfl, rfl, rfl, E, HX, HA1, HB1⟩ := hcut
  have cx := fun i => HX.hl.cell i
  have ca := fun i => HA1.hl.cell i
  have cb1 := fun i => HB1.hl.cell i
  go_wp2_with fail
  have sx := HX.sat hxo.out (by omega)
  have sa := HA1.sat hao.out (by omega)
  have sb := HB1.sat hbo.out (by omega)
  refine (council_Same_any ⟨X.r, zLV⟩ ⟨X1.r, zLV⟩ ⟨0, x.real, zeroLedger⟩ ⟨0, a.real, zeroLedger⟩ _ sx.onlyReal sa.onlyReal).mono ?_
  rintro e w7 ⟨rfl, k7⟩
  rw [show decide ((⟨0, x.real, zeroLedger⟩ : House) = ⟨0, a.real, zeroLedger⟩) = true by rw [hra.out]; simp]
  replace E := E.kpN k7
  replace HX := HX.kpN k7
  replace HB1 := HB1.kpN k7
  clear sx sa sb cx ca cb1 HA1 k7
  have cx := fun i => HX.hl.cell i
  have cb1 := fun i => HB1.hl.cell i
  go_wp2_with fail
  have sx := HX.sat hxo.out (by omega)
  have sb := HB1.sat hbo.out (by omega)
  refine (council_Same_any ⟨zLV, X.d⟩ ⟨zLV, X2.d⟩ ⟨0, zeroLedger, x.drill⟩ ⟨0, zeroLedger, b.drill⟩ _ sx.onlyDrill sb.onlyDrill).mono ?_
  rintro e w8 ⟨rfl, k8⟩
  rw [show decide ((⟨0, zeroLedger, x.drill⟩ : House) = ⟨0, zeroLedger, b.drill⟩) = true by rw [hdb.out]; simp]
  replace E := E.kpN k8
  replace HX := HX.kpN k8
  replace HB1 := HB1.kpN k8
  clear sx sb cx cb1 k8
  have cx := fun i => HX.hl.cell i
  have hs0 : b.real.sent.length = 0 := by rw [hrb.out]; rfl
  have cb1 := fun i => HB1.hl.cell i
  simp only [hs0] at cb1
  clear hs0
  have hit2 := hit.out
  have cc := fun i => E.cl.cell i
  replace HB1 := Lib.hid HB1
  go_wp2_with fail
  refine (itemOf_any g nums k V c X x l.length _ E.ring (by omega) E.ca E.far hok hxo.out).mono ?_
  rintro e w9 ⟨n1, k', rfl, hk', hR9, k9⟩
  replace E := E.turn hR9 k9
  replace HX := HX.turn k9
  clear k9 hR9 cx cb1 hit2 cc HB1
  have hg9 := E.ring.lt
  have IB0 := Blk.new w9 31 #[.int .i64 n1.kind, .int .i64 n1.tick, .bool n1.drill, .int .i64 n1.a, .int .i64 n1.b, .bool n1.yes, .int .i64 n1.chance.least, .int .i64 n1.chance.most, .int .i64 n1.chance.all]
  have kI := Kp.new w9 (.cells #[.int .i64 n1.kind, .int .i64 n1.tick, .bool n1.drill, .int .i64 n1.a, .int .i64 n1.b, .bool n1.yes, .int .i64 n1.chance.least, .int .i64 n1.chance.most, .int .i64 n1.chance.all] 31)
  obtain ⟨n2, hn2⟩ : ∃ q : CItem, q = { n1 with drill := true } := ⟨_, rfl⟩
  have kS := Kp.new w9 (.cells #[.int .i64 n2.kind, .int .i64 n2.tick, .bool n2.drill, .int .i64 n2.a, .int .i64 n2.b, .bool n2.yes, .int .i64 n2.chance.least, .int .i64 n2.chance.most, .int .i64 n2.chance.all] 31)
  have IB := Blk.new w9 31 #[.int .i64 n2.kind, .int .i64 n2.tick, .bool n2.drill, .int .i64 n2.a, .int .i64 n2.b, .bool n2.yes, .int .i64 n2.chance.least, .int .i64 n2.chance.most, .int .i64 n2.chance.all]
  have hw2 : w9.alloc (.cells #[.int .i64 n2.kind, .int .i64 n2.tick, .bool n2.drill, .int .i64 n2.a, .int .i64 n2.b, .bool n2.yes, .int .i64 n2.chance.least, .int .i64 n2.chance.most, .int .i64 n2.chance.all] 31) = w9.alloc (.cells #[.int .i64 n1.kind, .int .i64 n1.tick, .bool true, .int .i64 n1.a, .int .i64 n1.b, .bool n1.yes, .int .i64 n1.chance.least, .int .i64 n1.chance.most, .int .i64 n1.chance.all] 31) := by rw [hn2]
  replace hw2 := Lib.hid hw2
  have hn2d : n2.drill = true := by rw [hn2]
  clear kI
  replace hn2 := Lib.hid hn2
  replace hn2d := Lib.hid hn2d
  replace kS := Lib.hid kS
  replace IB := Lib.hid IB
  replace E := Lib.hid E
  replace HX := Lib.hid HX
  have ci0 := fun i => IB0.cell i
  have fi0 := fun i => IB0.frozen i
  go_upto_region 10 with (fail)
  go_upto_region 11 with (fail)
  clear ci0 fi0 IB0
  rw [← hw2.out]
  replace E := E.out.kpN kS.out
  replace HX := HX.out.kpN kS.out
  replace IB := IB.out
  clear kS
  obtain ⟨ib, hib⟩ : ∃ q, q = w9.heap.size := ⟨_, rfl⟩
  rw [← hib] at IB
  rw [← hib]
  generalize w9.alloc (.cells #[.int .i64 n2.kind, .int .i64 n2.tick, .bool n2.drill, .int .i64 n2.a, .int .i64 n2.b, .bool n2.yes, .int .i64 n2.chance.least, .int .i64 n2.chance.most, .int .i64 n2.chance.all] 31) = wb at E HX IB ⊢
  clear hib hn2 hw2
  obtain ⟨m, hm⟩ : ∃ q, q = l ++ [n2] := ⟨_, rfl⟩
  have hml : m.length = l.length + 1 := by rw [hm]; simp
  have hyo := buildC_ok c m
  have hyr : (buildC c m).1.real = x.real := by rw [hm]; exact drill_more hok.chk (by omega) hD.out hn2d.out
  obtain ⟨R, hR⟩ : ∃ R, R = buildC c m := ⟨_, rfl⟩
  rw [← hR] at hyo hyr
  obtain ⟨y, yi, ye⟩ := R
  replace hyo : HouseOk c m.length y := hyo
  replace hyr : y.real = x.real := hyr
  replace hR := Lib.hid hR
  replace hyo := Lib.hid hyo
  replace hyr := Lib.hid hyr
  replace hm := Lib.hid hm
  replace hml := Lib.hid hml
  have CB := E.cl
  have hrd0 := E.rd.free
  have hca0 := E.ca
  have hgb := E.ring.lt
  refine wp_region_inv (Γ := GM) [none, none, none, none, none, none, none, none, none, none, none, none, none, none, none, none, some 12, some 14, some 15, none, none, none, none, none, none, none, none, none, none, none, none, none, none, none, none, none, none, none, none, none, none, none, none, none, none, none, none, none, none, none, none, none, none, none, none, none, none, none, none, none, none, none, none, none, none, none, none, none, none, none, none, none, none, none, none, none, none, none, none, none, none, none, none, none, none, none, none, none, none, none, none, none, none, none, none, none, none, none, none, none, none, none, some 8, some 0, some 1, some 2, some 3, some 4, some 5, some 6, some 7, some 9, some 10, some 11] [[], [], [], [1, 2], [], [4], [1, 2, 3, 4, 5], [0, 1, 2, 3, 4, 5, 6], [0, 1, 2, 3, 4, 5, 6, 7], [0, 1, 2, 3, 4, 5, 6, 7, 8], [0, 1, 2, 3, 4, 5, 6, 7, 8], [0, 1, 2, 3, 4, 5, 6, 7, 8], [], [0, 1, 2, 3, 4, 5, 6, 7, 8, 9, 12], [0, 1, 2, 3, 4, 5, 6, 7, 8, 9, 10, 12, 13], [0, 1, 2, 3, 4, 5, 6, 7, 8, 9, 10, 11, 12, 13, 14]] [[1, 2, 3, 4, 5, 6, 12], [0, 2, 4, 5, 12], [0, 1, 4, 5, 12], [0, 1, 2, 4, 5, 12], [0, 1, 2, 3, 12], [0, 1, 2, 3, 4, 12], [0, 1, 2, 3, 4, 5, 12], [0, 1, 2, 3, 4, 5, 6, 12], [0, 1, 2, 3, 4, 5, 6, 7, 12], [0, 1, 2, 3, 4, 5, 6, 7, 8, 10, 11, 12], [0, 1, 2, 3, 4, 5, 6, 7, 8, 9, 11, 12, 13], [0, 1, 2, 3, 4, 5, 6, 7, 8, 9, 10, 12, 13, 14], [0, 1, 2, 3, 4, 5, 6, 7, 8, 9, 10, 11], [0, 1, 2, 3, 4, 5, 6, 7, 8, 9, 10, 11, 12], [0, 1, 2, 3, 4, 5, 6, 7, 8, 9, 10, 11, 12, 13], [0, 1, 2, 3, 4, 5, 6, 7, 8, 9, 10, 11, 12, 13, 14]] (fun γ => [.agg #[.slice V.am c.members.length V.cm, .slice V.al c.laws.length V.cl, .slice V.av c.levels.length V.cv], .slice (some ⟨γ.nb, 0, none⟩) 0 0, .slice A2 l.length cap2, .slice γ.A3 l.length γ.c3, .agg #[.int .i64 n2.kind, .int .i64 n2.tick, .bool n2.drill, .int .i64 n2.a, .int .i64 n2.b, .bool n2.yes, .int .i64 n2.chance.least, .int .i64 n2.chance.most, .int .i64 n2.chance.all], .slice (some ⟨γ.xb, 0, none⟩) 1 1, .slice γ.A6 m.length γ.c6, .tuple #[.agg #[.int .i64 y.tick, .int .i64 y.real.items, .slice γ.X.r.fa y.real.facts.length γ.X.r.fc, .slice γ.X.r.ma y.real.motions.length γ.X.r.mc, .slice γ.X.r.sa y.real.sent.length γ.X.r.sc, .int .i64 y.drill.items, .slice γ.X.d.fa y.drill.facts.length γ.X.d.fc, .slice γ.X.d.ma y.drill.motions.length γ.X.d.mc, .slice γ.X.d.sa y.drill.sent.length γ.X.d.sc], .int .i64 yi, .int .i64 ye], .tuple #[.agg #[.int .i64 y.tick, .int .i64 y.real.items, .slice γ.X.r.fa y.real.facts.length γ.X.r.fc, .slice γ.X.r.ma y.real.motions.length γ.X.r.mc, .slice γ.X.r.sa y.real.sent.length γ.X.r.sc, .int .i64 y.drill.items, .slice γ.X.d.fa y.drill.facts.length γ.X.d.fc, .slice γ.X.d.ma y.drill.motions.length γ.X.d.mc, .slice γ.X.d.sa y.drill.sent.length γ.X.d.sc], .int .i64 yi, .int .i64 ye], .agg #[.int .i64 y.tick, .int .i64 y.real.items, .slice γ.X.r.fa y.real.facts.length γ.X.r.fc, .slice γ.X.r.ma y.real.motions.length γ.X.r.mc, .slice γ.X.r.sa y.real.sent.length γ.X.r.sc, .int .i64 y.drill.items, .slice γ.X.d.fa y.drill.facts.length γ.X.d.fc, .slice γ.X.d.ma y.drill.motions.length γ.X.d.mc, .slice γ.X.d.sa y.drill.sent.length γ.X.d.sc], .int .i64 yi, .int .i64 ye, .pointer (some ⟨γ.yb, 0, none⟩), undef, .int .i64 yi, .int .i64 ye]) (fun γ => [none, none, none, none, none, none, none, none, none, none, none, none, none, none, none, none, some (.pointer (some ⟨γ.yb, 0, none⟩)), some (.int .i64 yi), some (.int .i64 ye), none, none, none, none, none, none, none, none, none, none, none, none, none, none, none, none, none, none, none, none, none, none, none, none, none, none, none, none, none, none, none, none, none, none, none, none, none, none, none, none, none, none, none, none, none, none, none, none, none, none, none, none, none, none, none, none, none, none, none, none, none, none, none, none, none, none, none, none, none, none, none, none, none, none, none, none, none, none, none, none, none, none, none, some (.tuple #[.agg #[.int .i64 y.tick, .int .i64 y.real.items, .slice γ.X.r.fa y.real.facts.length γ.X.r.fc, .slice γ.X.r.ma y.real.motions.length γ.X.r.mc, .slice γ.X.r.sa y.real.sent.length γ.X.r.sc, .int .i64 y.drill.items, .slice γ.X.d.fa y.drill.facts.length γ.X.d.fc, .slice γ.X.d.ma y.drill.motions.length γ.X.d.mc, .slice γ.X.d.sa y.drill.sent.length γ.X.d.sc], .int .i64 yi, .int .i64 ye]), some (.agg #[.slice V.am c.members.length V.cm, .slice V.al c.laws.length V.cl, .slice V.av c.levels.length V.cv]), some (.slice (some ⟨γ.nb, 0, none⟩) 0 0), some (.slice A2 l.length cap2), some (.slice γ.A3 l.length γ.c3), some (.agg #[.int .i64 n2.kind, .int .i64 n2.tick, .bool n2.drill, .int .i64 n2.a, .int .i64 n2.b, .bool n2.yes, .int .i64 n2.chance.least, .int .i64 n2.chance.most, .int .i64 n2.chance.all]), some (.slice (some ⟨γ.xb, 0, none⟩) 1 1), some (.slice γ.A6 m.length γ.c6), some (.tuple #[.agg #[.int .i64 y.tick, .int .i64 y.real.items, .slice γ.X.r.fa y.real.facts.length γ.X.r.fc, .slice γ.X.r.ma y.real.motions.length γ.X.r.mc, .slice γ.X.r.sa y.real.sent.length γ.X.r.sc, .int .i64 y.drill.items, .slice γ.X.d.fa y.drill.facts.length γ.X.d.fc, .slice γ.X.d.ma y.drill.motions.length γ.X.d.mc, .slice γ.X.d.sa y.drill.sent.length γ.X.d.sc], .int .i64 yi, .int .i64 ye]), some (.agg #[.int .i64 y.tick, .int .i64 y.real.items, .slice γ.X.r.fa y.real.facts.length γ.X.r.fc, .slice γ.X.r.ma y.real.motions.length γ.X.r.mc, .slice γ.X.r.sa y.real.sent.length γ.X.r.sc, .int .i64 y.drill.items, .slice γ.X.d.fa y.drill.facts.length γ.X.d.fc, .slice γ.X.d.ma y.drill.motions.length γ.X.d.mc, .slice γ.X.d.sa y.drill.sent.length γ.X.d.sc]), some (.int .i64 yi), some (.int .i64 ye)]) ?A11_1 (fun n D γ w => LMore wb l m n2 y D γ w) (fun k γ w => match k with | 1 => γ.d1 = true | 3 => γ.d3 = true | 5 => γ.d5 = true | 6 => γ.d6 = true | 7 => γ.d7 = true | 12 => γ.d12 = true | 13 => γ.d13 = true | _ => True) gm0 (by kernel_rfl) (fun _ => rfl) ?hA11_1 (by kernel_rfl) ?hB011_1 ?hop11_1 ?hend11_1
  case hA11_1 => intro γ; dsimp only [fullV]; rfl
  case hB011_1 =>
    exact LMore.start (Kp.refl _ _ _).drew
  case hop11_1 =>
    intro hA
    refine ⟨?_, ?_, ?_, ?_, ?_, ?_, ?_, ?_, ?_, ?_, ?_, ?_, ?_, ?_, ?_, ?_, trivial⟩
    · refine opOk_v hA (fun _ => rfl) (fun _ _ => trivial) ?_ ?_
      · intro n D γ w hn h
        replace hn : n < 16 := hn
        try dsimp only at h
        exact { h with f1 := h.f1, f3 := h.f3, f5 := h.f5, f6 := h.f6, f7 := h.f7, f12 := h.f12, f13 := h.f13 }
      intro n D γ w hB hU K hK
      try dsimp only at hB
      try dsimp only
      have cc := fun i => (CB.kpN hB.kp).cell i
      have ci := fun i => (IB.kpN hB.kp).cell i
      clear hB hU
      go_step
      exact hK _ rfl
    · refine opOk_l hA (fun _ => rfl) ?_
      intro n D γ w hn hD hB hU K hK
      try dsimp only at hB
      clear hU
      replace hn : n < 16 := hn
      try dsimp only
      go_step
      refine hK _ _ { γ with nb := w.heap.size, d1 := true } rfl (hB.op1 hD rfl) rfl ?_
      try dsimp only [allP, List.getD_cons_zero, List.getD_cons_succ]
      (repeat' apply And.intro) <;> first | exact rfl | exact trivial | exact id | assumption
    · refine opOk_v hA (fun _ => rfl) (fun _ _ => trivial) ?_ ?_
      · intro n D γ w hn h
        replace hn : n < 16 := hn
        try dsimp only at h
        exact { h with f1 := h.f1, f3 := h.f3, f5 := h.f5, f6 := h.f6, f7 := h.f7, f12 := h.f12, f13 := h.f13 }
      intro n D γ w hB hU K hK
      try dsimp only at hB
      try dsimp only
      clear hB hU
      go_step
      exact hK _ rfl
    · refine opOk_l hA (fun _ => rfl) ?_
      intro n D γ w hn hD hB hU K hK
      try dsimp only at hB
      replace hU : (γ.d1 = true) := hU.1
      replace hn : n < 16 := hn
      try dsimp only
      have e3 : γ.d3 = false := hB.f3.symm.trans hD
      refine wp_append_items (.tmp 104) (.tmp 105) (by rfl) wb.heap.size (.slice (some ⟨γ.nb, 0, none⟩) 0 0) [] A2 cap2 l (by rfl) (by rfl) (hB.r1 hU e3) (hrd0.kpN hB.kp) (by simp; omega) hB.kp.size ?_
      intro v' w' own hg hat
      rw [List.nil_append] at own
      obtain ⟨A9, c9, rfl, -, -⟩ := own.rd (row := none) (fun _ => rfl) (fun b hb e => by cases e)
      refine hK _ _ { γ with A3 := A9, c3 := c9, d3 := true } rfl (hB.op3 hD hU own hg hat) rfl ?_
      try dsimp only [allP, List.getD_cons_zero, List.getD_cons_succ]
      (repeat' apply And.intro) <;> first | exact rfl | exact trivial | exact id | assumption
    · refine opOk_v hA (fun _ => rfl) (fun _ _ => trivial) ?_ ?_
      · intro n D γ w hn h
        replace hn : n < 16 := hn
        try dsimp only at h
        exact { h with f1 := h.f1, f3 := h.f3, f5 := h.f5, f6 := h.f6, f7 := h.f7, f12 := h.f12, f13 := h.f13 }
      intro n D γ w hB hU K hK
      try dsimp only at hB
      try dsimp only
      have cc := fun i => (CB.kpN hB.kp).cell i
      have ci := fun i => (IB.kpN hB.kp).cell i
      clear hB hU
      go_step
      exact hK _ rfl
    · refine opOk_l hA (fun _ => rfl) ?_
      intro n D γ w hn hD hB hU K hK
      try dsimp only at hB
      clear hU
      replace hn : n < 16 := hn
      try dsimp only
      go_step
      refine hK _ _ { γ with xb := w.heap.size, d5 := true } rfl (hB.op5 hD rfl) rfl ?_
      try dsimp only [allP, List.getD_cons_zero, List.getD_cons_succ]
      (repeat' apply And.intro) <;> first | exact rfl | exact trivial | exact id | assumption
    · refine opOk_l hA (fun _ => rfl) ?_
      intro n D γ w hn hD hB hU K hK
      try dsimp only at hB
      replace hU : (γ.d1 = true) ∧ (γ.d3 = true) ∧ (γ.d5 = true) := ⟨hU.1, hU.2.2.1, hU.2.2.2.2.1⟩
      replace hn : n < 16 := hn
      try dsimp only
      obtain ⟨h1, h3, h5⟩ := hU
      have e6 : γ.d6 = false := hB.f6.symm.trans hD
      refine wp_append_items (.tmp 106) (.tmp 108) (by rfl) wb.heap.size (.slice γ.A3 l.length γ.c3) l (some ⟨γ.xb, 0, none⟩) 1 [n2] (by rfl) (by rfl) (hB.r3 h3 e6) (Rd.of_blk (enc := encItem) (sz := 9) [n2] (fun _ => rfl) rfl (hB.r5 h5 e6) none (by simp)) (by simp; omega) hB.kp.size ?_
      intro v' w' own hg hat
      rw [← hm.out] at own
      obtain ⟨A9, c9, rfl, -, -⟩ := own.rd (row := none) (fun _ => rfl) (fun b hb e => by cases e)
      refine hK _ _ { γ with A6 := A9, c6 := c9, d6 := true } rfl (hB.op6 hD h3 h5 own hg) rfl ?_
      try dsimp only [allP, List.getD_cons_zero, List.getD_cons_succ]
      (repeat' apply And.intro) <;> first | exact rfl | exact trivial | exact id | assumption
    · refine opOk_l hA (fun _ => rfl) ?_
      intro n D γ w hn hD hB hU K hK
      try dsimp only at hB
      replace hU : (γ.d1 = true) ∧ (γ.d3 = true) ∧ (γ.d5 = true) ∧ (γ.d6 = true) := ⟨hU.2.1, hU.2.2.2.1, hU.2.2.2.2.2.1, hU.2.2.2.2.2.2.1⟩
      replace hn : n < 16 := hn
      try dsimp only
      obtain ⟨h1, h3, h5, h6⟩ := hU
      have e7 : γ.d7 = false := hB.f7.symm.trans hD
      have R9 : Rd none w 9 encItem γ.A6 m.length m := by
        obtain ⟨A9, c9, e9, R9, -⟩ := (hB.r6 h6 e7).rd (row := none) (fun _ => rfl) (fun b hb e => by cases e)
        injection e9 with e91 e92 e93
        rw [← e91] at R9
        exact R9
      go_step
      refine (build_see V c γ.A6 γ.c6 m _ ((hca0.kpN hB.kp).wide hB.kp.size) R9 (by have := hml.out; omega)).mono ?_
      rw [← hR.out]
      rintro e w7 ⟨v, X, hX, rfl, HA, -, k7⟩
      refine hK _ _ { γ with v := v, X := X, d7 := true } rfl (hB.op7 hD h6 hX HA k7) rfl ?_
      try dsimp only [allP, List.getD_cons_zero, List.getD_cons_succ]
      (repeat' apply And.intro) <;> first | exact rfl | exact trivial | exact id | assumption
    · refine opOk_v hA (fun _ => rfl) (fun _ _ => trivial) ?_ ?_
      · intro n D γ w hn h
        replace hn : n < 16 := hn
        try dsimp only at h
        exact { h with f1 := h.f1, f3 := h.f3, f5 := h.f5, f6 := h.f6, f7 := h.f7, f12 := h.f12, f13 := h.f13 }
      intro n D γ w hB hU K hK
      try dsimp only at hB
      try dsimp only
      clear hB hU
      go_step
      exact hK _ rfl
    · refine opOk_v hA (fun _ => rfl) (fun _ _ => trivial) ?_ ?_
      · intro n D γ w hn h
        replace hn : n < 16 := hn
        try dsimp only at h
        exact { h with f1 := h.f1, f3 := h.f3, f5 := h.f5, f6 := h.f6, f7 := h.f7, f12 := h.f12, f13 := h.f13 }
      intro n D γ w hB hU K hK
      try dsimp only at hB
      try dsimp only
      clear hB hU
      go_step
      exact hK _ rfl
    · refine opOk_v hA (fun _ => rfl) (fun _ _ => trivial) ?_ ?_
      · intro n D γ w hn h
        replace hn : n < 16 := hn
        try dsimp only at h
        exact { h with f1 := h.f1, f3 := h.f3, f5 := h.f5, f6 := h.f6, f7 := h.f7, f12 := h.f12, f13 := h.f13 }
      intro n D γ w hB hU K hK
      try dsimp only at hB
      try dsimp only
      clear hB hU
      go_step
      exact hK _ rfl
    · refine opOk_v hA (fun _ => rfl) (fun _ _ => trivial) ?_ ?_
      · intro n D γ w hn h
        replace hn : n < 16 := hn
        try dsimp only at h
        exact { h with f1 := h.f1, f3 := h.f3, f5 := h.f5, f6 := h.f6, f7 := h.f7, f12 := h.f12, f13 := h.f13 }
      intro n D γ w hB hU K hK
      try dsimp only at hB
      try dsimp only
      clear hB hU
      go_step
      exact hK _ rfl
    · refine opOk_l hA (fun _ => rfl) ?_
      intro n D γ w hn hD hB hU K hK
      try dsimp only at hB
      clear hU
      replace hn : n < 16 := hn
      try dsimp only
      go_step
      refine hK _ _ { γ with yb := w.heap.size, d12 := true } rfl (hB.op12 hD rfl) rfl ?_
      try dsimp only [allP, List.getD_cons_zero, List.getD_cons_succ]
      (repeat' apply And.intro) <;> first | exact rfl | exact trivial | exact id | assumption
    · refine opOk_l hA (fun _ => rfl) ?_
      intro n D γ w hn hD hB hU K hK
      try dsimp only at hB
      replace hU : (γ.d1 = true) ∧ (γ.d3 = true) ∧ (γ.d5 = true) ∧ (γ.d6 = true) ∧ (γ.d7 = true) ∧ (γ.d12 = true) := ⟨hU.2.1, hU.2.2.2.1, hU.2.2.2.2.2.1, hU.2.2.2.2.2.2.1, hU.2.2.2.2.2.2.2.1, hU.2.2.2.2.2.2.2.2.2.2.1⟩
      replace hn : n < 16 := hn
      try dsimp only
      obtain ⟨h1, h3, h5, h6, h7, h12⟩ := hU
      have e13 : γ.d13 = false := hB.f13.symm.trans hD
      have YB9 : Blk w γ.yb 46 #[.int .i64 0, .int .i64 0, .slice none 0 0, .slice none 0 0, .slice none 0 0, .int .i64 0, .slice none 0 0, .slice none 0 0, .slice none 0 0] := hB.r12 h12 e13
      have cB := fun i => YB9.cell i
      have fB := fun i => YB9.frozen i
      go_step
      refine hK _ _ { γ with d13 := true } rfl (hB.op13 hD h7 h12 rfl) rfl ?_
      try dsimp only [allP, List.getD_cons_zero, List.getD_cons_succ]
      (repeat' apply And.intro) <;> first | exact rfl | exact trivial | exact id | assumption
    · refine opOk_v hA (fun _ => rfl) (fun _ _ => trivial) ?_ ?_
      · intro n D γ w hn h
        replace hn : n < 16 := hn
        try dsimp only at h
        exact { h with f1 := h.f1, f3 := h.f3, f5 := h.f5, f6 := h.f6, f7 := h.f7, f12 := h.f12, f13 := h.f13 }
      intro n D γ w hB hU K hK
      try dsimp only at hB
      try dsimp only
      clear hB hU
      go_step
      exact hK _ rfl
    · refine opOk_v hA (fun _ => rfl) (fun _ _ => trivial) ?_ ?_
      · intro n D γ w hn h
        replace hn : n < 16 := hn
        try dsimp only at h
        exact { h with f1 := h.f1, f3 := h.f3, f5 := h.f5, f6 := h.f6, f7 := h.f7, f12 := h.f12, f13 := h.f13 }
      intro n D γ w hB hU K hK
      try dsimp only at hB
      try dsimp only
      clear hB hU
      go_step
      exact hK _ rfl
  case hend11_1 =>
    intro n D γ w hn hD hB hF
    replace hF := fun k (hk : k < 16) => hF k hk
    replace hF := (⟨hF 1 (by decide), hF 3 (by decide), hF 5 (by decide), hF 6 (by decide), hF 7 (by decide), hF 12 (by decide), hF 13 (by decide)⟩ : _ ∧ _ ∧ _ ∧ _ ∧ _ ∧ _ ∧ _)
    try dsimp only at hB
    try dsimp only at hF
    replace hn : n ≤ 16 := hn
    try dsimp only
    obtain ⟨-, -, -, -, h7, h12, h13⟩ := hF
    have HY0 := hB.r13 h13
    have hy12 := (hB.y12 h12).1
    obtain ⟨⟨B9, hB9, HA⟩, hX9⟩ := hB.r7 h7
    have HY : HouseAt g γ.yb γ.X γ.v y w := ⟨HY0, hX9, ⟨B9, by omega, HA⟩, by omega⟩
    replace E := E.kpN hB.kp
    replace HX := HX.kpN hB.kp
    clear HY0 hy12 hB9 HA hX9 hB h7 h12 h13 hD CB hrd0 hca0 hgb IB hn
    obtain ⟨yb, hyb⟩ : ∃ q, q = γ.yb := ⟨_, rfl⟩
    obtain ⟨Y, hYY⟩ : ∃ q, q = γ.X := ⟨_, rfl⟩
    rw [← hyb, ← hYY] at HY ⊢
    generalize γ.v = vy at HY
    clear hyb hYY
    have cc := fun i => E.cl.cell i
    go_wp2_with fail
    refine (council_Alarms_any V c A2 cap2 l _ E.ca E.rd.free (by omega)).mono ?_
    rw [hbx.out]
    rintro e w12 ⟨A9, n9, q9, rfl, hn9, k12⟩
    have hn9' : n9 = x.real.sent.length := hn9 rfl
    subst hn9'
    replace E := E.kpN k12
    replace HX := HX.kpN k12
    replace HY := HY.kpN k12
    clear hn9 k12 cc
    have cx := fun i => HX.hl.cell i
    have cy := fun i => HY.hl.cell i
    go_wp2_with fail
    have sx := HX.sat hxo.out (by omega)
    have sy := HY.sat hyo.out (by have := hml.out; omega)
    refine (council_Same_any ⟨X.r, zLV⟩ ⟨Y.r, zLV⟩ ⟨0, x.real, zeroLedger⟩ ⟨0, y.real, zeroLedger⟩ _ sx.onlyReal sy.onlyReal).mono ?_
    rintro e w13 ⟨rfl, k13⟩
    rw [show decide ((⟨0, x.real, zeroLedger⟩ : House) = ⟨0, y.real, zeroLedger⟩) = true by rw [hyr.out]; simp]
    replace E := E.kpN k13
    replace HX := HX.kpN k13
    clear sx sy cx cy k13 HY
    have cx := fun i => HX.hl.cell i
    go_wp2_with fail
    refine (awake_any _).mono ?_
    rintro e w14 ⟨rfl, k14⟩
    have K9 := E.kp.thenN k14 (Nat.le_refl _)
    clear E HX k14 cx
    go_wp2
    go_ret
    exact ⟨rfl, K9⟩
end Go.Proofs.Ytogpgnljomchcaa
