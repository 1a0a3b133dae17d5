/- The harm of a blow in a layer: grades and a land, a place, the harm there. -/
import Derived.Test.YtdiigflbohbndaaDoorWave
import Derived.Test.YtdiigflbohbndaaDoorToll
import Derived.Laws.EntriesVeiled
namespace Go.Proofs.YtdiigflbohbndaaDoor
open Go.RowKit

def GroundChk (gs : List Grade) (ps : List Int) (m : Nat) (n : Int) : Prop := (n ≠ 0 ∧ GradesChk gs n) ∨ (GradesChk gs 0 ∧ LandChk ps m n)
theorem groundChk_one {gs : List Grade} {ps : List Int} {m : Nat} {n k : Int} (h : GroundChk gs ps m n) (g : GroundChk gs ps m k) : n = k := by
  rcases h with ⟨h0, h⟩ | ⟨h0, h⟩ <;> rcases g with ⟨g0, g⟩ | ⟨g0, g⟩
  · exact gradesChk_one h g
  · exact absurd (gradesChk_one h g0) h0
  · exact absurd (gradesChk_one g h0) g0
  · exact landChk_one h g
theorem landOk_chk {ps : List Int} {m : Nat} (h : LandChk ps m 0) : LandOk ps m := by
  rcases h with ⟨h1, h2⟩ | ⟨h1, h2⟩ | ⟨h1, h2⟩ | ⟨h1, h2, ⟨h3, h4⟩ | ⟨h3, h5, h4⟩⟩
  · exact h2
  · omega
  · omega
  · omega
  · omega
theorem ground_ok {gs : List Grade} {ps : List Int} {m : Nat} (h : GroundChk gs ps m 0) : GradesChk gs 0 ∧ LandOk ps m := by
  rcases h with ⟨h0, h⟩ | ⟨h0, h⟩
  · exact absurd rfl h0
  · exact ⟨h0, landOk_chk h⟩
theorem grades_len {gs : List Grade} (h : GradesChk gs 0) : 1 ≤ gs.length ∧ gs.length ≤ 32 := by
  rcases h with ⟨h1, h2⟩ | ⟨h1, h2⟩ | ⟨h1, h2, h3⟩
  · omega
  · omega
  · exact ⟨h1, h2⟩
theorem grade_rng {gs : List Grade} (h : GradesChk gs 0) : ∀ x ∈ gs, 0 ≤ x.reach ∧ x.reach ≤ 400 := by
  rcases h with ⟨h1, h2⟩ | ⟨h1, h2⟩ | ⟨h1, h2, ⟨_, h⟩ | ⟨i, hi, h, _⟩⟩
  · omega
  · omega
  · intro x hx
    obtain ⟨i, hi, rfl⟩ := List.getElem_of_mem hx
    have h3 := h i hi
    unfold gradeErr at h3
    split at h3
    · cases h3
    · rename_i h4
      have h5 := Classical.not_not.1 h4
      exact (btw_true _ _ _).1 h5.2
  · exfalso
    have h5 : gradeErr gs i hi ≠ some 0 := by
      unfold gradeErr
      split
      · intro k; injection k with k; omega
      · generalize (if h : 0 < i then gs[i - 1].energy else -1) = x1
        generalize (if h : 0 < i then gs[i - 1].reach else 0) = x2
        by_cases hx : gs[i].energy ≤ x1 ∨ gs[i].reach < x2
        · rw [if_pos hx]; intro k; injection k with k; omega
        · rw [if_neg hx]; intro k; cases k
    exact h5 h
theorem reach_rng (en : Int) : ∀ (gs : List Grade) (far : Int), (∀ x ∈ gs, 0 ≤ x.reach ∧ x.reach ≤ 400) → 0 ≤ far ∧ far ≤ 400 → 0 ≤ reachOf en gs far ∧ reachOf en gs far ≤ 400
  | [], far, _, h => h
  | g :: gs, far, hg, h => by
    rw [reach_cons]
    split
    · exact h
    · exact reach_rng en gs g.reach (fun x hx => hg x (List.mem_cons_of_mem _ hx)) (hg g List.mem_cons_self)
theorem reach_bd (en : Int) {gs : List Grade} (h : GradesChk gs 0) : 0 ≤ reachOf en gs 0 ∧ reachOf en gs 0 ≤ 400 := reach_rng en gs 0 (grade_rng h) ⟨by omega, by omega⟩
set_option maxRecDepth 100000 in
set_option maxHeartbeats 1000000 in
theorem blast_ground_any (Ag : Option Addr) (cg : Nat) (gs : List Grade) (A A' : Option Addr) (c m c' : Nat) (ps : List Int) (w : World) (hg : Rd none w 2 encGrade Ag gs.length gs) (h : Rd none w 1 encI A ps.length ps) :
    Calls Tryd.prog 101 #[.slice Ag gs.length cg, .agg #[.slice A ps.length c, .slice A' m c']] w fun e w' => (∃ n, e = .returned (.int .i64 n) ∧ GroundChk gs ps m n) ∧ Kp w.heap.size none w w' := by
  have K0 := (Kp.refl w.heap.size none w).alloc (Nat.le_refl _) (.cells #[.slice A ps.length c, .slice A' m c'] 54)
  have B0 := Blk.new w 54 #[.slice A ps.length c, .slice A' m c']
  go_enter Tryd.func101, Tryd.ntmps101
  go_wp2_with fail
  refine (blast_CheckGrades_any Ag cg gs _ (hg.kpN K0)).mono ?_
  rintro e w1 ⟨⟨n, rfl, hn⟩, k1⟩
  have K1 := K0.thenN k1 (Nat.le_refl _)
  have B1 := B0.kpN k1
  have cB := fun i => B1.cell i
  clear k1 B0 K0 hg
  by_cases hn0 : n = 0
  · subst hn0
    replace hn := Lib.hid hn
    go_wp2_with fail
    refine (blast_CheckLand_any A A' c m c' ps _ (h.kpN K1)).mono ?_
    rintro e w2 ⟨⟨n, rfl, hl⟩, k2⟩
    have K2 := K1.thenN k2 (Nat.le_refl _)
    replace hl := Lib.hid hl
    clear k2 h B1 cB K1
    go_wp2
    exact bodyPost_ret (by simp [results, Tryd.results101, go_sem]) rfl ⟨⟨n, rfl, .inr ⟨hn.out, hl.out⟩⟩, K2⟩
  · have hx := Lib.hid (show GroundChk gs ps m n from .inl ⟨hn0, hn⟩)
    clear hn h
    go_wp2
    exact bodyPost_ret (by simp [results, Tryd.results101, go_sem]) rfl ⟨⟨n, rfl, hx.out⟩, K1⟩
/-- The function that a place has for the ground. -/
def groundFn (bs : List Bool) (a : Nat) : Value := .func (.func (if bs[a]? = some true then 82 else 81)) #[] #[]
set_option maxRecDepth 100000 in
set_option maxHeartbeats 1000000 in
theorem blast_of_any (A A' : Option Addr) (c c' n : Nat) (bs : List Bool) (a : Nat) (w : World) (hb : Rd none w 1 encB A' bs.length bs) (ha : a < bs.length) :
    Calls Tryd.prog 102 #[.agg #[.slice A n c, .slice A' bs.length c'], .int .i64 a] w fun e w' => e = .returned (.agg #[.slice A n c, .slice A' bs.length c', .int .i64 a, groundFn bs a]) ∧ Kp w.heap.size none w w' := by
  have K0 := (Kp.refl w.heap.size none w).alloc (Nat.le_refl _) (.cells #[.slice A n c, .slice A' bs.length c'] 54)
  have B0 := Blk.new w 54 #[.slice A n c, .slice A' bs.length c']
  have hb0 := hb.kpN K0
  obtain ⟨b, o, rfl, hlt, -, hcl⟩ := hb0.at_ (by omega)
  have c0 : (w.alloc (.cells #[.slice A n c, .slice (some ⟨b, o, none⟩) bs.length c'] 54)).cell? ⟨b, o + a, none⟩ = some (.bool bs[a]) := Rd.cell1 (fun _ => rfl) hcl a ha
  have hq : bs[a]? = some bs[a] := List.getElem?_eq_getElem ha
  have hai : (a : Int) < (bs.length : Int) := by omega
  generalize hw0 : w.alloc (.cells #[.slice A n c, .slice (some ⟨b, o, none⟩) bs.length c'] 54) = w0 at K0 B0 c0 hlt
  have K1 := K0.alloc K0.size (.cells #[.slice none 0 0, .slice none 0 0, .int .i64 0, .nilFunc] 134)
  have P1 := Blk.new w0 134 #[.slice none 0 0, .slice none 0 0, .int .i64 0, .nilFunc]
  have B1 := B0.alloc (.cells #[.slice none 0 0, .slice none 0 0, .int .i64 0, .nilFunc] 134)
  have c1 := (World.cell?_alloc_lt w0 (.cells #[.slice none 0 0, .slice none 0 0, .int .i64 0, .nilFunc] 134) ⟨b, o + a, none⟩ hlt).trans c0
  generalize bs[a] = q at c0 c1 hq
  have hfn : groundFn bs a = .func (.func (if q = true then 82 else 81)) #[] #[] := by unfold groundFn; rw [hq]; cases q <;> rfl
  rw [hfn]
  clear hb hb0 hcl hfn hq
  have cB := fun i => B1.cell i
  have cP := fun i => P1.cell i
  have P2 := P1.alloc (.cells #[.slice A n c, .slice (some ⟨b, o, none⟩) bs.length c', .int .i64 a, .func (.func 81) #[] #[]] 134)
  have B2 := B1.alloc (.cells #[.slice A n c, .slice (some ⟨b, o, none⟩) bs.length c', .int .i64 a, .func (.func 81) #[] #[]] 134)
  have R2 := Blk.newAt (w0.alloc (.cells #[.slice none 0 0, .slice none 0 0, .int .i64 0, .nilFunc] 134)) 134 #[.slice A n c, .slice (some ⟨b, o, none⟩) bs.length c', .int .i64 a, .func (.func 81) #[] #[]] (n := w0.heap.size + 1) (by simp)
  have c2 := (World.cell?_alloc_lt (w0.alloc (.cells #[.slice none 0 0, .slice none 0 0, .int .i64 0, .nilFunc] 134)) (.cells #[.slice A n c, .slice (some ⟨b, o, none⟩) bs.length c', .int .i64 a, .func (.func 81) #[] #[]] 134) ⟨b, o + a, none⟩ (by simp; omega)).trans c1
  have K2 := K1.alloc K1.size (.cells #[.slice A n c, .slice (some ⟨b, o, none⟩) bs.length c', .int .i64 a, .func (.func 81) #[] #[]] 134)
  have hk0 := K0.size
  have c3 := fun i => P2.cell i
  have c4 := fun i => B2.cell i
  have c5 := fun i => R2.cell i
  have f3 := fun i => P2.frozen i
  have f5 := fun i => R2.frozen i
  go_enter Tryd.func102, Tryd.ntmps102
  cases q
  · go_wp2
    have c9 := fun i => ((Blk.new w0 134 #[.slice A n c, .slice (some ⟨b, o, none⟩) bs.length c', .int .i64 a, .func (.func 81) #[] #[]]).alloc (.cells #[.slice A n c, .slice (some ⟨b, o, none⟩) bs.length c', .int .i64 a, .func (.func 81) #[] #[]] 134)).cell i
    have K9 := (K0.alloc K0.size (.cells #[.slice A n c, .slice (some ⟨b, o, none⟩) bs.length c', .int .i64 a, .func (.func 81) #[] #[]] 134)).alloc (alloc_ge K0.size _) (.cells #[.slice A n c, .slice (some ⟨b, o, none⟩) bs.length c', .int .i64 a, .func (.func 81) #[] #[]] 134)
    exact bodyPost_ret (v := .agg #[.slice A n c, .slice (some ⟨b, o, none⟩) bs.length c', .int .i64 a, .func (.func 81) #[] #[]]) (by simp [results, Tryd.results102, go_sem, c9]) rfl ⟨rfl, K9⟩
  · go_wp2
    have c9 := fun i => ((Blk.new w0 134 #[.slice A n c, .slice (some ⟨b, o, none⟩) bs.length c', .int .i64 a, .func (.func 82) #[] #[]]).alloc (.cells #[.slice A n c, .slice (some ⟨b, o, none⟩) bs.length c', .int .i64 a, .func (.func 82) #[] #[]] 134)).cell i
    have K9 := (K0.alloc K0.size (.cells #[.slice A n c, .slice (some ⟨b, o, none⟩) bs.length c', .int .i64 a, .func (.func 82) #[] #[]] 134)).alloc (alloc_ge K0.size _) (.cells #[.slice A n c, .slice (some ⟨b, o, none⟩) bs.length c', .int .i64 a, .func (.func 82) #[] #[]] 134)
    exact bodyPost_ret (v := .agg #[.slice A n c, .slice (some ⟨b, o, none⟩) bs.length c', .int .i64 a, .func (.func 82) #[] #[]]) (by simp [results, Tryd.results102, go_sem, c9]) rfl ⟨rfl, K9⟩
/-- The harm at a place. -/
def placeHarm (gs : List Grade) (ps : List Int) (bs : List Bool) (a ab : Nat) (en : Int) : Int :=
  if ab = 0 then (if bs[a]? = some true then waveOf ps bs a (min (reachOf en gs 0) 400).toNat else harmOf ps a (min (reachOf en gs 0) 400).toNat)
  else harmOf ps a (min (max 0 (reachOf en gs 0 - ab)) 400).toNat
theorem placeHarm_of {gs : List Grade} {ps : List Int} {bs : List Bool} {a n : Nat} {layer en : Int} (h1 : layer ≤ n) : placeHarm gs ps bs a ((n : Int) - layer).toNat en = harmsOf n gs ps bs layer en a := by
  unfold placeHarm harmsOf
  by_cases h : layer < n
  · rw [if_neg (by omega), if_pos h, Int.toNat_of_nonneg (by omega)]
  · rw [if_pos (by omega), if_neg h]
set_option maxRecDepth 100000 in
set_option maxHeartbeats 1000000 in
theorem place_harms_any (Ag : Option Addr) (cg : Nat) (gs : List Grade) (A A' : Option Addr) (c c' : Nat) (ps : List Int) (bs : List Bool) (a ab : Nat) (en : Int) (w : World) (hg : Rd none w 2 encGrade Ag gs.length gs) (h : Rd none w 1 encI A ps.length ps) (hb : Rd none w 1 encB A' bs.length bs)
    (hgk : GradesChk gs 0) (hok : LandOk ps bs.length) (hc : ps.length ≤ c) (ha : a < ps.length) (hab : ab ≤ 32) :
    Calls Tryd.prog 103 #[.agg #[.slice A ps.length c, .slice A' bs.length c', .int .i64 a, groundFn bs a], .slice Ag gs.length cg, .int .i64 ab, .int .i64 en] w fun e w' => e = .returned (.int .i64 (placeHarm gs ps bs a ab en)) ∧ Kp w.heap.size none w w' := by
  have hgl := (grades_len hgk).2
  obtain ⟨R, hR⟩ : ∃ R, R = reachOf en gs 0 := ⟨_, rfl⟩
  have hRb : 0 ≤ R ∧ R ≤ 400 := hR ▸ reach_bd en hgk
  have hpl : placeHarm gs ps bs a ab en = if ab = 0 then (if bs[a]? = some true then waveOf ps bs a (min R 400).toNat else harmOf ps a (min R 400).toNat) else harmOf ps a (min (max 0 (R - ab)) 400).toNat := by unfold placeHarm; rw [hR]
  obtain ⟨V, hV⟩ : ∃ V, V = placeHarm gs ps bs a ab en := ⟨_, rfl⟩
  rw [← hV]
  rw [hpl] at hV
  clear hpl
  have hal : a < bs.length := by rw [hok.m]; exact ha
  unfold groundFn
  obtain ⟨F, hF⟩ : ∃ F, F = (if bs[a]? = some true then 82 else 81) := ⟨_, rfl⟩
  rw [← hF]
  rw [List.getElem?_eq_getElem hal] at hF hV
  generalize bs[a] = q at hF hV
  have K0 := (Kp.refl w.heap.size none w).alloc (Nat.le_refl _) (.cells #[.slice A ps.length c, .slice A' bs.length c', .int .i64 a, .func (.func F) #[] #[]] 134)
  have B0 := Blk.new w 134 #[.slice A ps.length c, .slice A' bs.length c', .int .i64 a, .func (.func F) #[] #[]]
  have hg0 := hg.kpN K0
  replace hR := Lib.hid hR
  replace hok := Lib.hid hok
  replace hgk := Lib.hid hgk
  replace hF := Lib.hid hF
  replace hV := Lib.hid hV
  go_enter Tryd.func103, Tryd.ntmps103
  go_wp2_with fail
  refine (blast_reach_any Ag cg gs en _ hg0 hgl).mono ?_
  rintro e w1 ⟨rfl, k1⟩
  rw [← hR.out]
  have K1 := K0.thenN k1 (Nat.le_refl _)
  have B1 := B0.kpN k1
  have h1 := h.kpN K1
  have hb1 := hb.kpN K1
  clear k1 B0 K0 hg0 hg h hb
  have cB := fun i => B1.cell i
  by_cases h0 : ab = 0
  · subst h0
    cases q
    · obtain rfl : F = 81 := hF.out
      obtain rfl : V = harmOf ps a (min R 400).toNat := hV.out
      go_wp2_with fail
      refine (blast_harm_any A A' c bs.length c' ps a R _ h1 hok.out.l4 hc hok.out.p ha hRb.1).mono ?_
      rintro e w2 ⟨rfl, k2⟩
      have K2 := K1.thenN k2 (Nat.le_refl _)
      go_wp2
      exact bodyPost_ret (v := .int .i64 (harmOf ps a (min R 400).toNat)) (by simp [results, Tryd.results103, go_sem]) rfl ⟨rfl, K2⟩
    · obtain rfl : F = 82 := hF.out
      obtain rfl : V = waveOf ps bs a (min R 400).toNat := hV.out
      go_wp2_with fail
      refine (blast_wave_any A A' c c' ps bs a R _ h1 hb1 hok.out hc ha hRb.1).mono ?_
      rintro e w2 ⟨rfl, k2⟩
      have K2 := K1.thenN k2 (Nat.le_refl _)
      go_wp2
      exact bodyPost_ret (v := .int .i64 (waveOf ps bs a (min R 400).toNat)) (by simp [results, Tryd.results103, go_sem]) rfl ⟨rfl, K2⟩
  · have h0' : ¬ (ab : Int) = 0 := by omega
    have hab' : (ab : Int) ≤ 32 := by omega
    obtain rfl : V = harmOf ps a (min (max 0 (R - ab)) 400).toNat := by rw [hV.out, if_neg h0]
    clear h0
    go_wp2_with fail
    refine (blast_harm_any A A' c bs.length c' ps a (max 0 (R - ab)) _ h1 hok.out.l4 hc hok.out.p ha (by omega)).mono ?_
    rintro e w2 ⟨rfl, k2⟩
    have K2 := K1.thenN k2 (Nat.le_refl _)
    go_wp2
    exact bodyPost_ret (v := .int .i64 (harmOf ps a (min (max 0 (R - ab)) 400).toNat)) (by simp [results, Tryd.results103, go_sem]) rfl ⟨rfl, K2⟩
/-- What Harms answers: the harm, and which error there is. -/
def HarmsIs (ls : List Layer) (gs : List Grade) (ps : List Int) (bs : List Bool) (layer en a v n : Int) : Prop :=
  (n ≠ 0 ∧ v = 0 ∧ AirChk ls n) ∨ (AirChk ls 0 ∧ n ≠ 0 ∧ v = 0 ∧ GroundChk gs ps bs.length n) ∨
  (AirChk ls 0 ∧ GroundChk gs ps bs.length 0 ∧ ((¬ (0 ≤ layer ∧ layer ≤ ls.length) ∧ v = 0 ∧ n = 2) ∨ ((0 ≤ layer ∧ layer ≤ ls.length) ∧ ((¬ (0 ≤ a ∧ a < ps.length) ∧ v = 0 ∧ n = 7) ∨ ((0 ≤ a ∧ a < ps.length) ∧ v = harmsOf ls.length gs ps bs layer en a.toNat ∧ n = 0)))))
theorem harmsIs_one {ls : List Layer} {gs : List Grade} {ps : List Int} {bs : List Bool} {layer en a v n v' n' : Int} (h : HarmsIs ls gs ps bs layer en a v n) (k : HarmsIs ls gs ps bs layer en a v' n') : v = v' ∧ n = n' := by
  rcases h with ⟨h0, rfl, h⟩ | ⟨h1, h0, rfl, h⟩ | ⟨h1, h2, h⟩ <;> rcases k with ⟨k0, rfl, k⟩ | ⟨k1, k0, rfl, k⟩ | ⟨k1, k2, k⟩
  · exact ⟨rfl, airChk_one h k⟩
  · exact absurd (airChk_one h k1) h0
  · exact absurd (airChk_one h k1) h0
  · exact absurd (airChk_one k h1) k0
  · exact ⟨rfl, groundChk_one h k⟩
  · exact absurd (groundChk_one h k2) h0
  · exact absurd (airChk_one k h1) k0
  · exact absurd (groundChk_one k h2) k0
  · rcases h with ⟨h3, rfl, rfl⟩ | ⟨h3, ⟨h4, rfl, rfl⟩ | ⟨h4, rfl, rfl⟩⟩ <;> rcases k with ⟨k3, rfl, rfl⟩ | ⟨k3, ⟨k4, rfl, rfl⟩ | ⟨k4, rfl, rfl⟩⟩ <;> first | exact ⟨rfl, rfl⟩ | contradiction
theorem air_len {ls : List Layer} (h : AirChk ls 0) : AirOk ls := by
  rcases h with ⟨_, h⟩ | ⟨h, _⟩ | ⟨h, _⟩
  · exact h
  · omega
  · omega
set_option maxRecDepth 100000 in
set_option maxHeartbeats 1000000 in
theorem blast_Harms_any (Aa : Option Addr) (ca : Nat) (ls : List Layer) (Ag : Option Addr) (cg : Nat) (gs : List Grade) (A A' : Option Addr) (c c' : Nat) (ps : List Int) (bs : List Bool) (layer en a : Int) (w : World)
    (hl : Rd none w 2 encLayer Aa ls.length ls) (hg : Rd none w 2 encGrade Ag gs.length gs) (h : Rd none w 1 encI A ps.length ps) (hb : Rd none w 1 encB A' bs.length bs) (hc : ps.length ≤ c) :
    Calls Tryd.prog 59 #[.slice Aa ls.length ca, .slice Ag gs.length cg, .agg #[.slice A ps.length c, .slice A' bs.length c'], .int .i64 layer, .int .i64 en, .int .i64 a] w
      fun e w' => (∃ v n, e = .returned (.tuple #[.int .i64 v, .int .i64 n]) ∧ HarmsIs ls gs ps bs layer en a v n) ∧ Kp w.heap.size none w w' := by
  have K0 := (Kp.refl w.heap.size none w).alloc (Nat.le_refl _) (.cells #[.slice A ps.length c, .slice A' bs.length c'] 54)
  have B0 := Blk.new w 54 #[.slice A ps.length c, .slice A' bs.length c']
  go_enter Tryd.func59, Tryd.ntmps59
  go_wp2_with fail
  refine (blast_CheckAir_any Aa ca ls _ (hl.kpN K0)).mono ?_
  rintro e w1 ⟨⟨n, rfl, hn⟩, k1⟩
  have K1 := K0.thenN k1 (Nat.le_refl _)
  have B1 := B0.kpN k1
  clear k1 K0 B0 hl
  by_cases hn0 : n = 0
  case neg =>
    have hx := Lib.hid (show HarmsIs ls gs ps bs layer en a 0 n from .inl ⟨hn0, rfl, hn⟩)
    clear hn hg h hb B1
    go_wp2
    exact bodyPost_ret (v := .tuple #[.int .i64 0, .int .i64 n]) (by simp [results, Tryd.results59, go_sem]) rfl ⟨⟨0, n, rfl, hx.out⟩, K1⟩
  subst hn0
  have hll := (air_len hn).1
  replace hn := Lib.hid hn
  have cB := fun i => B1.cell i
  go_wp2_with fail
  refine (blast_ground_any Ag cg gs A A' c bs.length c' ps _ (hg.kpN K1) (h.kpN K1)).mono ?_
  rintro e w2 ⟨⟨n, rfl, hgk⟩, k2⟩
  have K2 := K1.thenN k2 (Nat.le_refl _)
  replace B1 := B1.kpN k2
  clear k2 K1 cB
  have cB := fun i => B1.cell i
  by_cases hn0 : n = 0
  case neg =>
    have hx := Lib.hid (show HarmsIs ls gs ps bs layer en a 0 n from .inr (.inl ⟨hn.out, hn0, rfl, hgk⟩))
    clear hgk hg h hb B1
    go_wp2
    exact bodyPost_ret (v := .tuple #[.int .i64 0, .int .i64 n]) (by simp [results, Tryd.results59, go_sem]) rfl ⟨⟨0, n, rfl, hx.out⟩, K2⟩
  subst hn0
  replace hgk := Lib.hid hgk
  have hok := Lib.hid (ground_ok hgk.out)
  have hpl := hok.out.2.l4
  by_cases hy : 0 ≤ layer ∧ layer ≤ (ls.length : Int)
  case neg =>
    have hx := Lib.hid (show HarmsIs ls gs ps bs layer en a 0 2 from .inr (.inr ⟨hn.out, hgk.out, .inl ⟨hy, rfl, rfl⟩⟩))
    clear hg h hb B1
    by_cases hy0 : layer < 0
    · clear hy
      go_wp2
      exact bodyPost_ret (v := .tuple #[.int .i64 0, .int .i64 2]) (by simp [results, Tryd.results59, go_sem]) rfl ⟨⟨0, 2, rfl, hx.out⟩, K2⟩
    · have hy1 : (ls.length : Int) < layer := by omega
      clear hy
      go_wp2
      exact bodyPost_ret (v := .tuple #[.int .i64 0, .int .i64 2]) (by simp [results, Tryd.results59, go_sem]) rfl ⟨⟨0, 2, rfl, hx.out⟩, K2⟩
  obtain ⟨hy0, hy1⟩ := hy
  have hy2 : ¬ layer < 0 := by omega
  have hy3 : ¬ (ls.length : Int) < layer := by omega
  by_cases hz : 0 ≤ a ∧ a < (ps.length : Int)
  case neg =>
    have hx := Lib.hid (show HarmsIs ls gs ps bs layer en a 0 7 from .inr (.inr ⟨hn.out, hgk.out, .inr ⟨⟨hy0, hy1⟩, .inl ⟨hz, rfl, rfl⟩⟩⟩))
    clear hg h hb
    by_cases hz0 : a < 0
    · clear hz
      go_wp2
      exact bodyPost_ret (v := .tuple #[.int .i64 0, .int .i64 7]) (by simp [results, Tryd.results59, go_sem]) rfl ⟨⟨0, 7, rfl, hx.out⟩, K2⟩
    · have hz1 : (ps.length : Int) ≤ a := by omega
      clear hz
      go_wp2
      exact bodyPost_ret (v := .tuple #[.int .i64 0, .int .i64 7]) (by simp [results, Tryd.results59, go_sem]) rfl ⟨⟨0, 7, rfl, hx.out⟩, K2⟩
  obtain ⟨hz0, hz1⟩ := hz
  obtain ⟨a, rfl⟩ := Int.eq_ofNat_of_zero_le hz0
  have hal : a < ps.length := by omega
  have habl : a < bs.length := by rw [hok.out.2.m]; exact hal
  obtain ⟨ab, hab⟩ : ∃ ab : Nat, (ls.length : Int) - layer = ab := ⟨((ls.length : Int) - layer).toNat, by omega⟩
  have hab32 : ab ≤ 32 := by omega
  have hx : HarmsIs ls gs ps bs layer en a (placeHarm gs ps bs a ab en) 0 := .inr (.inr ⟨hn.out, hgk.out, .inr ⟨⟨hy0, hy1⟩, .inr ⟨⟨hz0, hz1⟩, by
    rw [Int.toNat_natCast, ← placeHarm_of hy1, hab, Int.toNat_natCast], rfl⟩⟩⟩)
  replace hx := Lib.hid hx
  have hg2 := hg.kpN K2
  have h2 := h.kpN K2
  have hb2 := hb.kpN K2
  clear hg h hb
  go_wp2_with fail
  refine (blast_of_any A A' c c' ps.length bs a _ hb2 habl).mono ?_
  rintro e w3 ⟨rfl, k3⟩
  have K3 := K2.thenN k3 (Nat.le_refl _)
  replace hg2 := hg2.kpN k3
  replace h2 := h2.kpN k3
  replace hb2 := hb2.kpN k3
  clear k3 cB B1 K2
  go_wp2_with fail
  refine (place_harms_any Ag cg gs A A' c c' ps bs a ab en _ hg2 h2 hb2 hok.out.1 hok.out.2 hc hal hab32).mono ?_
  rintro e w4 ⟨rfl, k4⟩
  have K4 := K3.thenN k4 (Nat.le_refl _)
  clear k4 K3 hg2 h2 hb2
  go_wp2
  exact bodyPost_ret (v := .tuple #[.int .i64 (placeHarm gs ps bs a ab en), .int .i64 0]) (by simp [results, Tryd.results59, go_sem]) rfl ⟨⟨_, 0, rfl, hx.out⟩, K4⟩
end Go.Proofs.YtdiigflbohbndaaDoor
