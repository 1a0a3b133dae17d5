/- The harm of a blow in a layer: grades and a land, a place, the harm there. The toll of a stretch: the walk. Toll and Worst. -/
import Derived.Test.YtdiigflbohbndaaDoorWave
import Derived.Test.YtdiigflbohbndaaDoorTollAll
import Derived.Laws.EntriesVeiled
import Derived.Test.YtdiigflbohbndaaDoorBlow3
namespace Go.Proofs.YtdiigflbohbndaaDoor
open Go.RowKit

def GroundChk (gs : List Grade) (ps : List Int) (m : Nat) (n : Int) : Prop := (n ≠ 0 ∧ GradesChk gs n) ∨ (GradesChk gs 0 ∧ LandChk ps m n)
theorem groundChk_one {gs : List Grade} {ps : List Int} {m : Nat} {n k : Int} (h : GroundChk gs ps m n) (g : GroundChk gs ps m k) : n = k := by
  rcases h with ⟨h0, h⟩ | ⟨h0, h⟩ <;> rcases g with ⟨g0, g⟩ | ⟨g0, g⟩
  · exact gradesChk_one h g
  · exact absurd (gradesChk_one h g0) h0
  · exact absurd (gradesChk_one g h0) g0
  · exact landChk_one h g
theorem landOk_chk {ps : List Int} {m : Nat} (h : LandChk ps m 0) : LandOk ps m := by
  rcases h with ⟨h1, h2⟩ | ⟨h1, h2⟩ | ⟨h1, h2⟩ | ⟨h1, h2, ⟨h3, h4⟩ | ⟨h3, h5, h4⟩⟩
  · exact h2
  · omega
  · omega
  · omega
  · omega
theorem ground_ok {gs : List Grade} {ps : List Int} {m : Nat} (h : GroundChk gs ps m 0) : GradesChk gs 0 ∧ LandOk ps m := by
  rcases h with ⟨h0, h⟩ | ⟨h0, h⟩
  · exact absurd rfl h0
  · exact ⟨h0, landOk_chk h⟩
theorem grades_len {gs : List Grade} (h : GradesChk gs 0) : 1 ≤ gs.length ∧ gs.length ≤ 32 := by
  rcases h with ⟨h1, h2⟩ | ⟨h1, h2⟩ | ⟨h1, h2, h3⟩
  · omega
  · omega
  · exact ⟨h1, h2⟩
theorem grade_rng {gs : List Grade} (h : GradesChk gs 0) : ∀ x ∈ gs, 0 ≤ x.reach ∧ x.reach ≤ 400 := by
  rcases h with ⟨h1, h2⟩ | ⟨h1, h2⟩ | ⟨h1, h2, ⟨_, h⟩ | ⟨i, hi, h, _⟩⟩
  · omega
  · omega
  · intro x hx
    obtain ⟨i, hi, rfl⟩ := List.getElem_of_mem hx
    have h3 := h i hi
    unfold gradeErr at h3
    split at h3
    · cases h3
    · rename_i h4
      have h5 := Classical.not_not.1 h4
      exact (btw_true _ _ _).1 h5.2
  · exfalso
    have h5 : gradeErr gs i hi ≠ some 0 := by
      unfold gradeErr
      split
      · intro k; injection k with k; omega
      · generalize (if h : 0 < i then gs[i - 1].energy else -1) = x1
        generalize (if h : 0 < i then gs[i - 1].reach else 0) = x2
        by_cases hx : gs[i].energy ≤ x1 ∨ gs[i].reach < x2
        · rw [if_pos hx]; intro k; injection k with k; omega
        · rw [if_neg hx]; intro k; cases k
    exact h5 h
theorem reach_rng (en : Int) : ∀ (gs : List Grade) (far : Int), (∀ x ∈ gs, 0 ≤ x.reach ∧ x.reach ≤ 400) → 0 ≤ far ∧ far ≤ 400 → 0 ≤ reachOf en gs far ∧ reachOf en gs far ≤ 400
  | [], far, _, h => h
  | g :: gs, far, hg, h => by
    rw [reach_cons]
    split
    · exact h
    · exact reach_rng en gs g.reach (fun x hx => hg x (List.mem_cons_of_mem _ hx)) (hg g List.mem_cons_self)
theorem reach_bd (en : Int) {gs : List Grade} (h : GradesChk gs 0) : 0 ≤ reachOf en gs 0 ∧ reachOf en gs 0 ≤ 400 := reach_rng en gs 0 (grade_rng h) ⟨by omega, by omega⟩
set_option maxRecDepth 100000 in
set_option maxHeartbeats 1000000 in
theorem blast_ground_any (Ag : Option Addr) (cg : Nat) (gs : List Grade) (A A' : Option Addr) (c m c' : Nat) (ps : List Int) (w : World) (hg : Rd none w 2 encGrade Ag gs.length gs) (h : Rd none w 1 encI A ps.length ps) :
    Calls Tryd.prog 101 #[.slice Ag gs.length cg, .agg #[.slice A ps.length c, .slice A' m c']] w fun e w' => (∃ n, e = .returned (.int .i64 n) ∧ GroundChk gs ps m n) ∧ Kp w.heap.size none w w' := by
  have K0 := (Kp.refl w.heap.size none w).alloc (Nat.le_refl _) (.cells #[.slice A ps.length c, .slice A' m c'] 54)
  have B0 := Blk.new w 54 #[.slice A ps.length c, .slice A' m c']
  go_enter Tryd.func101, Tryd.ntmps101
  go_wp2_with fail
  refine (blast_CheckGrades_any Ag cg gs _ (hg.kpN K0)).mono ?_
  rintro e w1 ⟨⟨n, rfl, hn⟩, k1⟩
  have K1 := K0.thenN k1 (Nat.le_refl _)
  have B1 := B0.kpN k1
  have cB := fun i => B1.cell i
  clear k1 B0 K0 hg
  by_cases hn0 : n = 0
  · subst hn0
    replace hn := Lib.hid hn
    go_wp2_with fail
    refine (blast_CheckLand_any A A' c m c' ps _ (h.kpN K1)).mono ?_
    rintro e w2 ⟨⟨n, rfl, hl⟩, k2⟩
    have K2 := K1.thenN k2 (Nat.le_refl _)
    replace hl := Lib.hid hl
    clear k2 h B1 cB K1
    go_wp2
    exact bodyPost_ret (by simp [results, Tryd.results101, go_sem]) rfl ⟨⟨n, rfl, .inr ⟨hn.out, hl.out⟩⟩, K2⟩
  · have hx := Lib.hid (show GroundChk gs ps m n from .inl ⟨hn0, hn⟩)
    clear hn h
    go_wp2
    exact bodyPost_ret (by simp [results, Tryd.results101, go_sem]) rfl ⟨⟨n, rfl, hx.out⟩, K1⟩
/-- The function that a place has for the ground. -/
def groundFn (bs : List Bool) (a : Nat) : Value := .func (.func (if bs[a]? = some true then 82 else 81)) #[] #[]
set_option maxRecDepth 100000 in
set_option maxHeartbeats 1000000 in
theorem blast_of_any (A A' : Option Addr) (c c' n : Nat) (bs : List Bool) (a : Nat) (w : World) (hb : Rd none w 1 encB A' bs.length bs) (ha : a < bs.length) :
    Calls Tryd.prog 102 #[.agg #[.slice A n c, .slice A' bs.length c'], .int .i64 a] w fun e w' => e = .returned (.agg #[.slice A n c, .slice A' bs.length c', .int .i64 a, groundFn bs a]) ∧ Kp w.heap.size none w w' := by
  have K0 := (Kp.refl w.heap.size none w).alloc (Nat.le_refl _) (.cells #[.slice A n c, .slice A' bs.length c'] 54)
  have B0 := Blk.new w 54 #[.slice A n c, .slice A' bs.length c']
  have hb0 := hb.kpN K0
  obtain ⟨b, o, rfl, hlt, -, hcl⟩ := hb0.at_ (by omega)
  have c0 : (w.alloc (.cells #[.slice A n c, .slice (some ⟨b, o, none⟩) bs.length c'] 54)).cell? ⟨b, o + a, none⟩ = some (.bool bs[a]) := Rd.cell1 (fun _ => rfl) hcl a ha
  have hq : bs[a]? = some bs[a] := List.getElem?_eq_getElem ha
  have hai : (a : Int) < (bs.length : Int) := by omega
  generalize hw0 : w.alloc (.cells #[.slice A n c, .slice (some ⟨b, o, none⟩) bs.length c'] 54) = w0 at K0 B0 c0 hlt
  have K1 := K0.alloc K0.size (.cells #[.slice none 0 0, .slice none 0 0, .int .i64 0, .nilFunc] 134)
  have P1 := Blk.new w0 134 #[.slice none 0 0, .slice none 0 0, .int .i64 0, .nilFunc]
  have B1 := B0.alloc (.cells #[.slice none 0 0, .slice none 0 0, .int .i64 0, .nilFunc] 134)
  have c1 := (World.cell?_alloc_lt w0 (.cells #[.slice none 0 0, .slice none 0 0, .int .i64 0, .nilFunc] 134) ⟨b, o + a, none⟩ hlt).trans c0
  generalize bs[a] = q at c0 c1 hq
  have hfn : groundFn bs a = .func (.func (if q = true then 82 else 81)) #[] #[] := by unfold groundFn; rw [hq]; cases q <;> rfl
  rw [hfn]
  clear hb hb0 hcl hfn hq
  have cB := fun i => B1.cell i
  have cP := fun i => P1.cell i
  have P2 := P1.alloc (.cells #[.slice A n c, .slice (some ⟨b, o, none⟩) bs.length c', .int .i64 a, .func (.func 81) #[] #[]] 134)
  have B2 := B1.alloc (.cells #[.slice A n c, .slice (some ⟨b, o, none⟩) bs.length c', .int .i64 a, .func (.func 81) #[] #[]] 134)
  have R2 := Blk.newAt (w0.alloc (.cells #[.slice none 0 0, .slice none 0 0, .int .i64 0, .nilFunc] 134)) 134 #[.slice A n c, .slice (some ⟨b, o, none⟩) bs.length c', .int .i64 a, .func (.func 81) #[] #[]] (n := w0.heap.size + 1) (by simp)
  have c2 := (World.cell?_alloc_lt (w0.alloc (.cells #[.slice none 0 0, .slice none 0 0, .int .i64 0, .nilFunc] 134)) (.cells #[.slice A n c, .slice (some ⟨b, o, none⟩) bs.length c', .int .i64 a, .func (.func 81) #[] #[]] 134) ⟨b, o + a, none⟩ (by simp; omega)).trans c1
  have K2 := K1.alloc K1.size (.cells #[.slice A n c, .slice (some ⟨b, o, none⟩) bs.length c', .int .i64 a, .func (.func 81) #[] #[]] 134)
  have hk0 := K0.size
  have c3 := fun i => P2.cell i
  have c4 := fun i => B2.cell i
  have c5 := fun i => R2.cell i
  have f3 := fun i => P2.frozen i
  have f5 := fun i => R2.frozen i
  go_enter Tryd.func102, Tryd.ntmps102
  cases q
  · go_wp2
    have c9 := fun i => ((Blk.new w0 134 #[.slice A n c, .slice (some ⟨b, o, none⟩) bs.length c', .int .i64 a, .func (.func 81) #[] #[]]).alloc (.cells #[.slice A n c, .slice (some ⟨b, o, none⟩) bs.length c', .int .i64 a, .func (.func 81) #[] #[]] 134)).cell i
    have K9 := (K0.alloc K0.size (.cells #[.slice A n c, .slice (some ⟨b, o, none⟩) bs.length c', .int .i64 a, .func (.func 81) #[] #[]] 134)).alloc (alloc_ge K0.size _) (.cells #[.slice A n c, .slice (some ⟨b, o, none⟩) bs.length c', .int .i64 a, .func (.func 81) #[] #[]] 134)
    exact bodyPost_ret (v := .agg #[.slice A n c, .slice (some ⟨b, o, none⟩) bs.length c', .int .i64 a, .func (.func 81) #[] #[]]) (by simp [results, Tryd.results102, go_sem, c9]) rfl ⟨rfl, K9⟩
  · go_wp2
    have c9 := fun i => ((Blk.new w0 134 #[.slice A n c, .slice (some ⟨b, o, none⟩) bs.length c', .int .i64 a, .func (.func 82) #[] #[]]).alloc (.cells #[.slice A n c, .slice (some ⟨b, o, none⟩) bs.length c', .int .i64 a, .func (.func 82) #[] #[]] 134)).cell i
    have K9 := (K0.alloc K0.size (.cells #[.slice A n c, .slice (some ⟨b, o, none⟩) bs.length c', .int .i64 a, .func (.func 82) #[] #[]] 134)).alloc (alloc_ge K0.size _) (.cells #[.slice A n c, .slice (some ⟨b, o, none⟩) bs.length c', .int .i64 a, .func (.func 82) #[] #[]] 134)
    exact bodyPost_ret (v := .agg #[.slice A n c, .slice (some ⟨b, o, none⟩) bs.length c', .int .i64 a, .func (.func 82) #[] #[]]) (by simp [results, Tryd.results102, go_sem, c9]) rfl ⟨rfl, K9⟩
/-- The harm at a place. -/
def placeHarm (gs : List Grade) (ps : List Int) (bs : List Bool) (a ab : Nat) (en : Int) : Int :=
  if ab = 0 then (if bs[a]? = some true then waveOf ps bs a (min (reachOf en gs 0) 400).toNat else harmOf ps a (min (reachOf en gs 0) 400).toNat)
  else harmOf ps a (min (max 0 (reachOf en gs 0 - ab)) 400).toNat
theorem placeHarm_of {gs : List Grade} {ps : List Int} {bs : List Bool} {a n : Nat} {layer en : Int} (h1 : layer ≤ n) : placeHarm gs ps bs a ((n : Int) - layer).toNat en = harmsOf n gs ps bs layer en a := by
  unfold placeHarm harmsOf
  by_cases h : layer < n
  · rw [if_neg (by omega), if_pos h, Int.toNat_of_nonneg (by omega)]
  · rw [if_pos (by omega), if_neg h]
set_option maxRecDepth 100000 in
set_option maxHeartbeats 1000000 in
theorem place_harms_any (Ag : Option Addr) (cg : Nat) (gs : List Grade) (A A' : Option Addr) (c c' : Nat) (ps : List Int) (bs : List Bool) (a ab : Nat) (en : Int) (w : World) (hg : Rd none w 2 encGrade Ag gs.length gs) (h : Rd none w 1 encI A ps.length ps) (hb : Rd none w 1 encB A' bs.length bs)
    (hgk : GradesChk gs 0) (hok : LandOk ps bs.length) (hc : ps.length ≤ c) (ha : a < ps.length) (hab : ab ≤ 32) :
    Calls Tryd.prog 103 #[.agg #[.slice A ps.length c, .slice A' bs.length c', .int .i64 a, groundFn bs a], .slice Ag gs.length cg, .int .i64 ab, .int .i64 en] w fun e w' => e = .returned (.int .i64 (placeHarm gs ps bs a ab en)) ∧ Kp w.heap.size none w w' := by
  have hgl := (grades_len hgk).2
  obtain ⟨R, hR⟩ : ∃ R, R = reachOf en gs 0 := ⟨_, rfl⟩
  have hRb : 0 ≤ R ∧ R ≤ 400 := hR ▸ reach_bd en hgk
  have hpl : placeHarm gs ps bs a ab en = if ab = 0 then (if bs[a]? = some true then waveOf ps bs a (min R 400).toNat else harmOf ps a (min R 400).toNat) else harmOf ps a (min (max 0 (R - ab)) 400).toNat := by unfold placeHarm; rw [hR]
  obtain ⟨V, hV⟩ : ∃ V, V = placeHarm gs ps bs a ab en := ⟨_, rfl⟩
  rw [← hV]
  rw [hpl] at hV
  clear hpl
  have hal : a < bs.length := by rw [hok.m]; exact ha
  unfold groundFn
  obtain ⟨F, hF⟩ : ∃ F, F = (if bs[a]? = some true then 82 else 81) := ⟨_, rfl⟩
  rw [← hF]
  rw [List.getElem?_eq_getElem hal] at hF hV
  generalize bs[a] = q at hF hV
  have K0 := (Kp.refl w.heap.size none w).alloc (Nat.le_refl _) (.cells #[.slice A ps.length c, .slice A' bs.length c', .int .i64 a, .func (.func F) #[] #[]] 134)
  have B0 := Blk.new w 134 #[.slice A ps.length c, .slice A' bs.length c', .int .i64 a, .func (.func F) #[] #[]]
  have hg0 := hg.kpN K0
  replace hR := Lib.hid hR
  replace hok := Lib.hid hok
  replace hgk := Lib.hid hgk
  replace hF := Lib.hid hF
  replace hV := Lib.hid hV
  go_enter Tryd.func103, Tryd.ntmps103
  go_wp2_with fail
  refine (blast_reach_any Ag cg gs en _ hg0 hgl).mono ?_
  rintro e w1 ⟨rfl, k1⟩
  rw [← hR.out]
  have K1 := K0.thenN k1 (Nat.le_refl _)
  have B1 := B0.kpN k1
  have h1 := h.kpN K1
  have hb1 := hb.kpN K1
  clear k1 B0 K0 hg0 hg h hb
  have cB := fun i => B1.cell i
  by_cases h0 : ab = 0
  · subst h0
    cases q
    · obtain rfl : F = 81 := hF.out
      obtain rfl : V = harmOf ps a (min R 400).toNat := hV.out
      go_wp2_with fail
      refine (blast_harm_any A A' c bs.length c' ps a R _ h1 hok.out.l4 hc hok.out.p ha hRb.1).mono ?_
      rintro e w2 ⟨rfl, k2⟩
      have K2 := K1.thenN k2 (Nat.le_refl _)
      go_wp2
      exact bodyPost_ret (v := .int .i64 (harmOf ps a (min R 400).toNat)) (by simp [results, Tryd.results103, go_sem]) rfl ⟨rfl, K2⟩
    · obtain rfl : F = 82 := hF.out
      obtain rfl : V = waveOf ps bs a (min R 400).toNat := hV.out
      go_wp2_with fail
      refine (blast_wave_any A A' c c' ps bs a R _ h1 hb1 hok.out hc ha hRb.1).mono ?_
      rintro e w2 ⟨rfl, k2⟩
      have K2 := K1.thenN k2 (Nat.le_refl _)
      go_wp2
      exact bodyPost_ret (v := .int .i64 (waveOf ps bs a (min R 400).toNat)) (by simp [results, Tryd.results103, go_sem]) rfl ⟨rfl, K2⟩
  · have h0' : ¬ (ab : Int) = 0 := by omega
    have hab' : (ab : Int) ≤ 32 := by omega
    obtain rfl : V = harmOf ps a (min (max 0 (R - ab)) 400).toNat := by rw [hV.out, if_neg h0]
    clear h0
    go_wp2_with fail
    refine (blast_harm_any A A' c bs.length c' ps a (max 0 (R - ab)) _ h1 hok.out.l4 hc hok.out.p ha (by omega)).mono ?_
    rintro e w2 ⟨rfl, k2⟩
    have K2 := K1.thenN k2 (Nat.le_refl _)
    go_wp2
    exact bodyPost_ret (v := .int .i64 (harmOf ps a (min (max 0 (R - ab)) 400).toNat)) (by simp [results, Tryd.results103, go_sem]) rfl ⟨rfl, K2⟩
/-- What Harms answers: the harm, and which error there is. -/
def HarmsIs (ls : List Layer) (gs : List Grade) (ps : List Int) (bs : List Bool) (layer en a v n : Int) : Prop :=
  (n ≠ 0 ∧ v = 0 ∧ AirChk ls n) ∨ (AirChk ls 0 ∧ n ≠ 0 ∧ v = 0 ∧ GroundChk gs ps bs.length n) ∨
  (AirChk ls 0 ∧ GroundChk gs ps bs.length 0 ∧ ((¬ (0 ≤ layer ∧ layer ≤ ls.length) ∧ v = 0 ∧ n = 2) ∨ ((0 ≤ layer ∧ layer ≤ ls.length) ∧ ((¬ (0 ≤ a ∧ a < ps.length) ∧ v = 0 ∧ n = 7) ∨ ((0 ≤ a ∧ a < ps.length) ∧ v = harmsOf ls.length gs ps bs layer en a.toNat ∧ n = 0)))))
theorem harmsIs_one {ls : List Layer} {gs : List Grade} {ps : List Int} {bs : List Bool} {layer en a v n v' n' : Int} (h : HarmsIs ls gs ps bs layer en a v n) (k : HarmsIs ls gs ps bs layer en a v' n') : v = v' ∧ n = n' := by
  rcases h with ⟨h0, rfl, h⟩ | ⟨h1, h0, rfl, h⟩ | ⟨h1, h2, h⟩ <;> rcases k with ⟨k0, rfl, k⟩ | ⟨k1, k0, rfl, k⟩ | ⟨k1, k2, k⟩
  · exact ⟨rfl, airChk_one h k⟩
  · exact absurd (airChk_one h k1) h0
  · exact absurd (airChk_one h k1) h0
  · exact absurd (airChk_one k h1) k0
  · exact ⟨rfl, groundChk_one h k⟩
  · exact absurd (groundChk_one h k2) h0
  · exact absurd (airChk_one k h1) k0
  · exact absurd (groundChk_one k h2) k0
  · rcases h with ⟨h3, rfl, rfl⟩ | ⟨h3, ⟨h4, rfl, rfl⟩ | ⟨h4, rfl, rfl⟩⟩ <;> rcases k with ⟨k3, rfl, rfl⟩ | ⟨k3, ⟨k4, rfl, rfl⟩ | ⟨k4, rfl, rfl⟩⟩ <;> first | exact ⟨rfl, rfl⟩ | contradiction
theorem air_len {ls : List Layer} (h : AirChk ls 0) : AirOk ls := by
  rcases h with ⟨_, h⟩ | ⟨h, _⟩ | ⟨h, _⟩
  · exact h
  · omega
  · omega
set_option maxRecDepth 100000 in
set_option maxHeartbeats 1000000 in
theorem blast_Harms_any (Aa : Option Addr) (ca : Nat) (ls : List Layer) (Ag : Option Addr) (cg : Nat) (gs : List Grade) (A A' : Option Addr) (c c' : Nat) (ps : List Int) (bs : List Bool) (layer en a : Int) (w : World)
    (hl : Rd none w 2 encLayer Aa ls.length ls) (hg : Rd none w 2 encGrade Ag gs.length gs) (h : Rd none w 1 encI A ps.length ps) (hb : Rd none w 1 encB A' bs.length bs) (hc : ps.length ≤ c) :
    Calls Tryd.prog 59 #[.slice Aa ls.length ca, .slice Ag gs.length cg, .agg #[.slice A ps.length c, .slice A' bs.length c'], .int .i64 layer, .int .i64 en, .int .i64 a] w
      fun e w' => (∃ v n, e = .returned (.tuple #[.int .i64 v, .int .i64 n]) ∧ HarmsIs ls gs ps bs layer en a v n) ∧ Kp w.heap.size none w w' := by
  have K0 := (Kp.refl w.heap.size none w).alloc (Nat.le_refl _) (.cells #[.slice A ps.length c, .slice A' bs.length c'] 54)
  have B0 := Blk.new w 54 #[.slice A ps.length c, .slice A' bs.length c']
  go_enter Tryd.func59, Tryd.ntmps59
  go_wp2_with fail
  refine (blast_CheckAir_any Aa ca ls _ (hl.kpN K0)).mono ?_
  rintro e w1 ⟨⟨n, rfl, hn⟩, k1⟩
  have K1 := K0.thenN k1 (Nat.le_refl _)
  have B1 := B0.kpN k1
  clear k1 K0 B0 hl
  by_cases hn0 : n = 0
  case neg =>
    have hx := Lib.hid (show HarmsIs ls gs ps bs layer en a 0 n from .inl ⟨hn0, rfl, hn⟩)
    clear hn hg h hb B1
    go_wp2
    exact bodyPost_ret (v := .tuple #[.int .i64 0, .int .i64 n]) (by simp [results, Tryd.results59, go_sem]) rfl ⟨⟨0, n, rfl, hx.out⟩, K1⟩
  subst hn0
  have hll := (air_len hn).1
  replace hn := Lib.hid hn
  have cB := fun i => B1.cell i
  go_wp2_with fail
  refine (blast_ground_any Ag cg gs A A' c bs.length c' ps _ (hg.kpN K1) (h.kpN K1)).mono ?_
  rintro e w2 ⟨⟨n, rfl, hgk⟩, k2⟩
  have K2 := K1.thenN k2 (Nat.le_refl _)
  replace B1 := B1.kpN k2
  clear k2 K1 cB
  have cB := fun i => B1.cell i
  by_cases hn0 : n = 0
  case neg =>
    have hx := Lib.hid (show HarmsIs ls gs ps bs layer en a 0 n from .inr (.inl ⟨hn.out, hn0, rfl, hgk⟩))
    clear hgk hg h hb B1
    go_wp2
    exact bodyPost_ret (v := .tuple #[.int .i64 0, .int .i64 n]) (by simp [results, Tryd.results59, go_sem]) rfl ⟨⟨0, n, rfl, hx.out⟩, K2⟩
  subst hn0
  replace hgk := Lib.hid hgk
  have hok := Lib.hid (ground_ok hgk.out)
  have hpl := hok.out.2.l4
  by_cases hy : 0 ≤ layer ∧ layer ≤ (ls.length : Int)
  case neg =>
    have hx := Lib.hid (show HarmsIs ls gs ps bs layer en a 0 2 from .inr (.inr ⟨hn.out, hgk.out, .inl ⟨hy, rfl, rfl⟩⟩))
    clear hg h hb B1
    by_cases hy0 : layer < 0
    · clear hy
      go_wp2
      exact bodyPost_ret (v := .tuple #[.int .i64 0, .int .i64 2]) (by simp [results, Tryd.results59, go_sem]) rfl ⟨⟨0, 2, rfl, hx.out⟩, K2⟩
    · have hy1 : (ls.length : Int) < layer := by omega
      clear hy
      go_wp2
      exact bodyPost_ret (v := .tuple #[.int .i64 0, .int .i64 2]) (by simp [results, Tryd.results59, go_sem]) rfl ⟨⟨0, 2, rfl, hx.out⟩, K2⟩
  obtain ⟨hy0, hy1⟩ := hy
  have hy2 : ¬ layer < 0 := by omega
  have hy3 : ¬ (ls.length : Int) < layer := by omega
  by_cases hz : 0 ≤ a ∧ a < (ps.length : Int)
  case neg =>
    have hx := Lib.hid (show HarmsIs ls gs ps bs layer en a 0 7 from .inr (.inr ⟨hn.out, hgk.out, .inr ⟨⟨hy0, hy1⟩, .inl ⟨hz, rfl, rfl⟩⟩⟩))
    clear hg h hb
    by_cases hz0 : a < 0
    · clear hz
      go_wp2
      exact bodyPost_ret (v := .tuple #[.int .i64 0, .int .i64 7]) (by simp [results, Tryd.results59, go_sem]) rfl ⟨⟨0, 7, rfl, hx.out⟩, K2⟩
    · have hz1 : (ps.length : Int) ≤ a := by omega
      clear hz
      go_wp2
      exact bodyPost_ret (v := .tuple #[.int .i64 0, .int .i64 7]) (by simp [results, Tryd.results59, go_sem]) rfl ⟨⟨0, 7, rfl, hx.out⟩, K2⟩
  obtain ⟨hz0, hz1⟩ := hz
  obtain ⟨a, rfl⟩ := Int.eq_ofNat_of_zero_le hz0
  have hal : a < ps.length := by omega
  have habl : a < bs.length := by rw [hok.out.2.m]; exact hal
  obtain ⟨ab, hab⟩ : ∃ ab : Nat, (ls.length : Int) - layer = ab := ⟨((ls.length : Int) - layer).toNat, by omega⟩
  have hab32 : ab ≤ 32 := by omega
  have hx : HarmsIs ls gs ps bs layer en a (placeHarm gs ps bs a ab en) 0 := .inr (.inr ⟨hn.out, hgk.out, .inr ⟨⟨hy0, hy1⟩, .inr ⟨⟨hz0, hz1⟩, by
    rw [Int.toNat_natCast, ← placeHarm_of hy1, hab, Int.toNat_natCast], rfl⟩⟩⟩)
  replace hx := Lib.hid hx
  have hg2 := hg.kpN K2
  have h2 := h.kpN K2
  have hb2 := hb.kpN K2
  clear hg h hb
  go_wp2_with fail
  refine (blast_of_any A A' c c' ps.length bs a _ hb2 habl).mono ?_
  rintro e w3 ⟨rfl, k3⟩
  have K3 := K2.thenN k3 (Nat.le_refl _)
  replace hg2 := hg2.kpN k3
  replace h2 := h2.kpN k3
  replace hb2 := hb2.kpN k3
  clear k3 cB B1 K2
  go_wp2_with fail
  refine (place_harms_any Ag cg gs A A' c c' ps bs a ab en _ hg2 h2 hb2 hok.out.1 hok.out.2 hc hal hab32).mono ?_
  rintro e w4 ⟨rfl, k4⟩
  have K4 := K3.thenN k4 (Nat.le_refl _)
  clear k4 K3 hg2 h2 hb2
  go_wp2
  exact bodyPost_ret (v := .tuple #[.int .i64 (placeHarm gs ps bs a ab en), .int .i64 0]) (by simp [results, Tryd.results59, go_sem]) rfl ⟨⟨_, 0, rfl, hx.out⟩, K4⟩
end Go.Proofs.YtdiigflbohbndaaDoor
namespace Go.Proofs.YtdiigflbohbndaaDoor
open Go.RowKit

/-- What a toll answers: the span, the first worst cell, and which error there is. -/
def TollIs (ls : List Layer) (gs : List Grade) (ps : List Int) (bs : List Bool) (r : Rock) (f : Fall) (fr fi lo hi wo n : Int) : Prop :=
  (n ≠ 0 ∧ (lo = 0 ∧ hi = 0 ∧ wo = 0) ∧ BlowsChk ls r f [] n) ∨
  (BlowsChk ls r f (blowsOf ls r f) 0 ∧ n ≠ 0 ∧ (lo = 0 ∧ hi = 0 ∧ wo = 0) ∧ GroundChk gs ps bs.length n) ∨
  (BlowsChk ls r f (blowsOf ls r f) 0 ∧ GroundChk gs ps bs.length 0 ∧
    ((¬ (0 ≤ fr ∧ fr < ps.length ∧ 0 ≤ fi ∧ fi < ps.length) ∧ (lo = 0 ∧ hi = 0 ∧ wo = 0) ∧ n = 7) ∨
     ((0 ≤ fr ∧ fr < ps.length ∧ 0 ≤ fi ∧ fi < ps.length) ∧ ((fi < fr ∧ (lo = 0 ∧ hi = 0 ∧ wo = 0) ∧ n = 11) ∨
       (fr ≤ fi ∧ (lo = (tollOf (harmsOf ls.length gs ps bs) (blowsOf ls r f) fr.toNat fi.toNat).lo ∧ hi = (tollOf (harmsOf ls.length gs ps bs) (blowsOf ls r f) fr.toNat fi.toNat).hi ∧ wo = (tollOf (harmsOf ls.length gs ps bs) (blowsOf ls r f) fr.toNat fi.toNat).wo) ∧ n = 0)))))
theorem blows_zero {ls : List Layer} {r : Rock} {f : Fall} {bl : List Blow} (h : BlowsChk ls r f bl 0) : AirOk ls ∧ RockAll r f ∧ bl = blowsOf ls r f := by
  rcases h with ⟨h1, h2, _, h3⟩ | ⟨h0, _⟩
  · exact ⟨h1, h2, h3⟩
  · exact absurd rfl h0
theorem blows_err {ls : List Layer} {r : Rock} {f : Fall} {bl : List Blow} {n : Int} (hn : n ≠ 0) (h : BlowsChk ls r f bl n) : bl = [] := by
  rcases h with ⟨_, _, h0, _⟩ | ⟨_, h1, _⟩
  · exact absurd h0 hn
  · exact h1
section
variable {α : Type} {row : Option Nat} {w : World} {sz n : Nat} {enc : α → List Value} {A : Option Addr} {xs : List α}
/-- A box that is new is none of those that are read. -/
theorem Rd.under (h : Rd row w sz enc A n xs) (o : Obj) : Rd (some w.heap.size) (w.alloc o) sz enc A n xs := by
  refine ⟨h.1, fun hn => ?_⟩
  obtain ⟨b, o', e, hb, hr, hc⟩ := (h.alloc o).2 hn
  obtain ⟨b2, o2, e2, hb2, _, _⟩ := h.2 hn
  rw [e] at e2
  injection e2 with e2
  injection e2 with e3 e4
  subst e3
  exact ⟨b, o', e, hb, sne (by omega), hc⟩
end
def TolR (H : Int → Int → Nat → Int) (bl : List Blow) (fr fi bt : Nat) (w0 : World) (v22 v23 : Value) (wr : World) : Prop :=
  ∃ (a : Nat) (s : TS), v23 = .int .i64 a ∧ fr ≤ a ∧ a ≤ fi + 1 ∧ v22 = .int .i64 s.wo ∧ tollOf H bl fr fi = tRun H bl (fi + 1 - a) a s ∧ Blk wr bt 26 #[.int .i64 s.lo, .int .i64 s.hi] ∧ Kp w0.heap.size (some bt) w0 wr
def TolI (H : Int → Int → Nat → Int) (bl : List Blow) (fr fi bt a : Nat) (w1 : World) (v22 v87 : Value) (wr : World) : Prop :=
  ∃ (j : Nat) (s : TS), v87 = .int .i64 j ∧ j ≤ bl.length ∧ v22 = .int .i64 s.wo ∧ tollOf H bl fr fi = tRun H bl (fi + 1 - (a + 1)) (a + 1) (tCell H a (bl.drop j) s) ∧ Blk wr bt 26 #[.int .i64 s.lo, .int .i64 s.hi] ∧ Kp w1.heap.size (some bt) w1 wr
set_option maxRecDepth 100000 in
set_option maxHeartbeats 4000000 in
theorem blast_stretch_any (Aa : Option Addr) (ca : Nat) (ls : List Layer) (Ag : Option Addr) (cg : Nat) (gs : List Grade) (A A' : Option Addr) (c c' : Nat) (ps : List Int) (bs : List Bool) (r : Rock) (f : Fall) (fr fi : Int) (w : World)
    (hl : Rd none w 2 encLayer Aa ls.length ls) (hg : Rd none w 2 encGrade Ag gs.length gs) (h : Rd none w 1 encI A ps.length ps) (hb : Rd none w 1 encB A' bs.length bs) (hc : ps.length ≤ c) (hbnd : Bnd w) :
    Calls Tryd.prog 107 #[.slice Aa ls.length ca, .slice Ag gs.length cg, .agg #[.slice A ps.length c, .slice A' bs.length c'], .agg #[.int .i64 r.size.lo, .int .i64 r.size.hi, .int .i64 r.dens.lo, .int .i64 r.dens.hi, .int .i64 r.strong.lo, .int .i64 r.strong.hi, .int .i64 r.spin.lo, .int .i64 r.spin.hi, .int .i64 r.shape.lo, .int .i64 r.shape.hi, .bool r.pile], .agg #[.int .i64 f.speed.lo, .int .i64 f.speed.hi, .int .i64 f.slope.lo, .int .i64 f.slope.hi], .int .i64 fr, .int .i64 fi] w
      fun e w' => (∃ lo hi wo n, e = .returned (.tuple #[.agg #[.int .i64 lo, .int .i64 hi], .int .i64 wo, .int .i64 n]) ∧ TollIs ls gs ps bs r f fr fi lo hi wo n) ∧ Kp w.heap.size none w w' := by
  obtain ⟨N, hN⟩ : ∃ N, N = w.heap.size := ⟨_, rfl⟩
  have K0 := ((((Kp.refl w.heap.size none w).alloc (Nat.le_refl _) (.cells #[.slice A ps.length c, .slice A' bs.length c'] 54)).alloc (by simp) (.cells #[.int .i64 r.size.lo, .int .i64 r.size.hi, .int .i64 r.dens.lo, .int .i64 r.dens.hi, .int .i64 r.strong.lo, .int .i64 r.strong.hi, .int .i64 r.spin.lo, .int .i64 r.spin.hi, .int .i64 r.shape.lo, .int .i64 r.shape.hi, .bool r.pile] 28)).alloc (by simp; omega) (.cells #[.int .i64 f.speed.lo, .int .i64 f.speed.hi, .int .i64 f.slope.lo, .int .i64 f.slope.hi] 30)).alloc (by simp; omega) (.cells #[.int .i64 0, .int .i64 0] 26)
  have LB := (((Blk.newAt w 54 #[.slice A ps.length c, .slice A' bs.length c'] hN).alloc (.cells #[.int .i64 r.size.lo, .int .i64 r.size.hi, .int .i64 r.dens.lo, .int .i64 r.dens.hi, .int .i64 r.strong.lo, .int .i64 r.strong.hi, .int .i64 r.spin.lo, .int .i64 r.spin.hi, .int .i64 r.shape.lo, .int .i64 r.shape.hi, .bool r.pile] 28)).alloc (.cells #[.int .i64 f.speed.lo, .int .i64 f.speed.hi, .int .i64 f.slope.lo, .int .i64 f.slope.hi] 30)).alloc (.cells #[.int .i64 0, .int .i64 0] 26)
  have RB := ((Blk.newAt (w.alloc (.cells #[.slice A ps.length c, .slice A' bs.length c'] 54)) 28 #[.int .i64 r.size.lo, .int .i64 r.size.hi, .int .i64 r.dens.lo, .int .i64 r.dens.hi, .int .i64 r.strong.lo, .int .i64 r.strong.hi, .int .i64 r.spin.lo, .int .i64 r.spin.hi, .int .i64 r.shape.lo, .int .i64 r.shape.hi, .bool r.pile] (n := N + 1) (by simp [hN])).alloc (.cells #[.int .i64 f.speed.lo, .int .i64 f.speed.hi, .int .i64 f.slope.lo, .int .i64 f.slope.hi] 30)).alloc (.cells #[.int .i64 0, .int .i64 0] 26)
  have FB := (Blk.newAt ((w.alloc (.cells #[.slice A ps.length c, .slice A' bs.length c'] 54)).alloc (.cells #[.int .i64 r.size.lo, .int .i64 r.size.hi, .int .i64 r.dens.lo, .int .i64 r.dens.hi, .int .i64 r.strong.lo, .int .i64 r.strong.hi, .int .i64 r.spin.lo, .int .i64 r.spin.hi, .int .i64 r.shape.lo, .int .i64 r.shape.hi, .bool r.pile] 28)) 30 #[.int .i64 f.speed.lo, .int .i64 f.speed.hi, .int .i64 f.slope.lo, .int .i64 f.slope.hi] (n := N + 1 + 1) (by simp [hN])).alloc (.cells #[.int .i64 0, .int .i64 0] 26)
  have TB := Blk.newAt (((w.alloc (.cells #[.slice A ps.length c, .slice A' bs.length c'] 54)).alloc (.cells #[.int .i64 r.size.lo, .int .i64 r.size.hi, .int .i64 r.dens.lo, .int .i64 r.dens.hi, .int .i64 r.strong.lo, .int .i64 r.strong.hi, .int .i64 r.spin.lo, .int .i64 r.spin.hi, .int .i64 r.shape.lo, .int .i64 r.shape.hi, .bool r.pile] 28)).alloc (.cells #[.int .i64 f.speed.lo, .int .i64 f.speed.hi, .int .i64 f.slope.lo, .int .i64 f.slope.hi] 30)) 26 #[.int .i64 0, .int .i64 0] (n := N + 1 + 1 + 1) (by simp [hN])
  go_enter Tryd.func107, Tryd.ntmps107
  go_wp2_with fail
  rw [← hN] at K0 ⊢
  generalize (((w.alloc (.cells #[.slice A ps.length c, .slice A' bs.length c'] 54)).alloc (.cells #[.int .i64 r.size.lo, .int .i64 r.size.hi, .int .i64 r.dens.lo, .int .i64 r.dens.hi, .int .i64 r.strong.lo, .int .i64 r.strong.hi, .int .i64 r.spin.lo, .int .i64 r.spin.hi, .int .i64 r.shape.lo, .int .i64 r.shape.hi, .bool r.pile] 28)).alloc (.cells #[.int .i64 f.speed.lo, .int .i64 f.speed.hi, .int .i64 f.slope.lo, .int .i64 f.slope.hi] 30)).alloc (.cells #[.int .i64 0, .int .i64 0] 26) = w0 at *
  subst hN
  refine (blast_Blows_any Aa ca ls r f _ (hl.kpN K0) (hbnd.kpN K0)).mono ?_
  rintro e w1 ⟨⟨A9, c9, bl, n, rfl, hRb, hn⟩, k1⟩
  have K1 := K0.thenN k1 (Nat.le_refl _)
  replace LB := LB.kpN k1
  replace TB := TB.kpN k1
  clear k1 K0 RB FB hl hbnd
  have cT := fun i => TB.cell i
  have fT := fun i => TB.frozen i
  by_cases hn0 : n = 0
  case neg =>
    have hbl := blows_err hn0 hn
    have hx := Lib.hid (show TollIs ls gs ps bs r f fr fi 0 0 0 n from .inl ⟨hn0, ⟨rfl, rfl, rfl⟩, hbl ▸ hn⟩)
    clear hn hg h hb LB hbl hRb
    go_wp2
    exact bodyPost_ret (v := .tuple #[.agg #[.int .i64 0, .int .i64 0], .int .i64 0, .int .i64 n]) (by simp [results, Tryd.results107, go_sem, cT]) rfl ⟨⟨0, 0, 0, n, rfl, hx.out⟩, (K1.setNew (p := ⟨w.heap.size + 1 + 1 + 1, 0, none⟩) (show w.heap.size ≤ w.heap.size + 1 + 1 + 1 by omega) _).setNew (p := ⟨w.heap.size + 1 + 1 + 1, 1, none⟩) (show w.heap.size ≤ w.heap.size + 1 + 1 + 1 by omega) _⟩
  subst hn0
  obtain ⟨hair, hrock, hbl⟩ := blows_zero hn
  have hll := hair.1
  rw [hbl] at hn
  have hlay : ∀ x ∈ bl, 0 ≤ x.layer ∧ x.layer ≤ (ls.length : Int) := fun x hx => by
    have := blows_from (weakS r f) (strongS r f) ls 0 _ _ x (hbl ▸ hx)
    omega
  have hblen : bl.length ≤ 33 := by
    have := blowsFrom_len (weakS r f) (strongS r f) ls 0 (f.speed.lo * f.speed.lo) (f.speed.hi * f.speed.hi)
    rw [hbl]; unfold blowsOf; omega
  replace hn := Lib.hid hn
  replace hair := Lib.hid hair
  replace hrock := Lib.hid hrock
  replace hlay := Lib.hid hlay
  replace hbl := Lib.hid hbl
  have cL := fun i => LB.cell i
  go_wp2_with fail
  refine (blast_ground_any Ag cg gs A A' c bs.length c' ps _ (hg.kpN K1) (h.kpN K1)).mono ?_
  rintro e w2 ⟨⟨n, rfl, hgk⟩, k2⟩
  have K2 := K1.thenN k2 (Nat.le_refl _)
  replace LB := LB.kpN k2
  replace TB := TB.kpN k2
  replace hRb := hRb.kpN k2
  clear k2 K1 cT fT cL
  have cT := fun i => TB.cell i
  have fT := fun i => TB.frozen i
  have K1 := K2
  by_cases hn0 : n = 0
  case neg =>
    have hx := Lib.hid (show TollIs ls gs ps bs r f fr fi 0 0 0 n from .inr (.inl ⟨hn.out, hn0, ⟨rfl, rfl, rfl⟩, hgk⟩))
    clear hgk hg h hb LB hRb
    go_wp2
    exact bodyPost_ret (v := .tuple #[.agg #[.int .i64 0, .int .i64 0], .int .i64 0, .int .i64 n]) (by simp [results, Tryd.results107, go_sem, cT]) rfl ⟨⟨0, 0, 0, n, rfl, hx.out⟩, (K1.setNew (p := ⟨w.heap.size + 1 + 1 + 1, 0, none⟩) (show w.heap.size ≤ w.heap.size + 1 + 1 + 1 by omega) _).setNew (p := ⟨w.heap.size + 1 + 1 + 1, 1, none⟩) (show w.heap.size ≤ w.heap.size + 1 + 1 + 1 by omega) _⟩
  subst hn0
  replace hgk := Lib.hid hgk
  have hok := Lib.hid (ground_ok hgk.out)
  have hpl := hok.out.2.l4
  have cL := fun i => LB.cell i
  by_cases hf : 0 ≤ fr ∧ fr < (ps.length : Int) ∧ 0 ≤ fi ∧ fi < (ps.length : Int)
  case neg =>
    have hx := Lib.hid (show TollIs ls gs ps bs r f fr fi 0 0 0 7 from .inr (.inr ⟨hn.out, hgk.out, .inl ⟨hf, ⟨rfl, rfl, rfl⟩, rfl⟩⟩))
    clear hg h hb hRb
    by_cases q1 : fr < 0
    · clear hf
      go_wp2
      exact bodyPost_ret (v := .tuple #[.agg #[.int .i64 0, .int .i64 0], .int .i64 0, .int .i64 7]) (by simp [results, Tryd.results107, go_sem, cT]) rfl ⟨⟨0, 0, 0, 7, rfl, hx.out⟩, (K1.setNew (p := ⟨w.heap.size + 1 + 1 + 1, 0, none⟩) (show w.heap.size ≤ w.heap.size + 1 + 1 + 1 by omega) _).setNew (p := ⟨w.heap.size + 1 + 1 + 1, 1, none⟩) (show w.heap.size ≤ w.heap.size + 1 + 1 + 1 by omega) _⟩
    by_cases q2 : (ps.length : Int) ≤ fr
    · clear hf
      go_wp2
      exact bodyPost_ret (v := .tuple #[.agg #[.int .i64 0, .int .i64 0], .int .i64 0, .int .i64 7]) (by simp [results, Tryd.results107, go_sem, cT]) rfl ⟨⟨0, 0, 0, 7, rfl, hx.out⟩, (K1.setNew (p := ⟨w.heap.size + 1 + 1 + 1, 0, none⟩) (show w.heap.size ≤ w.heap.size + 1 + 1 + 1 by omega) _).setNew (p := ⟨w.heap.size + 1 + 1 + 1, 1, none⟩) (show w.heap.size ≤ w.heap.size + 1 + 1 + 1 by omega) _⟩
    by_cases q3 : fi < 0
    · clear hf
      go_wp2
      exact bodyPost_ret (v := .tuple #[.agg #[.int .i64 0, .int .i64 0], .int .i64 0, .int .i64 7]) (by simp [results, Tryd.results107, go_sem, cT]) rfl ⟨⟨0, 0, 0, 7, rfl, hx.out⟩, (K1.setNew (p := ⟨w.heap.size + 1 + 1 + 1, 0, none⟩) (show w.heap.size ≤ w.heap.size + 1 + 1 + 1 by omega) _).setNew (p := ⟨w.heap.size + 1 + 1 + 1, 1, none⟩) (show w.heap.size ≤ w.heap.size + 1 + 1 + 1 by omega) _⟩
    have q4 : (ps.length : Int) ≤ fi := by omega
    clear hf
    go_wp2
    exact bodyPost_ret (v := .tuple #[.agg #[.int .i64 0, .int .i64 0], .int .i64 0, .int .i64 7]) (by simp [results, Tryd.results107, go_sem, cT]) rfl ⟨⟨0, 0, 0, 7, rfl, hx.out⟩, (K1.setNew (p := ⟨w.heap.size + 1 + 1 + 1, 0, none⟩) (show w.heap.size ≤ w.heap.size + 1 + 1 + 1 by omega) _).setNew (p := ⟨w.heap.size + 1 + 1 + 1, 1, none⟩) (show w.heap.size ≤ w.heap.size + 1 + 1 + 1 by omega) _⟩
  obtain ⟨f1, f2, f3, f4⟩ := hf
  have q1 : ¬ fr < 0 := by omega
  have q2 : ¬ (ps.length : Int) ≤ fr := by omega
  have q3 : ¬ fi < 0 := by omega
  have q4 : ¬ (ps.length : Int) ≤ fi := by omega
  by_cases q5 : fi < fr
  · have hx := Lib.hid (show TollIs ls gs ps bs r f fr fi 0 0 0 11 from .inr (.inr ⟨hn.out, hgk.out, .inr ⟨⟨f1, f2, f3, f4⟩, .inl ⟨q5, ⟨rfl, rfl, rfl⟩, rfl⟩⟩⟩))
    clear hg h hb hRb
    go_wp2
    exact bodyPost_ret (v := .tuple #[.agg #[.int .i64 0, .int .i64 0], .int .i64 0, .int .i64 11]) (by simp [results, Tryd.results107, go_sem, cT]) rfl ⟨⟨0, 0, 0, 11, rfl, hx.out⟩, (K1.setNew (p := ⟨w.heap.size + 1 + 1 + 1, 0, none⟩) (show w.heap.size ≤ w.heap.size + 1 + 1 + 1 by omega) _).setNew (p := ⟨w.heap.size + 1 + 1 + 1, 1, none⟩) (show w.heap.size ≤ w.heap.size + 1 + 1 + 1 by omega) _⟩
  obtain ⟨fr, rfl⟩ := Int.eq_ofNat_of_zero_le f1
  obtain ⟨fi, rfl⟩ := Int.eq_ofNat_of_zero_le f3
  have hx : ∀ s : TS, tollOf (harmsOf ls.length gs ps bs) bl fr fi = s → TollIs ls gs ps bs r f fr fi s.lo s.hi s.wo 0 := fun s hs => by
    subst hs
    rw [hbl.out]
    exact .inr (.inr ⟨hn.out, hgk.out, .inr ⟨⟨f1, f2, f3, f4⟩, .inr ⟨by omega, ⟨by rw [Int.toNat_natCast, Int.toNat_natCast], by rw [Int.toNat_natCast, Int.toNat_natCast], by rw [Int.toNat_natCast, Int.toNat_natCast]⟩, rfl⟩⟩⟩)
  replace hx := Lib.hid hx
  have hg2 := (hg.kpN K2).under (.cells #[.int .i64 (-1), .int .i64 (-1)] 26)
  have h2 := (h.kpN K2).under (.cells #[.int .i64 (-1), .int .i64 (-1)] 26)
  have hb2 := (hb.kpN K2).under (.cells #[.int .i64 (-1), .int .i64 (-1)] 26)
  have hRb2 := hRb.under (.cells #[.int .i64 (-1), .int .i64 (-1)] 26)
  have hLlt := LB.lt
  have hTlt := TB.lt
  replace LB := LB.alloc (.cells #[.int .i64 (-1), .int .i64 (-1)] 26)
  replace TB := TB.alloc (.cells #[.int .i64 (-1), .int .i64 (-1)] 26)
  have SB := Blk.new w2 26 #[.int .i64 (-1), .int .i64 (-1)]
  replace K2 := K2.alloc K2.size (.cells #[.int .i64 (-1), .int .i64 (-1)] 26)
  clear hg h hb hRb K1
  go_wp2_with fail
  obtain ⟨bt, hbt⟩ : ∃ bt, bt = w2.heap.size := ⟨_, rfl⟩
  rw [← hbt] at hg2 h2 hb2 hRb2 SB ⊢
  have hbt3 : w.heap.size + 1 + 1 + 1 < bt := by omega
  generalize w2.alloc (.cells #[.int .i64 (-1), .int .i64 (-1)] 26) = w3 at *
  clear hbt cT fT cL hLlt hTlt
  have hfrfi : fr ≤ fi := by omega
  have hfip : fi < ps.length := by omega
  go_loopw [22, 23] (fun v22 v23 wr => TolR (harmsOf ls.length gs ps bs) bl fr fi bt w3 v22 v23 wr) (fun _ v _ => fi + 1 - (intOf v).toNat)
  case atStart => exact ⟨fr, ⟨-1, -1, fr⟩, rfl, Nat.le_refl _, by omega, rfl, rfl, SB, Kp.refl _ _ _⟩
  case round =>
    obtain ⟨a, s, rfl, ha1, ha2, rfl, htol, SA, KK⟩ := hrel
    replace htol := Lib.hid htol
    have LA := LB.kp KK LB.lt (sne (by omega))
    have TA := TB.kp KK TB.lt (sne (by omega))
    have cL := fun i => LA.cell i
    have cT := fun i => TA.cell i
    have fT := fun i => TA.frozen i
    by_cases h7 : a ≤ fi
    · have h7' : (a : Int) ≤ (fi : Int) := by omega
      have hal : a < ps.length := by omega
      have habl : a < bs.length := by rw [hok.out.2.m]; exact hal
      have hg3 := hg2.kp KK
      have h3 := h2.kp KK
      have hb3 := hb2.kp KK
      have hRb3 := hRb2.kp KK
      obtain ⟨F, hF⟩ : ∃ F, groundFn bs a = .func (.func F) #[] #[] := ⟨_, rfl⟩
      have hap := fun en ab (w : World) h1 h2 h3 hab => place_harms_any Ag cg gs A A' c c' ps bs a ab en w h1 h2 h3 hok.out.1 hok.out.2 hc hal hab
      rw [hF] at hap
      replace hap := Lib.hid hap
      clear hg2 h2 hb2 hRb2 LB TB SB
      go_wp2_with fail
      refine (blast_of_any A A' c c' ps.length bs a _ hb3.free habl).mono ?_
      rintro e w4 ⟨rfl, k4⟩
      rw [hF]
      have hbtl := SA.lt
      replace SA := SA.kpN k4
      replace LA := LA.kpN k4
      replace TA := TA.kpN k4
      replace hg3 := hg3.kpN k4
      replace h3 := h3.kpN k4
      replace hb3 := hb3.kpN k4
      replace hRb3 := hRb3.kpN k4
      replace KK := KK.thenN k4 (Nat.le_refl _)
      clear k4 cL cT fT
      have PA := Blk.new w4 134 #[.slice A ps.length c, .slice A' bs.length c', .int .i64 a, .func (.func F) #[] #[]]
      have kp5 := (Kp.refl w4.heap.size none w4).alloc (Nat.le_refl _) (.cells #[.slice A ps.length c, .slice A' bs.length c', .int .i64 a, .func (.func F) #[] #[]] 134)
      have hbp : bt < w4.heap.size := SA.lt
      replace SA := SA.kpN kp5
      replace LA := LA.kpN kp5
      replace TA := TA.kpN kp5
      replace hg3 := hg3.kpN kp5
      replace h3 := h3.kpN kp5
      replace hb3 := hb3.kpN kp5
      replace hRb3 := hRb3.kpN kp5
      replace KK := KK.thenN kp5 (Nat.le_refl _)
      clear kp5
      go_wp2_with fail
      obtain ⟨bp, hbpe⟩ : ∃ bp, bp = w4.heap.size := ⟨_, rfl⟩
      rw [← hbpe] at PA hbp ⊢
      generalize w4.alloc (.cells #[.slice A ps.length c, .slice A' bs.length c', .int .i64 a, .func (.func F) #[] #[]] 134) = w5 at *
      clear hbpe
      go_loopw [22, 87] (fun v22 v87 wx => TolI (harmsOf ls.length gs ps bs) bl fr fi bt a w5 v22 v87 wx) (fun _ v _ => bl.length - (intOf v).toNat)
      case atStart => exact ⟨0, s, rfl, by omega, rfl, by rw [htol.out, tRun_succ _ _ _ _ h7]; rfl, SA, Kp.refl _ _ _⟩
      case round =>
        clear SA htol
        obtain ⟨j, s, rfl, hj, rfl, htol, SA, KI⟩ := hrel
        by_cases h8 : j < bl.length
        · obtain ⟨b, o, rfl, hbl2, -, hcc⟩ := (hRb3.kp KI).at_ (by omega)
          have c0 : wr.cell? ⟨b, o + j * 3, none⟩ = some (.int .i64 bl[j].layer) := hcc j h8 0 _ rfl
          have c1 : wr.cell? ⟨b, o + j * 3 + 1, none⟩ = some (.int .i64 bl[j].lo) := hcc j h8 1 _ rfl
          have c2 : wr.cell? ⟨b, o + j * 3 + 2, none⟩ = some (.int .i64 bl[j].hi) := hcc j h8 2 _ rfl
          rw [List.drop_eq_getElem_cons h8, tCell_cons] at htol
          have hxl := hlay.out bl[j] (List.getElem_mem h8)
          generalize bl[j] = x at c0 c1 c2 htol hxl
          obtain ⟨x1, x2, x3⟩ := x
          dsimp only at c0 c1 c2 htol hxl
          obtain ⟨hxl0, hxl1⟩ := hxl
          obtain ⟨ab, hab⟩ : ∃ ab : Nat, (ls.length : Int) - x1 = ab := ⟨((ls.length : Int) - x1).toNat, by omega⟩
          have hab32 : ab ≤ 32 := by omega
          have e1 : ∀ en, placeHarm gs ps bs a ab en = harmsOf ls.length gs ps bs x1 en a := fun en => by rw [← placeHarm_of hxl1, hab, Int.toNat_natCast]
          obtain ⟨L, hL⟩ : ∃ L, L = harmsOf ls.length gs ps bs x1 x2 a := ⟨_, rfl⟩
          obtain ⟨U, hU⟩ : ∃ U, U = harmsOf ls.length gs ps bs x1 x3 a := ⟨_, rfl⟩
          rw [← hL, ← hU] at htol
          have eL := (e1 x2).trans hL.symm
          have eU := (e1 x3).trans hU.symm
          clear hL hU e1
          replace eL := Lib.hid eL
          replace eU := Lib.hid eU
          replace htol := Lib.hid htol
          have hg4 := hg3.kp KI
          have h4 := h3.kp KI
          have hb4 := hb3.kp KI
          have PA4 := PA.kp KI PA.lt (sne (by omega))
          have h8' : (j : Int) < (bl.length : Int) := by omega
          have k6 := (Kp.refl wr.heap.size none wr).alloc (Nat.le_refl _) (.cells #[.int .i64 x1, .int .i64 x2, .int .i64 x3] 83)
          have BX := Blk.new wr 83 #[.int .i64 x1, .int .i64 x2, .int .i64 x3]
          have hbxl : wr.heap.size < (wr.alloc (.cells #[.int .i64 x1, .int .i64 x2, .int .i64 x3] 83)).heap.size := BX.lt
          have hbb := PA4.lt
          replace PA4 := PA4.kpN k6
          replace hg4 := (hg4.kpN k6).free
          replace h4 := (h4.kpN k6).free
          replace hb4 := (hb4.kpN k6).free
          replace SA := SA.kpN k6
          have KI6 := KI.thenN k6 (Nat.le_refl _)
          have cX := fun i => BX.cell i
          clear k6 hcc hbl2 hRb3 hg3 h3 hb3
          go_wp2_with fail
          clear c0 c1 c2 cX hbxl
          obtain ⟨bx, hbx⟩ : ∃ bx, bx = wr.heap.size := ⟨_, rfl⟩
          rw [← hbx] at BX ⊢
          generalize wr.alloc (.cells #[.int .i64 x1, .int .i64 x2, .int .i64 x3] 83) = w6 at *
          clear hbx hbb
          replace PA4 := PA4.drew
          replace BX := BX.drew
          replace SA := SA.drew
          replace hg4 := hg4.drew
          replace h4 := h4.drew
          replace hb4 := hb4.drew
          replace KI6 := KI6.drew
          obtain ⟨S, hS⟩ : ∃ S : Nat → World → Prop, S = fun _ w' => Blk w' bp 134 #[.slice A ps.length c, .slice A' bs.length c', .int .i64 a, .func (.func F) #[] #[]] ∧ Blk w' bx 83 #[.int .i64 x1, .int .i64 x2, .int .i64 x3] := ⟨_, rfl⟩
          have hS0 : ∀ w', S 0 w' ↔ (Blk w' bp 134 #[.slice A ps.length c, .slice A' bs.length c', .int .i64 a, .func (.func F) #[] #[]] ∧ Blk w' bx 83 #[.int .i64 x1, .int .i64 x2, .int .i64 x3]) := fun w' => by rw [hS]
          clear hS
          have cA := fun (q : Ev (S 0)) i => ((hS0 _).1 q.h).1.cell i
          have cB := fun (q : Ev (S 0)) i => ((hS0 _).1 q.h).2.cell i
          have hevT := ev_true
          refine wp_region_ord S [(0, 1), (1, 0), (2, 0), (3, 0), (4, 0), (5, 1), (7, 1), (8, 0), (9, 0), (10, 0), (11, 0), (12, 1), (6, 2), (13, 2), (14, 0), (15, 0)] [] (by kernel_rfl) (by kernel_rfl) ((hS0 _).2 ⟨PA4, BX⟩) ?_
          intro _hev
          iterate 12 (first | (refine wpOrd_v rfl rfl ?_; intro K hK; go_big_quiet_op; go_big_quiet_on) | (refine wpOrd_q rfl rfl ?_; intro K hK; go_big_quiet_op; go_big_quiet_on) | refine wpOrd_s (by decide) rfl rfl ?_)
          refine wpOrd_l rfl rfl ?_; intro K hK
          go_step
          refine (hap.out x2 ab _ hg4 h4 hb4 hab32).mono ?_
          rintro e w7 ⟨rfl, k7⟩
          rw [eL.out]
          replace PA4 := PA4.kpN k7
          replace BX := BX.kpN k7
          replace SA := SA.kpN k7
          replace hg4 := hg4.kpN k7
          replace h4 := h4.kpN k7
          replace hb4 := hb4.kpN k7
          replace KI6 := KI6.thenN k7 (Nat.le_refl _)
          refine hK _ _ ((hS0 _).2 ⟨PA4, BX⟩) ?_
          clear hK K k7
          refine wpOrd_l rfl rfl ?_; intro K hK
          go_step
          refine (hap.out x3 ab _ hg4 h4 hb4 hab32).mono ?_
          rintro e w7 ⟨rfl, k7⟩
          rw [eU.out]
          replace PA4 := PA4.kpN k7
          replace BX := BX.kpN k7
          replace SA := SA.kpN k7
          replace KI6 := KI6.thenN k7 (Nat.le_refl _)
          refine hK _ _ ((hS0 _).2 ⟨PA4, BX⟩) ?_
          clear hK K k7
          iterate 2 (first | (refine wpOrd_v rfl rfl ?_; intro K hK; go_big_quiet_op; go_big_quiet_on) | (refine wpOrd_q rfl rfl ?_; intro K hK; go_big_quiet_op; go_big_quiet_on) | refine wpOrd_s (by decide) rfl rfl ?_)
          refine wpOrd_nil ?_
          clear hevT _hev
          clear cA cB hS0 S BX PA4 hg4 h4 hb4
          have cS := fun i => SA.cell i
          have fS := fun i => SA.frozen i
          by_cases p1 : s.lo < 0
          · by_cases p3 : s.hi < U
            ·
              have hst : tStep a L U s = ⟨L, U, a⟩ := by
                unfold tStep
                rw [(if_pos (.inl p1)), (if_pos p3), (if_pos p3)]
              have ht2 := htol.out
              rw [hst] at ht2
              replace ht2 := Lib.hid ht2
              clear htol hst
              go_wp2
              go_roundw
              case rel => exact ⟨j + 1, ⟨L, U, a⟩, rfl, by omega, rfl, ht2.out, (SA.set_ 0 (.int .i64 L)).set_ 1 (.int .i64 U), (KI6.setRow (p := ⟨bt, 0, none⟩) rfl (.int .i64 L)).setRow (p := ⟨bt, 1, none⟩) rfl (.int .i64 U)⟩
              case measure => simp [intOf]; omega
            ·
              have hst : tStep a L U s = ⟨L, s.hi, s.wo⟩ := by
                unfold tStep
                rw [(if_pos (.inl p1)), (if_neg p3), (if_neg p3)]
              have ht2 := htol.out
              rw [hst] at ht2
              replace ht2 := Lib.hid ht2
              clear htol hst
              go_wp2
              go_roundw
              case rel => exact ⟨j + 1, ⟨L, s.hi, s.wo⟩, rfl, by omega, rfl, ht2.out, SA.set_ 0 (.int .i64 L), KI6.setRow (p := ⟨bt, 0, none⟩) rfl (.int .i64 L)⟩
              case measure => simp [intOf]; omega
          · by_cases p2 : L < s.lo
            · by_cases p3 : s.hi < U
              ·
                have hst : tStep a L U s = ⟨L, U, a⟩ := by
                  unfold tStep
                  rw [(if_pos (.inr p2)), (if_pos p3), (if_pos p3)]
                have ht2 := htol.out
                rw [hst] at ht2
                replace ht2 := Lib.hid ht2
                clear htol hst
                go_wp2
                go_roundw
                case rel => exact ⟨j + 1, ⟨L, U, a⟩, rfl, by omega, rfl, ht2.out, (SA.set_ 0 (.int .i64 L)).set_ 1 (.int .i64 U), (KI6.setRow (p := ⟨bt, 0, none⟩) rfl (.int .i64 L)).setRow (p := ⟨bt, 1, none⟩) rfl (.int .i64 U)⟩
                case measure => simp [intOf]; omega
              ·
                have hst : tStep a L U s = ⟨L, s.hi, s.wo⟩ := by
                  unfold tStep
                  rw [(if_pos (.inr p2)), (if_neg p3), (if_neg p3)]
                have ht2 := htol.out
                rw [hst] at ht2
                replace ht2 := Lib.hid ht2
                clear htol hst
                go_wp2
                go_roundw
                case rel => exact ⟨j + 1, ⟨L, s.hi, s.wo⟩, rfl, by omega, rfl, ht2.out, SA.set_ 0 (.int .i64 L), KI6.setRow (p := ⟨bt, 0, none⟩) rfl (.int .i64 L)⟩
                case measure => simp [intOf]; omega
            · by_cases p3 : s.hi < U
              ·
                have hst : tStep a L U s = ⟨s.lo, U, a⟩ := by
                  unfold tStep
                  rw [(if_neg (fun h => h.elim p1 p2)), (if_pos p3), (if_pos p3)]
                have ht2 := htol.out
                rw [hst] at ht2
                replace ht2 := Lib.hid ht2
                clear htol hst
                go_wp2
                go_roundw
                case rel => exact ⟨j + 1, ⟨s.lo, U, a⟩, rfl, by omega, rfl, ht2.out, SA.set_ 1 (.int .i64 U), KI6.setRow (p := ⟨bt, 1, none⟩) rfl (.int .i64 U)⟩
                case measure => simp [intOf]; omega
              ·
                have hst : tStep a L U s = ⟨s.lo, s.hi, s.wo⟩ := by
                  unfold tStep
                  rw [(if_neg (fun h => h.elim p1 p2)), (if_neg p3), (if_neg p3)]
                have ht2 := htol.out
                rw [hst] at ht2
                replace ht2 := Lib.hid ht2
                clear htol hst
                go_wp2
                go_roundw
                case rel => exact ⟨j + 1, ⟨s.lo, s.hi, s.wo⟩, rfl, by omega, rfl, ht2.out, SA, KI6⟩
                case measure => simp [intOf]; omega
        · obtain rfl : j = bl.length := by omega
          have h8' : ¬ (bl.length : Int) < (bl.length : Int) := by omega
          rw [List.drop_length] at htol
          replace htol := Lib.hid htol
          have KW := KK.then_ KI (Nat.le_refl _)
          clear h8
          go_wp2
          go_roundw
          case rel => exact ⟨a + 1, s, rfl, by omega, by omega, rfl, htol.out, SA, KW⟩
          case measure => simp [intOf]; omega
    · have h7' : ¬ (a : Int) ≤ (fi : Int) := by omega
      obtain rfl : a = fi + 1 := by omega
      have hfin := hx.out s (by rw [htol.out, Nat.sub_self]; rfl)
      replace hfin := Lib.hid hfin
      have cS := fun i => SA.cell i
      have KE := ((K2.thenOwn KK (Nat.le_refl _) (show w.heap.size ≤ bt by omega)).setNew (p := ⟨w.heap.size + 1 + 1 + 1, 0, none⟩) (show w.heap.size ≤ w.heap.size + 1 + 1 + 1 by omega) (.int .i64 s.lo)).setNew (p := ⟨w.heap.size + 1 + 1 + 1, 1, none⟩) (show w.heap.size ≤ w.heap.size + 1 + 1 + 1 by omega) (.int .i64 s.hi)
      go_wp2
      exact bodyPost_ret (v := .tuple #[.agg #[.int .i64 s.lo, .int .i64 s.hi], .int .i64 s.wo, .int .i64 0]) (by simp [results, Tryd.results107, go_sem, cT]) rfl ⟨⟨s.lo, s.hi, s.wo, 0, rfl, hfin.out⟩, KE⟩
end Go.Proofs.YtdiigflbohbndaaDoor
namespace Go.Proofs.YtdiigflbohbndaaDoor
open Go.RowKit

set_option maxRecDepth 100000 in
set_option maxHeartbeats 1000000 in
theorem blast_Toll_any (Aa : Option Addr) (ca : Nat) (ls : List Layer) (Ag : Option Addr) (cg : Nat) (gs : List Grade) (A A' : Option Addr) (c c' : Nat) (ps : List Int) (bs : List Bool) (r : Rock) (f : Fall) (fr fi : Int) (w : World)
    (hl : Rd none w 2 encLayer Aa ls.length ls) (hg : Rd none w 2 encGrade Ag gs.length gs) (h : Rd none w 1 encI A ps.length ps) (hb : Rd none w 1 encB A' bs.length bs) (hc : ps.length ≤ c) (hbnd : Bnd w) :
    Calls Tryd.prog 63 #[.slice Aa ls.length ca, .slice Ag gs.length cg, .agg #[.slice A ps.length c, .slice A' bs.length c'], .agg #[.int .i64 r.size.lo, .int .i64 r.size.hi, .int .i64 r.dens.lo, .int .i64 r.dens.hi, .int .i64 r.strong.lo, .int .i64 r.strong.hi, .int .i64 r.spin.lo, .int .i64 r.spin.hi, .int .i64 r.shape.lo, .int .i64 r.shape.hi, .bool r.pile], .agg #[.int .i64 f.speed.lo, .int .i64 f.speed.hi, .int .i64 f.slope.lo, .int .i64 f.slope.hi], .int .i64 fr, .int .i64 fi] w
      fun e w' => (∃ lo hi wo n, e = .returned (.tuple #[.agg #[.int .i64 lo, .int .i64 hi], .int .i64 n]) ∧ TollIs ls gs ps bs r f fr fi lo hi wo n) ∧ Kp w.heap.size none w w' := by
  obtain ⟨N, hN⟩ : ∃ N, N = w.heap.size := ⟨_, rfl⟩
  have K0 := (((((Kp.refl w.heap.size none w).alloc (Nat.le_refl _) (.cells #[.slice A ps.length c, .slice A' bs.length c'] 54)).alloc (by simp) (.cells #[.int .i64 r.size.lo, .int .i64 r.size.hi, .int .i64 r.dens.lo, .int .i64 r.dens.hi, .int .i64 r.strong.lo, .int .i64 r.strong.hi, .int .i64 r.spin.lo, .int .i64 r.spin.hi, .int .i64 r.shape.lo, .int .i64 r.shape.hi, .bool r.pile] 28)).alloc (by simp; omega) (.cells #[.int .i64 f.speed.lo, .int .i64 f.speed.hi, .int .i64 f.slope.lo, .int .i64 f.slope.hi] 30)).alloc (by simp; omega) (.cells #[.int .i64 0, .int .i64 0] 26))
  have LB := ((((Blk.newAt w 54 #[.slice A ps.length c, .slice A' bs.length c'] hN).alloc (.cells #[.int .i64 r.size.lo, .int .i64 r.size.hi, .int .i64 r.dens.lo, .int .i64 r.dens.hi, .int .i64 r.strong.lo, .int .i64 r.strong.hi, .int .i64 r.spin.lo, .int .i64 r.spin.hi, .int .i64 r.shape.lo, .int .i64 r.shape.hi, .bool r.pile] 28)).alloc (.cells #[.int .i64 f.speed.lo, .int .i64 f.speed.hi, .int .i64 f.slope.lo, .int .i64 f.slope.hi] 30)).alloc (.cells #[.int .i64 0, .int .i64 0] 26))
  have RB := (((Blk.newAt (w.alloc (.cells #[.slice A ps.length c, .slice A' bs.length c'] 54)) 28 #[.int .i64 r.size.lo, .int .i64 r.size.hi, .int .i64 r.dens.lo, .int .i64 r.dens.hi, .int .i64 r.strong.lo, .int .i64 r.strong.hi, .int .i64 r.spin.lo, .int .i64 r.spin.hi, .int .i64 r.shape.lo, .int .i64 r.shape.hi, .bool r.pile] (n := N + 1) (by simp [hN])).alloc (.cells #[.int .i64 f.speed.lo, .int .i64 f.speed.hi, .int .i64 f.slope.lo, .int .i64 f.slope.hi] 30)).alloc (.cells #[.int .i64 0, .int .i64 0] 26))
  have FB := ((Blk.newAt ((w.alloc (.cells #[.slice A ps.length c, .slice A' bs.length c'] 54)).alloc (.cells #[.int .i64 r.size.lo, .int .i64 r.size.hi, .int .i64 r.dens.lo, .int .i64 r.dens.hi, .int .i64 r.strong.lo, .int .i64 r.strong.hi, .int .i64 r.spin.lo, .int .i64 r.spin.hi, .int .i64 r.shape.lo, .int .i64 r.shape.hi, .bool r.pile] 28)) 30 #[.int .i64 f.speed.lo, .int .i64 f.speed.hi, .int .i64 f.slope.lo, .int .i64 f.slope.hi] (n := N + 1 + 1) (by simp [hN])).alloc (.cells #[.int .i64 0, .int .i64 0] 26))
  have TB := (Blk.newAt (((w.alloc (.cells #[.slice A ps.length c, .slice A' bs.length c'] 54)).alloc (.cells #[.int .i64 r.size.lo, .int .i64 r.size.hi, .int .i64 r.dens.lo, .int .i64 r.dens.hi, .int .i64 r.strong.lo, .int .i64 r.strong.hi, .int .i64 r.spin.lo, .int .i64 r.spin.hi, .int .i64 r.shape.lo, .int .i64 r.shape.hi, .bool r.pile] 28)).alloc (.cells #[.int .i64 f.speed.lo, .int .i64 f.speed.hi, .int .i64 f.slope.lo, .int .i64 f.slope.hi] 30)) 26 #[.int .i64 0, .int .i64 0] (n := N + 1 + 1 + 1) (by simp [hN]))
  have cL := fun i => LB.cell i
  have cR := fun i => RB.cell i
  have cF := fun i => FB.cell i
  go_enter Tryd.func63, Tryd.ntmps63
  go_wp2_with fail
  rw [← hN] at K0 ⊢
  generalize ((((w.alloc (.cells #[.slice A ps.length c, .slice A' bs.length c'] 54)).alloc (.cells #[.int .i64 r.size.lo, .int .i64 r.size.hi, .int .i64 r.dens.lo, .int .i64 r.dens.hi, .int .i64 r.strong.lo, .int .i64 r.strong.hi, .int .i64 r.spin.lo, .int .i64 r.spin.hi, .int .i64 r.shape.lo, .int .i64 r.shape.hi, .bool r.pile] 28)).alloc (.cells #[.int .i64 f.speed.lo, .int .i64 f.speed.hi, .int .i64 f.slope.lo, .int .i64 f.slope.hi] 30)).alloc (.cells #[.int .i64 0, .int .i64 0] 26)) = w0 at *
  subst hN
  refine (blast_stretch_any Aa ca ls Ag cg gs A A' c c' ps bs r f fr fi _ (hl.kpN K0) (hg.kpN K0) (h.kpN K0) (hb.kpN K0) hc (hbnd.kpN K0)).mono ?_
  rintro e w1 ⟨⟨lo, hi, wo, n, rfl, ht⟩, k1⟩
  have K1 := K0.thenN k1 (Nat.le_refl _)
  replace TB := TB.kpN k1
  clear k1 K0 LB RB FB hl hg h hb cL cR cF
  replace ht := Lib.hid ht
  have SB := Blk.new w1 26 #[.int .i64 lo, .int .i64 hi]
  replace TB := TB.alloc (.cells #[.int .i64 lo, .int .i64 hi] 26)
  replace K1 := K1.alloc K1.size (.cells #[.int .i64 lo, .int .i64 hi] 26)
  have cS := fun i => SB.cell i
  have cT := fun i => TB.cell i
  have fT := fun i => TB.frozen i
  have hne : w.heap.size + 1 + 1 + 1 < (w1.alloc (.cells #[.int .i64 lo, .int .i64 hi] 26)).heap.size := TB.lt
  have KE := (K1.setNew (p := ⟨w.heap.size + 1 + 1 + 1, 0, none⟩) (show w.heap.size ≤ w.heap.size + 1 + 1 + 1 by omega) (.int .i64 lo)).setNew (p := ⟨w.heap.size + 1 + 1 + 1, 1, none⟩) (show w.heap.size ≤ w.heap.size + 1 + 1 + 1 by omega) (.int .i64 hi)
  go_wp2
  exact bodyPost_ret (v := .tuple #[.agg #[.int .i64 lo, .int .i64 hi], .int .i64 n]) (by simp [results, Tryd.results63, go_sem, cT]) rfl ⟨⟨lo, hi, wo, n, rfl, ht.out⟩, KE⟩
set_option maxRecDepth 100000 in
set_option maxHeartbeats 1000000 in
theorem blast_Worst_any (Aa : Option Addr) (ca : Nat) (ls : List Layer) (Ag : Option Addr) (cg : Nat) (gs : List Grade) (A A' : Option Addr) (c c' : Nat) (ps : List Int) (bs : List Bool) (r : Rock) (f : Fall) (fr fi : Int) (w : World)
    (hl : Rd none w 2 encLayer Aa ls.length ls) (hg : Rd none w 2 encGrade Ag gs.length gs) (h : Rd none w 1 encI A ps.length ps) (hb : Rd none w 1 encB A' bs.length bs) (hc : ps.length ≤ c) (hbnd : Bnd w) :
    Calls Tryd.prog 65 #[.slice Aa ls.length ca, .slice Ag gs.length cg, .agg #[.slice A ps.length c, .slice A' bs.length c'], .agg #[.int .i64 r.size.lo, .int .i64 r.size.hi, .int .i64 r.dens.lo, .int .i64 r.dens.hi, .int .i64 r.strong.lo, .int .i64 r.strong.hi, .int .i64 r.spin.lo, .int .i64 r.spin.hi, .int .i64 r.shape.lo, .int .i64 r.shape.hi, .bool r.pile], .agg #[.int .i64 f.speed.lo, .int .i64 f.speed.hi, .int .i64 f.slope.lo, .int .i64 f.slope.hi], .int .i64 fr, .int .i64 fi] w
      fun e w' => (∃ lo hi wo n, e = .returned (.tuple #[.int .i64 wo, .int .i64 n]) ∧ TollIs ls gs ps bs r f fr fi lo hi wo n) ∧ Kp w.heap.size none w w' := by
  obtain ⟨N, hN⟩ : ∃ N, N = w.heap.size := ⟨_, rfl⟩
  have K0 := ((((Kp.refl w.heap.size none w).alloc (Nat.le_refl _) (.cells #[.slice A ps.length c, .slice A' bs.length c'] 54)).alloc (by simp) (.cells #[.int .i64 r.size.lo, .int .i64 r.size.hi, .int .i64 r.dens.lo, .int .i64 r.dens.hi, .int .i64 r.strong.lo, .int .i64 r.strong.hi, .int .i64 r.spin.lo, .int .i64 r.spin.hi, .int .i64 r.shape.lo, .int .i64 r.shape.hi, .bool r.pile] 28)).alloc (by simp; omega) (.cells #[.int .i64 f.speed.lo, .int .i64 f.speed.hi, .int .i64 f.slope.lo, .int .i64 f.slope.hi] 30))
  have LB := (((Blk.newAt w 54 #[.slice A ps.length c, .slice A' bs.length c'] hN).alloc (.cells #[.int .i64 r.size.lo, .int .i64 r.size.hi, .int .i64 r.dens.lo, .int .i64 r.dens.hi, .int .i64 r.strong.lo, .int .i64 r.strong.hi, .int .i64 r.spin.lo, .int .i64 r.spin.hi, .int .i64 r.shape.lo, .int .i64 r.shape.hi, .bool r.pile] 28)).alloc (.cells #[.int .i64 f.speed.lo, .int .i64 f.speed.hi, .int .i64 f.slope.lo, .int .i64 f.slope.hi] 30))
  have RB := ((Blk.newAt (w.alloc (.cells #[.slice A ps.length c, .slice A' bs.length c'] 54)) 28 #[.int .i64 r.size.lo, .int .i64 r.size.hi, .int .i64 r.dens.lo, .int .i64 r.dens.hi, .int .i64 r.strong.lo, .int .i64 r.strong.hi, .int .i64 r.spin.lo, .int .i64 r.spin.hi, .int .i64 r.shape.lo, .int .i64 r.shape.hi, .bool r.pile] (n := N + 1) (by simp [hN])).alloc (.cells #[.int .i64 f.speed.lo, .int .i64 f.speed.hi, .int .i64 f.slope.lo, .int .i64 f.slope.hi] 30))
  have FB := (Blk.newAt ((w.alloc (.cells #[.slice A ps.length c, .slice A' bs.length c'] 54)).alloc (.cells #[.int .i64 r.size.lo, .int .i64 r.size.hi, .int .i64 r.dens.lo, .int .i64 r.dens.hi, .int .i64 r.strong.lo, .int .i64 r.strong.hi, .int .i64 r.spin.lo, .int .i64 r.spin.hi, .int .i64 r.shape.lo, .int .i64 r.shape.hi, .bool r.pile] 28)) 30 #[.int .i64 f.speed.lo, .int .i64 f.speed.hi, .int .i64 f.slope.lo, .int .i64 f.slope.hi] (n := N + 1 + 1) (by simp [hN]))
  have cL := fun i => LB.cell i
  have cR := fun i => RB.cell i
  have cF := fun i => FB.cell i
  go_enter Tryd.func65, Tryd.ntmps65
  go_wp2_with fail
  rw [← hN] at K0 ⊢
  generalize (((w.alloc (.cells #[.slice A ps.length c, .slice A' bs.length c'] 54)).alloc (.cells #[.int .i64 r.size.lo, .int .i64 r.size.hi, .int .i64 r.dens.lo, .int .i64 r.dens.hi, .int .i64 r.strong.lo, .int .i64 r.strong.hi, .int .i64 r.spin.lo, .int .i64 r.spin.hi, .int .i64 r.shape.lo, .int .i64 r.shape.hi, .bool r.pile] 28)).alloc (.cells #[.int .i64 f.speed.lo, .int .i64 f.speed.hi, .int .i64 f.slope.lo, .int .i64 f.slope.hi] 30)) = w0 at *
  subst hN
  refine (blast_stretch_any Aa ca ls Ag cg gs A A' c c' ps bs r f fr fi _ (hl.kpN K0) (hg.kpN K0) (h.kpN K0) (hb.kpN K0) hc (hbnd.kpN K0)).mono ?_
  rintro e w1 ⟨⟨lo, hi, wo, n, rfl, ht⟩, k1⟩
  have K1 := K0.thenN k1 (Nat.le_refl _)
  clear k1 K0 LB RB FB hl hg h hb cL cR cF
  replace K1 := K1.alloc K1.size (.cells #[.int .i64 lo, .int .i64 hi] 26)
  replace ht := Lib.hid ht
  go_wp2
  exact bodyPost_ret (v := .tuple #[.int .i64 wo, .int .i64 n]) (by simp [results, Tryd.results65, go_sem]) rfl ⟨⟨lo, hi, wo, n, rfl, ht.out⟩, K1⟩
end Go.Proofs.YtdiigflbohbndaaDoor
