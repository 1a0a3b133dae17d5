/- Councils, ledgers, houses in plain Lean: what the program and the reference compute. -/
import Derived.WalkKit
namespace Go.Proofs.YtogpgnljomchcaaGreat

structure Member where
  id : Int
  weight : Int
deriving DecidableEq, Inhabited
structure LawC where
  act : Int
  level : Int
  window : Int
  quorum : Int
  share : Int
deriving DecidableEq, Inhabited
structure Chance where
  least : Int
  most : Int
  all : Int
deriving DecidableEq, Inhabited
structure CItem where
  kind : Int
  tick : Int
  drill : Bool
  a : Int
  b : Int
  yes : Bool
  chance : Chance
deriving DecidableEq, Inhabited
structure Known where
  target : Int
  level : Int
  item : Int
  chance : Chance
deriving DecidableEq, Inhabited
structure Motion where
  target : Int
  act : Int
  opened : Int
  state : Int
  yes : Int
  no : Int
  voted : List Int
  fact : Int
deriving DecidableEq, Inhabited
structure Alarm where
  tick : Int
  target : Int
  level : Int
  back : Bool
deriving DecidableEq, Inhabited
structure Ledger where
  items : Int
  facts : List Known
  motions : List Motion
  sent : List Alarm
deriving DecidableEq, Inhabited
structure House where
  tick : Int
  real : Ledger
  drill : Ledger
deriving DecidableEq, Inhabited
structure Council where
  members : List Member
  laws : List LawC
  levels : List Int
deriving DecidableEq, Inhabited

def bt (n lo hi : Int) : Bool := decide (lo ≤ n) && decide (n ≤ hi)
def chanceErr (x : Chance) : Int := if x.least < 0 ∨ x.most < x.least ∨ x.all < x.most ∨ x.all < 1 ∨ 1125899906842624 < x.all then 3 else 0
def chkMembers : Int → List Member → Int
  | _, [] => 0
  | last, m :: r => if m.id ≤ last then 11 else if m.weight < 1 ∨ 1099511627776 < m.weight then 2 else chkMembers m.id r
def lawBad (x : LawC) : Prop := x.level < 0 ∨ 8 < x.level ∨ x.window < 0 ∨ 1073741824 < x.window ∨ x.quorum < 0 ∨ 1000 < x.quorum ∨ x.share < 0 ∨ 1000 < x.share
instance (x : LawC) : Decidable (lawBad x) := by unfold lawBad; infer_instance
def lawErr (x : LawC) (last : Int) : Int := if x.act ≤ last then 11 else if lawBad x then 2 else 0
def chkLaws : Int → List LawC → Int
  | _, [] => 0
  | last, x :: r => if lawErr x last = 0 then chkLaws x.act r else lawErr x last
def chkLevels : Int → List Int → Int
  | _, [] => 0
  | last, n :: r => if n ≤ last then 11 else if 1000000000 < n then 2 else chkLevels n r
def checkC (c : Council) : Int :=
  if c.members.length = 0 then 6 else if 64 < c.members.length then 8 else
  if chkMembers 0 c.members ≠ 0 then chkMembers 0 c.members else
  if 16 < c.laws.length then 8 else
  if chkLaws 0 c.laws ≠ 0 then chkLaws 0 c.laws else
  if 8 < c.levels.length then 8 else chkLevels 0 c.levels
def reaches (x : Chance) (l : Int) : Bool := decide (l * x.all ≤ x.most * 1000000000)
def levelOf (c : Council) (x : Chance) : Nat := (c.levels.filter (reaches x)).length
def levelI (c : Council) (x : Chance) : Int := if checkC c = 0 ∧ chanceErr x = 0 then levelOf c x else -1
def zeroLaw : LawC := ⟨0, 0, 0, 0, 0⟩
def lawOf (c : Council) (act : Int) : Option LawC := c.laws.find? fun x => x.act == act
def lawD (c : Council) (act : Int) : LawC := (lawOf c act).getD zeroLaw
def sumW (c : Council) : Int := (c.members.map Member.weight).sum
def votesOk (c : Council) (x : LawC) (yes no : Int) : Bool := decide (x.quorum * sumW c ≤ 1000 * (yes + no)) && decide (x.share * sumW c ≤ 1000 * yes)
def votesB (c : Council) (act yes no : Int) : Bool := decide (checkC c = 0) && (lawOf c act).isSome && bt yes 0 1125899906842624 && bt no 0 1125899906842624 && votesOk c (lawD c act) yes no

def knownOf (l : Ledger) (t : Int) : Option Known := l.facts.find? fun k => k.target == t
def withK (k : Known) : List Known → List Known
  | [] => [k]
  | y :: r => if y.target = k.target then k :: r else if k.target < y.target then k :: y :: r else y :: withK k r
def openSame (a b : Int) (m : Motion) : Bool := m.state == 1 && m.target == a && m.act == b
def voidM (c : Council) (k : Known) (m : Motion) : Motion :=
  if m.state = 1 ∧ m.target = k.target ∧ k.level < (lawD c m.act).level then { m with state := 4, fact := k.item } else m
def sendA (x : CItem) (before now : Int) (sent : List Alarm) : List Alarm := if before = now then sent else sent ++ [⟨x.tick, x.a, now, decide (now < before)⟩]
def newK (c : Council) (own : Ledger) (x : CItem) : Known := ⟨x.a, levelOf c x.chance, own.items, x.chance⟩
def beforeL (own : Ledger) (t : Int) : Int := match knownOf own t with | some k => k.level | none => 0
def factL (c : Council) (own : Ledger) (x : CItem) : Ledger :=
  { items := own.items, facts := withK (newK c own x) own.facts, motions := own.motions.map (voidM c (newK c own x)), sent := sendA x (beforeL own x.a) (newK c own x).level own.sent }
def factE (x : CItem) : Int := if x.a < 1 ∨ 999 < x.a then 2 else chanceErr x.chance
def newM (x : CItem) : Motion := ⟨x.a, x.b, x.tick, 1, 0, 0, [], -1⟩
def moveE (c : Council) (own : Ledger) (x : CItem) : Int :=
  match lawOf c x.b, knownOf own x.a with
  | some l, some k => if k.level < l.level then 10 else if own.motions.any (openSame x.a x.b) then 9 else if 64 ≤ own.motions.length then 8 else 0
  | _, _ => 7
def moveL (own : Ledger) (x : CItem) : Ledger := { own with motions := own.motions ++ [newM x] }
def hasM (l : Ledger) (n : Int) : Bool := decide (0 ≤ n) && decide (n < l.motions.length)
def motD (l : Ledger) (n : Int) : Motion := l.motions.getD n.toNat default
def memOf (c : Council) (b : Int) : Option Member := c.members.find? fun y => y.id == b
def voteE (c : Council) (own other : Ledger) (x : CItem) : Int :=
  if hasM own x.a then
    match memOf c x.b with
    | none => 7
    | some _ => if (motD own x.a).state ≠ 1 then 10 else if x.b ∈ (motD own x.a).voted then 9 else if (motD own x.a).opened + (lawD c (motD own x.a).act).window < x.tick then 13 else 0
  else if hasM other x.a then 15 else 7
def wOf (c : Council) (b : Int) : Int := match memOf c b with | some y => y.weight | none => 0
def voteM (c : Council) (m : Motion) (x : CItem) : Motion :=
  { m with voted := m.voted ++ [x.b], yes := if x.yes then m.yes + wOf c x.b else m.yes, no := if x.yes then m.no else m.no + wOf c x.b }
def voteL (c : Council) (own : Ledger) (x : CItem) : Ledger := { own with motions := own.motions.set x.a.toNat (voteM c (motD own x.a) x) }
def closeE (c : Council) (own other : Ledger) (x : CItem) : Int :=
  if hasM own x.a then
    if (motD own x.a).state ≠ 1 then 10
    else if (motD own x.a).voted.length < c.members.length ∧ x.tick ≤ (motD own x.a).opened + (lawD c (motD own x.a).act).window then 11 else 0
  else if hasM other x.a then 15 else 7
def itemOf (own : Ledger) (t : Int) : Int := match knownOf own t with | some k => k.item | none => 0
def closeM (c : Council) (own : Ledger) (m : Motion) : Motion :=
  { m with state := if votesOk c (lawD c m.act) m.yes m.no then 2 else 3, fact := itemOf own m.target }
def closeL (c : Council) (own : Ledger) (x : CItem) : Ledger := { own with motions := own.motions.set x.a.toNat (closeM c own (motD own x.a)) }

def House.led (h : House) (d : Bool) : Ledger := if d then h.drill else h.real
def House.put (h : House) (d : Bool) (l : Ledger) : House := if d then { h with drill := l } else { h with real := l }
def deedE (c : Council) (own other : Ledger) (x : CItem) : Int :=
  if x.kind = 1 then factE x else if x.kind = 2 then moveE c own x else if x.kind = 3 then voteE c own other x else if x.kind = 4 then closeE c own other x else 4
def deedL (c : Council) (own : Ledger) (x : CItem) : Ledger :=
  if x.kind = 1 then factL c own x else if x.kind = 2 then moveL own x else if x.kind = 3 then voteL c own x else closeL c own x
def doE (c : Council) (h : House) (x : CItem) : Int :=
  if x.tick < 0 ∨ 1073741824 < x.tick then 2 else if x.tick < h.tick then 11 else deedE c (h.led x.drill) (h.led (!x.drill)) x
def oneMore (l : Ledger) : Ledger := { l with items := l.items + 1 }
def doH (c : Council) (h : House) (x : CItem) : House := { h.put x.drill (oneMore (deedL c (h.led x.drill) x)) with tick := x.tick }
def zeroLedger : Ledger := ⟨0, [], [], []⟩
def zeroHouse : House := ⟨0, zeroLedger, zeroLedger⟩
/-- the house, the place of the item that could not be done (-1: none), its error -/
def runItems (c : Council) : Int → House → List CItem → House × Int × Int
  | _, h, [] => (h, -1, 0)
  | i, h, x :: r => if doE c h x = 0 then runItems c (i + 1) (doH c h x) r else (h, i, doE c h x)
def buildC (c : Council) (l : List CItem) : House × Int × Int :=
  if checkC c ≠ 0 then (zeroHouse, -1, checkC c) else if 2000 < l.length then (zeroHouse, -1, 8) else runItems c 0 zeroHouse l

/-! ### What holds of every house that items make -/
structure LedOk (c : Council) (n : Nat) (l : Ledger) : Prop where
  it0 : 0 ≤ l.items
  itn : l.items ≤ n
  sorted : l.facts.Pairwise fun a b => a.target < b.target
  flen : l.facts.length ≤ n
  ftar : ∀ k ∈ l.facts, 1 ≤ k.target ∧ k.target ≤ 999
  flev : ∀ k ∈ l.facts, 0 ≤ k.level ∧ k.level ≤ 8
  mlen : l.motions.length ≤ 64
  slen : l.sent.length ≤ n
  open0 : ∀ m ∈ l.motions, 0 ≤ m.opened ∧ m.opened ≤ 1073741824
  wt : ∀ m ∈ l.motions, 0 ≤ m.yes ∧ 0 ≤ m.no ∧ m.yes + m.no ≤ n * 1099511627776
  vlen : ∀ m ∈ l.motions, m.voted.length ≤ n
  known : ∀ m ∈ l.motions, (knownOf l m.target).isSome
structure HouseOk (c : Council) (n : Nat) (h : House) : Prop where
  t0 : 0 ≤ h.tick
  t1 : h.tick ≤ 1073741824
  led : ∀ d, LedOk c n (h.led d)

theorem zeroLed_ok (c : Council) (n : Nat) : LedOk c n zeroLedger := by
  constructor <;> simp [zeroLedger]
theorem zeroHouse_ok (c : Council) (n : Nat) : HouseOk c n zeroHouse := by
  refine ⟨by simp [zeroHouse], by simp [zeroHouse], fun d => ?_⟩
  cases d <;> exact zeroLed_ok c n

theorem chkMembers_mem {c : List Member} : ∀ {last : Int}, chkMembers last c = 0 → ∀ m ∈ c, last < m.id ∧ 1 ≤ m.weight ∧ m.weight ≤ 1099511627776 := by
  induction c with
  | nil => intro last _ m hm; cases hm
  | cons x r ih =>
    intro last h m hm
    unfold chkMembers at h
    split at h
    · cases h
    · split at h
      · cases h
      · rcases List.mem_cons.1 hm with rfl | hm
        · omega
        · have := ih h m hm
          omega
theorem chkLaws_mem {c : List LawC} : ∀ {last : Int}, chkLaws last c = 0 → ∀ x ∈ c, last < x.act ∧ ¬ lawBad x := by
  induction c with
  | nil => intro last _ m hm; cases hm
  | cons y r ih =>
    intro last h x hx
    unfold chkLaws at h
    by_cases hy : lawErr y last = 0
    · rw [if_pos hy] at h
      have hy' : last < y.act ∧ ¬ lawBad y := by
        unfold lawErr at hy
        split at hy
        · cases hy
        · split at hy
          · cases hy
          · rename_i h1 h2; exact ⟨by omega, h2⟩
      rcases List.mem_cons.1 hx with rfl | hx
      · exact hy'
      · have := ih h x hx
        exact ⟨by omega, this.2⟩
    · rw [if_neg hy] at h
      exact absurd h hy
theorem chkLevels_mem {c : List Int} : ∀ {last : Int}, chkLevels last c = 0 → ∀ x ∈ c, last < x ∧ x ≤ 1000000000 := by
  induction c with
  | nil => intro last _ m hm; cases hm
  | cons y r ih =>
    intro last h x hx
    unfold chkLevels at h
    split at h
    · cases h
    · split at h
      · cases h
      · rcases List.mem_cons.1 hx with rfl | hx
        · omega
        · have := ih h x hx
          omega
structure CouncilOk (c : Council) : Prop where
  mpos : 0 < c.members.length
  mlen : c.members.length ≤ 64
  mem : ∀ m ∈ c.members, 0 < m.id ∧ 1 ≤ m.weight ∧ m.weight ≤ 1099511627776
  llen : c.laws.length ≤ 16
  law : ∀ x ∈ c.laws, 0 < x.act ∧ ¬ lawBad x
  vlen : c.levels.length ≤ 8
  lev : ∀ x ∈ c.levels, 0 < x ∧ x ≤ 1000000000
theorem councilOk_of {c : Council} (h : checkC c = 0) : CouncilOk c := by
  unfold checkC at h
  split at h
  · cases h
  split at h
  · cases h
  split at h
  · rename_i h3; exact absurd h h3
  split at h
  · cases h
  split at h
  · rename_i h5; exact absurd h h5
  split at h
  · cases h
  rename_i h1 h2 h3 h4 h5 h6
  exact ⟨by omega, by omega, chkMembers_mem (by simpa using h3), by omega, chkLaws_mem (by simpa using h5), by omega, chkLevels_mem h⟩
theorem sumW_bd : ∀ (l : List Member), (∀ m ∈ l, 0 < m.id ∧ 1 ≤ m.weight ∧ m.weight ≤ 1099511627776) → 0 ≤ (l.map Member.weight).sum ∧ (l.map Member.weight).sum ≤ l.length * 1099511627776
  | [], _ => by simp
  | m :: r, h => by
    have h1 := h m (by simp)
    have h2 := sumW_bd r fun x hx => h x (by simp [hx])
    simp only [List.map_cons, List.sum_cons, List.length_cons]
    omega
theorem lawD_ok {c : Council} (h : CouncilOk c) (act : Int) : 0 ≤ (lawD c act).level ∧ (lawD c act).level ≤ 8 ∧ 0 ≤ (lawD c act).window ∧ (lawD c act).window ≤ 1073741824 ∧ 0 ≤ (lawD c act).quorum ∧ (lawD c act).quorum ≤ 1000 ∧ 0 ≤ (lawD c act).share ∧ (lawD c act).share ≤ 1000 := by
  unfold lawD
  cases hl : lawOf c act with
  | none => simp [zeroLaw]
  | some x =>
    have := (h.law x (List.mem_of_find?_eq_some hl)).2
    unfold lawBad at this
    simp only [Option.getD_some]
    omega
theorem wOf_bd {c : Council} (h : CouncilOk c) (b : Int) : 0 ≤ wOf c b ∧ wOf c b ≤ 1099511627776 := by
  unfold wOf
  cases hm : memOf c b with
  | none => simp
  | some y =>
    have := (h.mem y (List.mem_of_find?_eq_some hm)).2
    simp only
    omega
theorem levelOf_le (c : Council) (x : Chance) : levelOf c x ≤ c.levels.length := List.length_filter_le _ _

theorem withK_len (k : Known) : ∀ l : List Known, (withK k l).length ≤ l.length + 1
  | [] => by simp [withK]
  | y :: r => by
    have := withK_len k r
    unfold withK
    split
    · simp
    · split
      · simp
      · simp; omega
theorem withK_mem {k z : Known} : ∀ {l : List Known}, z ∈ withK k l → z = k ∨ z ∈ l
  | [], h => by simpa [withK] using h
  | y :: r, h => by
    unfold withK at h
    split at h
    · rcases List.mem_cons.1 h with h | h
      · exact .inl h
      · exact .inr (by simp [h])
    · split at h
      · rcases List.mem_cons.1 h with h | h
        · exact .inl h
        · exact .inr h
      · rcases List.mem_cons.1 h with h | h
        · exact .inr (by simp [h])
        · rcases withK_mem h with h | h
          · exact .inl h
          · exact .inr (by simp [h])
theorem withK_sorted (k : Known) : ∀ {l : List Known}, l.Pairwise (fun a b => a.target < b.target) → (withK k l).Pairwise (fun a b => a.target < b.target)
  | [], _ => by simp [withK]
  | y :: r, h => by
    have h1 := List.pairwise_cons.1 h
    unfold withK
    split
    · rename_i e
      exact List.pairwise_cons.2 ⟨fun b hb => by have := h1.1 b hb; omega, h1.2⟩
    · split
      · rename_i e
        refine List.pairwise_cons.2 ⟨fun b hb => ?_, h⟩
        rcases List.mem_cons.1 hb with rfl | hb
        · exact e
        · have := h1.1 b hb; omega
      · refine List.pairwise_cons.2 ⟨fun b hb => ?_, withK_sorted k h1.2⟩
        rcases withK_mem hb with rfl | hb
        · omega
        · exact h1.1 b hb
theorem withK_find (k : Known) (t : Int) : ∀ {l : List Known}, l.Pairwise (fun a b => a.target < b.target) → (withK k l).find? (fun x => x.target == t) = if k.target = t then some k else l.find? (fun x => x.target == t)
  | [], _ => by by_cases h : k.target = t <;> simp [withK, h]
  | y :: r, h => by
    have h1 := List.pairwise_cons.1 h
    unfold withK
    split
    · rename_i e
      by_cases ht : k.target = t
      · simp [ht]
      · simp [ht, e]
    · split
      · by_cases ht : k.target = t
        · simp [ht]
        · simp [ht]
      · rename_i e1 e2
        rw [List.find?_cons, withK_find k t h1.2, List.find?_cons]
        by_cases ht : k.target = t
        · have : (y.target == t) = false := by simp; omega
          simp [this, ht]
        · simp [ht]
theorem withK_known (k : Known) {l : List Known} (t : Int) (h : l.Pairwise (fun a b => a.target < b.target)) (hs : (l.find? fun x => x.target == t).isSome) : ((withK k l).find? fun x => x.target == t).isSome := by
  rw [withK_find k t h]
  split
  · rfl
  · exact hs

theorem LedOk.mono {c : Council} {n m : Nat} {l : Ledger} (h : LedOk c n l) (hnm : n ≤ m) : LedOk c m l :=
  ⟨h.it0, by have := h.itn; omega, h.sorted, by have := h.flen; omega, h.ftar, h.flev, h.mlen, by have := h.slen; omega, h.open0, fun x hx => by have := h.wt x hx; omega, fun x hx => by have := h.vlen x hx; omega, h.known⟩
theorem voidM_same (c : Council) (k : Known) (m : Motion) : (voidM c k m).target = m.target ∧ (voidM c k m).act = m.act ∧ (voidM c k m).opened = m.opened ∧ (voidM c k m).yes = m.yes ∧ (voidM c k m).no = m.no ∧ (voidM c k m).voted = m.voted := by
  unfold voidM
  split <;> simp
theorem sendA_len (x : CItem) (a b : Int) (s : List Alarm) : (sendA x a b s).length ≤ s.length + 1 := by
  unfold sendA
  split <;> simp
theorem motD_mem {l : Ledger} {n : Int} (h : hasM l n = true) : motD l n ∈ l.motions ∧ n.toNat < l.motions.length ∧ motD l n = l.motions[n.toNat]! := by
  unfold hasM at h
  simp only [Bool.and_eq_true, decide_eq_true_eq] at h
  have hl : n.toNat < l.motions.length := by omega
  unfold motD
  rw [List.getD_eq_getElem?_getD, List.getElem?_eq_getElem hl]
  exact ⟨List.getElem_mem hl, hl, by simp [hl]⟩
theorem setM_ok {c : Council} {n : Nat} {l : Ledger} (h : LedOk c n l) (i : Nat) {m : Motion} (h1 : 0 ≤ m.opened ∧ m.opened ≤ 1073741824) (h2 : 0 ≤ m.yes ∧ 0 ≤ m.no ∧ m.yes + m.no ≤ (n + 1 : Nat) * 1099511627776) (h3 : m.voted.length ≤ n + 1) (h4 : (knownOf l m.target).isSome) :
    LedOk c (n + 1) { l with motions := l.motions.set i m } := by
  have H := h.mono (Nat.le_succ n)
  have hm : ∀ z, z ∈ l.motions.set i m → z ∈ l.motions ∨ z = m := fun z hz => by
    have := List.mem_or_eq_of_mem_set hz
    exact this
  refine ⟨H.it0, H.itn, H.sorted, H.flen, H.ftar, H.flev, by simpa using H.mlen, H.slen, ?_, ?_, ?_, ?_⟩
  · intro z hz
    rcases hm z hz with hz | rfl
    · exact H.open0 z hz
    · exact h1
  · intro z hz
    rcases hm z hz with hz | rfl
    · exact H.wt z hz
    · exact h2
  · intro z hz
    rcases hm z hz with hz | rfl
    · exact H.vlen z hz
    · exact h3
  · intro z hz
    rcases hm z hz with hz | rfl
    · exact H.known z hz
    · exact h4
theorem deed_ok {c : Council} {n : Nat} {own other : Ledger} {x : CItem} (hc : CouncilOk c) (h : LedOk c n own) (ht : 0 ≤ x.tick ∧ x.tick ≤ 1073741824) (he : deedE c own other x = 0) : LedOk c (n + 1) (deedL c own x) := by
  unfold deedE at he
  unfold deedL
  by_cases k1 : x.kind = 1
  · rw [if_pos k1] at he ⊢
    unfold factE at he
    split at he
    · cases he
    rename_i ha
    have H := h.mono (Nat.le_succ n)
    refine ⟨H.it0, H.itn, withK_sorted _ h.sorted, ?_, ?_, ?_, by simpa [factL] using h.mlen, ?_, ?_, ?_, ?_, ?_⟩
    · have := withK_len (newK c own x) own.facts
      have := h.flen
      simp only [factL]
      omega
    · intro k hk
      rcases withK_mem hk with rfl | hk
      · simp only [newK]; omega
      · exact h.ftar k hk
    · intro k hk
      rcases withK_mem hk with rfl | hk
      · have := levelOf_le c x.chance
        have := hc.vlen
        simp only [newK]; omega
      · exact h.flev k hk
    · have := sendA_len x (beforeL own x.a) (newK c own x).level own.sent
      have := h.slen
      simp only [factL]
      omega
    · intro m hm
      obtain ⟨z, hz, rfl⟩ := List.mem_map.1 hm
      rw [(voidM_same c _ z).2.2.1]
      exact h.open0 z hz
    · intro m hm
      obtain ⟨z, hz, rfl⟩ := List.mem_map.1 hm
      rw [(voidM_same c _ z).2.2.2.1, (voidM_same c _ z).2.2.2.2.1]
      exact H.wt z hz
    · intro m hm
      obtain ⟨z, hz, rfl⟩ := List.mem_map.1 hm
      rw [(voidM_same c _ z).2.2.2.2.2]
      exact H.vlen z hz
    · intro m hm
      obtain ⟨z, hz, rfl⟩ := List.mem_map.1 hm
      rw [(voidM_same c _ z).1]
      exact withK_known _ _ h.sorted (h.known z hz)
  rw [if_neg k1] at he ⊢
  by_cases k2 : x.kind = 2
  · rw [if_pos k2] at he ⊢
    unfold moveE at he
    split at he
    · rename_i l k hl hk
      split at he
      · cases he
      split at he
      · cases he
      split at he
      · cases he
      rename_i h64
      have H := h.mono (Nat.le_succ n)
      have hm : ∀ z, z ∈ own.motions ++ [newM x] → z ∈ own.motions ∨ z = newM x := fun z hz => by simpa using hz
      refine ⟨H.it0, H.itn, H.sorted, H.flen, H.ftar, H.flev, ?_, H.slen, ?_, ?_, ?_, ?_⟩
      · simp only [moveL, List.length_append, List.length_cons, List.length_nil]; omega
      · intro z hz
        rcases hm z hz with hz | rfl
        · exact H.open0 z hz
        · exact ht
      · intro z hz
        rcases hm z hz with hz | rfl
        · exact H.wt z hz
        · simp only [newM]; omega
      · intro z hz
        rcases hm z hz with hz | rfl
        · exact H.vlen z hz
        · simp [newM]
      · intro z hz
        rcases hm z hz with hz | rfl
        · exact H.known z hz
        · show (knownOf own x.a).isSome; rw [hk]; rfl
    · cases he
  rw [if_neg k2] at he ⊢
  by_cases k3 : x.kind = 3
  · rw [if_pos k3] at he ⊢
    unfold voteE at he
    split at he
    · rename_i hh
      obtain ⟨hm, -, -⟩ := motD_mem hh
      have h1 := h.open0 _ hm
      have h2 := h.wt _ hm
      have h3 := h.vlen _ hm
      have h5 := wOf_bd hc x.b
      refine setM_ok h _ h1 ?_ ?_ (show (knownOf own (voteM c (motD own x.a) x).target).isSome from h.known (motD own x.a) hm)
      · unfold voteM
        cases x.yes <;> simp only [Bool.false_eq_true, if_true, if_false] <;> omega
      · simp [voteM]; omega
    · split at he <;> cases he
  rw [if_neg k3] at he ⊢
  by_cases k4 : x.kind = 4
  · rw [if_pos k4] at he
    unfold closeE at he
    split at he
    · rename_i hh
      obtain ⟨hm, -, -⟩ := motD_mem hh
      have h1 := h.open0 _ hm
      have h2 := h.wt _ hm
      have h3 := h.vlen _ hm
      refine setM_ok h _ h1 ?_ (by simp only [closeM]; omega) (show (knownOf own (closeM c own (motD own x.a)).target).isSome from h.known (motD own x.a) hm)
      simp only [closeM]
      omega
    · split at he <;> cases he
  rw [if_neg k4] at he
  cases he
theorem led_put (h : House) (d e : Bool) (l : Ledger) : (h.put d l).led e = if e = d then l else h.led e := by
  cases d <;> cases e <;> rfl
theorem deedL_items (c : Council) (own : Ledger) (x : CItem) : (deedL c own x).items = own.items := by
  unfold deedL
  split
  · rfl
  split
  · rfl
  split <;> rfl
theorem oneMore_ok {c : Council} {n : Nat} {l : Ledger} (h : LedOk c (n + 1) l) (h0 : l.items ≤ n) : LedOk c (n + 1) (oneMore l) :=
  ⟨by have := h.it0; simp only [oneMore]; omega, by simp only [oneMore]; omega, h.sorted, h.flen, h.ftar, h.flev, h.mlen, h.slen, h.open0, h.wt, h.vlen, h.known⟩
theorem do_ok {c : Council} {n : Nat} {h : House} {x : CItem} (hc : CouncilOk c) (hh : HouseOk c n h) (he : doE c h x = 0) : HouseOk c (n + 1) (doH c h x) := by
  unfold doE at he
  split at he
  · cases he
  split at he
  · cases he
  rename_i h1 h2
  have hd := deed_ok hc (hh.led x.drill) (by omega) he
  have ho := oneMore_ok hd (by rw [deedL_items]; exact (hh.led x.drill).itn)
  refine ⟨by simp only [doH]; omega, by simp only [doH]; omega, fun e => ?_⟩
  have e1 : (doH c h x).led e = (h.put x.drill (oneMore (deedL c (h.led x.drill) x))).led e := by cases e <;> rfl
  rw [e1, led_put]
  split
  · exact ho
  · exact (hh.led e).mono (Nat.le_succ n)
end Go.Proofs.YtogpgnljomchcaaGreat
