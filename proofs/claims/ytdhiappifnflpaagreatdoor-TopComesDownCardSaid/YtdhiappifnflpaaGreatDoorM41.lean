/- Plain laws: the harm of a blow at a cell; the toll of a stretch and its worst cell. The harm of a blow in a layer: grades and a land, a place, the harm there. -/
import Derived.Test.YtdhiappifnflpaaGreatDoorM39
import Derived.Test.YtdhiappifnflpaaGreatDoorM40
import Derived.Laws.EntriesVeiled
set_option maxRecDepth 100000
set_option maxHeartbeats 1000000
namespace Go.Proofs.YtdhiappifnflpaaGreatDoor.Bl
open Go.RowKit
def harmsOf (n:Nat) (gs:List Grade) (ps:List Int) (bs:List Bool) (layer en:Int) (a:Nat):Int:=
 if layer<n then harmOf ps a (min (max 0 (reachOf en gs 0-(n-layer))) 400).toNat
 else if bs[a]?=some true then waveOf ps bs a (min (reachOf en gs 0) 400).toNat
 else harmOf ps a (min (reachOf en gs 0) 400).toNat
theorem harmsOf_mono {n:Nat} {gs:List Grade} {ps:List Int} {bs:List Bool} (hg:GradesOk gs) (hl:LandOk ps bs.length) {layer en en':Int} {a:Nat} (ha:a<ps.length) (h:en≤en'):harmsOf n gs ps bs layer en a≤harmsOf n gs ps bs layer en' a:=by
 have hr:=reach_mono h gs 0 (fun x hx=>(hg.rng x hx).2.2.1) hg.inc;have hp:NonNeg ps:=hl.p;unfold harmsOf;split
 · exact harm_mono hp ha oM
 ·
  split
  · exact wave_mono hp hl.m ha oM
  · exact harm_mono hp ha oM
theorem harm_nonneg {ps:List Int} (h:NonNeg ps) {a:Nat} (ha:a<ps.length) (F:Nat):0≤harmOf ps a F:=by
 have h1:=harm_own h ha F;have h2:=h ps[a] (List.getElem_mem ha);omega
theorem harmsOf_nonneg {n:Nat} {gs:List Grade} {ps:List Int} {bs:List Bool} (hl:LandOk ps bs.length) {layer en:Int} {a:Nat} (ha:a<ps.length):0≤harmsOf n gs ps bs layer en a:=by
 have hp:NonNeg ps:=hl.p;unfold harmsOf;split
 · exact harm_nonneg hp ha _
 ·
  split
  · exact wave_nonneg hp hl.m ha _
  · exact harm_nonneg hp ha _
structure TS where
 lo:Int
 hi:Int
 wo:Nat
def tStep (a:Nat) (l u:Int) (s:TS):TS:=⟨if s.lo<0∨l<s.lo then l else s.lo,if s.hi<u then u else s.hi,if s.hi<u then a else s.wo⟩
def tCell (H:Int→Int→Nat→Int) (a:Nat):List Blow→TS→TS
 | [],s=>s
 | b::bl,s=>tCell H a bl (tStep a (H b.layer b.lo a) (H b.layer b.hi a) s)
def tRun (H:Int→Int→Nat→Int) (bl:List Blow):Nat→Nat→TS→TS
 | 0,_,s=>s
 | n+1,a,s=>tRun H bl n (a+1) (tCell H a bl s)
def tollOf (H:Int→Int→Nat→Int) (bl:List Blow) (a b:Nat):TS:=tRun H bl (b+1-a) a ⟨-1,-1,a⟩
theorem tRun_succ (H:Int→Int→Nat→Int) (bl:List Blow) (a b:Nat) (h:a≤b) (s:TS):tRun H bl (b+1-a) a s=tRun H bl (b+1-(a+1)) (a+1) (tCell H a bl s):=by
 rw[show b+1-a=(b+1-(a+1))+1 by omega];rfl
theorem tCell_cons (H:Int→Int→Nat→Int) (a:Nat) (b:Blow) (bl:List Blow) (s:TS):tCell H a (b::bl) s=tCell H a bl (tStep a (H b.layer b.lo a) (H b.layer b.hi a) s):=rfl
structure Good (H:Int→Int→Nat→Int) (done:Nat→Blow→Prop) (s:TS):Prop where
 all:∀ a b,done a b→s.lo≤H b.layer b.lo a∧H b.layer b.hi a≤s.hi
 lo:∃ a b,done a b∧s.lo=H b.layer b.lo a
 hi:∃ b,done s.wo b∧s.hi=H b.layer b.hi s.wo
 first:∀ a b,done a b→a<s.wo→H b.layer b.hi a<s.hi
theorem Good.same {H:Int→Int→Nat→Int} {done done':Nat→Blow→Prop} {s:TS} (h:Good H done s) (e:∀ a b,done a b↔done' a b):Good H done' s:=by
 obtain⟨h1,⟨x,y,h2,h2'⟩,⟨z,h3,h3'⟩,h4⟩:=h;exact⟨fun a b d=>h1 a b ((e a b).2 d),⟨x,y,(e _ _).1 h2,h2'⟩,⟨z,(e _ _).1 h3,h3'⟩,fun a b d=>h4 a b ((e a b).2 d)⟩
theorem Good.step {H:Int→Int→Nat→Int} {done:Nat→Blow→Prop} {s:TS} (h:Good H done s) (hs:0≤s.lo) (a:Nat) (b:Blow) (ha:∀ a' b',done a' b'→a'≤a) :
  Good H (fun a' b'=>done a' b'∨(a'=a∧b'=b)) (tStep a (H b.layer b.lo a) (H b.layer b.hi a) s):=by
 obtain⟨h1,⟨x,y,h2,h2'⟩,⟨z,h3,h3'⟩,h4⟩:=h;have hwo:=ha _ _ h3;refine⟨?_,?_,?_,?_⟩
 ·
  rintro a' b' (d|⟨rfl,rfl⟩)
  ·
   have:=h1 a' b' d;simp only[tStep];constructor<;>split<;>omega
  ·
   simp only[tStep];constructor<;>split<;>omega
 ·
  simp only[tStep];by_cases hc:s.lo<0∨H b.layer b.lo a<s.lo
  · rw[if_pos hc];exact⟨a,b,.inr ⟨rfl,rfl⟩,rfl⟩
  · rw[if_neg hc];exact⟨x,y,.inl h2,h2'⟩
 ·
  simp only[tStep];by_cases hc:s.hi<H b.layer b.hi a
  · exact⟨b,.inr ⟨if_pos hc,rfl⟩,by rw[if_pos hc,if_pos hc]⟩
  · exact⟨z,.inl (by rw[if_neg hc];exact h3),by rw[if_neg hc,if_neg hc];exact h3'⟩
 ·
  intro a' b' d hlt;by_cases hc:s.hi<H b.layer b.hi a
  ·
   simp only[tStep,if_pos hc] at hlt ⊢;rcases d with d|⟨rfl,rfl⟩
   · have:=(h1 a' b' d).2;omega
   · omega
  ·
   simp only[tStep,if_neg hc] at hlt ⊢;rcases d with d|⟨rfl,rfl⟩
   · exact h4 a' b' d hlt
   · omega
def GoodO (H:Int→Int→Nat→Int) (a0:Nat) (done:Nat→Blow→Prop) (s:TS):Prop:=(Good H done s∧0≤s.lo)∨(s=⟨-1,-1,a0⟩∧∀ a b,¬ done a b)
theorem GoodO.same {H:Int→Int→Nat→Int} {a0:Nat} {done done':Nat→Blow→Prop} {s:TS} (h:GoodO H a0 done s) (e:∀ a b,done a b↔done' a b):GoodO H a0 done' s:=by
 rcases h with⟨h,h0⟩|⟨h,h0⟩
 · exact .inl ⟨h.same e,h0⟩
 · exact .inr ⟨h,fun a b d=>h0 a b ((e a b).2 d)⟩
theorem GoodO.step {H:Int→Int→Nat→Int} {a0:Nat} {done:Nat→Blow→Prop} {s:TS} (h:GoodO H a0 done s) (a:Nat) (b:Blow) (ha:∀ a' b',done a' b'→a'≤a) (h0:0≤H b.layer b.lo a) (h1:0≤H b.layer b.hi a) :
  GoodO H a0 (fun a' b'=>done a' b'∨(a'=a∧b'=b)) (tStep a (H b.layer b.lo a) (H b.layer b.hi a) s):=by
 left
 rcases h with⟨h,hs⟩|⟨rfl,hn⟩
 ·
  refine⟨h.step hs a b ha,?_⟩;simp only[tStep];split<;>omega
 ·
  have e:tStep a (H b.layer b.lo a) (H b.layer b.hi a) ⟨-1,-1,a0⟩=⟨H b.layer b.lo a,H b.layer b.hi a,a⟩:=by
   simp only[tStep];rw[if_pos oM,if_pos oM,if_pos oM]
  rw[e];refine⟨⟨?_,⟨a,b,.inr ⟨rfl,rfl⟩,rfl⟩,⟨b,.inr ⟨rfl,rfl⟩,rfl⟩,?_⟩,h0⟩
  ·
   rintro a' b' (d|⟨rfl,rfl⟩)
   · exact absurd d (hn _ _)
   · exact⟨Int.le_refl _,Int.le_refl _⟩
  ·
   rintro a' b' (d|⟨rfl,rfl⟩) hlt
   · exact absurd d (hn _ _)
   · exact absurd hlt (Nat.lt_irrefl _)
theorem GoodO.cell {H:Int→Int→Nat→Int} {a0 a:Nat}:∀ (bl:List Blow) {done:Nat→Blow→Prop} {s:TS},GoodO H a0 done s→(∀ a' b',done a' b'→a'≤a)→(∀ b∈bl,0≤H b.layer b.lo a∧0≤H b.layer b.hi a) →
  GoodO H a0 (fun a' b'=>done a' b'∨(a'=a∧b'∈bl)) (tCell H a bl s)
 | [],done,s,h,_,_=>h.same fun a b=>by simp
 | b::bl,done,s,h,ha,h0=>by
  rw[tCell_cons];have h1:=h.step a b ha (h0 b List.mem_cons_self).1 (h0 b List.mem_cons_self).2;refine(GoodO.cell bl h1 ?_ fun c hc=>h0 c (List.mem_cons_of_mem _ hc)).same fun a' b'=>?_
  ·
   rintro a' b' (d|⟨rfl,rfl⟩)
   · exact ha _ _ d
   · exact Nat.le_refl _
  ·
   rw[List.mem_cons];constructor
   ·
    rintro ((h|⟨h1,h2⟩)|⟨h1,h2⟩)
    · exact .inl h
    · exact .inr ⟨h1,.inl h2⟩
    · exact .inr ⟨h1,.inr h2⟩
   ·
    rintro (h|⟨h1,h2|h2⟩)
    · exact .inl (.inl h)
    · exact .inl (.inr ⟨h1,h2⟩)
    · exact .inr ⟨h1,h2⟩
theorem GoodO.run {H:Int→Int→Nat→Int} {a0:Nat} (bl:List Blow):∀ (n a:Nat) {done:Nat→Blow→Prop} {s:TS},GoodO H a0 done s→(∀ a' b',done a' b'→a'≤a)→(∀ a',a≤a'→a'<a+n→∀ b∈bl,0≤H b.layer b.lo a'∧0≤H b.layer b.hi a') →
  GoodO H a0 (fun a' b'=>done a' b'∨((a≤a'∧a'<a+n)∧b'∈bl)) (tRun H bl n a s)
 | 0,a,done,s,h,_,_=>h.same fun a' b=>⟨.inl,fun h=>h.elim id fun h=>absurd h.1 oM⟩
 | n+1,a,done,s,h,ha,h0=>by
  have h1:=h.cell bl ha (h0 a (Nat.le_refl _) oM);refine(GoodO.run bl n (a+1) h1 ?_ fun a' h2 h3=>h0 a' oM oM).same fun a' b'=>?_
  ·
   rintro a' b' (d|⟨rfl,_⟩)
   · have:=ha _ _ d;omega
   · omega
  ·
   constructor
   ·
    rintro ((h|⟨rfl,h2⟩)|⟨h1,h2⟩)
    · exact .inl h
    · exact .inr ⟨by omega,h2⟩
    · exact .inr ⟨by omega,h2⟩
   ·
    rintro (h|⟨h1,h2⟩)
    · exact .inl (.inl h)
    ·
     rcases Nat.lt_or_ge a a' with h3|h3
     · exact .inr ⟨by omega,h2⟩
     · exact .inl (.inr ⟨by omega,h2⟩)
theorem tollOf_good {H:Int→Int→Nat→Int} {bl:List Blow} {a b:Nat} (hab:a≤b) (hbl:0<bl.length) (h0:∀ a',a≤a'→a'≤b→∀ x∈bl,0≤H x.layer x.lo a'∧0≤H x.layer x.hi a') :
  Good H (fun a' x=>(a≤a'∧a'≤b)∧x∈bl) (tollOf H bl a b)∧0≤(tollOf H bl a b).lo:=by
 have h:=(GoodO.run (H:=H) (a0:=a) bl (b+1-a) a (done:=fun _ _=>False) (s:=⟨-1,-1,a⟩) (.inr ⟨rfl,fun _ _ h=>h⟩) (fun _ _ h=>h.elim) fun a' h1 h2=>h0 a' h1 oM).same (done':=fun a' x=>(a≤a'∧a'≤b)∧x∈bl) fun a' x=>by
  constructor
  ·
   rintro (h|⟨h1,h2⟩)
   · exact h.elim
   · exact⟨by omega,h2⟩
  ·
   rintro ⟨h1,h2⟩;exact .inr ⟨by omega,h2⟩
 rcases h with h|⟨_,h⟩
 · exact h
 · exact absurd ⟨⟨Nat.le_refl _,hab⟩,List.getElem_mem hbl⟩ (h a bl[0])
theorem Good.inside {H:Int→Int→Nat→Int} {d d':Nat→Blow→Prop} {s s':TS} (h:Good H d s) (h':Good H d' s')
  (hd:∀ a b,d a b→∃ b',d' a b'∧H b'.layer b'.lo a≤H b.layer b.lo a∧H b.layer b.lo a≤H b.layer b.hi a∧H b.layer b.hi a≤H b'.layer b'.hi a):s'.lo≤s.lo∧s.lo≤s.hi∧s.hi≤s'.hi:=by
 obtain⟨a1,b1,h1,h2⟩:=h.lo;obtain⟨b2,h3,h4⟩:=h.hi;obtain⟨c1,e1,e2,e3,e4⟩:=hd _ _ h1;obtain⟨c2,g1,g2,g3,g4⟩:=hd _ _ h3;have k1:=h'.all _ _ e1;have k2:=h'.all _ _ g1;have k3:=h.all _ _ h1;have k4:=h.all _ _ h3;omega
def GroundChk (gs:List Grade) (ps:List Int) (m:Nat) (n:Int):Prop:=(n≠0∧GradesChk gs n)∨(GradesChk gs 0∧LandChk ps m n)
theorem groundChk_one {gs:List Grade} {ps:List Int} {m:Nat} {n k:Int} (h:GroundChk gs ps m n) (g:GroundChk gs ps m k):n=k:=by
 rcases h with⟨h0,h⟩|⟨h0,h⟩<;>rcases g with⟨g0,g⟩|⟨g0,g⟩
 · exact gradesChk_one h g
 · exact absurd (gradesChk_one h g0) h0
 · exact absurd (gradesChk_one g h0) g0
 · exact landChk_one h g
theorem landOk_chk {ps:List Int} {m:Nat} (h:LandChk ps m 0):LandOk ps m:=by
 rcases h with⟨h1,h2⟩|⟨h1,h2⟩|⟨h1,h2⟩|⟨h1,h2,⟨h3,h4⟩|⟨h3,h5,h4⟩⟩
 · exact h2
 · omega
 · omega
 · omega
 · omega
theorem ground_ok {gs:List Grade} {ps:List Int} {m:Nat} (h:GroundChk gs ps m 0):GradesChk gs 0∧LandOk ps m:=by
 rcases h with⟨h0,h⟩|⟨h0,h⟩
 · exact absurd rfl h0
 · exact⟨h0,landOk_chk h⟩
theorem grades_len {gs:List Grade} (h:GradesChk gs 0):1≤gs.length∧gs.length≤32:=by
 rcases h with⟨h1,h2⟩|⟨h1,h2⟩|⟨h1,h2,h3⟩
 · omega
 · omega
 · exact⟨h1,h2⟩
theorem grade_rng {gs:List Grade} (h:GradesChk gs 0):∀ x∈gs,0≤x.reach∧x.reach≤400:=by
 rcases h with⟨h1,h2⟩|⟨h1,h2⟩|⟨h1,h2,⟨_,h⟩|⟨i,hi,h,_⟩⟩
 · omega
 · omega
 ·
  intro x hx;obtain⟨i,hi,rfl⟩:=List.getElem_of_mem hx;have h3:=h i hi;unfold gradeErr at h3;split at h3
  · cases h3
  ·
   rename_i h4;have h5:=Classical.not_not.1 h4;exact(btw_true _ _ _).1 h5.2
 ·
  exfalso
  have h5:gradeErr gs i hi≠some 0:=by
   unfold gradeErr;split
   · intro k;injection k with k;omega
   ·
    generalize (if h:0<i then gs[i-1].energy else -1)=x1;generalize (if h:0<i then gs[i-1].reach else 0)=x2;by_cases hx:gs[i].energy≤x1∨gs[i].reach<x2
    · rw[if_pos hx];intro k;injection k with k;omega
    · rw[if_neg hx];intro k;cases k
  exact h5 h
theorem reach_rng (en:Int):∀ (gs:List Grade) (far:Int),(∀ x∈gs,0≤x.reach∧x.reach≤400)→0≤far∧far≤400→0≤reachOf en gs far∧reachOf en gs far≤400
 | [],far,_,h=>h
 | g::gs,far,hg,h=>by
  rw[reach_cons];split
  · exact h
  · exact reach_rng en gs g.reach (fun x hx=>hg x (List.mem_cons_of_mem _ hx)) (hg g List.mem_cons_self)
theorem reach_bd (en:Int) {gs:List Grade} (h:GradesChk gs 0):0≤reachOf en gs 0∧reachOf en gs 0≤400:=reach_rng en gs 0 (grade_rng h) ⟨by omega,by omega⟩
theorem blast_ground_any (Ag:Option Addr) (cg:Nat) (gs:List Grade) (A A':Option Addr) (c m c':Nat) (ps:List Int) (w:World) (hg:Rd none w 2 encGrade Ag gs.length gs) (h:Rd none w 1 encI A ps.length ps) :
  Calls Tryz.prog 65 #[.slice Ag gs.length cg,.agg #[.slice A ps.length c,.slice A' m c']] w fun e w'=>(∃ n,e=.returned (.int .i64 n)∧GroundChk gs ps m n)∧Kp w.heap.size none w w':=by
 have K0:=(Kp.refl w.heap.size none w).alloc (Nat.le_refl _) (.cells #[.slice A ps.length c,.slice A' m c'] 65);have B0:=Blk.new w 65 #[.slice A ps.length c,.slice A' m c'];go_enter Tryz.func65,Tryz.ntmps65
 go_wp2_with fail
 refine(blast_CheckGrades_any Ag cg gs _ (hg.kpN K0)).mono ?_;rintro e w1 ⟨⟨n,rfl,hn⟩,k1⟩;have K1:=K0.tN k1;have B1:=B0.kpN k1;have cB:=B1.cell;clear k1 B0 K0 hg;by_cases hn0:n=0
 ·
  subst hn0;replace hn:=Lib.hid hn;go_wp2_with fail
  refine(blast_CheckLand_any A A' c m c' ps _ (h.kpN K1)).mono ?_;rintro e w2 ⟨⟨n,rfl,hl⟩,k2⟩;have K2:=K1.tN k2;replace hl:=Lib.hid hl;clear k2 h B1 cB K1;go_wp2
  exact bodyPost_ret (by simp[results,Tryz.results65,go_sem]) rfl ⟨⟨n,rfl,.inr ⟨hn.out,hl.out⟩⟩,K2⟩
 ·
  have hx:=Lib.hid (show GroundChk gs ps m n from .inl ⟨hn0,hn⟩);clear hn h;go_wp2
  exact bodyPost_ret (by simp[results,Tryz.results65,go_sem]) rfl ⟨⟨n,rfl,hx.out⟩,K1⟩
def groundFn (bs:List Bool) (a:Nat):Value:=.func (.func (if bs[a]?=some true then 113 else 112)) #[] #[]
theorem blast_of_any (A A':Option Addr) (c c' n:Nat) (bs:List Bool) (a:Nat) (w:World) (hb:Rd none w 1 encB A' bs.length bs) (ha:a<bs.length) :
  Calls Tryz.prog 66 #[.agg #[.slice A n c,.slice A' bs.length c'],a] w fun e w'=>e=.returned (.agg #[.slice A n c,.slice A' bs.length c',a,groundFn bs a])∧Kp w.heap.size none w w':=by
 have K0:=(Kp.refl w.heap.size none w).alloc (Nat.le_refl _) (.cells #[.slice A n c,.slice A' bs.length c'] 65);have B0:=Blk.new w 65 #[.slice A n c,.slice A' bs.length c'];have hb0:=hb.kpN K0;obtain⟨b,o,rfl,hlt,-,hcl⟩:=hb0.at_ oM;have c0:(w.alloc (.cells #[.slice A n c,.slice (some ⟨b,o,none⟩) bs.length c'] 65)).cell? ⟨b,o+a,none⟩=some (.bool bs[a]):=Rd.cell1 (fun _=>rfl) hcl a ha;have hq:bs[a]?=some bs[a]:=List.getElem?_eq_getElem ha;have hai:(a:Int)<(bs.length:Int):=by omega
 generalize hw0:w.alloc (.cells #[.slice A n c,.slice (some ⟨b,o,none⟩) bs.length c'] 65)=w0 at K0 B0 c0 hlt;have K1:=K0.alloc K0.size (.cells #[.slice none 0 0,.slice none 0 0,(0:Int),.nilFunc] 141);have P1:=Blk.new w0 141 #[.slice none 0 0,.slice none 0 0,(0:Int),.nilFunc];have B1:=B0.alloc (.cells #[.slice none 0 0,.slice none 0 0,(0:Int),.nilFunc] 141);have c1:=(World.cell?_alloc_lt w0 (.cells #[.slice none 0 0,.slice none 0 0,(0:Int),.nilFunc] 141) ⟨b,o+a,none⟩ hlt).trans c0;generalize bs[a]=q at c0 c1 hq;have hfn:groundFn bs a=.func (.func (if q=true then 113 else 112)) #[] #[]:=by unfold groundFn;rw[hq];cases q<;>rfl
 rw[hfn];clear hb hb0 hcl hfn hq;have cB:=B1.cell;have cP:=P1.cell;have P2:=P1.alloc (.cells #[.slice A n c,.slice (some ⟨b,o,none⟩) bs.length c',a,.func (.func 112) #[] #[]] 141);have B2:=B1.alloc (.cells #[.slice A n c,.slice (some ⟨b,o,none⟩) bs.length c',a,.func (.func 112) #[] #[]] 141);have R2:=Blk.newAt (w0.alloc (.cells #[.slice none 0 0,.slice none 0 0,(0:Int),.nilFunc] 141)) 141 #[.slice A n c,.slice (some ⟨b,o,none⟩) bs.length c',a,.func (.func 112) #[] #[]] (n:=w0.heap.size+1) (by simp);have c2:=(World.cell?_alloc_lt (w0.alloc (.cells #[.slice none 0 0,.slice none 0 0,(0:Int),.nilFunc] 141)) (.cells #[.slice A n c,.slice (some ⟨b,o,none⟩) bs.length c',a,.func (.func 112) #[] #[]] 141) ⟨b,o+a,none⟩ (by simp;omega)).trans c1;have K2:=K1.alloc K1.size (.cells #[.slice A n c,.slice (some ⟨b,o,none⟩) bs.length c',a,.func (.func 112) #[] #[]] 141);have hk0:=K0.size;have c3:=P2.cell;have c4:=B2.cell;have c5:=R2.cell;have f3:=P2.frozen;have f5:=R2.frozen;go_enter Tryz.func66,Tryz.ntmps66
 cases q
 ·
  go_wp2
  have c9:=fun i=>((Blk.new w0 141 #[.slice A n c,.slice (some ⟨b,o,none⟩) bs.length c',a,.func (.func 112) #[] #[]]).alloc (.cells #[.slice A n c,.slice (some ⟨b,o,none⟩) bs.length c',a,.func (.func 112) #[] #[]] 141)).cell i;have K9:=(K0.alloc K0.size (.cells #[.slice A n c,.slice (some ⟨b,o,none⟩) bs.length c',a,.func (.func 112) #[] #[]] 141)).alloc (alloc_ge K0.size _) (.cells #[.slice A n c,.slice (some ⟨b,o,none⟩) bs.length c',a,.func (.func 112) #[] #[]] 141);exact bodyPost_ret (v:=.agg #[.slice A n c,.slice (some ⟨b,o,none⟩) bs.length c',a,.func (.func 112) #[] #[]]) (by simp[results,Tryz.results66,go_sem,c9]) rfl ⟨rfl,K9⟩
 ·
  go_wp2
  have c9:=fun i=>((Blk.new w0 141 #[.slice A n c,.slice (some ⟨b,o,none⟩) bs.length c',a,.func (.func 113) #[] #[]]).alloc (.cells #[.slice A n c,.slice (some ⟨b,o,none⟩) bs.length c',a,.func (.func 113) #[] #[]] 141)).cell i;have K9:=(K0.alloc K0.size (.cells #[.slice A n c,.slice (some ⟨b,o,none⟩) bs.length c',a,.func (.func 113) #[] #[]] 141)).alloc (alloc_ge K0.size _) (.cells #[.slice A n c,.slice (some ⟨b,o,none⟩) bs.length c',a,.func (.func 113) #[] #[]] 141);exact bodyPost_ret (v:=.agg #[.slice A n c,.slice (some ⟨b,o,none⟩) bs.length c',a,.func (.func 113) #[] #[]]) (by simp[results,Tryz.results66,go_sem,c9]) rfl ⟨rfl,K9⟩
def placeHarm (gs:List Grade) (ps:List Int) (bs:List Bool) (a ab:Nat) (en:Int):Int:=
 if ab=0 then (if bs[a]?=some true then waveOf ps bs a (min (reachOf en gs 0) 400).toNat else harmOf ps a (min (reachOf en gs 0) 400).toNat)
 else harmOf ps a (min (max 0 (reachOf en gs 0-ab)) 400).toNat
theorem placeHarm_of {gs:List Grade} {ps:List Int} {bs:List Bool} {a n:Nat} {layer en:Int} (h1:layer≤n):placeHarm gs ps bs a ((n:Int)-layer).toNat en=harmsOf n gs ps bs layer en a:=by
 unfold placeHarm harmsOf;by_cases h:layer<n
 · rw[if_neg oM,if_pos h,Int.toNat_of_nonneg oM]
 · rw[if_pos oM,if_neg h]
theorem place_harms_any (Ag:Option Addr) (cg:Nat) (gs:List Grade) (A A':Option Addr) (c c':Nat) (ps:List Int) (bs:List Bool) (a ab:Nat) (en:Int) (w:World) (hg:Rd none w 2 encGrade Ag gs.length gs) (h:Rd none w 1 encI A ps.length ps) (hb:Rd none w 1 encB A' bs.length bs)
  (hgk:GradesChk gs 0) (hok:LandOk ps bs.length) (hc:ps.length≤c) (ha:a<ps.length) (hab:ab≤32) :
  Calls Tryz.prog 67 #[.agg #[.slice A ps.length c,.slice A' bs.length c',a,groundFn bs a],.slice Ag gs.length cg,ab,en] w fun e w'=>e=.returned (.int .i64 (placeHarm gs ps bs a ab en))∧Kp w.heap.size none w w':=by
 have hgl:=(grades_len hgk).2;obtain⟨R,hR⟩:∃ R,R=reachOf en gs 0:=⟨_,rfl⟩;have hRb:0≤R∧R≤400:=hR ▸ reach_bd en hgk;have hpl:placeHarm gs ps bs a ab en=if ab=0 then (if bs[a]?=some true then waveOf ps bs a (min R 400).toNat else harmOf ps a (min R 400).toNat) else harmOf ps a (min (max 0 (R-ab)) 400).toNat:=by unfold placeHarm;rw[hR]
 obtain⟨V,hV⟩:∃ V,V=placeHarm gs ps bs a ab en:=⟨_,rfl⟩;rw[← hV];rw[hpl] at hV;clear hpl;have hal:a<bs.length:=by rw[hok.m];exact ha
 unfold groundFn;obtain⟨F,hF⟩:∃ F,F=(if bs[a]?=some true then 113 else 112):=⟨_,rfl⟩;rw[← hF];rw[List.getElem?_eq_getElem hal] at hF hV;generalize bs[a]=q at hF hV;have K0:=(Kp.refl w.heap.size none w).alloc (Nat.le_refl _) (.cells #[.slice A ps.length c,.slice A' bs.length c',a,.func (.func F) #[] #[]] 141);have B0:=Blk.new w 141 #[.slice A ps.length c,.slice A' bs.length c',a,.func (.func F) #[] #[]];have hg0:=hg.kpN K0;replace hR:=Lib.hid hR;replace hok:=Lib.hid hok;replace hgk:=Lib.hid hgk;replace hF:=Lib.hid hF;replace hV:=Lib.hid hV;go_enter Tryz.func67,Tryz.ntmps67
 go_wp2_with fail
 refine mK (blast_reach_any Ag cg gs en _ hg0 hgl) fun w1 k1=>?_;rw[← hR.out];have K1:=K0.tN k1;have B1:=B0.kpN k1;have h1:=h.kpN K1;have hb1:=hb.kpN K1;clear k1 B0 K0 hg0 hg h hb;have cB:=B1.cell;by_cases h0:ab=0
 ·
  subst h0;cases q
  ·
   obtain rfl:F=112:=hF.out;obtain rfl:V=harmOf ps a (min R 400).toNat:=hV.out;go_wp2_with fail
   refine mK (blast_harm_any A A' c bs.length c' ps a R _ h1 hok.out.l4 hc hok.out.p ha hRb.1) fun w2 k2=>?_;have K2:=K1.tN k2;go_wp2
   exact bodyPost_ret (v:=.int .i64 (harmOf ps a (min R 400).toNat)) (by simp[results,Tryz.results67,go_sem]) rfl ⟨rfl,K2⟩
  ·
   obtain rfl:F=113:=hF.out;obtain rfl:V=waveOf ps bs a (min R 400).toNat:=hV.out;go_wp2_with fail
   refine mK (blast_wave_any A A' c c' ps bs a R _ h1 hb1 hok.out hc ha hRb.1) fun w2 k2=>?_;have K2:=K1.tN k2;go_wp2
   exact bodyPost_ret (v:=.int .i64 (waveOf ps bs a (min R 400).toNat)) (by simp[results,Tryz.results67,go_sem]) rfl ⟨rfl,K2⟩
 ·
  have h0':¬ (ab:Int)=0:=by omega
  have hab':(ab:Int)≤32:=by omega
  obtain rfl:V=harmOf ps a (min (max 0 (R-ab)) 400).toNat:=by rw[hV.out,if_neg h0]
  clear h0;go_wp2_with fail
  refine mK (blast_harm_any A A' c bs.length c' ps a (max 0 (R-ab)) _ h1 hok.out.l4 hc hok.out.p ha oM) fun w2 k2=>?_;have K2:=K1.tN k2;go_wp2
  exact bodyPost_ret (v:=.int .i64 (harmOf ps a (min (max 0 (R-ab)) 400).toNat)) (by simp[results,Tryz.results67,go_sem]) rfl ⟨rfl,K2⟩
def HarmsIs (ls:List Layer) (gs:List Grade) (ps:List Int) (bs:List Bool) (layer en a v n:Int):Prop:=
 (n≠0∧v=0∧AirChk ls n)∨(AirChk ls 0∧n≠0∧v=0∧GroundChk gs ps bs.length n) ∨
 (AirChk ls 0∧GroundChk gs ps bs.length 0∧((¬ (0≤layer∧layer≤ls.length)∧v=0∧n=2)∨((0≤layer∧layer≤ls.length)∧((¬ (0≤a∧a<ps.length)∧v=0∧n=7)∨((0≤a∧a<ps.length)∧v=harmsOf ls.length gs ps bs layer en a.toNat∧n=0)))))
theorem harmsIs_one {ls:List Layer} {gs:List Grade} {ps:List Int} {bs:List Bool} {layer en a v n v' n':Int} (h:HarmsIs ls gs ps bs layer en a v n) (k:HarmsIs ls gs ps bs layer en a v' n'):v=v'∧n=n':=by
 rcases h with⟨h0,rfl,h⟩|⟨h1,h0,rfl,h⟩|⟨h1,h2,h⟩<;>rcases k with⟨k0,rfl,k⟩|⟨k1,k0,rfl,k⟩|⟨k1,k2,k⟩
 · exact⟨rfl,airChk_one h k⟩
 · exact absurd (airChk_one h k1) h0
 · exact absurd (airChk_one h k1) h0
 · exact absurd (airChk_one k h1) k0
 · exact⟨rfl,groundChk_one h k⟩
 · exact absurd (groundChk_one h k2) h0
 · exact absurd (airChk_one k h1) k0
 · exact absurd (groundChk_one k h2) k0
 · rcases h with⟨h3,rfl,rfl⟩|⟨h3,⟨h4,rfl,rfl⟩|⟨h4,rfl,rfl⟩⟩<;>rcases k with⟨k3,rfl,rfl⟩|⟨k3,⟨k4,rfl,rfl⟩|⟨k4,rfl,rfl⟩⟩<;>first|exact⟨rfl,rfl⟩|contradiction
theorem air_len {ls:List Layer} (h:AirChk ls 0):AirOk ls:=by
 rcases h with⟨_,h⟩|⟨h,_⟩|⟨h,_⟩
 · exact h
 · omega
 · omega
theorem blast_Harms_any (Aa:Option Addr) (ca:Nat) (ls:List Layer) (Ag:Option Addr) (cg:Nat) (gs:List Grade) (A A':Option Addr) (c c':Nat) (ps:List Int) (bs:List Bool) (layer en a:Int) (w:World)
  (hl:Rd none w 2 encLayer Aa ls.length ls) (hg:Rd none w 2 encGrade Ag gs.length gs) (h:Rd none w 1 encI A ps.length ps) (hb:Rd none w 1 encB A' bs.length bs) (hc:ps.length≤c) :
  Calls Tryz.prog 23 #[.slice Aa ls.length ca,.slice Ag gs.length cg,.agg #[.slice A ps.length c,.slice A' bs.length c'],layer,en,a] w
   fun e w'=>(∃ v n,e=.returned (.tuple #[.int .i64 v,.int .i64 n])∧HarmsIs ls gs ps bs layer en a v n)∧Kp w.heap.size none w w':=by
 have K0:=(Kp.refl w.heap.size none w).alloc (Nat.le_refl _) (.cells #[.slice A ps.length c,.slice A' bs.length c'] 65);have B0:=Blk.new w 65 #[.slice A ps.length c,.slice A' bs.length c'];go_enter Tryz.func23,Tryz.ntmps23
 go_wp2_with fail
 refine(blast_CheckAir_any Aa ca ls _ (hl.kpN K0)).mono ?_;rintro e w1 ⟨⟨n,rfl,hn⟩,k1⟩;have K1:=K0.tN k1;have B1:=B0.kpN k1;clear k1 K0 B0 hl;by_cases hn0:n=0
 case neg=>
  have hx:=Lib.hid (show HarmsIs ls gs ps bs layer en a 0 n from .inl ⟨hn0,rfl,hn⟩);clear hn hg h hb B1;go_wp2
  exact bodyPost_ret (v:=.tuple #[(0:Int),.int .i64 n]) (by simp[results,Tryz.results23,go_sem]) rfl ⟨⟨0,n,rfl,hx.out⟩,K1⟩
 subst hn0;have hll:=(air_len hn).1;replace hn:=Lib.hid hn;have cB:=B1.cell;go_wp2_with fail
 refine(blast_ground_any Ag cg gs A A' c bs.length c' ps _ (hg.kpN K1) (h.kpN K1)).mono ?_;rintro e w2 ⟨⟨n,rfl,hgk⟩,k2⟩;have K2:=K1.tN k2;replace B1:=B1.kpN k2;clear k2 K1 cB;have cB:=B1.cell;by_cases hn0:n=0
 case neg=>
  have hx:=Lib.hid (show HarmsIs ls gs ps bs layer en a 0 n from .inr (.inl ⟨hn.out,hn0,rfl,hgk⟩));clear hgk hg h hb B1;go_wp2
  exact bodyPost_ret (v:=.tuple #[(0:Int),.int .i64 n]) (by simp[results,Tryz.results23,go_sem]) rfl ⟨⟨0,n,rfl,hx.out⟩,K2⟩
 subst hn0;replace hgk:=Lib.hid hgk;have hok:=Lib.hid (ground_ok hgk.out);have hpl:=hok.out.2.l4;by_cases hy:0≤layer∧layer≤(ls.length:Int)
 case neg=>
  have hx:=Lib.hid (show HarmsIs ls gs ps bs layer en a 0 2 from .inr (.inr ⟨hn.out,hgk.out,.inl ⟨hy,rfl,rfl⟩⟩));clear hg h hb B1;by_cases hy0:layer<0
  ·
   clear hy;go_wp2
   exact bodyPost_ret (v:=.tuple #[(0:Int),(2:Int)]) (by simp[results,Tryz.results23,go_sem]) rfl ⟨⟨0,2,rfl,hx.out⟩,K2⟩
  ·
   have hy1:(ls.length:Int)<layer:=by omega
   clear hy;go_wp2
   exact bodyPost_ret (v:=.tuple #[(0:Int),(2:Int)]) (by simp[results,Tryz.results23,go_sem]) rfl ⟨⟨0,2,rfl,hx.out⟩,K2⟩
 obtain⟨hy0,hy1⟩:=hy;have hy2:¬ layer<0:=by omega
 have hy3:¬ (ls.length:Int)<layer:=by omega
 by_cases hz:0≤a∧a<(ps.length:Int)
 case neg=>
  have hx:=Lib.hid (show HarmsIs ls gs ps bs layer en a 0 7 from .inr (.inr ⟨hn.out,hgk.out,.inr ⟨⟨hy0,hy1⟩,.inl ⟨hz,rfl,rfl⟩⟩⟩));clear hg h hb;by_cases hz0:a<0
  ·
   clear hz;go_wp2
   exact bodyPost_ret (v:=.tuple #[(0:Int),(7:Int)]) (by simp[results,Tryz.results23,go_sem]) rfl ⟨⟨0,7,rfl,hx.out⟩,K2⟩
  ·
   have hz1:(ps.length:Int)≤a:=by omega
   clear hz;go_wp2
   exact bodyPost_ret (v:=.tuple #[(0:Int),(7:Int)]) (by simp[results,Tryz.results23,go_sem]) rfl ⟨⟨0,7,rfl,hx.out⟩,K2⟩
 obtain⟨hz0,hz1⟩:=hz;obtain⟨a,rfl⟩:=Int.eq_ofNat_of_zero_le hz0;have hal:a<ps.length:=by omega
 have habl:a<bs.length:=by rw[hok.out.2.m];exact hal
 obtain⟨ab,hab⟩:∃ ab:Nat,(ls.length:Int)-layer=ab:=⟨((ls.length:Int)-layer).toNat,by omega⟩;have hab32:ab≤32:=by omega
 have hx:HarmsIs ls gs ps bs layer en a (placeHarm gs ps bs a ab en) 0:=.inr (.inr ⟨hn.out,hgk.out,.inr ⟨⟨hy0,hy1⟩,.inr ⟨⟨hz0,hz1⟩,by
  rw[Int.toNat_natCast,← placeHarm_of hy1,hab,Int.toNat_natCast],rfl⟩⟩⟩)
 replace hx:=Lib.hid hx;have hg2:=hg.kpN K2;have h2:=h.kpN K2;have hb2:=hb.kpN K2;clear hg h hb;go_wp2_with fail
 refine mK (blast_of_any A A' c c' ps.length bs a _ hb2 habl) fun w3 k3=>?_;have K3:=K2.tN k3;replace hg2:=hg2.kpN k3;replace h2:=h2.kpN k3;replace hb2:=hb2.kpN k3;clear k3 cB B1 K2;go_wp2_with fail
 refine mK (place_harms_any Ag cg gs A A' c c' ps bs a ab en _ hg2 h2 hb2 hok.out.1 hok.out.2 hc hal hab32) fun w4 k4=>?_;have K4:=K3.tN k4;clear k4 K3 hg2 h2 hb2;go_wp2
 exact bodyPost_ret (v:=.tuple #[(placeHarm gs ps bs a ab en),(0:Int)]) (by simp[results,Tryz.results23,go_sem]) rfl ⟨⟨_,0,rfl,hx.out⟩,K4⟩
end Go.Proofs.YtdhiappifnflpaaGreatDoor.Bl
