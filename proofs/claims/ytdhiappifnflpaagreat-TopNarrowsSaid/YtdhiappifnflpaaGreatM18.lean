/- Parts of a box, sets, weights and sights in plain Lean: the laws of TopNarrows and TopSightings. No program here. Skies and sights in plain Lean: what the program checks of them, and what a sight says. No program here. slices.IndexFunc, ContainsFunc of boxes, sights, stations, catalogs, cells and numbers. -/
import Derived.Test.YtdhiappifnflpaaGreatM06
import Derived.Test.YtdhiappifnflpaaGreatM17
import Derived.Laws.EntriesVeiled
namespace Go.Proofs.YtdhiappifnflpaaGreat
def getS (b:Bx):Nat→Sp
 | 0=>b.x
 | 1=>b.y
 | 2=>b.u
 | _=>b.v
def setS (b:Bx) (i:Nat) (s:Sp):Bx:=match i with
 | 0=>⟨s,b.y,b.u,b.v⟩
 | 1=>⟨b.x,s,b.u,b.v⟩
 | 2=>⟨b.x,b.y,s,b.v⟩
 | _=>⟨b.x,b.y,b.u,s⟩
def Halves (c x y:Bx):Prop:=∃ (i:Nat) (m:Int),i<4∧(getS c i).lo≤m∧m<(getS c i).hi∧x=setS c i ⟨(getS c i).lo,m⟩∧y=setS c i ⟨m+1,(getS c i).hi⟩
section
variable {c x y:Bx} {s:St}
theorem Halves.cover (h:Halves c x y) (hs:c.has s):x.has s∨y.has s:=by
 obtain⟨i,m,hi,h1,h2,rfl,rfl⟩:=h;match i,hi with
 | 0,_|1,_|2,_|3,_=>simp only[getS,setS,Bx.has,Sp.has] at *;omega
theorem Halves.sub (h:Halves c x y) (hs:x.has s∨y.has s):c.has s:=by
 obtain⟨i,m,hi,h1,h2,rfl,rfl⟩:=h;match i,hi with
 | 0,_|1,_|2,_|3,_=>simp only[getS,setS,Bx.has,Sp.has] at *;omega
theorem Halves.disj (h:Halves c x y) (hx:x.has s) (hy:y.has s):False:=by
 obtain⟨i,m,hi,h1,h2,rfl,rfl⟩:=h;match i,hi with
 | 0,_|1,_|2,_|3,_=>simp only[getS,setS,Bx.has,Sp.has] at *;omega
theorem okBx_iff (b:Bx):okBx b=true↔(b.x.lo≤b.x.hi∧b.y.lo≤b.y.hi∧b.u.lo≤b.u.hi∧b.v.lo≤b.v.hi)∧(-33554432≤b.x.lo∧b.x.hi≤33554432∧-33554432≤b.y.lo∧b.y.hi≤33554432∧-1048576≤b.u.lo∧b.u.hi≤1048576∧-1048576≤b.v.lo∧b.v.hi≤1048576):=by
 simp only[okBx,Bx.ord,okSt,Bool.and_eq_true,decide_eq_true_eq];simp only[Bx.los,Bx.his];constructor
 ·
  rintro ⟨⟨a1,a2,a3,a4⟩,⟨b1,b2,b3,b4,b5,b6,b7,b8⟩,c1,c2,c3,c4,c5,c6,c7,c8⟩;exact⟨⟨a1,a2,a3,a4⟩,b1,c2,b3,c4,b5,c6,b7,c8⟩
 ·
  rintro ⟨⟨a1,a2,a3,a4⟩,b1,c2,b3,c4,b5,c6,b7,c8⟩;refine⟨⟨a1,a2,a3,a4⟩,⟨?_,?_,?_,?_,?_,?_,?_,?_⟩,?_,?_,?_,?_,?_,?_,?_,?_⟩<;>omega
theorem Halves.ok (h:Halves c x y) (hc:okBx c=true):okBx x=true∧okBx y=true:=by
 rw[okBx_iff] at *;rw[okBx_iff];obtain⟨i,m,hi,h1,h2,rfl,rfl⟩:=h;match i,hi with
 | 0,_|1,_|2,_|3,_=>simp only[getS,setS] at *;omega
theorem okBx_los (h:okBx c=true):c.has c.los:=by
 rw[okBx_iff] at h;simp only[Bx.has,Sp.has,Bx.los];omega
end
inductive Part (b:Bx):List Bx→Prop
 | one:Part b [b]
 | cut {p q:List Bx} {c x y:Bx}:Part b (p++c::q)→Halves c x y→Part b (p++x::y::q)
def Apart (c d:Bx):Prop:=∀ s,c.has s→d.has s→False
theorem Part.cover {b:Bx} {l:List Bx} (h:Part b l) {s:St} (hs:b.has s):∃ c∈l,c.has s:=by
 induction h with
 | one=>exact⟨b,by simp,hs⟩
 | cut _ hh ih=>
  obtain⟨c,hc,hcs⟩:=ih;simp only[List.mem_append,List.mem_cons] at hc;rcases hc with h|rfl|h
  · exact⟨c,by simp[h],hcs⟩
  ·
   rcases hh.cover hcs with q|q
   · exact⟨_,by simp,q⟩
   · exact⟨_,by simp,q⟩
  · exact⟨c,by simp[h],hcs⟩
theorem Part.ok {b:Bx} {l:List Bx} (h:Part b l) (hb:okBx b=true):∀ c∈l,okBx c=true:=by
 induction h with
 | one=>intro c hc;simp at hc;rw[hc];exact hb
 | cut _ hh ih=>
  intro c hc;have k:=hh.ok (ih _ (by simp));simp only[List.mem_append,List.mem_cons] at hc;rcases hc with h|rfl|rfl|h
  · exact ih c (by simp[h])
  · exact k.1
  · exact k.2
  · exact ih c (by simp[h])
theorem Part.apart {b:Bx} {l:List Bx} (h:Part b l):l.Pairwise Apart:=by
 induction h with
 | one=>simp
 | cut _ hh ih=>
  rw[List.pairwise_append,List.pairwise_cons] at ih;obtain⟨h1,⟨h2,h3⟩,h4⟩:=ih;rw[List.pairwise_append,List.pairwise_cons,List.pairwise_cons];refine⟨h1,⟨?_,fun d hd s a e=>h2 d hd s (hh.sub (.inr a)) e,h3⟩,?_⟩
  ·
   intro d hd;simp only[List.mem_cons] at hd;rcases hd with rfl|hd
   · exact fun s a e=>hh.disj a e
   · exact fun s a e=>h2 d hd s (hh.sub (.inl a)) e
  ·
   intro a ha d hd;simp only[List.mem_cons] at hd;rcases hd with rfl|rfl|hd
   · exact fun s e f=>h4 a ha _ (by simp) s e (hh.sub (.inl f))
   · exact fun s e f=>h4 a ha _ (by simp) s e (hh.sub (.inr f))
   · exact h4 a ha d (by simp[hd])
theorem Part.nodup {b:Bx} {l:List Bx} (h:Part b l) (hb:okBx b=true):l.Nodup:=by
 have k:=h.ok hb;refine List.Pairwise.imp_of_mem (fun {c d} hc _ a=>?_) h.apart;rintro rfl;exact a _ (okBx_los (k c hc)) (okBx_los (k c hc))
def sumIf (f:Bx→Bool):List (Bx × Int)→Int
 | []=>0
 | p::r=>(if f p.1 then p.2 else 0)+sumIf f r
theorem sumIf_nonneg {f:Bx→Bool}:∀ {l:List (Bx × Int)},(∀ p∈l,0≤p.2)→0≤sumIf f l
 | [],_=>Int.le_refl _
 | p::r,h=>by
  have:=sumIf_nonneg (f:=f) (l:=r) fun q hq=>h q (by simp[hq]);have:=h p (by simp);unfold sumIf;split<;>omega
theorem sumIf_filter {f g:Bx→Bool}:∀ {l:List (Bx × Int)},(∀ p∈l,0≤p.2)→sumIf f (l.filter fun p=>g p.1)≤sumIf f l
 | [],_=>Int.le_refl _
 | p::r,h=>by
  have k:=sumIf_filter (f:=f) (g:=g) (l:=r) fun q hq=>h q (by simp[hq]);have:=h p (by simp);rw[List.filter_cons];split
  · simp only[sumIf];omega
  · simp only[sumIf];split<;>omega
theorem sumIf_mem {f:Bx→Bool}:∀ {l:List (Bx × Int)},(∀ p∈l,0≤p.2)→∀ p∈l,f p.1=true→p.2≤sumIf f l
 | [],_,p,hp,_=>by simp at hp
 | q::r,h,p,hp,hf=>by
  have k:=sumIf_nonneg (f:=f) (l:=r) fun q hq=>h q (by simp[hq]);simp only[List.mem_cons] at hp;rcases hp with rfl|hp
  · simp only[sumIf,hf,if_true];omega
  ·
   have:=sumIf_mem (f:=f) (fun q hq=>h q (by simp[hq])) p hp hf;have:=h q (by simp);simp only[sumIf];split<;>omega
theorem sumIf_two {f g:Bx→Bool}:∀ {l:List (Bx × Int)},(∀ p∈l,0≤p.2)→(∀ c,f c=true→g c=true)→∀ p∈l,f p.1=false→g p.1=true→sumIf f l+p.2≤sumIf g l
 | [],_,_,p,hp,_,_=>by simp at hp
 | q::r,h,hfg,p,hp,hf,hg=>by
  have le:sumIf f r≤sumIf g r:=by
   clear hp;induction r with
   | nil=>exact Int.le_refl _
   | cons a r ih=>
    have k:=ih (fun q' hq'=>h q' (by simp at hq' ⊢;rcases hq' with e|e<;>simp[e]));have:=h a (by simp);simp only[sumIf];by_cases e:f a.1=true
    · rw[if_pos e,if_pos (hfg _ e)];omega
    · rw[if_neg e];split<;>omega
  simp only[List.mem_cons] at hp;rcases hp with rfl|hp
  · simp only[sumIf,hf,hg,if_true,Bool.false_eq_true,if_false];omega
  ·
   have:=sumIf_two (fun q hq=>h q (by simp[hq])) hfg p hp hf hg;have:=h q (by simp);simp only[sumIf];by_cases e:f q.1=true
   · rw[if_pos e,if_pos (hfg _ e)];omega
   · rw[if_neg e];split<;>omega
theorem sumIf_le {f:Bx→Bool} {M:Int} (hM:0≤M):∀ {l:List (Bx × Int)},(∀ p∈l,0≤p.2∧p.2≤M)→sumIf f l≤(l.length:Int) * M
 | [],_=>by simp[sumIf]
 | p::r,h=>by
  have k:=sumIf_le (f:=f) hM (l:=r) fun q hq=>h q (by simp[hq]);have:=h p (by simp);have e:((r.length+1:Nat):Int) * M=(r.length:Int) * M+M:=by push_cast;grind
  rw[List.length_cons,e];simp only[sumIf];split<;>omega
def isHit (W:Wd) (d:Dr) (n:Nat) (t:Int) (c:Bx):Bool:=decide (fateW W d n t c=.hit)
def notMiss (W:Wd) (d:Dr) (n:Nat) (t:Int) (c:Bx):Bool:=decide (fateW W d n t c≠.miss)
def anyB (_:Bx):Bool:=true
def afterL (left:List Bx) (l:List (Bx × Int)):List Int:=l.flatMap fun p=>(left.filter fun c=>decide (c=p.1)).map fun _=>p.2
theorem filter_eq_self {g:Bx→Bool} {c:Bx}:∀ {l:List Bx},l.Nodup→c∈l→((l.filter g).filter fun e=>decide (e=c))=if g c then [c] else []
 | [],_,h=>by simp at h
 | a::r,hn,h=>by
  rw[List.nodup_cons] at hn
  have none:∀ {m:List Bx},c ∉ m→((m.filter g).filter fun e=>decide (e=c))=[]:=fun {m} hm=>by
   rw[List.filter_eq_nil_iff];intro e he;simp only[decide_eq_true_eq];rintro rfl;exact hm (List.mem_filter.1 he).1
  by_cases e:a=c
  ·
   subst e;rw[List.filter_cons];by_cases q:g a=true
   · rw[if_pos q,if_pos q,List.filter_cons,if_pos (by simp),none hn.1]
   · rw[if_neg q,if_neg q,none hn.1]
  ·
   have hc:c∈r:=by simpa [Ne.symm e] using h
   have ih:=filter_eq_self (g:=g) hn.2 hc;rw[List.filter_cons];by_cases q:g a=true
   · rw[if_pos q,List.filter_cons,if_neg (by simpa using e),ih]
   · rw[if_neg q,ih]
theorem afterL_eq {g:Bx→Bool} {l:List (Bx × Int)} (hn:(l.map (·.1)).Nodup):afterL ((l.map (·.1)).filter g) l=(l.filter fun p=>g p.1).map (·.2):=by
 have key:∀ m:List (Bx × Int),(∀ p∈m,p.1∈l.map (·.1))→afterL ((l.map (·.1)).filter g) m=(m.filter fun p=>g p.1).map (·.2):=by
  intro m;induction m with
  | nil=>intro _;rfl
  | cons p r ih=>
   intro h;have e:=filter_eq_self (g:=g) hn (h p (by simp));have ih':=ih fun q hq=>h q (by simp[hq]);unfold afterL at ih' ⊢;rw[List.flatMap_cons,ih',e,List.filter_cons];by_cases q:g p.1=true
   · rw[if_pos q,if_pos q];simp
   · rw[if_neg q,if_neg q];simp
 exact key l fun p hp=>List.mem_map_of_mem hp
theorem map_filter_fst {g:Bx→Bool}:∀ l:List (Bx × Int),(l.map (·.1)).filter g=(l.filter fun p=>g p.1).map (·.1)
 | []=>rfl
 | p::r=>by
  rw[List.map_cons,List.filter_cons,List.filter_cons,map_filter_fst r];split<;>simp
def exclW (W:Wd) (d:Dr) (n:Nat) (t:Int) (b:Bx) (hv:Option (Bx × Bx)):Bool:=
 match fateW W d n t b,hv with
 | .open,some (x,y)=>decide (fateW W d n t x=.miss)&&decide (fateW W d n t y=.miss)
 | k,_=>decide (k=.miss)
def stepAll (W:Wd) (d:Dr) (t:Int):List Bx→Option (List Bx)
 | []=>some []
 | b::r=>match stepW W d t b,stepAll W d t r with
  | some x,some m=>some (x::m)
  | _,_=>none
def updW (W:Wd) (d:Dr) (ex:Int→Bx→Bool):Nat→Int→List Bx→Option (List Bx)
 | 0,t,l=>some (l.filter fun b=>!ex t b)
 | n+1,t,l=>match stepAll W d t (l.filter fun b=>!ex t b) with
  | none=>none
  | some m=>updW W d ex n (t+1) m
end Go.Proofs.YtdhiappifnflpaaGreat
namespace Go.Proofs.YtdhiappifnflpaaGreat
structure Stn where
 id:Int
 ox:Int
 oy:Int
deriving Inhabited
structure Cat where
 ver:Int
 lo:Int
 hi:Int
deriving Inhabited
structure Sky where
 W:Wd
 st:List Stn
 ct:List Cat
structure Sg where
 kind:Int
 stn:Int
 cat:Int
 tick:Int
 dx:Int
 dy:Int
 err:Int
 lo:Int
 hi:Int
def Asc:Int→List Int→Prop
 | _,[]=>True
 | k,n::r=>k<n∧Asc n r
structure Sky.ok (S:Sky):Prop where
 W:S.W.ok
 s0:0<S.st.length
 s1:S.st.length≤3
 sid:Asc 0 (S.st.map (·.id))
 soff:∀ x∈S.st,-40≤x.ox∧x.ox≤40∧-40≤x.oy∧x.oy≤40
 c0:0<S.ct.length
 c1:S.ct.length≤3
 cid:Asc 0 (S.ct.map (·.ver))
 cb:∀ x∈S.ct,-20000≤x.lo∧x.lo≤x.hi∧x.hi≤20000
def Sky.station (S:Sky) (id:Int):Option Stn:=S.st.find? fun x=>decide (x.id=id)
def Sky.catalog (S:Sky) (v:Int):Option Cat:=S.ct.find? fun x=>decide (x.ver=v)
def Sky.okSg (S:Sky) (x:Sg):Prop:=
 (1≤x.kind∧x.kind≤3)∧(0≤x.tick∧x.tick≤1073741824)∧(S.station x.stn).isSome=true ∧
 (x.kind≠2→(S.catalog x.cat).isSome=true∧(-4096≤x.dx∧x.dx≤4096∧-4096≤x.dy∧x.dy≤4096)∧¬ (x.dx=0∧x.dy=0)∧0≤x.err∧x.err≤500000) ∧
 (x.kind=2→0≤x.lo∧x.lo≤x.hi∧x.hi≤134217728)∧(x.kind=3→1≤x.hi∧x.hi≤134217728)
def Sky.from(S:Sky) (x:Sg):Pt:=⟨(S.W.hp x.tick).x+((S.station x.stn).getD default).ox,(S.W.hp x.tick).y+((S.station x.stn).getD default).oy⟩
def Sky.cone (S:Sky) (x:Sg):Cone:=⟨(S.from x).x,(S.from x).y,x.dx,x.dy,((S.catalog x.cat).getD default).lo-x.err,((S.catalog x.cat).getD default).hi+x.err⟩
def Sky.look (S:Sky) (x:Sg):Look:=
 if x.kind=2 then .reach (S.from x).x (S.from x).y x.lo x.hi else if x.kind=1 then .angle (S.cone x) else .empty (S.cone x) x.hi
def nearPl (p:Pt):Bool:=decide (-33554432≤p.x∧p.x≤33554432∧-33554432≤p.y∧p.y≤33554432)
def Sky.exB (S:Sky) (l:List Sg) (t:Int) (b:Bx):Bool:=l.any fun x=>decide (x.tick=t)&&(S.look x).excl b.place
theorem Sky.exB_sound {S:Sky} {l:List Sg} {t:Int} {s:List St} {n:Nat} (h:∀ x∈l,∃ i:Nat,i≤n∧x.tick=t+i∧(S.look x).agrees ⟨(nth s i).x,(nth s i).y⟩=true) (i:Nat) (b:Bx) (hb:b.has (nth s i)):S.exB l (t+i) b=false:=by
 unfold Sky.exB;rw[List.any_eq_false];intro x hx;obtain⟨j,-,ht,ha⟩:=h x hx;rw[Bool.and_eq_true,not_and];intro e;simp only[decide_eq_true_eq] at e;obtain rfl:j=i:=by omega
 have:=excl_sound (a:=b.place) (p:=⟨(nth s j).x,(nth s j).y⟩) ⟨hb.1,hb.2.1⟩ ha;rw[this];decide
theorem Asc.gt {k:Int}:∀ {l:List Int},Asc k l→∀ n∈l,k<n
 | [],_,n,h=>by simp at h
 | m::r,h,n,hn=>by
  simp only[List.mem_cons] at hn;rcases hn with rfl|hn
  · exact h.1
  ·
   have:=Asc.gt h.2 n hn;have:=h.1;omega
end Go.Proofs.YtdhiappifnflpaaGreat
namespace Go.Proofs.YtdhiappifnflpaaGreat
open Go.RowKit
theorem ret_int {a b:Int} (h:a=b):Ending.returned (.int .i64 a)=Ending.returned (.int .i64 b):=by rw[h]
def idxI {α:Type} (p:α→Bool):List α→Int→Int
 | [],_=>-1
 | x::r,k=>if p x then k else idxI p r (k+1)
theorem idx_spec {α:Type} (p:α→Bool):∀ (xs:List α) (k:Int),(idxI p xs k=-1∧xs.find? p=none)∨∃ (i:Nat) (hi:i<xs.length),idxI p xs k=k+i∧xs.find? p=some xs[i]∧p xs[i]=true∧∀ j (hj:j<i),p (xs[j]'(by omega))=false
 | [],k=>.inl ⟨rfl,rfl⟩
 | x::r,k=>by
  unfold idxI;by_cases hx:p x=true
  ·
   rw[if_pos hx];exact .inr ⟨0,by simp,by simp,by simp[hx],by simpa using hx,fun j hj=>absurd hj (by omega)⟩
  ·
   rw[if_neg hx,List.find?_cons_of_neg hx];rcases idx_spec p r (k+1) with⟨h1,h2⟩|⟨i,hi,h1,h2,h3,h4⟩
   · exact .inl ⟨h1,h2⟩
   ·
    refine .inr ⟨i+1,by simpa using hi,by rw[h1];push_cast;omega,by simpa using h2,by simpa using h3,fun j hj=>?_⟩;cases j with
    | zero=>simpa using hx
    | succ j=>simpa using h4 j (by omega)
theorem idx_drop {α:Type} (p:α→Bool) (xs:List α) (i:Nat) (hi:i<xs.length):idxI p (xs.drop i) i=if p xs[i] then (i:Int) else idxI p (xs.drop (i+1)) ((i+1:Nat):Int):=by
 rw[List.drop_eq_getElem_cons hi];rfl
theorem idx_any {α:Type} (p:α→Bool) (xs:List α):decide (0≤idxI p xs 0)=xs.any p:=by
 rcases idx_spec p xs 0 with⟨h1,h2⟩|⟨i,hi,h1,h2,h3,h4⟩
 ·
  rw[h1];rw[List.find?_eq_none] at h2;symm
  simpa using h2
 ·
  rw[h1];have:xs.any p=true:=List.any_eq_true.2 ⟨xs[i],List.getElem_mem hi,h3⟩;rw[this];simp
def PredK {α:Type} (g:Nat) (lb:Array Value) (one:α→Value) (p:α→Bool) (xs:List α) (w:World):Prop:=
 ∀ (W:World) (x:α),x∈xs→Kp w.heap.size none w W→Calls Tryz.prog g (#[one x]++lb) W fun e w'=>e=.returned (.bool (p x))∧Kp W.heap.size none W w'
def IdxF (V:Int) {α:Type} (p:α→Bool) (xs:List α) (w:World) (v:Value) (wr:World):Prop:=∃ i:Nat,v=.int .i64 i∧i≤xs.length∧idxI p (xs.drop i) i=V∧Kp w.heap.size none w wr
structure Cl where
 b:Bx
 k:Int
 p:Int
def encBx (x:Bx):List Value:=[.int .i64 x.x.lo,.int .i64 x.x.hi,.int .i64 x.y.lo,.int .i64 x.y.hi,.int .i64 x.u.lo,.int .i64 x.u.hi,.int .i64 x.v.lo,.int .i64 x.v.hi]
def oneBox (x:Bx):Value:=.agg #[.int .i64 x.x.lo,.int .i64 x.x.hi,.int .i64 x.y.lo,.int .i64 x.y.hi,.int .i64 x.u.lo,.int .i64 x.u.hi,.int .i64 x.v.lo,.int .i64 x.v.hi]
def encSg (x:Sg):List Value:=[.int .i64 x.kind,.int .i64 x.stn,.int .i64 x.cat,.int .i64 x.tick,.int .i64 x.dx,.int .i64 x.dy,.int .i64 x.err,.int .i64 x.lo,.int .i64 x.hi]
def oneSight (x:Sg):Value:=.agg #[.int .i64 x.kind,.int .i64 x.stn,.int .i64 x.cat,.int .i64 x.tick,.int .i64 x.dx,.int .i64 x.dy,.int .i64 x.err,.int .i64 x.lo,.int .i64 x.hi]
def encStn (x:Stn):List Value:=[.int .i64 x.id,.int .i64 x.ox,.int .i64 x.oy]
def oneStation (x:Stn):Value:=.agg #[.int .i64 x.id,.int .i64 x.ox,.int .i64 x.oy]
def encCat (x:Cat):List Value:=[.int .i64 x.ver,.int .i64 x.lo,.int .i64 x.hi]
def oneCatalog (x:Cat):Value:=.agg #[.int .i64 x.ver,.int .i64 x.lo,.int .i64 x.hi]
def oneInt (x:Int):Value:=.int .i64 x
def encCl (x:Cl):List Value:=[.int .i64 x.b.x.lo,.int .i64 x.b.x.hi,.int .i64 x.b.y.lo,.int .i64 x.b.y.hi,.int .i64 x.b.u.lo,.int .i64 x.b.u.hi,.int .i64 x.b.v.lo,.int .i64 x.b.v.hi,.int .i64 x.k,.int .i64 x.p]
def oneCell (x:Cl):Value:=.agg #[.int .i64 x.b.x.lo,.int .i64 x.b.x.hi,.int .i64 x.b.y.lo,.int .i64 x.b.y.hi,.int .i64 x.b.u.lo,.int .i64 x.b.u.hi,.int .i64 x.b.v.lo,.int .i64 x.b.v.hi,.int .i64 x.k,.int .i64 x.p]
set_option maxHeartbeats 400000 in
theorem indexBox_any (g:Nat) (lb:Array Value) (p:Bx→Bool) (eg:∀ args w,(callFunc g args).run Tryz.prog w=.ok (.enter g args) w) (A:Option Addr) (cap:Nat) (xs:List Bx) (w:World)
  (hp:PredK g lb oneBox p xs w) (hr:Rd none w 8 encBx A xs.length xs) (hn:xs.length≤17592186044416) :
  Calls Tryz.prog 91 #[.slice A xs.length cap,.func (.func g) #[] lb] w fun e w'=>e=.returned (.int .i64 (idxI p xs 0))∧Kp w.heap.size none w w':=by
 obtain⟨V,hV⟩:∃ V,V=idxI p xs 0:=⟨_,rfl⟩;rw[← hV];go_enter Tryz.func91,Tryz.ntmps91
 go_wp2_with fail
 go_loopw [8] (fun v wr=>IdxF V p xs w v wr) (fun v _=>xs.length-(intOf v).toNat)
 case atStart=>exact⟨0,rfl,by omega,by rw[hV];rfl,Kp.refl _ _ _⟩
 case round=>
  obtain⟨i,rfl,hi,hj,KK⟩:=hrel;by_cases h7:i<xs.length
  ·
   obtain⟨b,o,rfl,hb,-,hc⟩:=(hr.kpN KK).at_ (by omega);have c0:wr.cell? ⟨b,o+i * 8+0,none⟩=some (.int .i64 xs[i].x.lo):=by rw[Nat.add_assoc];exact hc i h7 0 _ rfl
   have c1:wr.cell? ⟨b,o+i * 8+1,none⟩=some (.int .i64 xs[i].x.hi):=by rw[Nat.add_assoc];exact hc i h7 1 _ rfl
   have c2:wr.cell? ⟨b,o+i * 8+2,none⟩=some (.int .i64 xs[i].y.lo):=by rw[Nat.add_assoc];exact hc i h7 2 _ rfl
   have c3:wr.cell? ⟨b,o+i * 8+3,none⟩=some (.int .i64 xs[i].y.hi):=by rw[Nat.add_assoc];exact hc i h7 3 _ rfl
   have c4:wr.cell? ⟨b,o+i * 8+4,none⟩=some (.int .i64 xs[i].u.lo):=by rw[Nat.add_assoc];exact hc i h7 4 _ rfl
   have c5:wr.cell? ⟨b,o+i * 8+5,none⟩=some (.int .i64 xs[i].u.hi):=by rw[Nat.add_assoc];exact hc i h7 5 _ rfl
   have c6:wr.cell? ⟨b,o+i * 8+6,none⟩=some (.int .i64 xs[i].v.lo):=by rw[Nat.add_assoc];exact hc i h7 6 _ rfl
   have c7:wr.cell? ⟨b,o+i * 8+7,none⟩=some (.int .i64 xs[i].v.hi):=by rw[Nat.add_assoc];exact hc i h7 7 _ rfl
   have hcall:=hp wr xs[i] (List.getElem_mem h7) KK;have hi':(i:Int)<(xs.length:Int):=by omega
   rw[idx_drop p xs i h7] at hj;replace hr:=Lib.hid hr;replace hp:=Lib.hid hp;clear hc;generalize xs[i]=x at c0 c1 c2 c3 c4 c5 c6 c7 hcall hj;simp only[Nat.add_zero] at c0;try simp only[Nat.mul_one] at c0
   unfold oneBox at hcall;cases hq:p x with
   | true=>
    rw[hq] at hcall hj;rw[if_pos rfl] at hj;replace hj:=Lib.hid hj;go_wp2_with (go_at_fn g;refine hcall.mono ?_;rintro e w2 ⟨rfl,k2⟩)
    go_ret
    exact⟨ret_int hj.out,KK.tN k2⟩
   | false=>
    rw[hq] at hcall hj;rw[if_neg (by simp)] at hj;replace hj:=Lib.hid hj;replace h7:=Lib.hid h7;clear hi;go_wp2_with (go_at_fn g;refine hcall.mono ?_;rintro e w2 ⟨rfl,k2⟩)
    go_roundw
    case rel=>exact⟨i+1,rfl,h7.out,hj.out,KK.tN k2⟩
    case measure=>have:=h7.out;simp[intOf];omega
  ·
   have he:i=xs.length:=by omega
   have hi':¬ (i:Int)<(xs.length:Int):=by omega
   rw[he,List.drop_length] at hj;replace hj:=Lib.hid hj;clear h7 hi;subst he;go_wp2
   go_ret
   exact⟨ret_int (hj.out.trans hV),KK⟩
set_option maxHeartbeats 400000 in
theorem indexSight_any (g:Nat) (lb:Array Value) (p:Sg→Bool) (eg:∀ args w,(callFunc g args).run Tryz.prog w=.ok (.enter g args) w) (A:Option Addr) (cap:Nat) (xs:List Sg) (w:World)
  (hp:PredK g lb oneSight p xs w) (hr:Rd none w 9 encSg A xs.length xs) (hn:xs.length≤17592186044416) :
  Calls Tryz.prog 133 #[.slice A xs.length cap,.func (.func g) #[] lb] w fun e w'=>e=.returned (.int .i64 (idxI p xs 0))∧Kp w.heap.size none w w':=by
 obtain⟨V,hV⟩:∃ V,V=idxI p xs 0:=⟨_,rfl⟩;rw[← hV];go_enter Tryz.func133,Tryz.ntmps133
 go_wp2_with fail
 go_loopw [8] (fun v wr=>IdxF V p xs w v wr) (fun v _=>xs.length-(intOf v).toNat)
 case atStart=>exact⟨0,rfl,by omega,by rw[hV];rfl,Kp.refl _ _ _⟩
 case round=>
  obtain⟨i,rfl,hi,hj,KK⟩:=hrel;by_cases h7:i<xs.length
  ·
   obtain⟨b,o,rfl,hb,-,hc⟩:=(hr.kpN KK).at_ (by omega);have c0:wr.cell? ⟨b,o+i * 9+0,none⟩=some (.int .i64 xs[i].kind):=by rw[Nat.add_assoc];exact hc i h7 0 _ rfl
   have c1:wr.cell? ⟨b,o+i * 9+1,none⟩=some (.int .i64 xs[i].stn):=by rw[Nat.add_assoc];exact hc i h7 1 _ rfl
   have c2:wr.cell? ⟨b,o+i * 9+2,none⟩=some (.int .i64 xs[i].cat):=by rw[Nat.add_assoc];exact hc i h7 2 _ rfl
   have c3:wr.cell? ⟨b,o+i * 9+3,none⟩=some (.int .i64 xs[i].tick):=by rw[Nat.add_assoc];exact hc i h7 3 _ rfl
   have c4:wr.cell? ⟨b,o+i * 9+4,none⟩=some (.int .i64 xs[i].dx):=by rw[Nat.add_assoc];exact hc i h7 4 _ rfl
   have c5:wr.cell? ⟨b,o+i * 9+5,none⟩=some (.int .i64 xs[i].dy):=by rw[Nat.add_assoc];exact hc i h7 5 _ rfl
   have c6:wr.cell? ⟨b,o+i * 9+6,none⟩=some (.int .i64 xs[i].err):=by rw[Nat.add_assoc];exact hc i h7 6 _ rfl
   have c7:wr.cell? ⟨b,o+i * 9+7,none⟩=some (.int .i64 xs[i].lo):=by rw[Nat.add_assoc];exact hc i h7 7 _ rfl
   have c8:wr.cell? ⟨b,o+i * 9+8,none⟩=some (.int .i64 xs[i].hi):=by rw[Nat.add_assoc];exact hc i h7 8 _ rfl
   have hcall:=hp wr xs[i] (List.getElem_mem h7) KK;have hi':(i:Int)<(xs.length:Int):=by omega
   rw[idx_drop p xs i h7] at hj;replace hr:=Lib.hid hr;replace hp:=Lib.hid hp;clear hc;generalize xs[i]=x at c0 c1 c2 c3 c4 c5 c6 c7 c8 hcall hj;simp only[Nat.add_zero] at c0;try simp only[Nat.mul_one] at c0
   unfold oneSight at hcall;cases hq:p x with
   | true=>
    rw[hq] at hcall hj;rw[if_pos rfl] at hj;replace hj:=Lib.hid hj;go_wp2_with (go_at_fn g;refine hcall.mono ?_;rintro e w2 ⟨rfl,k2⟩)
    go_ret
    exact⟨ret_int hj.out,KK.tN k2⟩
   | false=>
    rw[hq] at hcall hj;rw[if_neg (by simp)] at hj;replace hj:=Lib.hid hj;replace h7:=Lib.hid h7;clear hi;go_wp2_with (go_at_fn g;refine hcall.mono ?_;rintro e w2 ⟨rfl,k2⟩)
    go_roundw
    case rel=>exact⟨i+1,rfl,h7.out,hj.out,KK.tN k2⟩
    case measure=>have:=h7.out;simp[intOf];omega
  ·
   have he:i=xs.length:=by omega
   have hi':¬ (i:Int)<(xs.length:Int):=by omega
   rw[he,List.drop_length] at hj;replace hj:=Lib.hid hj;clear h7 hi;subst he;go_wp2
   go_ret
   exact⟨ret_int (hj.out.trans hV),KK⟩
set_option maxHeartbeats 400000 in
theorem indexStation_any (g:Nat) (lb:Array Value) (p:Stn→Bool) (eg:∀ args w,(callFunc g args).run Tryz.prog w=.ok (.enter g args) w) (A:Option Addr) (cap:Nat) (xs:List Stn) (w:World)
  (hp:PredK g lb oneStation p xs w) (hr:Rd none w 3 encStn A xs.length xs) (hn:xs.length≤17592186044416) :
  Calls Tryz.prog 163 #[.slice A xs.length cap,.func (.func g) #[] lb] w fun e w'=>e=.returned (.int .i64 (idxI p xs 0))∧Kp w.heap.size none w w':=by
 obtain⟨V,hV⟩:∃ V,V=idxI p xs 0:=⟨_,rfl⟩;rw[← hV];go_enter Tryz.func163,Tryz.ntmps163
 go_wp2_with fail
 go_loopw [8] (fun v wr=>IdxF V p xs w v wr) (fun v _=>xs.length-(intOf v).toNat)
 case atStart=>exact⟨0,rfl,by omega,by rw[hV];rfl,Kp.refl _ _ _⟩
 case round=>
  obtain⟨i,rfl,hi,hj,KK⟩:=hrel;by_cases h7:i<xs.length
  ·
   obtain⟨b,o,rfl,hb,-,hc⟩:=(hr.kpN KK).at_ (by omega);have c0:wr.cell? ⟨b,o+i * 3+0,none⟩=some (.int .i64 xs[i].id):=by rw[Nat.add_assoc];exact hc i h7 0 _ rfl
   have c1:wr.cell? ⟨b,o+i * 3+1,none⟩=some (.int .i64 xs[i].ox):=by rw[Nat.add_assoc];exact hc i h7 1 _ rfl
   have c2:wr.cell? ⟨b,o+i * 3+2,none⟩=some (.int .i64 xs[i].oy):=by rw[Nat.add_assoc];exact hc i h7 2 _ rfl
   have hcall:=hp wr xs[i] (List.getElem_mem h7) KK;have hi':(i:Int)<(xs.length:Int):=by omega
   rw[idx_drop p xs i h7] at hj;replace hr:=Lib.hid hr;replace hp:=Lib.hid hp;clear hc;generalize xs[i]=x at c0 c1 c2 hcall hj;simp only[Nat.add_zero] at c0;try simp only[Nat.mul_one] at c0
   unfold oneStation at hcall;cases hq:p x with
   | true=>
    rw[hq] at hcall hj;rw[if_pos rfl] at hj;replace hj:=Lib.hid hj;go_wp2_with (go_at_fn g;refine hcall.mono ?_;rintro e w2 ⟨rfl,k2⟩)
    go_ret
    exact⟨ret_int hj.out,KK.tN k2⟩
   | false=>
    rw[hq] at hcall hj;rw[if_neg (by simp)] at hj;replace hj:=Lib.hid hj;replace h7:=Lib.hid h7;clear hi;go_wp2_with (go_at_fn g;refine hcall.mono ?_;rintro e w2 ⟨rfl,k2⟩)
    go_roundw
    case rel=>exact⟨i+1,rfl,h7.out,hj.out,KK.tN k2⟩
    case measure=>have:=h7.out;simp[intOf];omega
  ·
   have he:i=xs.length:=by omega
   have hi':¬ (i:Int)<(xs.length:Int):=by omega
   rw[he,List.drop_length] at hj;replace hj:=Lib.hid hj;clear h7 hi;subst he;go_wp2
   go_ret
   exact⟨ret_int (hj.out.trans hV),KK⟩
set_option maxHeartbeats 400000 in
theorem indexCatalog_any (g:Nat) (lb:Array Value) (p:Cat→Bool) (eg:∀ args w,(callFunc g args).run Tryz.prog w=.ok (.enter g args) w) (A:Option Addr) (cap:Nat) (xs:List Cat) (w:World)
  (hp:PredK g lb oneCatalog p xs w) (hr:Rd none w 3 encCat A xs.length xs) (hn:xs.length≤17592186044416) :
  Calls Tryz.prog 165 #[.slice A xs.length cap,.func (.func g) #[] lb] w fun e w'=>e=.returned (.int .i64 (idxI p xs 0))∧Kp w.heap.size none w w':=by
 obtain⟨V,hV⟩:∃ V,V=idxI p xs 0:=⟨_,rfl⟩;rw[← hV];go_enter Tryz.func165,Tryz.ntmps165
 go_wp2_with fail
 go_loopw [8] (fun v wr=>IdxF V p xs w v wr) (fun v _=>xs.length-(intOf v).toNat)
 case atStart=>exact⟨0,rfl,by omega,by rw[hV];rfl,Kp.refl _ _ _⟩
 case round=>
  obtain⟨i,rfl,hi,hj,KK⟩:=hrel;by_cases h7:i<xs.length
  ·
   obtain⟨b,o,rfl,hb,-,hc⟩:=(hr.kpN KK).at_ (by omega);have c0:wr.cell? ⟨b,o+i * 3+0,none⟩=some (.int .i64 xs[i].ver):=by rw[Nat.add_assoc];exact hc i h7 0 _ rfl
   have c1:wr.cell? ⟨b,o+i * 3+1,none⟩=some (.int .i64 xs[i].lo):=by rw[Nat.add_assoc];exact hc i h7 1 _ rfl
   have c2:wr.cell? ⟨b,o+i * 3+2,none⟩=some (.int .i64 xs[i].hi):=by rw[Nat.add_assoc];exact hc i h7 2 _ rfl
   have hcall:=hp wr xs[i] (List.getElem_mem h7) KK;have hi':(i:Int)<(xs.length:Int):=by omega
   rw[idx_drop p xs i h7] at hj;replace hr:=Lib.hid hr;replace hp:=Lib.hid hp;clear hc;generalize xs[i]=x at c0 c1 c2 hcall hj;simp only[Nat.add_zero] at c0;try simp only[Nat.mul_one] at c0
   unfold oneCatalog at hcall;cases hq:p x with
   | true=>
    rw[hq] at hcall hj;rw[if_pos rfl] at hj;replace hj:=Lib.hid hj;go_wp2_with (go_at_fn g;refine hcall.mono ?_;rintro e w2 ⟨rfl,k2⟩)
    go_ret
    exact⟨ret_int hj.out,KK.tN k2⟩
   | false=>
    rw[hq] at hcall hj;rw[if_neg (by simp)] at hj;replace hj:=Lib.hid hj;replace h7:=Lib.hid h7;clear hi;go_wp2_with (go_at_fn g;refine hcall.mono ?_;rintro e w2 ⟨rfl,k2⟩)
    go_roundw
    case rel=>exact⟨i+1,rfl,h7.out,hj.out,KK.tN k2⟩
    case measure=>have:=h7.out;simp[intOf];omega
  ·
   have he:i=xs.length:=by omega
   have hi':¬ (i:Int)<(xs.length:Int):=by omega
   rw[he,List.drop_length] at hj;replace hj:=Lib.hid hj;clear h7 hi;subst he;go_wp2
   go_ret
   exact⟨ret_int (hj.out.trans hV),KK⟩
set_option maxHeartbeats 400000 in
theorem indexInt_any (g:Nat) (lb:Array Value) (p:Int→Bool) (eg:∀ args w,(callFunc g args).run Tryz.prog w=.ok (.enter g args) w) (A:Option Addr) (cap:Nat) (xs:List Int) (w:World)
  (hp:PredK g lb oneInt p xs w) (hr:Rd none w 1 encI A xs.length xs) (hn:xs.length≤17592186044416) :
  Calls Tryz.prog 93 #[.slice A xs.length cap,.func (.func g) #[] lb] w fun e w'=>e=.returned (.int .i64 (idxI p xs 0))∧Kp w.heap.size none w w':=by
 obtain⟨V,hV⟩:∃ V,V=idxI p xs 0:=⟨_,rfl⟩;rw[← hV];go_enter Tryz.func93,Tryz.ntmps93
 go_wp2_with fail
 go_loopw [8] (fun v wr=>IdxF V p xs w v wr) (fun v _=>xs.length-(intOf v).toNat)
 case atStart=>exact⟨0,rfl,by omega,by rw[hV];rfl,Kp.refl _ _ _⟩
 case round=>
  obtain⟨i,rfl,hi,hj,KK⟩:=hrel;by_cases h7:i<xs.length
  ·
   obtain⟨b,o,rfl,hb,-,hc⟩:=(hr.kpN KK).at_ (by omega);have c0:wr.cell? ⟨b,o+i * 1+0,none⟩=some (.int .i64 xs[i]):=by rw[Nat.add_assoc];exact hc i h7 0 _ rfl
   have hcall:=hp wr xs[i] (List.getElem_mem h7) KK;have hi':(i:Int)<(xs.length:Int):=by omega
   rw[idx_drop p xs i h7] at hj;replace hr:=Lib.hid hr;replace hp:=Lib.hid hp;clear hc;generalize xs[i]=x at c0 hcall hj;simp only[Nat.add_zero] at c0;try simp only[Nat.mul_one] at c0
   unfold oneInt at hcall;cases hq:p x with
   | true=>
    rw[hq] at hcall hj;rw[if_pos rfl] at hj;replace hj:=Lib.hid hj;go_wp2_with (go_at_fn g;refine hcall.mono ?_;rintro e w2 ⟨rfl,k2⟩)
    go_ret
    exact⟨ret_int hj.out,KK.tN k2⟩
   | false=>
    rw[hq] at hcall hj;rw[if_neg (by simp)] at hj;replace hj:=Lib.hid hj;replace h7:=Lib.hid h7;clear hi;go_wp2_with (go_at_fn g;refine hcall.mono ?_;rintro e w2 ⟨rfl,k2⟩)
    go_roundw
    case rel=>exact⟨i+1,rfl,h7.out,hj.out,KK.tN k2⟩
    case measure=>have:=h7.out;simp[intOf];omega
  ·
   have he:i=xs.length:=by omega
   have hi':¬ (i:Int)<(xs.length:Int):=by omega
   rw[he,List.drop_length] at hj;replace hj:=Lib.hid hj;clear h7 hi;subst he;go_wp2
   go_ret
   exact⟨ret_int (hj.out.trans hV),KK⟩
theorem containsBox_any (g:Nat) (lb:Array Value) (p:Bx→Bool) (eg:∀ args w,(callFunc g args).run Tryz.prog w=.ok (.enter g args) w) (A:Option Addr) (cap:Nat) (xs:List Bx) (w:World)
  (hp:PredK g lb oneBox p xs w) (hr:Rd none w 8 encBx A xs.length xs) (hn:xs.length≤1000000) :
  Calls Tryz.prog 40 #[.slice A xs.length cap,.func (.func g) #[] lb] w fun e w'=>e=.returned (.bool (xs.any p))∧Kp w.heap.size none w w':=by
 have hi:=fun w hp hr=>indexBox_any g lb p eg A cap xs w hp hr (by omega);have ha:=idx_any p xs;generalize idxI p xs 0=v at *;rw[← ha];clear ha;go_enter Tryz.func40,Tryz.ntmps40
 go_wp2_with fail
 refine(hi _ hp hr).mono ?_;rintro e w1 ⟨rfl,k⟩;go_wp2
 go_ret
 exact⟨rfl,k⟩
theorem containsSight_any (g:Nat) (lb:Array Value) (p:Sg→Bool) (eg:∀ args w,(callFunc g args).run Tryz.prog w=.ok (.enter g args) w) (A:Option Addr) (cap:Nat) (xs:List Sg) (w:World)
  (hp:PredK g lb oneSight p xs w) (hr:Rd none w 9 encSg A xs.length xs) (hn:xs.length≤1000000) :
  Calls Tryz.prog 88 #[.slice A xs.length cap,.func (.func g) #[] lb] w fun e w'=>e=.returned (.bool (xs.any p))∧Kp w.heap.size none w w':=by
 have hi:=fun w hp hr=>indexSight_any g lb p eg A cap xs w hp hr (by omega);have ha:=idx_any p xs;generalize idxI p xs 0=v at *;rw[← ha];clear ha;go_enter Tryz.func88,Tryz.ntmps88
 go_wp2_with fail
 refine(hi _ hp hr).mono ?_;rintro e w1 ⟨rfl,k⟩;go_wp2
 go_ret
 exact⟨rfl,k⟩
theorem containsInt_any (g:Nat) (lb:Array Value) (p:Int→Bool) (eg:∀ args w,(callFunc g args).run Tryz.prog w=.ok (.enter g args) w) (A:Option Addr) (cap:Nat) (xs:List Int) (w:World)
  (hp:PredK g lb oneInt p xs w) (hr:Rd none w 1 encI A xs.length xs) (hn:xs.length≤1000000) :
  Calls Tryz.prog 45 #[.slice A xs.length cap,.func (.func g) #[] lb] w fun e w'=>e=.returned (.bool (xs.any p))∧Kp w.heap.size none w w':=by
 have hi:=fun w hp hr=>indexInt_any g lb p eg A cap xs w hp hr (by omega);have ha:=idx_any p xs;generalize idxI p xs 0=v at *;rw[← ha];clear ha;go_enter Tryz.func45,Tryz.ntmps45
 go_wp2_with fail
 refine(hi _ hp hr).mono ?_;rintro e w1 ⟨rfl,k⟩;go_wp2
 go_ret
 exact⟨rfl,k⟩
end Go.Proofs.YtdhiappifnflpaaGreat
