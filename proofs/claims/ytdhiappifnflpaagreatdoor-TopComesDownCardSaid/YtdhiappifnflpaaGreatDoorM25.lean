/- Regions that draw their order, whose allocs are not ordered: what is at hand of a block that may be there. Parts of a box, sets, weights and sights in plain Lean: the laws of TopNarrows and TopSightings. No program here. Orbits: the walks of orbit, fourth part: step. -/
import Derived.Test.YtdhiappifnflpaaGreatDoorM16
import Derived.Test.YtdhiappifnflpaaGreatDoorM08
import Derived.Test.YtdhiappifnflpaaGreatDoorM24
set_option maxRecDepth 100000
set_option maxHeartbeats 4000000
namespace Go.Proofs.YtdhiappifnflpaaGreatDoor
open Go.RowKit
structure GF where
 n1:Nat
 n2:Nat
 c1:Bool
 c2:Bool
 s1:Bool
 s2:Bool
def FreeB (T:TypeId) (n:Nat) (c:Bool) (base:Nat) (cells:Array Value) (w:World):Prop:=c=true→Blk w n T cells∧base≤n
theorem FreeB.kpN {T:TypeId} {n:Nat} {c:Bool} {base:Nat} {cells:Array Value} {w w':World} (h:FreeB T n c base cells w) (k:Kp w.heap.size none w w'):FreeB T n c base cells w':=fun e=>⟨(h e).1.kpN k,(h e).2⟩
end Go.Proofs.YtdhiappifnflpaaGreatDoor
namespace Go.Proofs.YtdhiappifnflpaaGreatDoor
def getS (b:Bx):Nat→Sp
 | 0=>b.x
 | 1=>b.y
 | 2=>b.u
 | _=>b.v
def setS (b:Bx) (i:Nat) (s:Sp):Bx:=match i with
 | 0=>⟨s,b.y,b.u,b.v⟩
 | 1=>⟨b.x,s,b.u,b.v⟩
 | 2=>⟨b.x,b.y,s,b.v⟩
 | _=>⟨b.x,b.y,b.u,s⟩
def Halves (c x y:Bx):Prop:=∃ (i:Nat) (m:Int),i<4∧(getS c i).lo≤m∧m<(getS c i).hi∧x=setS c i ⟨(getS c i).lo,m⟩∧y=setS c i ⟨m+1,(getS c i).hi⟩
section
variable {c x y:Bx} {s:St}
theorem Halves.cover (h:Halves c x y) (hs:c.has s):x.has s∨y.has s:=by
 obtain⟨i,m,hi,h1,h2,rfl,rfl⟩:=h;match i,hi with
 | 0,_|1,_|2,_|3,_=>simp only[getS,setS,Bx.has,Sp.has] at *;omega
theorem Halves.sub (h:Halves c x y) (hs:x.has s∨y.has s):c.has s:=by
 obtain⟨i,m,hi,h1,h2,rfl,rfl⟩:=h;match i,hi with
 | 0,_|1,_|2,_|3,_=>simp only[getS,setS,Bx.has,Sp.has] at *;omega
theorem Halves.disj (h:Halves c x y) (hx:x.has s) (hy:y.has s):False:=by
 obtain⟨i,m,hi,h1,h2,rfl,rfl⟩:=h;match i,hi with
 | 0,_|1,_|2,_|3,_=>simp only[getS,setS,Bx.has,Sp.has] at *;omega
theorem okBx_iff (b:Bx):okBx b=true↔(b.x.lo≤b.x.hi∧b.y.lo≤b.y.hi∧b.u.lo≤b.u.hi∧b.v.lo≤b.v.hi)∧(-33554432≤b.x.lo∧b.x.hi≤33554432∧-33554432≤b.y.lo∧b.y.hi≤33554432∧-1048576≤b.u.lo∧b.u.hi≤1048576∧-1048576≤b.v.lo∧b.v.hi≤1048576):=by
 simp only[okBx,Bx.ord,okSt,Bool.and_eq_true,decide_eq_true_eq];simp only[Bx.los,Bx.his];constructor
 ·
  rintro ⟨⟨a1,a2,a3,a4⟩,⟨b1,b2,b3,b4,b5,b6,b7,b8⟩,c1,c2,c3,c4,c5,c6,c7,c8⟩;exact⟨⟨a1,a2,a3,a4⟩,b1,c2,b3,c4,b5,c6,b7,c8⟩
 ·
  rintro ⟨⟨a1,a2,a3,a4⟩,b1,c2,b3,c4,b5,c6,b7,c8⟩;refine⟨⟨a1,a2,a3,a4⟩,⟨?_,?_,?_,?_,?_,?_,?_,?_⟩,?_,?_,?_,?_,?_,?_,?_,?_⟩<;>omega
theorem Halves.ok (h:Halves c x y) (hc:okBx c=true):okBx x=true∧okBx y=true:=by
 rw[okBx_iff] at *;rw[okBx_iff];obtain⟨i,m,hi,h1,h2,rfl,rfl⟩:=h;match i,hi with
 | 0,_|1,_|2,_|3,_=>simp only[getS,setS] at *;omega
end
inductive Part (b:Bx):List Bx→Prop
 | one:Part b [b]
 | cut {p q:List Bx} {c x y:Bx}:Part b (p++c::q)→Halves c x y→Part b (p++x::y::q)
def Apart (c d:Bx):Prop:=∀ s,c.has s→d.has s→False
theorem Part.cover {b:Bx} {l:List Bx} (h:Part b l) {s:St} (hs:b.has s):∃ c∈l,c.has s:=by
 induction h with
 | one=>exact⟨b,by simp,hs⟩
 | cut _ hh ih=>
  obtain⟨c,hc,hcs⟩:=ih;simp only[List.mem_append,List.mem_cons] at hc;rcases hc with h|rfl|h
  · exact⟨c,by simp[h],hcs⟩
  ·
   rcases hh.cover hcs with q|q
   · exact⟨_,by simp,q⟩
   · exact⟨_,by simp,q⟩
  · exact⟨c,by simp[h],hcs⟩
theorem Part.ok {b:Bx} {l:List Bx} (h:Part b l) (hb:okBx b=true):∀ c∈l,okBx c=true:=by
 induction h with
 | one=>intro c hc;simp at hc;rw[hc];exact hb
 | cut _ hh ih=>
  intro c hc;have k:=hh.ok (ih _ (by simp));simp only[List.mem_append,List.mem_cons] at hc;rcases hc with h|rfl|rfl|h
  · exact ih c (by simp[h])
  · exact k.1
  · exact k.2
  · exact ih c (by simp[h])
theorem Part.apart {b:Bx} {l:List Bx} (h:Part b l):l.Pairwise Apart:=by
 induction h with
 | one=>simp
 | cut _ hh ih=>
  rw[List.pairwise_append,List.pairwise_cons] at ih;obtain⟨h1,⟨h2,h3⟩,h4⟩:=ih;rw[List.pairwise_append,List.pairwise_cons,List.pairwise_cons];refine⟨h1,⟨?_,fun d hd s a e=>h2 d hd s (hh.sub (.inr a)) e,h3⟩,?_⟩
  ·
   intro d hd;simp only[List.mem_cons] at hd;rcases hd with rfl|hd
   · exact fun s a e=>hh.disj a e
   · exact fun s a e=>h2 d hd s (hh.sub (.inl a)) e
  ·
   intro a ha d hd;simp only[List.mem_cons] at hd;rcases hd with rfl|rfl|hd
   · exact fun s e f=>h4 a ha _ (by simp) s e (hh.sub (.inl f))
   · exact fun s e f=>h4 a ha _ (by simp) s e (hh.sub (.inr f))
   · exact h4 a ha d (by simp[hd])
def sumIf (f:Bx→Bool):List (Bx × Int)→Int
 | []=>0
 | p::r=>(if f p.1 then p.2 else 0)+sumIf f r
def isHit (W:Wd) (d:Dr) (n:Nat) (t:Int) (c:Bx):Bool:=decide (fateW W d n t c=.hit)
def notMiss (W:Wd) (d:Dr) (n:Nat) (t:Int) (c:Bx):Bool:=decide (fateW W d n t c≠.miss)
def anyB (_:Bx):Bool:=true
def afterL (left:List Bx) (l:List (Bx × Int)):List Int:=l.flatMap fun p=>(left.filter fun c=>decide (c=p.1)).map fun _=>p.2
theorem filter_eq_self {g:Bx→Bool} {c:Bx}:∀ {l:List Bx},l.Nodup→c∈l→((l.filter g).filter fun e=>decide (e=c))=if g c then [c] else []
 | [],_,h=>by simp at h
 | a::r,hn,h=>by
  rw[List.nodup_cons] at hn
  have none:∀ {m:List Bx},c ∉ m→((m.filter g).filter fun e=>decide (e=c))=[]:=fun {m} hm=>by
   rw[List.filter_eq_nil_iff];intro e he;simp only[decide_eq_true_eq];rintro rfl;exact hm (List.mem_filter.1 he).1
  by_cases e:a=c
  ·
   subst e;rw[List.filter_cons];by_cases q:g a=true
   · rw[if_pos q,if_pos q,List.filter_cons,if_pos (by simp),none hn.1]
   · rw[if_neg q,if_neg q,none hn.1]
  ·
   have hc:c∈r:=by simpa [Ne.symm e] using h
   have ih:=filter_eq_self (g:=g) hn.2 hc;rw[List.filter_cons];by_cases q:g a=true
   · rw[if_pos q,List.filter_cons,if_neg (by simpa using e),ih]
   · rw[if_neg q,ih]
def exclW (W:Wd) (d:Dr) (n:Nat) (t:Int) (b:Bx) (hv:Option (Bx × Bx)):Bool:=
 match fateW W d n t b,hv with
 | .open,some (x,y)=>decide (fateW W d n t x=.miss)&&decide (fateW W d n t y=.miss)
 | k,_=>decide (k=.miss)
def stepAll (W:Wd) (d:Dr) (t:Int):List Bx→Option (List Bx)
 | []=>some []
 | b::r=>match stepW W d t b,stepAll W d t r with
  | some x,some m=>some (x::m)
  | _,_=>none
theorem stepAll_mem {W:Wd} {d:Dr} {t:Int}:∀ {l m:List Bx},stepAll W d t l=some m→(∀ b∈l,∃ x∈m,stepW W d t b=some x)∧(∀ x∈m,okBx x=true)∧m.length=l.length
 | [],m,h=>by
  simp only[stepAll,Option.some.injEq] at h;subst h;simp
 | b::r,m,h=>by
  unfold stepAll at h;split at h
  ·
   rename_i x m' hx hm;injection h with h
   subst h;obtain⟨a1,a2,a3⟩:=stepAll_mem hm;refine⟨?_,?_,by simp[a3]⟩
   ·
    intro c hc;simp only[List.mem_cons] at hc;rcases hc with rfl|hc
    · exact⟨x,by simp,hx⟩
    ·
     obtain⟨y,hy,e⟩:=a1 c hc;exact⟨y,by simp[hy],e⟩
   ·
    intro c hc;simp only[List.mem_cons] at hc;rcases hc with rfl|hc
    · exact stepW_ok hx
    · exact a2 c hc
  · cases h
def updW (W:Wd) (d:Dr) (ex:Int→Bx→Bool):Nat→Int→List Bx→Option (List Bx)
 | 0,t,l=>some (l.filter fun b=>!ex t b)
 | n+1,t,l=>match stepAll W d t (l.filter fun b=>!ex t b) with
  | none=>none
  | some m=>updW W d ex n (t+1) m
end Go.Proofs.YtdhiappifnflpaaGreatDoor
namespace Go.Proofs.YtdhiappifnflpaaGreatDoor
open Go.RowKit
theorem overA_bd {W:Wd} {d:Dr} {t:Int} {a:Ar} (hW:W.ok) (hd:d.ok):(overA mp d a (W.hvs t)).bd 17179869184:=by
 rw[← accO_all]
 have h:=accO_bd hd (pullsL W t a) (fun p hp=>by
  unfold pullsL at hp;obtain⟨q9,-,rfl⟩:=List.mem_map.1 hp;exact pull_bd _ _)
 rw[pullsL_len] at h;have:=hW.n1;exact h.mono oM
theorem orbit_step_any (A:Option Addr) (c:Nat) (W:Wd) (d:Dr) (t:Int) (b:Bx) (w:World) (hW:W.ok) (hA:WdAt none w A W) (hd:d.ok) (ht:0≤t∧t≤1073741824) (hb:okBx b=true) :
  Calls Tryz.prog 99 #[.agg #[.slice A W.bs.length c,W.home],d,t,b] w fun e w'=>e=.returned (.tuple #[.agg #[(stepB mp d (W.hvs t) b).x.lo,(stepB mp d (W.hvs t) b).x.hi,(stepB mp d (W.hvs t) b).y.lo,(stepB mp d (W.hvs t) b).y.hi,(stepB mp d (W.hvs t) b).u.lo,(stepB mp d (W.hvs t) b).u.hi,(stepB mp d (W.hvs t) b).v.lo,(stepB mp d (W.hvs t) b).v.hi],.bool (okBx (stepB mp d (W.hvs t) b))])∧Kp w.heap.size none w w':=by
 obtain⟨⟨o1,o2,o3,o4⟩,b1,b2,b3,b4,b5,b6,b7,b8⟩:=(okBx_iff b).1 hb;have cv:=fun w h=>force_Over_any A c W d t b.place w hW h hd ht (by unfold Ar.bd Sp.bd Bx.place;simp only;omega);have ub:=overA_bd (t:=t) (a:=b.place) hW hd;obtain⟨out,hout⟩:∃ q9,Hid (q9=stepB mp d (W.hvs t) b):=⟨_,Lib.hid rfl⟩;have eo:out=⟨addS b.x (addS b.u (overA mp d b.place (W.hvs t)).x),addS b.y (addS b.v (overA mp d b.place (W.hvs t)).y),addS b.u (overA mp d b.place (W.hvs t)).x,addS b.v (overA mp d b.place (W.hvs t)).y⟩:=hout.out;rw[← hout.out];generalize overA mp d b.place (W.hvs t)=a at *;simp only[Bx.place] at cv;unfold Ar.bd Sp.bd at ub;have a1:=fun w=>orbit_add_any b.u a.x (by unfold wrap64;omega) (by unfold wrap64;omega) w;have a2:=fun w=>orbit_add_any b.v a.y (by unfold wrap64;omega) (by unfold wrap64;omega) w;have a3:=fun w=>orbit_add_any b.x (addS b.u a.x) (by unfold wrap64 addS;simp only;omega) (by unfold wrap64 addS;simp only;omega) w;have a4:=fun w=>orbit_add_any b.y (addS b.v a.y) (by unfold wrap64 addS;simp only;omega) (by unfold wrap64 addS;simp only;omega) w;have e1:addS b.u a.x=out.u:=by rw[eo]
 have e2:addS b.v a.y=out.v:=by rw[eo]
 have e3:addS b.x (addS b.u a.x)=out.x:=by rw[eo]
 have e4:addS b.y (addS b.v a.y)=out.y:=by rw[eo]
 rw[e3] at a3;rw[e4] at a4;rw[e1] at a1 a3;rw[e2] at a2 a4;have ck:=fun w=>orbit_Check_any out w;obtain⟨rb,hrb⟩:∃ q9,Hid (q9=okBx out):=⟨_,Lib.hid rfl⟩;rw[← hrb.out]
 have ck:∀ w,Calls Tryz.prog 55 #[out] w fun e w'=>e=.returned (.int .i64 (if rb=true then 0 else 2))∧Kp w.heap.size none w w':=by
  intro w;have:=ck w;unfold errBx at this;rwa [← hrb.out] at this
 clear e1 e2 e3 e4 eo ub o1 o2 o3 o4 b1 b2 b3 b4 b5 b6 b7 b8 hb hW hd ht;obtain⟨w1,hw1,D,F,B,R,K,hz⟩:=box4 w 27 #[.slice A W.bs.length c,W.home] 31 d 33 b 33 #[(0:Int),(0:Int),(0:Int),(0:Int),(0:Int),(0:Int),(0:Int),(0:Int)];go_enter Tryz.func99,Tryz.ntmps99
 go_wp2_with fail
 rw[← hw1];clear hw1;refine mK (cv _ (hA.kpN K)) fun w2 k=>?_;replace D:=D.kpN k;replace F:=F.kpN k;replace B:=B.kpN k;replace R:=R.kpN k;replace K:=K.thenN k oM;have hzk:=k.size;clear k;have pB:=B.cell;have pR:=R.cell;obtain⟨w9_,rfl,U,k9_,hzn⟩:=box1 w2 53 #[a.x.lo,a.x.hi,a.y.lo,a.y.hi];replace B:=B.kpN k9_;replace R:=R.kpN k9_;replace K:=K.thenN k9_ oU;clear k9_;have cB:=B.cell;have fB:=B.frozen;have cR:=R.cell;have fR:=R.frozen;go_wp2_with fail
 clear cB fB pB cR fR pR;generalize (w2.alloc (.cells #[a.x.lo,a.x.hi,a.y.lo,a.y.hi] 53))=w3 at *;obtain⟨x,hx⟩:∃ q9,q9=w2.heap.size:=⟨_,rfl⟩;rw[← hx] at U ⊢;replace hx:=Lib.hid hx;have hxw:w.heap.size+4≤x:=by have:=hx.out;omega
 clear hx hzn hzk hz D F;refine wp_region_inv (Γ:=GF) [none,none,none,none,none,none,none,none,none,none,none,none,some 10,some 11,none,none,none,none,none,none,none,none,none,none,none,none,none,none,none,none,some 0,some 1,some 2,some 3,some 4,some 5,some 6,some 7,some 8,some 9] [[],[0],[],[2],[0,1,2,3],[],[5],[],[7],[0,1,2,3,4,5,6,7,8],[],[],[0,1,2,3,4,5,6,7,8,9,10,11],[0,1,2,3,4,5,6,7,8,9,10,11,12]] [[2,3,5,6,7,8,10,11],[0,2,3,5,6,7,8,10,11],[0,1,5,6,7,8,10,11],[0,1,2,5,6,7,8,10,11],[0,1,2,3,5,6,7,8,10,11],[0,1,2,3,4,7,8,10,11],[0,1,2,3,4,5,7,8,10,11],[0,1,2,3,4,5,6,10,11],[0,1,2,3,4,5,6,7,10,11],[0,1,2,3,4,5,6,7,8,10,11],[0,1,2,3,4,5,6,7,8,9,11],[0,1,2,3,4,5,6,7,8,9,10],[0,1,2,3,4,5,6,7,8,9,10,11],[0,1,2,3,4,5,6,7,8,9,10,11,12]] (fun γ=>[.pointer (some ⟨w.heap.size+2,4,none⟩),.agg b.u,.pointer (some ⟨x,0,none⟩),.agg a.x,.agg out.u,.pointer (some ⟨w.heap.size+2,6,none⟩),.agg b.v,.pointer (some ⟨x,2,none⟩),.agg a.y,.agg out.v,.pointer (some ⟨γ.n1,0,none⟩),.pointer (some ⟨γ.n2,0,none⟩),undef,undef]) (fun γ=>[none,none,none,none,none,none,none,none,none,none,none,none,some (.pointer (some ⟨γ.n1,0,none⟩)),some (.pointer (some ⟨γ.n2,0,none⟩)),none,none,none,none,none,none,none,none,none,none,none,none,none,none,none,none,some (.pointer (some ⟨w.heap.size+2,4,none⟩)),some (.agg b.u),some (.pointer (some ⟨x,0,none⟩)),some (.agg a.x),some (.agg out.u),some (.pointer (some ⟨w.heap.size+2,6,none⟩)),some (.agg b.v),some (.pointer (some ⟨x,2,none⟩)),some (.agg a.y),some (.agg out.v)]) ?A4_1 (fun n D γ w=>Kp w3.heap.size none w3 w∧FreeB 29 γ.n1 γ.c1 w3.heap.size (#[(if γ.s1=true then .int .i64 out.u.lo else .int .i64 0),(if γ.s1=true then .int .i64 out.u.hi else .int .i64 0)]) w∧FreeB 29 γ.n2 γ.c2 w3.heap.size (#[(if γ.s2=true then .int .i64 out.v.lo else .int .i64 0),(if γ.s2=true then .int .i64 out.v.hi else .int .i64 0)]) w∧(γ.c1=true→γ.c2=true→γ.n1≠γ.n2)) (fun k γ w=>match k with|10=>γ.c1=true|11=>γ.c2=true|12=>γ.s1=true|13=>γ.s2=true|_=>True) ⟨0,0,false,false,false,false⟩ (by kernel_rfl) (fun _=>rfl) ?hA4_1 (by kernel_rfl) ?hB04_1 ?hop4_1 ?hend4_1
 case hA4_1=>intro γ;dsimp only[fullV];rfl
 case hB04_1=>
  exact⟨(Kp.refl _ none _).drew,fun e=>(by cases e),fun e=>(by cases e),fun e _=>(by cases e)⟩
 case hop4_1=>
  intro hA;refine⟨oKv hA,?_,oKv hA,?_,?_,oKv hA,?_,oKv hA,?_,?_,?_,?_,?_,?_,trivial⟩
  ·
   refine oKv hA (h:=?_);intro n D γ w hB hU K hK;try dsimp only at hB
   try dsimp only
   have cB:=fun i=>(B.kpN hB.1).cell i;have cR:=fun i=>(R.kpN hB.1).cell i;have cU:=fun i=>(U.kpN hB.1).cell i;clear hB hU;go_step;exact hK _ rfl
  ·
   refine oKv hA (h:=?_);intro n D γ w hB hU K hK;try dsimp only at hB
   try dsimp only
   have cB:=fun i=>(B.kpN hB.1).cell i;have cR:=fun i=>(R.kpN hB.1).cell i;have cU:=fun i=>(U.kpN hB.1).cell i;clear hB hU;go_step;exact hK _ rfl
  ·
   refine opOk_l hA (fun _=>rfl) ?_;intro n D γ w hn hD hB hU K hK;try dsimp only at hB
   clear hU;replace hn:n<14:=hn;try dsimp only
   have K9:=hB.1;go_step;refine mK (a1 _) fun w5 k5=>?_;refine hK _ _ γ rfl ⟨hB.1.thenN k5 (Nat.le_refl _),(hB.2.1).kpN k5,(hB.2.2.1).kpN k5,hB.2.2.2⟩ trivial ?_;exact dA
  ·
   refine oKv hA (h:=?_);intro n D γ w hB hU K hK;try dsimp only at hB
   try dsimp only
   have cB:=fun i=>(B.kpN hB.1).cell i;have cR:=fun i=>(R.kpN hB.1).cell i;have cU:=fun i=>(U.kpN hB.1).cell i;clear hB hU;go_step;exact hK _ rfl
  ·
   refine oKv hA (h:=?_);intro n D γ w hB hU K hK;try dsimp only at hB
   try dsimp only
   have cB:=fun i=>(B.kpN hB.1).cell i;have cR:=fun i=>(R.kpN hB.1).cell i;have cU:=fun i=>(U.kpN hB.1).cell i;clear hB hU;go_step;exact hK _ rfl
  ·
   refine opOk_l hA (fun _=>rfl) ?_;intro n D γ w hn hD hB hU K hK;try dsimp only at hB
   clear hU;replace hn:n<14:=hn;try dsimp only
   have K9:=hB.1;go_step;refine mK (a2 _) fun w5 k5=>?_;refine hK _ _ γ rfl ⟨hB.1.thenN k5 (Nat.le_refl _),(hB.2.1).kpN k5,(hB.2.2.1).kpN k5,hB.2.2.2⟩ trivial ?_;exact dA
  ·
   refine opOk_l hA (fun _=>rfl) ?_;intro n D γ w hn hD hB hU K hK;try dsimp only at hB
   clear hU;replace hn:n<14:=hn;try dsimp only
   go_step;obtain⟨w5,hw5⟩:∃ w5,w5=w.alloc (.cells #[(0:Int),(0:Int)] 29):=⟨_,rfl⟩;have k5:Kp w.heap.size none w w5:=hw5 ▸ Kp.new1 _ _;have hBn:Blk w5 w.heap.size 29 #[(0:Int),(0:Int)]:=hw5 ▸ Blk.new _ _ _;rw[← hw5];refine hK _ _ { γ with n1:=w.heap.size,c1:=true,s1:=false } rfl ⟨hB.1.thenN k5 (Nat.le_refl _),fun _=>⟨hBn,hB.1.size⟩,(hB.2.2.1).kpN k5,fun _ hc9=>(by have:=(hB.2.2.1 hc9).1.lt;show w.heap.size≠γ.n2;omega)⟩ rfl ?_;exact dA
  ·
   refine opOk_l hA (fun _=>rfl) ?_;intro n D γ w hn hD hB hU K hK;try dsimp only at hB
   clear hU;replace hn:n<14:=hn;try dsimp only
   go_step;obtain⟨w5,hw5⟩:∃ w5,w5=w.alloc (.cells #[(0:Int),(0:Int)] 29):=⟨_,rfl⟩;have k5:Kp w.heap.size none w w5:=hw5 ▸ Kp.new1 _ _;have hBn:Blk w5 w.heap.size 29 #[(0:Int),(0:Int)]:=hw5 ▸ Blk.new _ _ _;rw[← hw5];refine hK _ _ { γ with n2:=w.heap.size,c2:=true,s2:=false } rfl ⟨hB.1.thenN k5 (Nat.le_refl _),(hB.2.1).kpN k5,fun _=>⟨hBn,hB.1.size⟩,fun hc9 _=>(by have:=(hB.2.1 hc9).1.lt;show γ.n1≠w.heap.size;omega)⟩ rfl ?_;exact dA
  ·
   refine opOk_l hA (fun _=>rfl) ?_;intro n D γ w hn hD hB hU K hK;try dsimp only at hB
   replace hU:(γ.c1=true)∧(γ.c2=true):=⟨hU.2.2.2.2.2.2.2.2.2.2.1,hU.2.2.2.2.2.2.2.2.2.2.2.1⟩;replace hn:n<14:=hn;try dsimp only
   obtain⟨O9,g9⟩:=hB.2.1 hU.1;have cO:=O9.cell;have fO:=O9.frozen;go_step;obtain⟨w5,hw5,R9,kst,hzst⟩:=O9.st2 (.int .i64 out.u.lo) (.int .i64 out.u.hi);rw[← hw5];simp only[sbt,sc0,scs] at R9;refine hK _ _ { γ with s1:=true } rfl ⟨hB.1.thenOwn kst (Nat.le_refl _) g9,fun _=>⟨R9,g9⟩,(fun hc9=>⟨((hB.2.2.1 hc9).1).kp kst ((hB.2.2.1 hc9).1).lt (sne ((hB.2.2.2 hU.1 hc9).symm)),(hB.2.2.1 hc9).2⟩),hB.2.2.2⟩ rfl ?_;exact dA
  ·
   refine opOk_l hA (fun _=>rfl) ?_;intro n D γ w hn hD hB hU K hK;try dsimp only at hB
   replace hU:(γ.c1=true)∧(γ.c2=true)∧(γ.s1=true):=⟨hU.2.2.2.2.2.2.2.2.2.2.1,hU.2.2.2.2.2.2.2.2.2.2.2.1,hU.2.2.2.2.2.2.2.2.2.2.2.2.1⟩;replace hn:n<14:=hn;try dsimp only
   obtain⟨O9,g9⟩:=hB.2.2.1 hU.2.1;have cO:=O9.cell;have fO:=O9.frozen;go_step;obtain⟨w5,hw5,R9,kst,hzst⟩:=O9.st2 (.int .i64 out.v.lo) (.int .i64 out.v.hi);rw[← hw5];simp only[sbt,sc0,scs] at R9;refine hK _ _ { γ with s2:=true } rfl ⟨hB.1.thenOwn kst (Nat.le_refl _) g9,(fun hc9=>⟨((hB.2.1 hc9).1).kp kst ((hB.2.1 hc9).1).lt (sne (hB.2.2.2 hc9 hU.2.1)),(hB.2.1 hc9).2⟩),fun _=>⟨R9,g9⟩,hB.2.2.2⟩ rfl ?_;exact dA
 case hend4_1=>
  intro n D γ w hn hD hB hF;replace hF:=fun k (hk:k<14)=>hF k hk;replace hF:=(⟨hF 10 (by decide),hF 11 (by decide),hF 12 (by decide),hF 13 (by decide)⟩:_∧_∧_∧_);try dsimp only at hB
  try dsimp only at hF
  replace hn:n≤14:=hn;try dsimp only
  obtain⟨np,nq,c1_9,c2_9,s1_9,s2_9⟩:=γ;dsimp only at hB hF ⊢;obtain⟨rfl,rfl,rfl,rfl⟩:=hF;obtain⟨K9,f1_9,f2_9,ne9⟩:=hB;obtain⟨P,gP⟩:=f1_9 rfl;simp only[reduceIte] at P;obtain⟨Q,gQ⟩:=f2_9 rfl;simp only[reduceIte] at Q;have ne:=ne9 rfl rfl;clear ne9;clear f1_9 f2_9;clear hD hn;have gB:=B.lt;have gR:=R.lt;have gU:=U.lt;replace B:=B.kpN K9;replace R:=R.kpN K9;replace U:=U.kpN K9;replace K:=K.trans (K9.mono K.size);skip
  clear K9;rename World=>w4;go_wp2_with fail
  clear U a1 a2 cv gU;have gBP:w.heap.size+2<np:=by omega
  have gBQ:w.heap.size+2<nq:=by omega
  have gRP:w.heap.size+3<np:=by omega
  have gRQ:w.heap.size+3<nq:=by omega
  refine wp_region_inv (Γ:=GF) [none,none,none,none,none,none,none,none,none,none,none,none,none,none,some 11,none,none,none,none,none,none,none,none,none,none,none,none,none,none,none,none,none,none,none,none,none,none,none,none,none,some 0,some 1,some 2,some 3,some 4,some 5,some 6,some 7,some 8,some 9,some 10] [[],[0],[],[0,1,2],[],[4],[],[0,1,2,3,4,5,6],[],[],[0,1,2,3,4,5,6,7,8,9],[],[0,1,2,3,4,5,6,7,8,9,10,11]] [[2,4,5,6,8,9,11],[0,2,4,5,6,8,9,11],[0,1,4,5,6,8,9,11],[0,1,2,4,5,6,8,9,11],[0,1,2,3,6,8,9,11],[0,1,2,3,4,6,8,9,11],[0,1,2,3,4,5,8,9,11],[0,1,2,3,4,5,6,8,9,11],[0,1,2,3,4,5,6,7,9,11],[0,1,2,3,4,5,6,7,8,11],[0,1,2,3,4,5,6,7,8,9,11],[0,1,2,3,4,5,6,7,8,9,10],[0,1,2,3,4,5,6,7,8,9,10,11]] (fun γ=>[.pointer (some ⟨w.heap.size+2,0,none⟩),.agg b.x,.agg out.u,.agg out.x,.pointer (some ⟨w.heap.size+2,2,none⟩),.agg b.y,.agg out.v,.agg out.y,.agg out.u,.agg out.v,.agg out,.pointer (some ⟨γ.n1,0,none⟩),undef]) (fun γ=>[none,none,none,none,none,none,none,none,none,none,none,none,none,none,some (.pointer (some ⟨γ.n1,0,none⟩)),none,none,none,none,none,none,none,none,none,none,none,none,none,none,none,none,none,none,none,none,none,none,none,none,none,some (.pointer (some ⟨w.heap.size+2,0,none⟩)),some (.agg b.x),some (.agg out.u),some (.agg out.x),some (.pointer (some ⟨w.heap.size+2,2,none⟩)),some (.agg b.y),some (.agg out.v),some (.agg out.y),some (.agg out.u),some (.agg out.v),some (.agg out)]) ?A5_2 (fun n D γ w=>Kp w4.heap.size none w4 w∧FreeB 33 γ.n1 γ.c1 w4.heap.size (#[(if γ.s1=true then .int .i64 out.x.lo else .int .i64 0),(if γ.s1=true then .int .i64 out.x.hi else .int .i64 0),(if γ.s1=true then .int .i64 out.y.lo else .int .i64 0),(if γ.s1=true then .int .i64 out.y.hi else .int .i64 0),(if γ.s1=true then .int .i64 out.u.lo else .int .i64 0),(if γ.s1=true then .int .i64 out.u.hi else .int .i64 0),(if γ.s1=true then .int .i64 out.v.lo else .int .i64 0),(if γ.s1=true then .int .i64 out.v.hi else .int .i64 0)]) w) (fun k γ w=>match k with|11=>γ.c1=true|12=>γ.s1=true|_=>True) ⟨0,0,false,false,false,false⟩ (by kernel_rfl) (fun _=>rfl) ?hA5_2 (by kernel_rfl) ?hB05_2 ?hop5_2 ?hend5_2
  case hA5_2=>intro γ;dsimp only[fullV];rfl
  case hB05_2=>
   exact⟨(Kp.refl _ none _).drew,fun e=>(by cases e)⟩
  case hop5_2=>
   intro hA;refine⟨oKv hA,?_,?_,?_,oKv hA,?_,?_,?_,?_,?_,oKv hA,?_,?_,trivial⟩
   ·
    refine oKv hA (h:=?_);intro n D γ w hB hU K hK;try dsimp only at hB
    try dsimp only
    have cB:=fun i=>(B.kpN hB.1).cell i;have cR:=fun i=>(R.kpN hB.1).cell i;have cP:=fun i=>(P.kpN hB.1).cell i;have cQ:=fun i=>(Q.kpN hB.1).cell i;clear hB hU;go_step;exact hK _ rfl
   ·
    refine oKv hA (h:=?_);intro n D γ w hB hU K hK;try dsimp only at hB
    try dsimp only
    have cB:=fun i=>(B.kpN hB.1).cell i;have cR:=fun i=>(R.kpN hB.1).cell i;have cP:=fun i=>(P.kpN hB.1).cell i;have cQ:=fun i=>(Q.kpN hB.1).cell i;clear hB hU;go_step;exact hK _ rfl
   ·
    refine opOk_l hA (fun _=>rfl) ?_;intro n D γ w hn hD hB hU K hK;try dsimp only at hB
    clear hU;replace hn:n<13:=hn;try dsimp only
    have K9:=hB.1;go_step;refine mK (a3 _) fun w5 k5=>?_;refine hK _ _ γ rfl ⟨hB.1.thenN k5 (Nat.le_refl _),(hB.2).kpN k5⟩ trivial ?_;exact dA
   ·
    refine oKv hA (h:=?_);intro n D γ w hB hU K hK;try dsimp only at hB
    try dsimp only
    have cB:=fun i=>(B.kpN hB.1).cell i;have cR:=fun i=>(R.kpN hB.1).cell i;have cP:=fun i=>(P.kpN hB.1).cell i;have cQ:=fun i=>(Q.kpN hB.1).cell i;clear hB hU;go_step;exact hK _ rfl
   ·
    refine oKv hA (h:=?_);intro n D γ w hB hU K hK;try dsimp only at hB
    try dsimp only
    have cB:=fun i=>(B.kpN hB.1).cell i;have cR:=fun i=>(R.kpN hB.1).cell i;have cP:=fun i=>(P.kpN hB.1).cell i;have cQ:=fun i=>(Q.kpN hB.1).cell i;clear hB hU;go_step;exact hK _ rfl
   ·
    refine opOk_l hA (fun _=>rfl) ?_;intro n D γ w hn hD hB hU K hK;try dsimp only at hB
    clear hU;replace hn:n<13:=hn;try dsimp only
    have K9:=hB.1;go_step;refine mK (a4 _) fun w5 k5=>?_;refine hK _ _ γ rfl ⟨hB.1.thenN k5 (Nat.le_refl _),(hB.2).kpN k5⟩ trivial ?_;exact dA
   ·
    refine oKv hA (h:=?_);intro n D γ w hB hU K hK;try dsimp only at hB
    try dsimp only
    have cB:=fun i=>(B.kpN hB.1).cell i;have cR:=fun i=>(R.kpN hB.1).cell i;have cP:=fun i=>(P.kpN hB.1).cell i;have cQ:=fun i=>(Q.kpN hB.1).cell i;clear hB hU;go_step;exact hK _ rfl
   ·
    refine oKv hA (h:=?_);intro n D γ w hB hU K hK;try dsimp only at hB
    try dsimp only
    have cB:=fun i=>(B.kpN hB.1).cell i;have cR:=fun i=>(R.kpN hB.1).cell i;have cP:=fun i=>(P.kpN hB.1).cell i;have cQ:=fun i=>(Q.kpN hB.1).cell i;clear hB hU;go_step;exact hK _ rfl
   ·
    refine opOk_l hA (fun _=>rfl) ?_;intro n D γ w hn hD hB hU K hK;try dsimp only at hB
    clear hU;replace hn:n<13:=hn;try dsimp only
    go_step;obtain⟨w5,hw5⟩:∃ w5,w5=w.alloc (.cells #[(0:Int),(0:Int),(0:Int),(0:Int),(0:Int),(0:Int),(0:Int),(0:Int)] 33):=⟨_,rfl⟩;have k5:Kp w.heap.size none w w5:=hw5 ▸ Kp.new1 _ _;have hBn:Blk w5 w.heap.size 33 #[(0:Int),(0:Int),(0:Int),(0:Int),(0:Int),(0:Int),(0:Int),(0:Int)]:=hw5 ▸ Blk.new _ _ _;rw[← hw5];refine hK _ _ { γ with n1:=w.heap.size,c1:=true,s1:=false } rfl ⟨hB.1.thenN k5 (Nat.le_refl _),fun _=>⟨hBn,hB.1.size⟩⟩ rfl ?_;exact dA
   ·
    refine opOk_l hA (fun _=>rfl) ?_;intro n D γ w hn hD hB hU K hK;try dsimp only at hB
    replace hU:(γ.c1=true):=hU.2.2.2.2.2.2.2.2.2.2.2.1;replace hn:n<13:=hn;try dsimp only
    obtain⟨O9,g9⟩:=hB.2 hU;have cO:=O9.cell;have fO:=O9.frozen;go_step;obtain⟨w5,hw5,R9,kst,hzst⟩:=O9.st8 (.int .i64 out.x.lo) (.int .i64 out.x.hi) (.int .i64 out.y.lo) (.int .i64 out.y.hi) (.int .i64 out.u.lo) (.int .i64 out.u.hi) (.int .i64 out.v.lo) (.int .i64 out.v.hi);rw[← hw5];simp only[sbt,sc0,scs] at R9;refine hK _ _ { γ with s1:=true } rfl ⟨hB.1.thenOwn kst (Nat.le_refl _) g9,fun _=>⟨R9,g9⟩⟩ rfl ?_;exact dA
  case hend5_2=>
   intro n D γ w hn hD hB hF;replace hF:=fun k (hk:k<13)=>hF k hk;replace hF:=(⟨hF 11 (by decide),hF 12 (by decide)⟩:_∧_);try dsimp only at hB
   try dsimp only at hF
   replace hn:n≤13:=hn;try dsimp only
   obtain⟨nz,n2_9,c1_9,c2_9,s1_9,s2_9⟩:=γ;dsimp only at hB hF ⊢;obtain⟨rfl,rfl⟩:=hF;obtain⟨K9,f1_9⟩:=hB;obtain⟨Z,gZ⟩:=f1_9 rfl;simp only[reduceIte] at Z;clear f1_9;clear hD hn;have gB:=B.lt;have gR:=R.lt;have gP:=P.lt;have gQ:=Q.lt;replace B:=B.kpN K9;replace R:=R.kpN K9;replace P:=P.kpN K9;replace Q:=Q.kpN K9;replace K:=K.trans (K9.mono K.size);skip
   clear K9;rename World=>w5;go_wp2_with fail
   clear B P Q;cases rb
   all_goals
    simp only[if_true,if_false,Bool.false_eq_true] at ck;obtain⟨S,hS0,hS1⟩:=cls_of2 (P:=fun w'=>Blk w' _ _ _∧Kp _ _ _ w') w5 ⟨Z,K⟩;try dsimp only at hS0
    have cZ:=fun (x:Ev (S 0)) i=>((hS0 _).1 x.h).1.cell i;replace Z:=Z.drew;replace K:=K.drew;replace R:=R.drew;have hevT:=ev_true;refine wro S [(0,1),(1,1),(2,2),(3,0),(4,2),(5,0)] [] ((hS0 _).2 ⟨Z,K⟩) ?_;intro _hev;refine oX ?_;refine oL ?_;intro Kc hKc;generalize w5.drew=wd9 at *;go_step;refine mK (ck _) fun w6 k=>?_;replace Z:=Z.kpN k;replace R:=R.kpN k;replace K:=K.tN k;clear k;refine hKc _ _ ((hS0 _).2 ⟨Z,K⟩) ?_;clear hKc Kc;refine oX ?_;refine oL ?_;intro Kc hKc;have cR:=R.cell;have fR:=R.frozen;go_step;obtain⟨w9,hwn,RB9,kst,hzst⟩:=R.st8 (.int .i64 out.x.lo) (.int .i64 out.x.hi) (.int .i64 out.y.lo) (.int .i64 out.y.hi) (.int .i64 out.u.lo) (.int .i64 out.u.hi) (.int .i64 out.v.lo) (.int .i64 out.v.hi);rw[← hwn];clear hwn cR fR;replace Z:=Z.kq kst;first|replace K:=K.thenOwn kst (Nat.le_refl _) oM|replace K:=K.then_ kst (Nat.le_refl _)
    replace R:=RB9;clear RB9 kst;simp only[sbt,sc0,scs] at R;refine hKc _ _ ((hS0 _).2 ⟨Z,K⟩) ?_;clear hKc Kc;refine oX ?_;refine wpOrd_nil ?_;clear hevT _hev;clear cZ hS0 hS1 S;have cR:=R.cell;go_wp2_with fail
    exact bodyPost_ret (by simp[results,Tryz.results99,go_sem,cR]) rfl ⟨rfl,K⟩
end Go.Proofs.YtdhiappifnflpaaGreatDoor
