/- Skies and sights in plain Lean: what the program checks of them, and what a sight says. No program here. slices.IndexFunc, ContainsFunc of boxes, sights, stations, catalogs, cells and numbers. Rows of one's own: theory. -/
import Derived.Test.YtdhiappifnflpaaGreatM19
import Derived.Laws.EntriesVeiled
import Derived.Lib.SliceRun
import Derived.Maps.AppendAt
set_option maxHeartbeats 400000
namespace Go.Proofs.YtdhiappifnflpaaGreat
structure Stn where
 id:Int
 ox:Int
 oy:Int
deriving Inhabited
structure Cat where
 ver:Int
 lo:Int
 hi:Int
deriving Inhabited
structure Sky where
 W:Wd
 st:List Stn
 ct:List Cat
structure Sg where
 kind:Int
 stn:Int
 cat:Int
 tick:Int
 dx:Int
 dy:Int
 err:Int
 lo:Int
 hi:Int
def Asc:Int→List Int→Prop
 | _,[]=>True
 | k,n::r=>k<n∧Asc n r
structure Sky.ok (S:Sky):Prop where
 W:S.W.ok
 s0:0<S.st.length
 s1:S.st.length≤3
 sid:Asc 0 (S.st.map (·.id))
 soff:∀ x∈S.st,-40≤x.ox∧x.ox≤40∧-40≤x.oy∧x.oy≤40
 c0:0<S.ct.length
 c1:S.ct.length≤3
 cid:Asc 0 (S.ct.map (·.ver))
 cb:∀ x∈S.ct,-20000≤x.lo∧x.lo≤x.hi∧x.hi≤20000
def Sky.station (S:Sky) (id:Int):Option Stn:=S.st.find? fun x=>decide (x.id=id)
def Sky.catalog (S:Sky) (v:Int):Option Cat:=S.ct.find? fun x=>decide (x.ver=v)
def Sky.okSg (S:Sky) (x:Sg):Prop:=
 (1≤x.kind∧x.kind≤3)∧(0≤x.tick∧x.tick≤1073741824)∧(S.station x.stn).isSome=true ∧
 (x.kind≠2→(S.catalog x.cat).isSome=true∧(-4096≤x.dx∧x.dx≤4096∧-4096≤x.dy∧x.dy≤4096)∧¬ (x.dx=0∧x.dy=0)∧0≤x.err∧x.err≤500000) ∧
 (x.kind=2→0≤x.lo∧x.lo≤x.hi∧x.hi≤134217728)∧(x.kind=3→1≤x.hi∧x.hi≤134217728)
def Sky.from(S:Sky) (x:Sg):Pt:=⟨(S.W.hp x.tick).x+((S.station x.stn).getD default).ox,(S.W.hp x.tick).y+((S.station x.stn).getD default).oy⟩
def Sky.cone (S:Sky) (x:Sg):Cone:=⟨(S.from x).x,(S.from x).y,x.dx,x.dy,((S.catalog x.cat).getD default).lo-x.err,((S.catalog x.cat).getD default).hi+x.err⟩
def Sky.look (S:Sky) (x:Sg):Look:=
 if x.kind=2 then .reach (S.from x).x (S.from x).y x.lo x.hi else if x.kind=1 then .angle (S.cone x) else .empty (S.cone x) x.hi
def nearPl (p:Pt):Bool:=decide (-33554432≤p.x∧p.x≤33554432∧-33554432≤p.y∧p.y≤33554432)
def Sky.exB (S:Sky) (l:List Sg) (t:Int) (b:Bx):Bool:=l.any fun x=>decide (x.tick=t)&&(S.look x).excl b.place
theorem Sky.exB_sound {S:Sky} {l:List Sg} {t:Int} {s:List St} {n:Nat} (h:∀ x∈l,∃ i:Nat,i≤n∧x.tick=t+i∧(S.look x).agrees ⟨(nth s i).x,(nth s i).y⟩=true) (i:Nat) (b:Bx) (hb:b.has (nth s i)):S.exB l (t+i) b=false:=by
 unfold Sky.exB;rw[List.any_eq_false];intro x hx;obtain⟨j,-,ht,ha⟩:=h x hx;rw[Bool.and_eq_true,not_and];intro e;simp only[decide_eq_true_eq] at e;obtain rfl:j=i:=by omega
 have:=excl_sound (a:=b.place) (p:=⟨(nth s j).x,(nth s j).y⟩) ⟨hb.1,hb.2.1⟩ ha;rw[this];decide
theorem Asc.gt {k:Int}:∀ {l:List Int},Asc k l→∀ n∈l,k<n
 | [],_,n,h=>by simp at h
 | m::r,h,n,hn=>by
  simp only[List.mem_cons] at hn;rcases hn with rfl|hn
  · exact h.1
  ·
   have:=Asc.gt h.2 n hn;have:=h.1;omega
instance:Coe Sg (Array Value):=⟨fun a=>#[.int .i64 a.kind,.int .i64 a.stn,.int .i64 a.cat,.int .i64 a.tick,.int .i64 a.dx,.int .i64 a.dy,.int .i64 a.err,.int .i64 a.lo,.int .i64 a.hi]⟩
instance:Coe Sg Value:=⟨fun a=>.agg #[.int .i64 a.kind,.int .i64 a.stn,.int .i64 a.cat,.int .i64 a.tick,.int .i64 a.dx,.int .i64 a.dy,.int .i64 a.err,.int .i64 a.lo,.int .i64 a.hi]⟩
end Go.Proofs.YtdhiappifnflpaaGreat
namespace Go.Proofs.YtdhiappifnflpaaGreat
open Go.RowKit
theorem ret_int {a b:Int} (h:a=b):Ending.returned (.int .i64 a)=Ending.returned (.int .i64 b):=by rw[h]
def idxI {α:Type} (p:α→Bool):List α→Int→Int
 | [],_=>-1
 | x::r,k=>if p x then k else idxI p r (k+1)
theorem idx_spec {α:Type} (p:α→Bool):∀ (xs:List α) (k:Int),(idxI p xs k=-1∧xs.find? p=none)∨∃ (i:Nat) (hi:i<xs.length),idxI p xs k=k+i∧xs.find? p=some xs[i]∧p xs[i]=true∧∀ j (hj:j<i),p (xs[j]'(by omega))=false
 | [],k=>.inl ⟨rfl,rfl⟩
 | x::r,k=>by
  unfold idxI;by_cases hx:p x=true
  ·
   rw[if_pos hx];exact .inr ⟨0,by simp,by simp,by simp[hx],by simpa using hx,fun j hj=>absurd hj oM⟩
  ·
   rw[if_neg hx,List.find?_cons_of_neg hx];rcases idx_spec p r (k+1) with⟨h1,h2⟩|⟨i,hi,h1,h2,h3,h4⟩
   · exact .inl ⟨h1,h2⟩
   ·
    refine .inr ⟨i+1,by simpa using hi,by rw[h1];push_cast;omega,by simpa using h2,by simpa using h3,fun j hj=>?_⟩;cases j with
    | zero=>simpa using hx
    | succ j=>simpa using h4 j oM
theorem idx_drop {α:Type} (p:α→Bool) (xs:List α) (i:Nat) (hi:i<xs.length):idxI p (xs.drop i) i=if p xs[i] then (i:Int) else idxI p (xs.drop (i+1)) ((i+1:Nat):Int):=by
 rw[List.drop_eq_getElem_cons hi];rfl
theorem idx_any {α:Type} (p:α→Bool) (xs:List α):decide (0≤idxI p xs 0)=xs.any p:=by
 rcases idx_spec p xs 0 with⟨h1,h2⟩|⟨i,hi,h1,h2,h3,h4⟩
 ·
  rw[h1];rw[List.find?_eq_none] at h2;symm
  simpa using h2
 ·
  rw[h1];have:xs.any p=true:=List.any_eq_true.2 ⟨xs[i],List.getElem_mem hi,h3⟩;rw[this];simp
def PredK {α:Type} (g:Nat) (lb:Array Value) (one:α→Value) (p:α→Bool) (xs:List α) (w:World):Prop:=
 ∀ (W:World) (x:α),x∈xs→Kp w.heap.size none w W→Calls Tryz.prog g (#[one x]++lb) W fun e w'=>e=.returned (.bool (p x))∧Kp W.heap.size none W w'
def IdxF (V:Int) {α:Type} (p:α→Bool) (xs:List α) (w:World) (v:Value) (wr:World):Prop:=∃ i:Nat,v=.int .i64 i∧i≤xs.length∧idxI p (xs.drop i) i=V∧Kp w.heap.size none w wr
structure Cl where
 b:Bx
 k:Int
 p:Int
def encBx (x:Bx):List Value:=[.int .i64 x.x.lo,.int .i64 x.x.hi,.int .i64 x.y.lo,.int .i64 x.y.hi,.int .i64 x.u.lo,.int .i64 x.u.hi,.int .i64 x.v.lo,.int .i64 x.v.hi]
def oneBox (x:Bx):Value:=.agg x
def encSg (x:Sg):List Value:=[.int .i64 x.kind,.int .i64 x.stn,.int .i64 x.cat,.int .i64 x.tick,.int .i64 x.dx,.int .i64 x.dy,.int .i64 x.err,.int .i64 x.lo,.int .i64 x.hi]
def oneSight (x:Sg):Value:=.agg x
def encStn (x:Stn):List Value:=[.int .i64 x.id,.int .i64 x.ox,.int .i64 x.oy]
def oneStation (x:Stn):Value:=.agg #[x.id,x.ox,x.oy]
def encCat (x:Cat):List Value:=[.int .i64 x.ver,.int .i64 x.lo,.int .i64 x.hi]
def oneCatalog (x:Cat):Value:=.agg #[x.ver,x.lo,x.hi]
def oneInt (x:Int):Value:=.int .i64 x
def encCl (x:Cl):List Value:=[.int .i64 x.b.x.lo,.int .i64 x.b.x.hi,.int .i64 x.b.y.lo,.int .i64 x.b.y.hi,.int .i64 x.b.u.lo,.int .i64 x.b.u.hi,.int .i64 x.b.v.lo,.int .i64 x.b.v.hi,.int .i64 x.k,.int .i64 x.p]
def oneCell (x:Cl):Value:=.agg #[x.b.x.lo,x.b.x.hi,x.b.y.lo,x.b.y.hi,x.b.u.lo,x.b.u.hi,x.b.v.lo,x.b.v.hi,x.k,x.p]
theorem indexBox_any (g:Nat) (lb:Array Value) (p:Bx→Bool) (eg:∀ args w,(callFunc g args).run Tryz.prog w=.ok (.enter g args) w) (A:Option Addr) (cap:Nat) (xs:List Bx) (w:World)
  (hp:PredK g lb oneBox p xs w) (hr:Rd none w 8 encBx A xs.length xs) (hn:xs.length≤17592186044416) :
  Calls Tryz.prog 91 #[.slice A xs.length cap,.func (.func g) #[] lb] w fun e w'=>e=.returned (.int .i64 (idxI p xs 0))∧Kp w.heap.size none w w':=by
 obtain⟨V,hV⟩:∃ V,V=idxI p xs 0:=⟨_,rfl⟩;rw[← hV];go_enter Tryz.func91,Tryz.ntmps91
 go_wp2_with fail
 go_loopw [8] (fun v wr=>IdxF V p xs w v wr) (fun v _=>xs.length-(intOf v).toNat)
 case atStart=>exact⟨0,rfl,by omega,by rw[hV];rfl,Kp.refl _ _ _⟩
 case round=>
  obtain⟨i,rfl,hi,hj,KK⟩:=hrel;by_cases h7:i<xs.length
  ·
   obtain⟨b,o,rfl,hb,-,hc⟩:=(hr.kpN KK).at_ oM;have c0:wr.cell? ⟨b,o+i * 8+0,none⟩=some (.int .i64 xs[i].x.lo):=by rw[Nat.add_assoc];exact hc i h7 0 _ rfl
   have c1:wr.cell? ⟨b,o+i * 8+1,none⟩=some (.int .i64 xs[i].x.hi):=by rw[Nat.add_assoc];exact hc i h7 1 _ rfl
   have c2:wr.cell? ⟨b,o+i * 8+2,none⟩=some (.int .i64 xs[i].y.lo):=by rw[Nat.add_assoc];exact hc i h7 2 _ rfl
   have c3:wr.cell? ⟨b,o+i * 8+3,none⟩=some (.int .i64 xs[i].y.hi):=by rw[Nat.add_assoc];exact hc i h7 3 _ rfl
   have c4:wr.cell? ⟨b,o+i * 8+4,none⟩=some (.int .i64 xs[i].u.lo):=by rw[Nat.add_assoc];exact hc i h7 4 _ rfl
   have c5:wr.cell? ⟨b,o+i * 8+5,none⟩=some (.int .i64 xs[i].u.hi):=by rw[Nat.add_assoc];exact hc i h7 5 _ rfl
   have c6:wr.cell? ⟨b,o+i * 8+6,none⟩=some (.int .i64 xs[i].v.lo):=by rw[Nat.add_assoc];exact hc i h7 6 _ rfl
   have c7:wr.cell? ⟨b,o+i * 8+7,none⟩=some (.int .i64 xs[i].v.hi):=by rw[Nat.add_assoc];exact hc i h7 7 _ rfl
   have hcall:=hp wr xs[i] (List.getElem_mem h7) KK;have hi':(i:Int)<(xs.length:Int):=by omega
   rw[idx_drop p xs i h7] at hj;replace hr:=Lib.hid hr;replace hp:=Lib.hid hp;clear hc;generalize xs[i]=x at c0 c1 c2 c3 c4 c5 c6 c7 hcall hj;simp only[Nat.add_zero] at c0;try simp only[Nat.mul_one] at c0
   unfold oneBox at hcall;cases hq:p x with
   | true=>
    rw[hq] at hcall hj;rw[if_pos rfl] at hj;replace hj:=Lib.hid hj;go_wp2_with (go_at_fn g;refine hcall.mono ?_;rintro e w2 ⟨rfl,k2⟩)
    go_ret
    exact⟨ret_int hj.out,KK.tN k2⟩
   | false=>
    rw[hq] at hcall hj;rw[if_neg (by simp)] at hj;replace hj:=Lib.hid hj;replace h7:=Lib.hid h7;clear hi;go_wp2_with (go_at_fn g;refine hcall.mono ?_;rintro e w2 ⟨rfl,k2⟩)
    go_roundw
    case rel=>exact⟨i+1,rfl,h7.out,hj.out,KK.tN k2⟩
    case measure=>have:=h7.out;simp[intOf];omega
  ·
   have he:i=xs.length:=by omega
   have hi':¬ (i:Int)<(xs.length:Int):=by omega
   rw[he,List.drop_length] at hj;replace hj:=Lib.hid hj;clear h7 hi;subst he;go_wp2
   go_ret
   exact⟨ret_int (hj.out.trans hV),KK⟩
theorem indexSight_any (g:Nat) (lb:Array Value) (p:Sg→Bool) (eg:∀ args w,(callFunc g args).run Tryz.prog w=.ok (.enter g args) w) (A:Option Addr) (cap:Nat) (xs:List Sg) (w:World)
  (hp:PredK g lb oneSight p xs w) (hr:Rd none w 9 encSg A xs.length xs) (hn:xs.length≤17592186044416) :
  Calls Tryz.prog 133 #[.slice A xs.length cap,.func (.func g) #[] lb] w fun e w'=>e=.returned (.int .i64 (idxI p xs 0))∧Kp w.heap.size none w w':=by
 obtain⟨V,hV⟩:∃ V,V=idxI p xs 0:=⟨_,rfl⟩;rw[← hV];go_enter Tryz.func133,Tryz.ntmps133
 go_wp2_with fail
 go_loopw [8] (fun v wr=>IdxF V p xs w v wr) (fun v _=>xs.length-(intOf v).toNat)
 case atStart=>exact⟨0,rfl,by omega,by rw[hV];rfl,Kp.refl _ _ _⟩
 case round=>
  obtain⟨i,rfl,hi,hj,KK⟩:=hrel;by_cases h7:i<xs.length
  ·
   obtain⟨b,o,rfl,hb,-,hc⟩:=(hr.kpN KK).at_ oM;have c0:wr.cell? ⟨b,o+i * 9+0,none⟩=some (.int .i64 xs[i].kind):=by rw[Nat.add_assoc];exact hc i h7 0 _ rfl
   have c1:wr.cell? ⟨b,o+i * 9+1,none⟩=some (.int .i64 xs[i].stn):=by rw[Nat.add_assoc];exact hc i h7 1 _ rfl
   have c2:wr.cell? ⟨b,o+i * 9+2,none⟩=some (.int .i64 xs[i].cat):=by rw[Nat.add_assoc];exact hc i h7 2 _ rfl
   have c3:wr.cell? ⟨b,o+i * 9+3,none⟩=some (.int .i64 xs[i].tick):=by rw[Nat.add_assoc];exact hc i h7 3 _ rfl
   have c4:wr.cell? ⟨b,o+i * 9+4,none⟩=some (.int .i64 xs[i].dx):=by rw[Nat.add_assoc];exact hc i h7 4 _ rfl
   have c5:wr.cell? ⟨b,o+i * 9+5,none⟩=some (.int .i64 xs[i].dy):=by rw[Nat.add_assoc];exact hc i h7 5 _ rfl
   have c6:wr.cell? ⟨b,o+i * 9+6,none⟩=some (.int .i64 xs[i].err):=by rw[Nat.add_assoc];exact hc i h7 6 _ rfl
   have c7:wr.cell? ⟨b,o+i * 9+7,none⟩=some (.int .i64 xs[i].lo):=by rw[Nat.add_assoc];exact hc i h7 7 _ rfl
   have c8:wr.cell? ⟨b,o+i * 9+8,none⟩=some (.int .i64 xs[i].hi):=by rw[Nat.add_assoc];exact hc i h7 8 _ rfl
   have hcall:=hp wr xs[i] (List.getElem_mem h7) KK;have hi':(i:Int)<(xs.length:Int):=by omega
   rw[idx_drop p xs i h7] at hj;replace hr:=Lib.hid hr;replace hp:=Lib.hid hp;clear hc;generalize xs[i]=x at c0 c1 c2 c3 c4 c5 c6 c7 c8 hcall hj;simp only[Nat.add_zero] at c0;try simp only[Nat.mul_one] at c0
   unfold oneSight at hcall;cases hq:p x with
   | true=>
    rw[hq] at hcall hj;rw[if_pos rfl] at hj;replace hj:=Lib.hid hj;go_wp2_with (go_at_fn g;refine hcall.mono ?_;rintro e w2 ⟨rfl,k2⟩)
    go_ret
    exact⟨ret_int hj.out,KK.tN k2⟩
   | false=>
    rw[hq] at hcall hj;rw[if_neg (by simp)] at hj;replace hj:=Lib.hid hj;replace h7:=Lib.hid h7;clear hi;go_wp2_with (go_at_fn g;refine hcall.mono ?_;rintro e w2 ⟨rfl,k2⟩)
    go_roundw
    case rel=>exact⟨i+1,rfl,h7.out,hj.out,KK.tN k2⟩
    case measure=>have:=h7.out;simp[intOf];omega
  ·
   have he:i=xs.length:=by omega
   have hi':¬ (i:Int)<(xs.length:Int):=by omega
   rw[he,List.drop_length] at hj;replace hj:=Lib.hid hj;clear h7 hi;subst he;go_wp2
   go_ret
   exact⟨ret_int (hj.out.trans hV),KK⟩
theorem indexStation_any (g:Nat) (lb:Array Value) (p:Stn→Bool) (eg:∀ args w,(callFunc g args).run Tryz.prog w=.ok (.enter g args) w) (A:Option Addr) (cap:Nat) (xs:List Stn) (w:World)
  (hp:PredK g lb oneStation p xs w) (hr:Rd none w 3 encStn A xs.length xs) (hn:xs.length≤17592186044416) :
  Calls Tryz.prog 163 #[.slice A xs.length cap,.func (.func g) #[] lb] w fun e w'=>e=.returned (.int .i64 (idxI p xs 0))∧Kp w.heap.size none w w':=by
 obtain⟨V,hV⟩:∃ V,V=idxI p xs 0:=⟨_,rfl⟩;rw[← hV];go_enter Tryz.func163,Tryz.ntmps163
 go_wp2_with fail
 go_loopw [8] (fun v wr=>IdxF V p xs w v wr) (fun v _=>xs.length-(intOf v).toNat)
 case atStart=>exact⟨0,rfl,by omega,by rw[hV];rfl,Kp.refl _ _ _⟩
 case round=>
  obtain⟨i,rfl,hi,hj,KK⟩:=hrel;by_cases h7:i<xs.length
  ·
   obtain⟨b,o,rfl,hb,-,hc⟩:=(hr.kpN KK).at_ oM;have c0:wr.cell? ⟨b,o+i * 3+0,none⟩=some (.int .i64 xs[i].id):=by rw[Nat.add_assoc];exact hc i h7 0 _ rfl
   have c1:wr.cell? ⟨b,o+i * 3+1,none⟩=some (.int .i64 xs[i].ox):=by rw[Nat.add_assoc];exact hc i h7 1 _ rfl
   have c2:wr.cell? ⟨b,o+i * 3+2,none⟩=some (.int .i64 xs[i].oy):=by rw[Nat.add_assoc];exact hc i h7 2 _ rfl
   have hcall:=hp wr xs[i] (List.getElem_mem h7) KK;have hi':(i:Int)<(xs.length:Int):=by omega
   rw[idx_drop p xs i h7] at hj;replace hr:=Lib.hid hr;replace hp:=Lib.hid hp;clear hc;generalize xs[i]=x at c0 c1 c2 hcall hj;simp only[Nat.add_zero] at c0;try simp only[Nat.mul_one] at c0
   unfold oneStation at hcall;cases hq:p x with
   | true=>
    rw[hq] at hcall hj;rw[if_pos rfl] at hj;replace hj:=Lib.hid hj;go_wp2_with (go_at_fn g;refine hcall.mono ?_;rintro e w2 ⟨rfl,k2⟩)
    go_ret
    exact⟨ret_int hj.out,KK.tN k2⟩
   | false=>
    rw[hq] at hcall hj;rw[if_neg (by simp)] at hj;replace hj:=Lib.hid hj;replace h7:=Lib.hid h7;clear hi;go_wp2_with (go_at_fn g;refine hcall.mono ?_;rintro e w2 ⟨rfl,k2⟩)
    go_roundw
    case rel=>exact⟨i+1,rfl,h7.out,hj.out,KK.tN k2⟩
    case measure=>have:=h7.out;simp[intOf];omega
  ·
   have he:i=xs.length:=by omega
   have hi':¬ (i:Int)<(xs.length:Int):=by omega
   rw[he,List.drop_length] at hj;replace hj:=Lib.hid hj;clear h7 hi;subst he;go_wp2
   go_ret
   exact⟨ret_int (hj.out.trans hV),KK⟩
theorem indexCatalog_any (g:Nat) (lb:Array Value) (p:Cat→Bool) (eg:∀ args w,(callFunc g args).run Tryz.prog w=.ok (.enter g args) w) (A:Option Addr) (cap:Nat) (xs:List Cat) (w:World)
  (hp:PredK g lb oneCatalog p xs w) (hr:Rd none w 3 encCat A xs.length xs) (hn:xs.length≤17592186044416) :
  Calls Tryz.prog 165 #[.slice A xs.length cap,.func (.func g) #[] lb] w fun e w'=>e=.returned (.int .i64 (idxI p xs 0))∧Kp w.heap.size none w w':=by
 obtain⟨V,hV⟩:∃ V,V=idxI p xs 0:=⟨_,rfl⟩;rw[← hV];go_enter Tryz.func165,Tryz.ntmps165
 go_wp2_with fail
 go_loopw [8] (fun v wr=>IdxF V p xs w v wr) (fun v _=>xs.length-(intOf v).toNat)
 case atStart=>exact⟨0,rfl,by omega,by rw[hV];rfl,Kp.refl _ _ _⟩
 case round=>
  obtain⟨i,rfl,hi,hj,KK⟩:=hrel;by_cases h7:i<xs.length
  ·
   obtain⟨b,o,rfl,hb,-,hc⟩:=(hr.kpN KK).at_ oM;have c0:wr.cell? ⟨b,o+i * 3+0,none⟩=some (.int .i64 xs[i].ver):=by rw[Nat.add_assoc];exact hc i h7 0 _ rfl
   have c1:wr.cell? ⟨b,o+i * 3+1,none⟩=some (.int .i64 xs[i].lo):=by rw[Nat.add_assoc];exact hc i h7 1 _ rfl
   have c2:wr.cell? ⟨b,o+i * 3+2,none⟩=some (.int .i64 xs[i].hi):=by rw[Nat.add_assoc];exact hc i h7 2 _ rfl
   have hcall:=hp wr xs[i] (List.getElem_mem h7) KK;have hi':(i:Int)<(xs.length:Int):=by omega
   rw[idx_drop p xs i h7] at hj;replace hr:=Lib.hid hr;replace hp:=Lib.hid hp;clear hc;generalize xs[i]=x at c0 c1 c2 hcall hj;simp only[Nat.add_zero] at c0;try simp only[Nat.mul_one] at c0
   unfold oneCatalog at hcall;cases hq:p x with
   | true=>
    rw[hq] at hcall hj;rw[if_pos rfl] at hj;replace hj:=Lib.hid hj;go_wp2_with (go_at_fn g;refine hcall.mono ?_;rintro e w2 ⟨rfl,k2⟩)
    go_ret
    exact⟨ret_int hj.out,KK.tN k2⟩
   | false=>
    rw[hq] at hcall hj;rw[if_neg (by simp)] at hj;replace hj:=Lib.hid hj;replace h7:=Lib.hid h7;clear hi;go_wp2_with (go_at_fn g;refine hcall.mono ?_;rintro e w2 ⟨rfl,k2⟩)
    go_roundw
    case rel=>exact⟨i+1,rfl,h7.out,hj.out,KK.tN k2⟩
    case measure=>have:=h7.out;simp[intOf];omega
  ·
   have he:i=xs.length:=by omega
   have hi':¬ (i:Int)<(xs.length:Int):=by omega
   rw[he,List.drop_length] at hj;replace hj:=Lib.hid hj;clear h7 hi;subst he;go_wp2
   go_ret
   exact⟨ret_int (hj.out.trans hV),KK⟩
theorem indexCell_any (g:Nat) (lb:Array Value) (p:Cl→Bool) (eg:∀ args w,(callFunc g args).run Tryz.prog w=.ok (.enter g args) w) (A:Option Addr) (cap:Nat) (xs:List Cl) (w:World)
  (hp:PredK g lb oneCell p xs w) (hr:Rd none w 10 encCl A xs.length xs) (hn:xs.length≤17592186044416) :
  Calls Tryz.prog 105 #[.slice A xs.length cap,.func (.func g) #[] lb] w fun e w'=>e=.returned (.int .i64 (idxI p xs 0))∧Kp w.heap.size none w w':=by
 obtain⟨V,hV⟩:∃ V,V=idxI p xs 0:=⟨_,rfl⟩;rw[← hV];go_enter Tryz.func105,Tryz.ntmps105
 go_wp2_with fail
 go_loopw [8] (fun v wr=>IdxF V p xs w v wr) (fun v _=>xs.length-(intOf v).toNat)
 case atStart=>exact⟨0,rfl,by omega,by rw[hV];rfl,Kp.refl _ _ _⟩
 case round=>
  obtain⟨i,rfl,hi,hj,KK⟩:=hrel;by_cases h7:i<xs.length
  ·
   obtain⟨b,o,rfl,hb,-,hc⟩:=(hr.kpN KK).at_ oM;have c0:wr.cell? ⟨b,o+i * 10+0,none⟩=some (.int .i64 xs[i].b.x.lo):=by rw[Nat.add_assoc];exact hc i h7 0 _ rfl
   have c1:wr.cell? ⟨b,o+i * 10+1,none⟩=some (.int .i64 xs[i].b.x.hi):=by rw[Nat.add_assoc];exact hc i h7 1 _ rfl
   have c2:wr.cell? ⟨b,o+i * 10+2,none⟩=some (.int .i64 xs[i].b.y.lo):=by rw[Nat.add_assoc];exact hc i h7 2 _ rfl
   have c3:wr.cell? ⟨b,o+i * 10+3,none⟩=some (.int .i64 xs[i].b.y.hi):=by rw[Nat.add_assoc];exact hc i h7 3 _ rfl
   have c4:wr.cell? ⟨b,o+i * 10+4,none⟩=some (.int .i64 xs[i].b.u.lo):=by rw[Nat.add_assoc];exact hc i h7 4 _ rfl
   have c5:wr.cell? ⟨b,o+i * 10+5,none⟩=some (.int .i64 xs[i].b.u.hi):=by rw[Nat.add_assoc];exact hc i h7 5 _ rfl
   have c6:wr.cell? ⟨b,o+i * 10+6,none⟩=some (.int .i64 xs[i].b.v.lo):=by rw[Nat.add_assoc];exact hc i h7 6 _ rfl
   have c7:wr.cell? ⟨b,o+i * 10+7,none⟩=some (.int .i64 xs[i].b.v.hi):=by rw[Nat.add_assoc];exact hc i h7 7 _ rfl
   have c8:wr.cell? ⟨b,o+i * 10+8,none⟩=some (.int .i64 xs[i].k):=by rw[Nat.add_assoc];exact hc i h7 8 _ rfl
   have c9:wr.cell? ⟨b,o+i * 10+9,none⟩=some (.int .i64 xs[i].p):=by rw[Nat.add_assoc];exact hc i h7 9 _ rfl
   have hcall:=hp wr xs[i] (List.getElem_mem h7) KK;have hi':(i:Int)<(xs.length:Int):=by omega
   rw[idx_drop p xs i h7] at hj;replace hr:=Lib.hid hr;replace hp:=Lib.hid hp;clear hc;generalize xs[i]=x at c0 c1 c2 c3 c4 c5 c6 c7 c8 c9 hcall hj;simp only[Nat.add_zero] at c0;try simp only[Nat.mul_one] at c0
   unfold oneCell at hcall;cases hq:p x with
   | true=>
    rw[hq] at hcall hj;rw[if_pos rfl] at hj;replace hj:=Lib.hid hj;go_wp2_with (go_at_fn g;refine hcall.mono ?_;rintro e w2 ⟨rfl,k2⟩)
    go_ret
    exact⟨ret_int hj.out,KK.tN k2⟩
   | false=>
    rw[hq] at hcall hj;rw[if_neg (by simp)] at hj;replace hj:=Lib.hid hj;replace h7:=Lib.hid h7;clear hi;go_wp2_with (go_at_fn g;refine hcall.mono ?_;rintro e w2 ⟨rfl,k2⟩)
    go_roundw
    case rel=>exact⟨i+1,rfl,h7.out,hj.out,KK.tN k2⟩
    case measure=>have:=h7.out;simp[intOf];omega
  ·
   have he:i=xs.length:=by omega
   have hi':¬ (i:Int)<(xs.length:Int):=by omega
   rw[he,List.drop_length] at hj;replace hj:=Lib.hid hj;clear h7 hi;subst he;go_wp2
   go_ret
   exact⟨ret_int (hj.out.trans hV),KK⟩
theorem containsBox_any (g:Nat) (lb:Array Value) (p:Bx→Bool) (eg:∀ args w,(callFunc g args).run Tryz.prog w=.ok (.enter g args) w) (A:Option Addr) (cap:Nat) (xs:List Bx) (w:World)
  (hp:PredK g lb oneBox p xs w) (hr:Rd none w 8 encBx A xs.length xs) (hn:xs.length≤1000000) :
  Calls Tryz.prog 40 #[.slice A xs.length cap,.func (.func g) #[] lb] w fun e w'=>e=.returned (.bool (xs.any p))∧Kp w.heap.size none w w':=by
 have hi:=fun w hp hr=>indexBox_any g lb p eg A cap xs w hp hr oM;have ha:=idx_any p xs;generalize idxI p xs 0=v at *;rw[← ha];clear ha;go_enter Tryz.func40,Tryz.ntmps40
 go_wp2_with fail
 refine mK (hi _ hp hr) fun w1 k=>?_;go_wp2
 go_ret
 exact⟨rfl,k⟩
theorem containsSight_any (g:Nat) (lb:Array Value) (p:Sg→Bool) (eg:∀ args w,(callFunc g args).run Tryz.prog w=.ok (.enter g args) w) (A:Option Addr) (cap:Nat) (xs:List Sg) (w:World)
  (hp:PredK g lb oneSight p xs w) (hr:Rd none w 9 encSg A xs.length xs) (hn:xs.length≤1000000) :
  Calls Tryz.prog 88 #[.slice A xs.length cap,.func (.func g) #[] lb] w fun e w'=>e=.returned (.bool (xs.any p))∧Kp w.heap.size none w w':=by
 have hi:=fun w hp hr=>indexSight_any g lb p eg A cap xs w hp hr oM;have ha:=idx_any p xs;generalize idxI p xs 0=v at *;rw[← ha];clear ha;go_enter Tryz.func88,Tryz.ntmps88
 go_wp2_with fail
 refine mK (hi _ hp hr) fun w1 k=>?_;go_wp2
 go_ret
 exact⟨rfl,k⟩
theorem containsCell_any (g:Nat) (lb:Array Value) (p:Cl→Bool) (eg:∀ args w,(callFunc g args).run Tryz.prog w=.ok (.enter g args) w) (A:Option Addr) (cap:Nat) (xs:List Cl) (w:World)
  (hp:PredK g lb oneCell p xs w) (hr:Rd none w 10 encCl A xs.length xs) (hn:xs.length≤1000000) :
  Calls Tryz.prog 56 #[.slice A xs.length cap,.func (.func g) #[] lb] w fun e w'=>e=.returned (.bool (xs.any p))∧Kp w.heap.size none w w':=by
 have hi:=fun w hp hr=>indexCell_any g lb p eg A cap xs w hp hr oM;have ha:=idx_any p xs;generalize idxI p xs 0=v at *;rw[← ha];clear ha;go_enter Tryz.func56,Tryz.ntmps56
 go_wp2_with fail
 refine mK (hi _ hp hr) fun w1 k=>?_;go_wp2
 go_ret
 exact⟨rfl,k⟩
theorem Own.rd0 {α:Type} {w:World} {B e sz:Nat} {enc:α→List Value} {v:Value} {xs:List α} (h:Own w B e sz enc v xs) (he:∀ x,(enc x).length=sz) :
  ∃ A cap,v=.slice A xs.length cap∧Rd none w sz enc A xs.length xs∧((A=none∧xs=[]∧cap=0)∨∃ g,A=some ⟨g,0,none⟩∧B≤g∧g<w.heap.size∧xs.length≤cap):=by
 obtain⟨A,cap,hv,hr,-⟩:=h.rd (row:=none) he (fun b hb=>by simp);refine⟨A,cap,hv,hr,?_⟩;rcases h.2 with⟨h1,h2⟩|⟨g,cap',cur,h1,h2,h3,h4,-⟩
 ·
  rw[hv] at h1;simp only[Value.slice.injEq] at h1;exact .inl ⟨h1.1,List.eq_nil_of_length_eq_zero h2,h1.2.2⟩
 ·
  rw[hv] at h1;simp only[Value.slice.injEq] at h1;obtain⟨rfl,-,rfl⟩:=h1;exact .inr ⟨g,rfl,h2,(Array.getElem?_eq_some_iff.1 h3).1,h4⟩
theorem grown_trans {w w1 w2:World} {row:Option Nat} (h:w.grownBy w1 row) (k:w1.grownBy w2 row):w.grownBy w2 row:=
 ⟨k.os.trans h.os,k.tape.trans h.tape,k.output.trans h.output,Nat.le_trans h.size k.size,fun i hi hne=>(k.block i (Nat.lt_of_lt_of_le hi h.size) hne).trans (h.block i hi hne)⟩
theorem grown_set (w:World) (g o:Nat) (u:Value):w.grownBy (w.setCell ⟨g,o,none⟩ u) (some g):=
 ⟨rfl,rfl,rfl,by simp[World.setCell],fun i _ hne=>Below.heap_setCell _ _ _ _ (fun e=>hne (by rw[e]))⟩
theorem flat_set {α:Type} {enc:α→List Value} {sz:Nat} (he:∀ x,(enc x).length=sz) (u:Value):∀ (xs:List α) (i:Nat) (hi:i<xs.length) (j:Nat) (y:α),j<sz→enc y=(enc xs[i]).set j u→(xs.flatMap enc).set (i * sz+j) u=(xs.set i y).flatMap enc
 | x::xs,0,_,j,y,hj,e=>by
  rw[List.flatMap_cons,List.set_append_left _ _ (by rw[he];omega)];simp only[List.set_cons_zero,List.flatMap_cons];rw[e];simp
 | x::xs,i+1,hi,j,y,hj,e=>by
  rw[List.flatMap_cons,List.set_append_right _ _ (by rw[he,Nat.succ_mul];omega),he,Nat.succ_mul];rw[show i * sz+sz+j-sz=i * sz+j from by omega];simp only[List.set_cons_succ,List.flatMap_cons];rw[flat_set he u xs i (by simpa using hi) j y hj (by simpa using e)]
theorem Own.setAt {α:Type} {w:World} {B e sz n cap g:Nat} {enc:α→List Value} {xs:List α} (he:∀ x,(enc x).length=sz) (h:Own w B e sz enc (.slice (some ⟨g,0,none⟩) n cap) xs) (i:Nat) (hi:i<xs.length) (j:Nat) (hj:j<sz) (u:Value) (y:α) (hy:enc y=(enc xs[i]).set j u) :
  Own (w.setCell ⟨g,i * sz+j,none⟩ u) B e sz enc (.slice (some ⟨g,0,none⟩) n cap) (xs.set i y)∧w.grownBy (w.setCell ⟨g,i * sz+j,none⟩ u) (some g):=by
 unfold Own at h ⊢
 have hn:n=xs.length:=by
  rcases h.2 with⟨h1,_⟩|⟨g',cap',cur,h1,_⟩
  · cases h1
  · simp only[Value.slice.injEq] at h1;exact h1.2.1
 subst hn;have:=World.ownsRow.stored h (i * sz+j) u;rw[flat_set he u xs i hi j y hj hy] at this;rw[List.length_set];exact this
theorem Own.frz {α:Type} {w:World} {B e sz g n cap:Nat} {enc:α→List Value} {xs:List α} (h:Own w B e sz enc (.slice (some ⟨g,0,none⟩) n cap) xs) (he:∀ x,(enc x).length=sz) (j:Nat):w.frozen? ⟨g,j,none⟩=false:=by
 obtain⟨A,cap',e,rd,-⟩:=h.rd0 he;simp only[Value.slice.injEq] at e;obtain⟨rfl,rfl,rfl⟩:=e;exact World.ownsRow.frozenAt h j
theorem Rd.flat {α:Type} {row:Option Nat} {w:World} {sz n:Nat} {enc:α→List Value} {ad:Addr} {xs:List α} (h:Rd row w sz enc (some ad) n xs) (he:∀ x,(enc x).length=sz) :
  ∀ j u,(xs.flatMap enc)[j]?=some u→w.cell? (ad.add j)=some u:=by
 intro j u hj;have hlen:=(List.getElem?_eq_some_iff.1 hj).1;rw[flat_len he] at hlen
 have hsz:0<sz:=by
  rcases Nat.eq_zero_or_pos sz with h0|h0
  · subst h0;simp at hlen
  · exact h0
 have hi:j / sz<xs.length:=Nat.div_lt_of_lt_mul (by rw[Nat.mul_comm];exact hlen);have hm:j % sz<sz:=Nat.mod_lt _ hsz;have e:j / sz * sz+j % sz=j:=by rw[Nat.mul_comm];exact Nat.div_add_mod j sz
 obtain⟨b,o,ea,hb,_,hc⟩:=h.2 (by have h9:=h.1;have:0<xs.length:=Nat.lt_of_le_of_lt (Nat.zero_le _) hi;omega);injection ea with ea
 subst ea;rw[← e] at hj ⊢;rw[flat_at he xs _ hi _ hm] at hj;have:=hc (j / sz) hi (j % sz) u hj;rw[Go.WideShapes.add_plain];exact this
theorem run_clear_rows {P:Program} (w:World) (t e ty:TypeId) (z:Value) (sz:Nat) (ht:P.underlying t=some (.slice e)) (hv:∀ w,(zeroValue e).run P w=.ok z w) (hz:z.cells.size=sz) (h1:∀ i (hi:i<z.cells.size),z.cells[i].oneCell'=true) (b o n c:Nat) (hn:0<n)
  (hc:∀ j,j<n * sz→(w.cell? ⟨b,o+j,none⟩).isSome=true) (hf:∀ j,j<n * sz→w.frozen? ⟨b,o+j,none⟩=false) :
  (Builtin.clear_ #[t] ty #[.slice (some ⟨b,o,none⟩) n c]).run P w=.ok (.tuple #[]) (w.setCells b o (Builtin.zeroCells z.cells n).toList):=by
 have hlen:(Builtin.zeroCells z.cells n).toList.length=n * sz:=by simp[Builtin.zeroCells,hz]
 have hone:∀ v∈(Builtin.zeroCells z.cells n).toList,v.oneCell'=true:=by
  intro v hv;simp only[Builtin.zeroCells,Array.toList_map,List.mem_map] at hv;obtain⟨i,hi,rfl⟩:=hv;have hi2:i<n * z.cells.size:=by simpa using hi
  have h0:0<z.cells.size:=by
   rcases Nat.eq_zero_or_pos z.cells.size with h|h
   · rw[h] at hi2;omega
   · exact h
  have hm:=Nat.mod_lt i h0;rw[getElem!_pos z.cells _ hm];exact h1 _ hm
 have hst:=run_storeCells_cells (P:=P) b o (Builtin.zeroCells z.cells n).toList 0 w (by rw[hlen];simpa using hc) (by rw[hlen];simpa using hf) hone;simp only[Nat.add_zero] at hst;obtain⟨m,rfl⟩:∃ m,n=m+1:=⟨n-1,by omega⟩;simp[Builtin.clear_,run_underlying ht,hv,hst]
theorem kp_setCells {B b:Nat} (hb:B≤b) {w0:World}:∀ (vs:List Value) (o:Nat) {w:World},Kp B none w0 w→Kp B none w0 (w.setCells b o vs)
 | [],_,_,k=>k
 | v::vs,o,w,k=>kp_setCells hb vs (o+1) (k.setNew (p:=⟨b,o,none⟩) hb v)
theorem size_setCells (b:Nat):∀ (vs:List Value) (o:Nat) (w:World),w.heap.size≤(w.setCells b o vs).heap.size
 | [],_,_=>Nat.le_refl _
 | v::vs,o,w=>Nat.le_trans (by simp[World.setCell]) (size_setCells b vs (o+1) (w.setCell ⟨b,o,none⟩ v))
structure DInv {α:Type} (p:α→Bool) (xs dk:List α) (i j:Nat):Prop where
 len:dk.length=xs.length
 lt:i<j
 le:j≤xs.length
 low:dk.take i=(xs.take j).filter p
 high:∀ m,j≤m→dk[m]?=xs[m]?
theorem take_filter_succ {α:Type} (p:α→Bool) (xs:List α) (j:Nat) (hj:j<xs.length):(xs.take (j+1)).filter p=if p xs[j]=true then (xs.take j).filter p++[xs[j]] else (xs.take j).filter p:=by
 rw[List.take_succ_eq_append_getElem hj,List.filter_append,List.filter_cons,List.filter_nil];split<;>simp
theorem DInv.keep {α:Type} {p:α→Bool} {xs dk:List α} {i j:Nat} (h:DInv p xs dk i j) (hj:j<xs.length) (hp:p xs[j]=true):DInv p xs (dk.set i xs[j]) (i+1) (j+1):=by
 have hl:=h.len;have hi:=h.lt;refine⟨by rw[List.length_set];exact hl,by omega,by omega,?_,fun m hm=>?_⟩
 ·
  rw[take_filter_succ p xs j hj,if_pos hp,← h.low];have hi2:i<(dk.set i xs[j]).length:=by rw[List.length_set];omega
  rw[List.take_succ_eq_append_getElem hi2,List.getElem_set_self];congr 1
  exact List.take_set_of_le (Nat.le_refl _)
 ·
  rw[List.getElem?_set_ne oM];exact h.high m oM
theorem DInv.skip {α:Type} {p:α→Bool} {xs dk:List α} {i j:Nat} (h:DInv p xs dk i j) (hj:j<xs.length) (hp:p xs[j]=false):DInv p xs dk i (j+1):=
 ⟨h.len,by have:=h.lt;omega,by omega,by rw[take_filter_succ p xs j hj,if_neg (by rw[hp];decide)];exact h.low,fun m hm=>h.high m oM⟩
theorem DInv.start {α:Type} {p:α→Bool} {xs:List α} {k:Nat} (hk:k<xs.length) (hall:∀ j (hj:j<k),p (xs[j]'(by omega))=true) (hp:p xs[k]=false):DInv p xs xs k (k+1):=by
 refine⟨rfl,by omega,by omega,?_,fun m _=>rfl⟩;rw[take_filter_succ p xs k hk,if_neg (by rw[hp];decide),List.filter_eq_self.2];intro x hx;obtain⟨j,hj,rfl⟩:=List.mem_iff_getElem.1 hx;rw[List.length_take] at hj;rw[List.getElem_take];exact hall j oM
theorem DInv.fin {α:Type} {p:α→Bool} {xs dk:List α} {i:Nat} (h:DInv p xs dk i xs.length):dk.take i=xs.filter p∧(xs.filter p).length=i:=by
 have h1:=h.low;rw[List.take_of_length_le (Nat.le_refl _)] at h1;refine⟨h1,?_⟩;rw[← h1,List.length_take,h.len];have:=h.lt;omega
theorem DInv.at_ {α:Type} {p:α→Bool} {xs dk:List α} {i j:Nat} (h:DInv p xs dk i j) (hj:j<xs.length):dk[j]'(by rw[h.len];exact hj)=xs[j]:=by
 have:=h.high j (Nat.le_refl _);rw[List.getElem?_eq_getElem hj,List.getElem?_eq_getElem (by rw[h.len];exact hj)] at this;exact Option.some.inj this
end Go.Proofs.YtdhiappifnflpaaGreat
