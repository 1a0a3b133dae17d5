/- Orbits: the walks of orbit: updates and Update. Covers: the walks of meet.cover, first part: the fate of a cell, cells in memory. Covers: the walk of meet.cover for one round. -/
import Derived.Test.YtdhiappifnflpaaGreatM50
import Derived.Test.YtdhiappifnflpaaGreatM32
import Derived.Test.YtdhiappifnflpaaGreatM36
import Derived.Test.YtdhiappifnflpaaGreatM26
import Derived.Test.YtdhiappifnflpaaGreatM25
import Derived.Test.YtdhiappifnflpaaGreatM20
set_option maxRecDepth 100000
set_option maxHeartbeats 8000000
namespace Go.Proofs.YtdhiappifnflpaaGreat
open Go.RowKit
attribute [local go_sem] Oper.semAt_some
theorem orbit_updates_any (A B C:Option Addr) (c e f:Nat) (S:Sky) (d:Dr) (t:Int) (G:Option Addr) (n:Nat) (gs:List Sg) (L:Option Addr) (m:Nat) (l:List Bx) (k:Nat) (w:World) :
  Calls Tryz.prog 54 #[.agg #[.slice A S.W.bs.length c,S.W.home,.slice B S.st.length e,.slice C S.ct.length f],d,t,.slice L l.length m,k,.slice G gs.length n] w fun e9 w'=>e9=.returned (.func (.func 103) #[] #[.pointer (some ⟨w.heap.size,0,none⟩),.pointer (some ⟨w.heap.size+2,0,none⟩),.pointer (some ⟨w.heap.size+3,0,none⟩),.pointer (some ⟨w.heap.size+5,0,none⟩),.pointer (some ⟨w.heap.size+4,0,none⟩),.pointer (some ⟨w.heap.size+1,0,none⟩)]) ∧
   Blk w' w.heap.size 43 #[.slice A S.W.bs.length c,S.W.home,.slice B S.st.length e,.slice C S.ct.length f]∧Blk w' (w.heap.size+1) 31 d∧Blk w' (w.heap.size+2) 2 #[t]∧Blk w' (w.heap.size+3) 47 #[.slice L l.length m]∧Blk w' (w.heap.size+4) 3 #[k]∧Blk w' (w.heap.size+5) 44 #[.slice G gs.length n]∧w'.heap.size=w.heap.size+6∧Kp w.heap.size none w w':=by
 obtain⟨w1,hw1,D,F,T,Y,N,X,K,hz⟩:=box6 w 43 #[.slice A S.W.bs.length c,S.W.home,.slice B S.st.length e,.slice C S.ct.length f] 31 d 2 #[t] 47 #[.slice L l.length m] 3 #[k] 44 #[.slice G gs.length n];go_enter Tryz.func54,Tryz.ntmps54
 go_wp2_with fail
 rw[← hw1];exact bodyPost_ret (by simp[results,Tryz.results54,go_sem]) rfl ⟨rfl,D,F,T,Y,N,X,hz,K⟩
theorem Rd.kpNz {α:Type} {row:Option Nat} {w w':World} {sz n r:Nat} {enc:α→List Value} {A:Option Addr} {xs:List α} (h:Rd row w sz enc A n xs) (k:Kp w.heap.size (some r) w w') (hne:0<n→∀ ad,A=some ad→ad.block≠r):Rd row w' sz enc A n xs:=by
 refine⟨h.1,fun hn=>?_⟩;obtain⟨b,o,rfl,hb,hr,hc⟩:=h.2 hn;exact⟨b,o,rfl,Nat.lt_of_lt_of_le hb k.size,hr,fun i hi j v hv=>(k.cell b _ hb (sne (hne hn _ rfl))).trans (hc i hi j v hv)⟩
theorem Blk.st1u {w:World} {r:Nat} {T:TypeId} {cs:Array Value} (h:Blk w r T cs) (x0:Value):∃ w',w'=(w.setCell ⟨r,0,none⟩ x0)∧Blk w' r T (cs.setIfInBounds 0 x0)∧Kp w.heap.size (some r) w w'∧w'.heap.size=w.heap.size:=
 ⟨_,rfl,h.set_ _ x0,(Kp.refl _ (some r) w).setRow (p:=⟨r,_,none⟩) rfl _,by simp[World.setCell]⟩
theorem lastU_snoc (pre:List (List Bx × Bool)) (x:List Bx × Bool):(pre++[x]).getLast?.map (·.1)=some x.1:=by simp
theorem Rd.ne1 {w:World} {r n:Nat} {T:TypeId} {v:Value} {A:Option Addr} {xs:List Bx} (h:Rd none w 8 encBx A n xs) (hB:Blk w r T #[v]):0<n→∀ ad,A=some ad→ad.block≠r:=fun h0 ad e9 e8=>by
 obtain⟨b,o,h1,-,-,h2⟩:=h.2 h0;rw[e9] at h1;injection h1 with h1
 subst h1;have h3:=h2 0 (by rw[h.1];exact h0) 1 _ rfl;dsimp only at e8;subst e8;rw[hB.cell] at h3;simp at h3
theorem Rd.putN {α:Type} {W:World} {sz n:Nat} {enc:α→List Value} {A:Option Addr} {xs:List α} (h:Rd none W sz enc A n xs) (hsz:∀ x,0<(enc x).length) {l:Nat} {o:Obj} (o':Obj) (ho:W.heap[l]?=some o) (hc:o.isCells=false):Rd none (W.putObj l o') sz enc A n xs:=by
 refine⟨h.1,fun hn=>?_⟩;obtain⟨b,o2,rfl,hb,h4,h5⟩:=h.2 hn;refine⟨b,o2,rfl,by simpa using hb,h4,fun i hi j v hv=>?_⟩
 have hne:b≠l:=fun e=>by
  subst e;have h0:0<xs.length:=by rw[h.1];exact hn
  have h6:=h5 0 h0 0 _ (List.getElem?_eq_getElem (hsz _));unfold World.cell? at h6;simp only[ho] at h6;cases o<;>simp_all [Obj.isCells]
 exact(World.cell?_of_block (World.putObj_heap_other hne)).trans (h5 i hi j v hv)
def lastU (pre:List (List Bx × Bool)):List Bx:=(pre.getLast?.map (·.1)).getD []
def UpC (ob r1 r2:Nat) (pre:List (List Bx × Bool)) (W:World):Prop:=
 (∀ p∈pre,p.2=true)∧(∃ A c,Blk W ob 47 #[.slice A (lastU pre).length c]∧Rd none W 8 encBx A (lastU pre).length (lastU pre))∧Blk W r1 47 #[.slice none 0 0]∧Blk W r2 50 #[(0:Int)]
theorem UpC.abide (ob r1 r2:Nat):AbideE (UpC ob r1 r2):=fun s W W' ⟨h1,⟨A,c,h2,h3⟩,h4,h5⟩ k=>⟨h1,⟨A,c,h2.kpN k,h3.kpN k⟩,h4.kpN k,h5.kpN k⟩
theorem UpC.put (ob r1 r2 r:Nat):PutE r (UpC ob r1 r2):=fun s W l o o' _ ⟨h1,⟨A,c,h2,h3⟩,h4,h5⟩ ho hc=>⟨h1,⟨A,c,h2.put_ o' ho hc,h3.putN (fun _=>by simp[encBx]) o' ho hc⟩,h4.put_ o' ho hc,h5.put_ o' ho hc⟩
def UpX (r1 r2:Nat) (G:Prop) (c:Code) (_:List (List Bx × Bool)) (W:World):Prop:=c=.ret∧G∧Blk W r1 47 #[.slice none 0 0]∧Blk W r2 50 #[(14:Int)]
theorem UpX.abide (r1 r2:Nat) (G:Prop) (c:Code):AbideE (UpX r1 r2 G c):=fun s W W' ⟨h0,h1,h4,h5⟩ k=>⟨h0,h1,h4.kpN k,h5.kpN k⟩
theorem UpX.put (r1 r2:Nat) (G:Prop) (c:Code) (r:Nat):PutE r (UpX r1 r2 G c):=fun s W l o o' _ ⟨h0,h1,h4,h5⟩ ho hc=>⟨h0,h1,h4.put_ o' ho hc,h5.put_ o' ho hc⟩
def UpdPost (r:Option (List Bx)) (w:World) (e:Ending) (w':World):Prop:=Kp w.heap.size none w w'∧match r with
 | none=>e=.returned (.tuple #[.slice none 0 0,(14:Int)])
 | some q=>∃ A c,e=.returned (.tuple #[.slice A q.length c,(0:Int)])∧Rd none w' 8 encBx A q.length q
theorem orbit_Update_any (A B C:Option Addr) (c e f:Nat) (S:Sky) (d:Dr) (t:Int) (G:Option Addr) (n:Nat) (gs:List Sg) (L:Option Addr) (m:Nat) (l:List Bx) (k:Nat) (w:World)
  (hS:S.ok) (hA:SkyAt none w A B C S) (hd:d.ok) (ht:0≤t∧t≤1000000) (hk:k≤400) (hg:Rd none w 9 encSg G gs.length gs) (hgl:gs.length≤64) (hx:∀ x∈gs,S.okSg x) (hr:Rd none w 8 encBx L l.length l) (hl:l.length≤512) (hb:∀ b∈l,okBx b=true) :
  Calls Tryz.prog 19 #[.agg #[.slice A S.W.bs.length c,S.W.home,.slice B S.st.length e,.slice C S.ct.length f],d,t,.slice L l.length m,k,.slice G gs.length n] w (UpdPost (updW S.W d (S.exB gs) k t l) w):=by
 have c1:=fun w h=>sky_Check_any A B C c e f S w hS h;have c2:=fun w=>force_CheckDrift_any d hd w;have c3:=fun w h=>orbit_checkWay_any L m l t (k:Int) w ht oM h hl hb;have c4:=fun w h h2=>orbit_checkSights_any A B C c e f S G n gs w hS h h2 hgl hx;have hsq:=fun wb w0 sb db tb lb kb gb X hA hg hr hwb hX hXl bS bD bT bL bK bG nS nD nT nL nK nG=>updates_seq wb w0 A B C c e f S d t G n gs L m l k sb db tb lb kb gb X hS hd ht hk hgl hx hb hl hA hg hr hwb hX hXl bS bD bT bL bK bG nS nD nT nL nK nG;obtain⟨xs,hxs⟩:∃ xs,Hid (xs=updF S.W d (S.exB gs) k t (l.filter fun b=>!S.exB gs t b)):=⟨_,Lib.hid rfl⟩;have hsp:=Lib.hid (updF_spec (W:=S.W) (d:=d) (ex:=S.exB gs) k t (l.filter fun b=>!S.exB gs t b));rw[← hxs.out] at hsq;rw[updW_G];obtain⟨r,hrr⟩:∃ r,Hid (r=updG S.W d (S.exB gs) k t (l.filter fun b=>!S.exB gs t b)):=⟨_,Lib.hid rfl⟩;rw[← hrr.out];replace hsp:Hid ((∃ (q:List Bx) (ini:List (List Bx × Bool)),r=some q∧xs=ini++[(q,true)]∧∀ p∈ini,p.2=true)∨(r=none∧∃ ini:List (List Bx × Bool),xs=ini++[([],false)]∧∀ p∈ini,p.2=true)):=Lib.hid (by rw[hrr.out,hxs.out];exact hsp.out);replace hsq:=Lib.hid hsq;clear hS hd ht hk hgl hx hl hb hxs hrr;obtain⟨w1,hw1,Z,F,R1,R2,K,hz⟩:=box4 w 43 #[.slice A S.W.bs.length c,S.W.home,.slice B S.st.length e,.slice C S.ct.length f] 31 d 47 #[.slice none 0 0] 50 #[(0:Int)];refine calls_of_wp_m Tryz.func19 rfl ?_;simp only[Tryz.ntmps19,List.size_toArray,List.length_cons,List.length_nil,Nat.reduceAdd,Nat.reduceSub,Array.replicate_succ,Array.replicate_zero,List.push_toArray,List.append_toArray,List.nil_append,List.cons_append];go_wp2_with fail
 rw[← hw1];clear hw1;refine mK (c1 _ (hA.kpN K)) fun w2 k=>?_;replace Z:=Z.kpN k;replace F:=F.kpN k;replace R1:=R1.kpN k;replace R2:=R2.kpN k;replace K:=K.thenN k oM;have hzk:=k.size;clear k;have cZ:=Z.cell;have fZ:=Z.frozen;have cF:=F.cell;have fF:=F.frozen;have cR1:=R1.cell;have fR1:=R1.frozen;have cR2:=R2.cell;have fR2:=R2.frozen;go_wp2_with fail
 refine mK (c2 _) fun w3 k=>?_;clear cZ fZ cF fF cR1 fR1 cR2 fR2;replace Z:=Z.kpN k;replace F:=F.kpN k;replace R1:=R1.kpN k;replace R2:=R2.kpN k;replace K:=K.thenN k oM;have hzk:=k.size;clear k;have cZ:=Z.cell;have fZ:=Z.frozen;have cF:=F.cell;have fF:=F.frozen;have cR1:=R1.cell;have fR1:=R1.frozen;have cR2:=R2.cell;have fR2:=R2.frozen;go_wp2_with fail
 refine mK (c3 _ (hr.kpN K)) fun w4 k=>?_;clear cZ fZ cF fF cR1 fR1 cR2 fR2;replace Z:=Z.kpN k;replace F:=F.kpN k;replace R1:=R1.kpN k;replace R2:=R2.kpN k;replace K:=K.thenN k oM;have hzk:=k.size;clear k;have cZ:=Z.cell;have fZ:=Z.frozen;have cF:=F.cell;have fF:=F.frozen;have cR1:=R1.cell;have fR1:=R1.frozen;have cR2:=R2.cell;have fR2:=R2.frozen;go_wp2_with fail
 refine mK (c4 _ (hA.kpN K) (hg.kpN K)) fun w5 k=>?_;clear cZ fZ cF fF cR1 fR1 cR2 fR2;replace Z:=Z.kpN k;replace F:=F.kpN k;replace R1:=R1.kpN k;replace R2:=R2.kpN k;replace K:=K.thenN k oM;have hzk:=k.size;clear k;clear c1 c2 c3 c4;have pZ:=Z.cell;have pF:=F.cell;have pR1:=R1.cell;have pR2:=R2.cell;obtain⟨w9_,rfl,O,k9_,hzn⟩:=box1 w5 47 #[.slice none 0 0];replace Z:=Z.kpN k9_;replace F:=F.kpN k9_;replace R1:=R1.kpN k9_;replace R2:=R2.kpN k9_;replace K:=K.thenN k9_ oU;clear k9_;have cZ:=Z.cell;have fZ:=Z.frozen;have cF:=F.cell;have fF:=F.frozen;have cR1:=R1.cell;have fR1:=R1.frozen;have cR2:=R2.cell;have fR2:=R2.frozen;go_wp2_with fail
 clear cZ fZ pZ cF fF pF cR1 fR1 pR1 cR2 fR2 pR2;generalize (w5.alloc (.cells #[.slice none 0 0] 47))=w6 at *;obtain⟨ob,hx⟩:∃ q9,q9=w5.heap.size:=⟨_,rfl⟩;rw[← hx] at O ⊢;replace hx:=Lib.hid hx;have hob:w.heap.size+4≤ob:=by have:=hx.out;omega
 have hol:=O.lt;clear hx hzn hzk hz;have cZ:=Z.cell;have cF:=F.cell;clear hol;have hol:=O.lt;refine(orbit_updates_any A B C c e f S d t G n gs L m l k _).mono ?_;rintro e9 w7 ⟨rfl,pS,pD,pT,pL,pK,pG,hz7,k9⟩;obtain⟨u,hu⟩:∃ u,u=w6.heap.size:=⟨_,rfl⟩;rw[← hu] at pS pD pT pL pK pG hz7 hol ⊢;clear cZ cF Z F hu;replace O:=O.kpN k9;replace R1:=R1.kpN k9;replace R2:=R2.kpN k9;replace K:=K.tN k9;clear k9;have hseq:=hsq.out w w7 u (u+1) (u+2) (u+3) (u+4) (u+5) (fun q=>q=ob∨q=w.heap.size+2∨q=w.heap.size+3) hA hg hr K (fun q hq=>by omega) (fun q hq=>by omega) pS pD pT pL pK pG oM oM oM oM oM oM;clear hsq pS pD pT pL pK pG;obtain⟨Gp,hGp⟩:∃ Gp:Prop,Hid (Gp=(r=none)):=⟨_,Lib.hid rfl⟩;go_wp2_with fail
 refine wp_rangeFunc_e (gf:=103) (lb:=#[.pointer (some ⟨u,0,none⟩),.pointer (some ⟨u+2,0,none⟩),.pointer (some ⟨u+3,0,none⟩),.pointer (some ⟨u+5,0,none⟩),.pointer (some ⟨u+4,0,none⟩),.pointer (some ⟨u+1,0,none⟩)]) rfl (enters_of Tryz.func103 (by kernel_rfl) rfl) hseq (Nat.le_refl _) (fun w' k=>Kz.ofN k) (by rintro p v W ⟨A9,c9,rfl,-⟩;rfl) (fun q hq=>by omega)
  (UpC ob (w.heap.size+2) (w.heap.size+3)) (UpX (w.heap.size+2) (w.heap.size+3) Gp) (UpC.abide _ _ _) (UpX.abide _ _ _) (UpC.put _ _ _ _) (fun c=>UpX.put _ _ _ c _) ⟨by simp,⟨none,0,O,Rd.nil _ _ _ _ _⟩,R1,R2⟩ ?round ?done ?stop
 case round=>
  rintro l9 pre x rest vals W7 K1 hxs' hC ⟨A9,c9,rfl,hr9⟩ hl9 hsz hkz ⟨rc,hrc⟩ hK;obtain⟨q,fl⟩:=x;have e0:(#[51,52].zip #[.slice A9 q.length c9,.bool fl]:Array (Nat × Value))=#[(51,.slice A9 q.length c9),(52,.bool fl)]:=by simp
  dsimp only at hr9 ⊢;rw[e0];clear e0;simp only[List.foldl_toArray',List.foldl_cons,List.foldl_nil,sbt,sc0,scs];gi_wp2_with fail
  refine hK _ _ (Kp.refl _ _ _) (fun W8 kr hsz8 hrec hC8=>?_)
  have hr8:Rd none W8 8 encBx A9 q.length q:=by
   refine hr9.kpNz kr (fun h0 ad e9 e8=>?_);obtain⟨b,o,h1,-,-,h2⟩:=hr9.2 h0;rw[e9] at h1;injection h1 with h1
   subst h1;have h3:=h2 0 h0 0 _ rfl;dsimp only at e8;subst e8;unfold World.cell? at h3;rw[hrc] at h3;simp at h3
  obtain⟨hall,⟨A8,c8,O8,-⟩,F1,F2⟩:=hC8;have hO7:=O8.lt;clear hK K1 hkz hsz kr hsz8 hrec hseq hC hr9;cases fl with
  | false=>
   have hgp:Gp:=by
    rw[hGp.out];rcases hsp.out with⟨q9,ini,h1,h2,h3⟩|⟨h1,-⟩
    ·
     exfalso
     rw[h2] at hxs';have hm:((q,false):List Bx × Bool)∈ini++[(q9,true)]:=by rw[hxs'];simp
     rcases List.mem_append.1 hm with hm|hm
     · have:=h3 _ hm;cases this
     · rw[List.mem_singleton] at hm;injection hm with _ hm;cases hm
    · exact h1
   replace hgp:=Lib.hid hgp;clear hxs' hsp;obtain⟨Wa,hWa,F1',ka,hza⟩:=F1.st1u (.slice none 0 0);have F2a:=F2.kq ka;obtain⟨Wb,hWb,F2',kb,hzb⟩:=F2a.st1u (.int .i64 14);have F1b:=F1'.kp kb F1'.lt oN;simp only[sbt,sc0,scs] at F1b F2';have cR:=F1.cell;have fR:=F1.frozen;have cS:=F2.cell;have fS:=F2.frozen;have hk9:Kz W8.heap.size (fun q=>q=ob∨q=w.heap.size+2∨q=w.heap.size+3) W8 Wb:=(Kz.of ka (fun r e9 _=>by injection e9 with e9;omega)).trans (Kz.less (Kz.of kb (X:=fun q=>q=w.heap.size+3) (fun r e9 _=>by injection e9 with e9;omega)) oM (fun k _ e9=>by omega));gi_wp2
   rw[← hWa,← hWb];exact⟨hk9,rfl,hgp.out,F1b,F2'⟩
  | true=>
   obtain⟨Wa,hWa,O9,ka,hza⟩:=O8.st1u (.slice A9 q.length c9);simp only[sbt,sc0,scs] at O9;have hk9:Kz W8.heap.size (fun q=>q=ob∨q=w.heap.size+2∨q=w.heap.size+3) W8 Wa:=Kz.of ka (fun r e9 _=>by injection e9 with e9;omega);have F1a:=F1.kq ka;have F2a:=F2.kq ka
   have hr9:Rd none Wa 8 encBx A9 q.length q:=by
    exact hr8.kpNz ka (hr8.ne1 O8)
   have hlast:lastU (pre++[(q,true)])=q:=by unfold lastU;rw[lastU_snoc];rfl
   have hC9:UpC ob (w.heap.size+2) (w.heap.size+3) (pre++[(q,true)]) Wa:=⟨fun p hp=>by
    rcases List.mem_append.1 hp with hp|hp
    · exact hall p hp
    · rw[List.mem_singleton] at hp;rw[hp],⟨A9,c9,by rw[hlast];exact O9,by rw[hlast];exact hr9⟩,F1a,F2a⟩
   replace hC9:=Lib.hid hC9;have cO:=O8.cell;have fO:=O8.frozen;clear hxs' hsp hlast F1a F2a hr9 O9;gi_wp2
   rw[← hWa];exact⟨hk9,hC9.out⟩
 case done=>
  intro W hC hkz hD hsz;obtain⟨hall,⟨A9,c9,O2,hr2⟩,F1,F2⟩:=hC
  have hq:Hid (r=some (lastU xs)):=Lib.hid (by
   rcases hsp.out with⟨q,ini,h1,h2,-⟩|⟨-,ini,h2,-⟩
   · rw[h1,h2];unfold lastU;rw[lastU_snoc];rfl
   · have:=hall ([],false) (by rw[h2];simp);cases this)
  generalize lastU xs=q at *;have K2:Kp w.heap.size none w W:=K.trans ((hkz.less (by have:=K.size;omega) (fun k hk e=>by omega):Kz w.heap.size (fun _=>False) w7 W).kpN);have hKs:=K.size;clear hkz O R1 R2 K hseq hsp hall;obtain⟨Wa,hWa,F1',ka,hza⟩:=F1.st1u (.slice A9 q.length c9);have F2a:=F2.kq ka;obtain⟨Wb,hWb,F2',kb,hzb⟩:=F2a.st1u (.int .i64 0);have F1b:=F1'.kp kb F1'.lt oN;simp only[sbt,sc0,scs] at F1b F2';have hrb:Rd none Wb 8 encBx A9 q.length q:=((hr2.kpNz ka (hr2.ne1 F1)).kpNz kb ((hr2.kpNz ka (hr2.ne1 F1)).ne1 F2a));have cO:=O2.cell;have cR:=F1.cell;have fR:=F1.frozen;have cS:=F2.cell;have fS:=F2.frozen;have D5:Wb.heap[w7.heap.size]?=some (.deferred (some [])):=(kb.block _ oM oN).trans ((ka.block _ oM oN).trans hD);have K5:=(K2.thenOwn ka (Nat.le_refl _) oM).thenOwn kb (Nat.le_refl _) oM;replace hD:=Lib.hid hD;clear hr2 F1' F2a;dsimp only;go_wp2_with fail
  rw[← hWa,← hWb];have R6:=F1b.put_ (.deferred none) D5 rfl;have R7:=F2'.put_ (.deferred none) D5 rfl;have hr6:=hrb.putN (fun _=>by simp[encBx]) (.deferred none) D5 rfl;clear cO cR fR cS fS hWa hWb;have cR:=R6.cell;have cS:=R7.cell;exact postM_mark (v:=.tuple #[.slice A9 q.length c9,(0:Int)]) rfl D5 (by simp[results,Tryz.results19,go_sem,cR,cS]) ⟨mark_kp K5 oM,by rw[hq.out];exact⟨A9,c9,rfl,hr6⟩⟩
 case stop=>
  rintro c9 pre W ⟨rfl,hg9,F1,F2⟩ hkz hD hsz;have hq:Hid (r=none):=Lib.hid (by rw[← hGp.out];exact hg9);have K2:Kp w.heap.size none w W:=K.trans ((hkz.less (by have:=K.size;omega) (fun k hk e=>by omega):Kz w.heap.size (fun _=>False) w7 W).kpN);have hKs:=K.size;clear hkz O R1 R2 K hseq hsp;refine wpIn_wide.2 ?_;dsimp only;go_wp2_with fail
  have R6:=F1.put_ (.deferred none) hD rfl;have R7:=F2.put_ (.deferred none) hD rfl;have cR:=R6.cell;have cS:=R7.cell;exact postM_mark (v:=.tuple #[.slice none 0 0,(14:Int)]) rfl hD (by simp[results,Tryz.results19,go_sem,cR,cS]) ⟨mark_kp K2 oM,by rw[hq.out]⟩
end Go.Proofs.YtdhiappifnflpaaGreat
namespace Go.Proofs.YtdhiappifnflpaaGreat
open Go.RowKit
def CellP9 (c:Bx) (k:Fk) (w:World) (e:Ending) (w':World):Prop:=∃ pn:Int,e=.returned (.agg #[c.x.lo,c.x.hi,c.y.lo,c.y.hi,c.u.lo,c.u.hi,c.v.lo,c.v.hi,(fkI k),pn])∧Kp w.heap.size none w w'
theorem meet_cover1_any (A:Option Addr) (c:Nat) (W:Wd) (d:Dr) (t:Int) (x:Bx) (n:Nat) (mb db tb nb:Nat) (w:World) (hW:W.ok) (hA:WdAt none w A W) (hd:d.ok) (ht:0≤t∧t≤900000) (hn:n≤400) (hb:okBx x=true)
  (M:Blk w mb 27 #[.slice A W.bs.length c,W.home]) (D:Blk w db 31 d) (T:Blk w tb 2 #[t]) (N:Blk w nb 3 #[n]) :
  Calls Tryz.prog 106 #[x,.pointer (some ⟨mb,0,none⟩),.pointer (some ⟨db,0,none⟩),.pointer (some ⟨tb,0,none⟩),.pointer (some ⟨nb,0,none⟩)] w (CellP9 x (fateW W d n t x) w):=by
 have cf:=fun w h=>meet_find_any A c W d t x n w hW h hd ht hn hb;generalize fateW W d n t x=fk at *;clear hW hd ht hn hb;obtain⟨w1,hw1,X,R,K,hz⟩:=box2 w 33 x 121 #[(0:Int),(0:Int),(0:Int),(0:Int),(0:Int),(0:Int),(0:Int),(0:Int),(0:Int),(0:Int)];have gM:=M.lt;have gD:=D.lt;have gT:=T.lt;have gN:=N.lt;replace M:=M.kpN K;replace D:=D.kpN K;replace T:=T.kpN K;replace N:=N.kpN K;go_enter Tryz.func106,Tryz.ntmps106
 go_upto_region 1 with(fail)
 rw[← hw1];clear hw1;obtain⟨S,hS0,hS1⟩:=cls_of2 (P:=fun w'=>Blk w' _ _ _∧Blk w' _ _ _∧Blk w' _ _ _∧Blk w' _ _ _∧Blk w' _ _ _∧Kp _ _ _ w') w1 ⟨X,M,D,T,N,K⟩;try dsimp only at hS0
 have cX:=fun (x:Ev (S 0)) i=>((hS0 _).1 x.h).1.cell i;have cM:=fun (x:Ev (S 0)) i=>((hS0 _).1 x.h).2.1.cell i;have cD:=fun (x:Ev (S 0)) i=>((hS0 _).1 x.h).2.2.1.cell i;have cT:=fun (x:Ev (S 0)) i=>((hS0 _).1 x.h).2.2.2.1.cell i;have cN:=fun (x:Ev (S 0)) i=>((hS0 _).1 x.h).2.2.2.2.1.cell i;replace X:=X.drew;replace M:=M.drew;replace D:=D.drew;replace T:=T.drew;replace N:=N.drew;replace K:=K.drew;replace R:=R.drew;have hevT:=ev_true;refine wro S [(0,1),(1,1),(2,1),(3,1),(4,1),(5,1),(6,2),(7,0),(8,3)] [8] ((hS0 _).2 ⟨X,M,D,T,N,K⟩) ?_;intro _hev;refine oX ?_;refine oL ?_;intro Kc hKc;generalize w1.drew=wd9 at *;go_step;refine(cf _ (hA.kpN K)).mono ?_;rintro e w2 ⟨pn,rfl,k⟩;replace X:=X.kpN k;replace M:=M.kpN k;replace D:=D.kpN k;replace T:=T.kpN k;replace N:=N.kpN k;replace R:=R.kpN k;replace K:=K.tN k;clear k;refine hKc _ _ ((hS0 _).2 ⟨X,M,D,T,N,K⟩) ?_;clear hKc Kc;refine oX ?_;refine oA ?_;intro Kc hKc;have cR:=R.cell;have fR:=R.frozen;go_step;obtain⟨w9,hwn,RB9,kst,hzst⟩:=R.st10 (.int .i64 x.x.lo) (.int .i64 x.x.hi) (.int .i64 x.y.lo) (.int .i64 x.y.hi) (.int .i64 x.u.lo) (.int .i64 x.u.hi) (.int .i64 x.v.lo) (.int .i64 x.v.hi) (.int .i64 (fkI fk)) (.int .i64 pn);rw[← hwn];clear hwn cR fR;refine hKc _ _ ((hS1 _).2 trivial) ?_;clear hKc Kc;replace X:=X.kq kst;replace M:=M.kq kst;replace D:=D.kq kst;replace T:=T.kq kst;replace N:=N.kq kst;first|replace K:=K.thenOwn kst (Nat.le_refl _) oM|replace K:=K.then_ kst (Nat.le_refl _)
 replace R:=RB9;clear RB9 kst;simp only[sbt,sc0,scs] at R;change wpOrd _ _ _ _ _ 1 _ _;refine wpOrd_nil ?_;clear hevT _hev;clear cX cM cD cT cN hS0 hS1 S;have cR:=R.cell;go_wp2_with fail
 exact bodyPost_ret (v:=.agg #[x.x.lo,x.x.hi,x.y.lo,x.y.hi,x.u.lo,x.u.hi,x.v.lo,x.v.hi,(fkI fk),pn]) (by simp[results,Tryz.results106,go_sem,cR]) rfl ⟨pn,rfl,K⟩
theorem info_Cell:(Tryz.prog.info? 121).map (fun i=>(i.zero,i.size,i.bytes))=some (some (.agg #[(0:Int),(0:Int),(0:Int),(0:Int),(0:Int),(0:Int),(0:Int),(0:Int),(0:Int),(0:Int)]),10,80):=by kernel_rfl
theorem one_Cell (y:Cl):∀ u∈encCl y,u.oneCell'=true:=by
 unfold encCl;simp only[List.mem_cons,List.not_mem_nil,or_false,forall_eq_or_imp,forall_eq];(repeat' apply And.intro)<;>rfl
theorem one_Cells (xs:List Cl):∀ u∈xs.flatMap encCl,u.oneCell'=true:=by
 intro u hu;obtain⟨x,-,hu⟩:=List.mem_flatMap.1 hu;exact one_Cell x u hu
theorem wp_app_Cells {w:World} {o:Oper} {a:Act} {K:Act→World→Prop} {Q:Exit→Act→World→Prop} (s x:Operand)
  (ho:o.op=.call { callee:=.builtin .append,args:=#[s,x],argTypes:=#[119,119] })
  (B:Nat) (v:Value) (xs:List Cl) (b m cap:Nat) (ys:List Cl) {cs:Array Value} {tb:TypeId} (hs:a.eval s=v) (hx:a.eval x=.slice (some ⟨b,0,none⟩) m cap) (hm:ys.length=m)
  (hown:Own w B 121 10 encCl v xs) (hb:Blk w b tb cs) (hc:cs.toList=ys.flatMap encCl) (hl:xs.length+ys.length≤900000) (hB:B≤w.heap.size)
  (h:∀ v' w',Own w' B 121 10 encCl v' (xs++ys)→w.grownBy w' v.ownBlock→(v'.ownBlock=v.ownBlock∨v'.ownBlock=some w.heap.size)→K (a.put o.dst v') w'):o.wp Tryz.prog a w K Q:=by
 subst hm;obtain⟨i0,hi0,hz0,hz1,hz2⟩:=info_parts info_Cell;refine wp_append_own_at s x 119 ho B 121 i0 _ 10 80 Tryz.underlying119 hi0 hz0 hz1 hz2 (by rfl) oM v xs.length (xs.flatMap encCl) hs hown ⟨b,0,none⟩ ys.length cap (ys.flatMap encCl) hx (flat_len (enc:=encCl) (sz:=10) (fun _=>rfl) ys) (hb.newsAt hc) (one_Cells ys) (maxLen_of oM) oM hB ?_;intro v' w' h1 h2 h3;refine h v' w' ?_ h2 h3;unfold Own;rw[List.length_append,List.flatMap_append];exact h1
theorem wpList_app1_Cell {w:World} {ops:Array Oper} {rest:List Oper} {o:Oper} {a:Act} {Q:Exit→Act→World→Prop} (hgd:o.guard=none) (s x:Operand)
  (ho:o.op=.call { callee:=.builtin .append,args:=#[s,x],argTypes:=#[119,119] })
  (B:Nat) (v:Value) (xs:List Cl) (b cap:Nat) (y:Cl) {cs:Array Value} {tb:TypeId} (hs:a.eval s=v) (hx:a.eval x=.slice (some ⟨b,0,none⟩) 1 cap)
  (hown:Own w B 121 10 encCl v xs) (hb:Blk w b tb cs) (hc:cs.toList=encCl y) (hl:xs.length≤900000) (hB:B≤w.heap.size)
  (h:∀ v' w',Own w' B 121 10 encCl v' (xs++[y])→w.grownBy w' v.ownBlock→(v'.ownBlock=v.ownBlock∨v'.ownBlock=some w.heap.size)→wpList Tryz.prog ops Q rest (a.put o.dst v') w'):wpList Tryz.prog ops Q (o::rest) a w:=by
 obtain⟨i0,hi0,hz0,hz1,hz2⟩:=info_parts info_Cell;refine wpList_append_own_at w hgd s x 119 ho B 121 i0 _ 10 80 Tryz.underlying119 hi0 hz0 hz1 hz2 (by rfl) oM v xs.length (xs.flatMap encCl) hs hown ⟨b,0,none⟩ 1 cap (encCl y) hx (by rfl) (hb.newsAt hc) (one_Cell y) (maxLen_of oM) oM hB ?_;intro v' w' h1 h2 _ h3;refine h v' w' ?_ h2 h3;unfold Own;rw[List.length_append,List.flatMap_append];simpa using h1
def putC (w:World) (g o:Nat) (n:Cl):World:=(((((((((w.setCell ⟨g,o,none⟩ (.int .i64 n.b.x.lo)).setCell ⟨g,o+1,none⟩ (.int .i64 n.b.x.hi)).setCell ⟨g,o+2,none⟩ (.int .i64 n.b.y.lo)).setCell ⟨g,o+3,none⟩ (.int .i64 n.b.y.hi)).setCell ⟨g,o+4,none⟩ (.int .i64 n.b.u.lo)).setCell ⟨g,o+5,none⟩ (.int .i64 n.b.u.hi)).setCell ⟨g,o+6,none⟩ (.int .i64 n.b.v.lo)).setCell ⟨g,o+7,none⟩ (.int .i64 n.b.v.hi)).setCell ⟨g,o+8,none⟩ (.int .i64 n.k)).setCell ⟨g,o+9,none⟩ (.int .i64 n.p)
theorem Own.setCl {w:World} {B g n cap:Nat} {xs:List Cl} (h:Own w B 121 10 encCl (.slice (some ⟨g,0,none⟩) n cap) xs) (i:Nat) (hi:i<xs.length) (k:Cl) :
  Own (putC w g (i * 10) k) B 121 10 encCl (.slice (some ⟨g,0,none⟩) n cap) (xs.set i k)∧w.grownBy (putC w g (i * 10) k) (some g):=by
 obtain⟨y,hy⟩:∃ y,y=xs[i]:=⟨_,rfl⟩;have a0:=Own.setAt (sz:=10) (enc:=encCl) (fun _=>rfl) h i hi 0 oM (.int .i64 k.b.x.lo) ⟨⟨⟨k.b.x.lo,y.b.x.hi⟩,⟨y.b.y.lo,y.b.y.hi⟩,⟨y.b.u.lo,y.b.u.hi⟩,⟨y.b.v.lo,y.b.v.hi⟩⟩,y.k,y.p⟩ (by rw[← hy];rfl);have a1:=Own.setAt (sz:=10) (enc:=encCl) (fun _=>rfl) a0.1 i (by simpa using hi) 1 oM (.int .i64 k.b.x.hi) ⟨⟨⟨k.b.x.lo,k.b.x.hi⟩,⟨y.b.y.lo,y.b.y.hi⟩,⟨y.b.u.lo,y.b.u.hi⟩,⟨y.b.v.lo,y.b.v.hi⟩⟩,y.k,y.p⟩ (by simp[encCl]);have a2:=Own.setAt (sz:=10) (enc:=encCl) (fun _=>rfl) a1.1 i (by simpa using hi) 2 oM (.int .i64 k.b.y.lo) ⟨⟨⟨k.b.x.lo,k.b.x.hi⟩,⟨k.b.y.lo,y.b.y.hi⟩,⟨y.b.u.lo,y.b.u.hi⟩,⟨y.b.v.lo,y.b.v.hi⟩⟩,y.k,y.p⟩ (by simp[encCl]);have a3:=Own.setAt (sz:=10) (enc:=encCl) (fun _=>rfl) a2.1 i (by simpa using hi) 3 oM (.int .i64 k.b.y.hi) ⟨⟨⟨k.b.x.lo,k.b.x.hi⟩,⟨k.b.y.lo,k.b.y.hi⟩,⟨y.b.u.lo,y.b.u.hi⟩,⟨y.b.v.lo,y.b.v.hi⟩⟩,y.k,y.p⟩ (by simp[encCl]);have a4:=Own.setAt (sz:=10) (enc:=encCl) (fun _=>rfl) a3.1 i (by simpa using hi) 4 oM (.int .i64 k.b.u.lo) ⟨⟨⟨k.b.x.lo,k.b.x.hi⟩,⟨k.b.y.lo,k.b.y.hi⟩,⟨k.b.u.lo,y.b.u.hi⟩,⟨y.b.v.lo,y.b.v.hi⟩⟩,y.k,y.p⟩ (by simp[encCl]);have a5:=Own.setAt (sz:=10) (enc:=encCl) (fun _=>rfl) a4.1 i (by simpa using hi) 5 oM (.int .i64 k.b.u.hi) ⟨⟨⟨k.b.x.lo,k.b.x.hi⟩,⟨k.b.y.lo,k.b.y.hi⟩,⟨k.b.u.lo,k.b.u.hi⟩,⟨y.b.v.lo,y.b.v.hi⟩⟩,y.k,y.p⟩ (by simp[encCl]);have a6:=Own.setAt (sz:=10) (enc:=encCl) (fun _=>rfl) a5.1 i (by simpa using hi) 6 oM (.int .i64 k.b.v.lo) ⟨⟨⟨k.b.x.lo,k.b.x.hi⟩,⟨k.b.y.lo,k.b.y.hi⟩,⟨k.b.u.lo,k.b.u.hi⟩,⟨k.b.v.lo,y.b.v.hi⟩⟩,y.k,y.p⟩ (by simp[encCl]);have a7:=Own.setAt (sz:=10) (enc:=encCl) (fun _=>rfl) a6.1 i (by simpa using hi) 7 oM (.int .i64 k.b.v.hi) ⟨k.b,y.k,y.p⟩ (by simp[encCl]);have a8:=Own.setAt (sz:=10) (enc:=encCl) (fun _=>rfl) a7.1 i (by simpa using hi) 8 oM (.int .i64 k.k) ⟨k.b,k.k,y.p⟩ (by simp[encCl]);have a9:=Own.setAt (sz:=10) (enc:=encCl) (fun _=>rfl) a8.1 i (by simpa using hi) 9 oM (.int .i64 k.p) k (by simp[encCl]);refine⟨?_,grown_trans (grown_trans (grown_trans (grown_trans (grown_trans (grown_trans (grown_trans (grown_trans (grown_trans a0.2 a1.2) a2.2) a3.2) a4.2) a5.2) a6.2) a7.2) a8.2) a9.2⟩;have:=a9.1;simp only[List.set_set] at this;exact this
end Go.Proofs.YtdhiappifnflpaaGreat
