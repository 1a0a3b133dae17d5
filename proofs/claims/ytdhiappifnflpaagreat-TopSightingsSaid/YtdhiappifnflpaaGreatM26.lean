/- The reference's boxes: Split, whole. Boxes behind boxes: append, at an operation. The reference's cells of a box: Cells. One element behind a list: append, at an operation and in a plain region. -/
import Derived.Test.YtdhiappifnflpaaGreatM25
import Derived.Test.YtdhiappifnflpaaGreatM22
import Derived.Deep.Upon
import Derived.Lib.AppendZeros
import Derived.Test.YtdhiappifnflpaaGreatInv
import Derived.Test.YtdhiappifnflpaaGreatM24
import Derived.Test.YtdhiappifnflpaaGreatM16
set_option maxRecDepth 100000
set_option maxHeartbeats 2000000
namespace Go.Proofs.YtdhiappifnflpaaGreat
open Go.RowKit
theorem r4_Split_none (b:Bx) (hb:okBx b=true) (hn:(widN b 4).2=0) (w:World) :
  Calls Tryz.prog 83 #[b] w fun e w'=>e=.returned (.tuple (splitV none))∧Kp w.heap.size none w w':=by
 have cw:=fun w=>r4_widest_any b hb w;have ck:=fun w=>r4_Check_t b hb w;rw[hn] at cw;generalize (widN b 4).1=j at *;clear hb hn;obtain⟨w1,hw1,B,R1,R2,K,hz⟩:=box3 w 33 b 33 #[(0:Int),(0:Int),(0:Int),(0:Int),(0:Int),(0:Int),(0:Int),(0:Int)] 33 #[(0:Int),(0:Int),(0:Int),(0:Int),(0:Int),(0:Int),(0:Int),(0:Int)];go_enter Tryz.func83,Tryz.ntmps83
 go_wp2_with fail
 rw[← hw1];clear hw1;refine mK (cw _) fun w2 k=>?_;replace B:=B.kpN k;replace R1:=R1.kpN k;replace R2:=R2.kpN k;replace K:=K.thenN k oM;have hzk:=k.size;clear k;have cB:=B.cell;have fB:=B.frozen;have cR1:=R1.cell;have fR1:=R1.frozen;have cR2:=R2.cell;have fR2:=R2.frozen;go_wp2_with fail
 refine mK (ck _) fun w3 k=>?_;clear cB fB cR1 fR1 cR2 fR2;replace B:=B.kpN k;replace R1:=R1.kpN k;replace R2:=R2.kpN k;replace K:=K.thenN k oM;have hzk:=k.size;clear k;have c1:=R1.cell;have c2:=R2.cell;have f1:=R1.frozen;have f2:=R2.frozen;go_wp2_with fail
 clear c1 c2 f1 f2;obtain⟨w4,hw4,P1,k4,hz4⟩:=R1.st8 (.int .i64 0) (.int .i64 0) (.int .i64 0) (.int .i64 0) (.int .i64 0) (.int .i64 0) (.int .i64 0) (.int .i64 0);rw[← hw4];have R2':=R2.kq k4;obtain⟨w5,hw5,P2,k5,hz5⟩:=R2'.st8 (.int .i64 0) (.int .i64 0) (.int .i64 0) (.int .i64 0) (.int .i64 0) (.int .i64 0) (.int .i64 0) (.int .i64 0);rw[← hw5];have P1':=P1.kq k5;have K5:=(K.thenOwn k4 (Nat.le_refl _) oM).thenOwn k5 (Nat.le_refl _) oM;simp only[sbt,sc0,scs] at P1' P2;have c1:=fun i=>P1'.cell i;have c2:=P2.cell;exact bodyPost_ret (v:=.tuple (splitV none)) (by simp[results,Tryz.results83,go_sem,c1,c2];rfl) rfl ⟨rfl,K5⟩
theorem r4_Split_any (b:Bx) (hb:okBx b=true) (w:World) :
  Calls Tryz.prog 83 #[b] w fun e w'=>e=.returned (.tuple (splitV (splitB b)))∧Kp w.heap.size none w w':=by
 by_cases h:(widN b 4).2=0
 ·
  have e:splitB b=none:=by unfold splitB;rw[if_pos h]
  rw[e];exact r4_Split_none b hb h w
 ·
  have e:splitB b=some (cutX b,cutY b):=by unfold splitB;rw[if_neg h]
  rw[e];exact r4_Split_some b hb h w
theorem wp_append_own_at {P:Program} {w:World} {o:Oper} {a:Act} {K:Act→World→Prop} {Q:Exit→Act→World→Prop} (s x:Operand) (t:TypeId)
  (ho:o.op=.call { callee:=.builtin .append,args:=#[s,x],argTypes:=#[t,t] })
  (base:Nat) (e:TypeId) (i:TypeInfo) (z:Value) (size bytes:Nat) (ht:P.underlying t=some (.slice e)) (hi:P.info? e=some i) (hz:i.zero=some z)
  (hsize:i.size=size) (hby:i.bytes=bytes) (hzs:z.cells.size=size) (hsz:0<size)
  (v:Value) (n:Nat) (xs:List Value) (hs:a.eval s=v) (hown:w.ownsRow base e size v n xs)
  (ad:Addr) (m c:Nat) (news:List Value) (hx:a.eval x=.slice (some ad) m c) (hl:news.length=m * size) (hnews:∀ j u,news[j]?=some u→w.cell? (ad.add j)=some u) (h1:∀ u∈news,u.oneCell'=true)
  (h63:n+m≤maxLen) (hbytes:(n+m) * bytes≤140737488355328) (hbase:base≤w.heap.size)
  (h:∀ v' w',w'.ownsRow base e size v' (n+m) (xs++news)→w.grownBy w' v.ownBlock→(v'.ownBlock=v.ownBlock∨v'.ownBlock=some w.heap.size)→K (a.put o.dst v') w'):o.wp P a w K Q:=by
 obtain⟨v',w',hr,h2,h3,-,h5⟩:=run_append_own_at (P:=P) w base t o.type e i z size bytes ht hi hz hsize hby hzs hsz v n xs hown ad m c news hl hnews h1 h63 hbytes hbase;unfold Oper.wp execOp;simp only[ho,resolve,invoke,builtin,Sem.run_bind,Sem.run_pure,Result.andThen_ok,List.map_toArray,List.map_cons,List.map_nil,hs,hx,hr];exact h v' w' h2 h3 h5
theorem wp_append_boxes {w:World} {o:Oper} {a:Act} {K:Act→World→Prop} {Q:Exit→Act→World→Prop} (s x:Operand)
  (ho:o.op=.call { callee:=.builtin .append,args:=#[s,x],argTypes:=#[47,47] })
  (B:Nat) (v:Value) (xs:List Bx) (A:Option Addr) (cap:Nat) (ys:List Bx) (hs:a.eval s=v) (hx:a.eval x=.slice A ys.length cap)
  (hown:Own w B 33 8 encBx v xs) (hr:Rd none w 8 encBx A ys.length ys) (hl:xs.length+ys.length≤1000000) (hB:B≤w.heap.size)
  (h:∀ v' w',Own w' B 33 8 encBx v' (xs++ys)→w.grownBy w' v.ownBlock→(v'.ownBlock=v.ownBlock∨v'.ownBlock=some w.heap.size)→K (a.put o.dst v') w'):o.wp Tryz.prog a w K Q:=by
 obtain⟨i0,hi0,hz0,hz1,hz2⟩:=info_parts box_info;cases A with
 | none=>
  have hl0:ys=[]:=by
   rcases Nat.eq_zero_or_pos ys.length with h1|h1
   · exact List.eq_nil_of_length_eq_zero h1
   ·
    obtain⟨b,o,e,_⟩:=hr.2 h1;cases e
  subst hl0;have hk:=h v w (by simpa using hown) ⟨rfl,rfl,rfl,Nat.le_refl _,fun _ _ _=>rfl⟩ (.inl rfl);have hnil:Src Tryz.prog i0.size 47 (.slice none ([]:List Bx).length cap) 0 [] w:=Src.ofNil w Tryz.underlying47 cap;rcases hown.2 with⟨rfl,-⟩|⟨g,cap',cur,rfl,-,-,hle,-⟩
  · exact Go.Lib.wp_append_run w s x _ _ ho _ _ hs hx _ w (run_append_nothing w _ _ _ _ _ Tryz.underlying47 hi0 _ _ _ (Nat.le_refl _) _ hnil) hk
  · exact Go.Lib.wp_append_run w s x _ _ ho _ _ hs hx _ w (run_append_nothing w _ _ _ _ _ Tryz.underlying47 hi0 _ _ _ hle _ hnil) hk
 | some ad=>
  refine wp_append_own_at s x 47 ho B 33 i0 _ 8 64 Tryz.underlying47 hi0 hz0 hz1 hz2 (by rfl) oM v xs.length (xs.flatMap encBx) hs hown ad ys.length cap (ys.flatMap encBx) hx (flat_len (enc:=encBx) (sz:=8) (fun _=>rfl) ys) (hr.flat (fun _=>rfl)) (one_boxes ys) (maxLen_of oM) oM hB ?_;intro v' w' h1 h2 h3;refine h v' w' ?_ h2 h3;unfold Own;rw[List.length_append,List.flatMap_append];exact h1
theorem wp_append_boxesM {w:World} {o:Oper} {a:Act} {K:Act→World→Prop} {Q:Exit→Act→World→Prop} (s x:Operand)
  (ho:o.op=.call { callee:=.builtin .append,args:=#[s,x],argTypes:=#[47,47] })
  (B:Nat) (v:Value) (xs:List Bx) (A:Option Addr) (m cap:Nat) (ys:List Bx) (hs:a.eval s=v) (hx:a.eval x=.slice A m cap) (hm:ys.length=m)
  (hown:Own w B 33 8 encBx v xs) (hr:Rd none w 8 encBx A ys.length ys) (hl:xs.length+ys.length≤1000000) (hB:B≤w.heap.size)
  (h:∀ v' w',Own w' B 33 8 encBx v' (xs++ys)→w.grownBy w' v.ownBlock→(v'.ownBlock=v.ownBlock∨v'.ownBlock=some w.heap.size)→K (a.put o.dst v') w'):o.wp Tryz.prog a w K Q:=by
 subst hm;exact wp_append_boxes s x ho B v xs A cap ys hs hx hown hr hl hB h
theorem part_split {b c x y:Bx} {l:List Bx} {i:Nat} (h:Part b l) (hi:i<l.length) (hc:l[i]=c) (hh:Halves c x y):Part b (l.take i++x::y::l.drop (i+1)):=by
 subst hc
 have e:l=l.take i++l[i]::l.drop (i+1):=by
  conv=>lhs;rw[← List.take_append_drop i l]
  rw[List.drop_eq_getElem_cons hi]
 rw[e] at h;exact Part.cut h hh
theorem part_pos {b:Bx} {l:List Bx} (h:Part b l):0<l.length:=by
 cases h with
 | one=>simp
 | cut _ _=>simp only[List.length_append,List.length_cons];omega
theorem split_len {l:List Bx} {i:Nat} (x y:Bx) (hi:i<l.length):(l.take i++x::y::l.drop (i+1)).length=l.length+1:=by
 simp only[List.length_append,List.length_cons,List.length_take,List.length_drop];omega
theorem Rd.blkL {α:Type} {w:World} {b:Nat} {t:TypeId} {sz:Nat} {enc:α→List Value} (xs:List α) (he:∀ x,(enc x).length=sz) {cs:Array Value} (hc:cs.toList=xs.flatMap enc) (hB:Blk w b t cs) (row:Option Nat) (hr:some b≠row) :
  Rd row w sz enc (some ⟨b,0,none⟩) xs.length xs:=by
 refine⟨rfl,fun _=>⟨b,0,rfl,hB.lt,hr,fun i hi j v hv=>?_⟩⟩
 have hj:j<sz:=by
  have:=(List.getElem?_eq_some_iff.1 hv).1;rwa [he] at this
 rw[Nat.zero_add,hB.cell,← Array.getElem?_toList,hc,flat_at he xs i hi j hj];exact hv
theorem Blk.grownX {w w':World} {g:Nat} {t:TypeId} {cs:Array Value} {row:Option Nat} (h:Blk w g t cs) (hg:w.grownBy w' row) (hr:∀ b,row=some b→g≠b):Blk w' g t cs:=
 (hg.block g h.lt fun e=>hr g e.symm rfl).trans h
theorem Own.grownO {α:Type} {w w':World} {B e sz:Nat} {enc:α→List Value} {v:Value} {xs:List α} {row:Option Nat} (h:Own w B e sz enc v xs) (hg:w.grownBy w' row) (hr:∀ b,row=some b→v.ownBlock≠some b):Own w' B e sz enc v xs:=by
 refine World.ownsRow.kept h hg ?_;cases hv:v.ownBlock with
 | none=>exact .inl rfl
 | some b=>exact .inr fun e=>hr b e.symm hv
theorem nameW {K:Act→World→Prop} {a:Act} {w:World} {o:Obj} (h:∀ wy,wy=w.alloc o→K a wy):K a (w.alloc o):=h _ rfl
structure GC where
 v0:Value
 v4:Value
 v8:Value
 v10:Value
 pb:Nat
 st:Nat
 q:Bool
def gc0:GC:=⟨undef,undef,undef,undef,0,0,false⟩
def two (x y:Bx):Array Value:=(.int .i64 x.x.lo::.int .i64 x.x.hi::.int .i64 x.y.lo::.int .i64 x.y.hi::.int .i64 x.u.lo::.int .i64 x.u.hi::.int .i64 x.v.lo::.int .i64 x.v.hi::.int .i64 y.x.lo::.int .i64 y.x.hi::.int .i64 y.y.lo::.int .i64 y.y.hi::.int .i64 y.u.lo::.int .i64 y.u.hi::.int .i64 y.v.lo::.int .i64 y.v.hi::[]:List Value).toArray
structure CB (wb:World) (x y:Bx) (p r:List Bx) (D:Nat→Bool) (γ:GC) (w:World):Prop where
 kp:Kp wb.heap.size none wb w
 f0:D 0=decide (1≤γ.st)
 f4:D 4=decide (2≤γ.st)
 f8:D 8=decide (3≤γ.st)
 f10:D 10=decide (4≤γ.st)
 f7:D 7=γ.q
 r0:γ.st=1→Own w wb.heap.size 33 8 encBx γ.v0 []
 r4:γ.st=2→Own w wb.heap.size 33 8 encBx γ.v4 p
 r8:γ.st=3→Own w wb.heap.size 33 8 encBx γ.v8 (p++[x,y])
 r10:4≤γ.st→Own w wb.heap.size 33 8 encBx γ.v10 (p++[x,y]++r)
 rp:γ.q=true→γ.st≤2→Blk w γ.pb 33 (two x y)∧wb.heap.size≤γ.pb
 a0:γ.q=true→γ.st=1→γ.v0.ownBlock≠some γ.pb
 a4:γ.q=true→γ.st=2→γ.v4.ownBlock≠some γ.pb
section
variable {wb:World} {x y:Bx} {p r:List Bx} {D:Nat→Bool} {γ:GC} {w w':World}
theorem CB.start (K:Kp wb.heap.size none wb w):CB wb x y p r (fun _=>false) gc0 w:=
 ⟨K,rfl,rfl,rfl,rfl,rfl,(by intro h;cases h),(by intro h;cases h),(by intro h;cases h),fun h=>absurd h (by show ¬ 4≤0;omega),(by intro h;cases h),(by intro h;cases h),(by intro h;cases h)⟩
theorem ge1 {n k:Nat} {b:Bool} (h:b=decide (k≤n)) (hb:b=false):n<k:=by subst hb;have:=decide_eq_false_iff_not.1 h.symm;omega
theorem CB.op0 (hD:D 0=false) (hw:w'=w.alloc (.cells #[] 33)) (h:CB wb x y p r D γ w):CB wb x y p r (fun j=>j==0||D j) { γ with v0:=.slice (some ⟨w.heap.size,0,none⟩) 0 0,st:=1 } w':=by
 subst hw;have e:=ge1 h.f0 hD;obtain⟨v0,v4,v8,v10,pb,st,q⟩:=γ;obtain rfl:st=0:=by simp only at e;omega
 have hg:w.grownBy (w.alloc (.cells #[] 33)) none:=World.grownBy_alloc w _ none
 exact {
  kp:=h.kp.alloc h.kp.size _,f0:=rfl,f4:=h.f4,f8:=h.f8,f10:=h.f10,f7:=h.f7,
  r0:=fun _=>emptyBoxes w _ h.kp.size,r4:=fun q=>(by cases q),r8:=fun q=>(by cases q),r10:=fun q=>(by simp only at q;omega),
  rp:=fun a _=>⟨(h.rp a (Nat.zero_le _)).1.grownX hg (fun b e=>by cases e),(h.rp a (Nat.zero_le _)).2⟩,
  a0:=fun a _ e=>by have:=(h.rp a (Nat.zero_le _)).1.lt;have e2:w.heap.size=pb:=(by simpa [Value.ownBlock] using e);simp only at this;omega,
  a4:=fun _ q=>(by cases q) }
theorem CB.op7 (hD:D 7=false) (hw:w'=w.alloc (.cells (two x y) 33)) (h:CB wb x y p r D γ w):CB wb x y p r (fun j=>j==7||D j) { γ with pb:=w.heap.size,q:=true } w':=by
 subst hw;obtain⟨v0,v4,v8,v10,pb,st,q⟩:=γ;obtain rfl:q=false:=h.f7.symm.trans hD;have hg:w.grownBy (w.alloc (.cells (two x y) 33)) none:=World.grownBy_alloc w _ none
 exact {
  kp:=h.kp.alloc h.kp.size _,f0:=h.f0,f4:=h.f4,f8:=h.f8,f10:=h.f10,f7:=rfl,
  r0:=fun e=>(h.r0 e).grownO hg (fun b e=>by cases e),r4:=fun e=>(h.r4 e).grownO hg (fun b e=>by cases e),r8:=fun e=>(h.r8 e).grownO hg (fun b e=>by cases e),r10:=fun e=>(h.r10 e).grownO hg (fun b e=>by cases e),
  rp:=fun _ _=>⟨Blk.new _ _ _,h.kp.size⟩,
  a0:=fun _ e e2=>Nat.lt_irrefl w.heap.size ((h.r0 e).ge _ e2).2,
  a4:=fun _ e e2=>Nat.lt_irrefl w.heap.size ((h.r4 e).ge _ e2).2 }
theorem CB.op4 {v:Value} (hD:D 4=false) (h0:1≤γ.st) (own:Own w' wb.heap.size 33 8 encBx v p) (hg:w.grownBy w' γ.v0.ownBlock) (hat:v.ownBlock=γ.v0.ownBlock∨v.ownBlock=some w.heap.size) (h:CB wb x y p r D γ w):CB wb x y p r (fun j=>j==4||D j) { γ with v4:=v,st:=2 } w':=by
 have e:=ge1 h.f4 hD;obtain⟨v0,v4,v8,v10,pb,st,q⟩:=γ;obtain rfl:st=1:=by simp only at e h0;omega
 have hge:=fun b e=>((h.r0 rfl).ge b e).1
 exact {
  kp:=h.kp.grown hg h.kp.size hge,f0:=h.f0,f4:=rfl,f8:=h.f8,f10:=h.f10,f7:=h.f7,
  r0:=fun q=>(by cases q),r4:=fun _=>own,r8:=fun q=>(by cases q),r10:=fun q=>(by simp only at q;omega),
  rp:=fun a _=>⟨(h.rp a (by simp)).1.grownX hg (fun b e=>(fun (e2:pb=b)=>h.a0 a rfl (e.trans (congrArg some e2.symm)))),(h.rp a (by simp)).2⟩,
  a0:=fun _ q=>(by cases q),
  a4:=fun a _ e=>by
   rcases hat with k|k
   · exact h.a0 a rfl (k ▸ e)
   ·
    have:=(h.rp a (by simp)).1.lt;have e2:some w.heap.size=some pb:=k ▸ e;injection e2 with e2
    simp only at this;omega }
theorem CB.op8 {v:Value} (hD:D 8=false) (h0:2≤γ.st) (own:Own w' wb.heap.size 33 8 encBx v (p++[x,y])) (hg:w.grownBy w' γ.v4.ownBlock) (h:CB wb x y p r D γ w):CB wb x y p r (fun j=>j==8||D j) { γ with v8:=v,st:=3 } w':=by
 have e:=ge1 h.f8 hD;obtain⟨v0,v4,v8,v10,pb,st,q⟩:=γ;obtain rfl:st=2:=by simp only at e h0;omega
 have hge:=fun b e=>((h.r4 rfl).ge b e).1
 exact {
  kp:=h.kp.grown hg h.kp.size hge,f0:=h.f0,f4:=h.f4,f8:=rfl,f10:=h.f10,f7:=h.f7,
  r0:=fun q=>(by cases q),r4:=fun q=>(by cases q),r8:=fun _=>own,r10:=fun q=>(by simp only at q;omega),
  rp:=fun _ q=>by simp only at q;omega,a0:=fun _ q=>(by cases q),a4:=fun _ q=>(by cases q) }
theorem CB.op10 {v:Value} (hD:D 10=false) (h0:3≤γ.st) (own:Own w' wb.heap.size 33 8 encBx v (p++[x,y]++r)) (hg:w.grownBy w' γ.v8.ownBlock) (h:CB wb x y p r D γ w):CB wb x y p r (fun j=>j==10||D j) { γ with v10:=v,st:=4 } w':=by
 have e:=ge1 h.f10 hD;obtain⟨v0,v4,v8,v10,pb,st,q⟩:=γ;obtain rfl:st=3:=by simp only at e h0;omega
 have hge:=fun b e=>((h.r8 rfl).ge b e).1
 exact {
  kp:=h.kp.grown hg h.kp.size hge,f0:=h.f0,f4:=h.f4,f8:=h.f8,f10:=rfl,f7:=h.f7,
  r0:=fun q=>(by cases q),r4:=fun q=>(by cases q),r8:=fun q=>(by cases q),r10:=fun _=>own,
  rp:=fun _ q=>by simp only at q;omega,a0:=fun _ q=>(by cases q),a4:=fun _ q=>(by cases q) }
end
theorem Blk.newsAt {w:World} {b:Nat} {t:TypeId} {l:List Value} {cs:Array Value} (h:Blk w b t cs) (e:cs.toList=l):∀ j u,l[j]?=some u→w.cell? ((⟨b,0,none⟩:Addr).add j)=some u:=by
 intro j u hj;rw[Addr.add_lit,Nat.zero_add,h.cell,← Array.getElem?_toList,e];exact hj
theorem Own.kpRow {α:Type} {w w':World} {B e sz:Nat} {enc:α→List Value} {v:Value} {xs:List α} {r:Nat} (h:Own w B e sz enc v xs) (k:Kp w.heap.size (some r) w w') (hr:r<B):Own w' B e sz enc v xs:=
 h.kp k (fun b hb=>oN)
theorem info_Vec:(Tryz.prog.info? 73).map (fun i=>(i.zero,i.size,i.bytes))=some (some (.agg #[(0:Int),(0:Int)]),2,16):=by kernel_rfl
theorem one_Vec (y:Pt):∀ u∈encPt y,u.oneCell'=true:=by
 unfold encPt;simp only[List.mem_cons,List.not_mem_nil,or_false,forall_eq_or_imp,forall_eq];(repeat' apply And.intro)<;>rfl
theorem wp_app1_Vec {w:World} {o:Oper} {a:Act} {K:Act→World→Prop} {Q:Exit→Act→World→Prop} (s x:Operand)
  (ho:o.op=.call { callee:=.builtin .append,args:=#[s,x],argTypes:=#[75,75] })
  (B:Nat) (v:Value) (xs:List Pt) (b cap:Nat) (y:Pt) {cs:Array Value} {tb:TypeId} (hs:a.eval s=v) (hx:a.eval x=.slice (some ⟨b,0,none⟩) 1 cap)
  (hown:Own w B 73 2 encPt v xs) (hb:Blk w b tb cs) (hc:cs.toList=encPt y) (hl:xs.length≤900000) (hB:B≤w.heap.size)
  (h:∀ v' w',Own w' B 73 2 encPt v' (xs++[y])→w.grownBy w' v.ownBlock→(v'.ownBlock=v.ownBlock∨v'.ownBlock=some w.heap.size)→K (a.put o.dst v') w'):o.wp Tryz.prog a w K Q:=by
 obtain⟨i0,hi0,hz0,hz1,hz2⟩:=info_parts info_Vec;refine wp_append_own_at s x 75 ho B 73 i0 _ 2 16 Tryz.underlying75 hi0 hz0 hz1 hz2 (by rfl) oM v xs.length (xs.flatMap encPt) hs hown ⟨b,0,none⟩ 1 cap (encPt y) hx (by rfl) (hb.newsAt hc) (one_Vec y) (maxLen_of oM) oM hB ?_;intro v' w' h1 h2 h3;refine h v' w' ?_ h2 h3;unfold Own;rw[List.length_append,List.flatMap_append];simpa using h1
theorem info_Body:(Tryz.prog.info? 77).map (fun i=>(i.zero,i.size,i.bytes))=some (some (.agg #[(0:Int),(0:Int),.slice none 0 0]),3,40):=by kernel_rfl
theorem one_Body (y:(Bd × Option Addr × Nat)):∀ u∈encBd y,u.oneCell'=true:=by
 unfold encBd;simp only[List.mem_cons,List.not_mem_nil,or_false,forall_eq_or_imp,forall_eq];(repeat' apply And.intro)<;>rfl
theorem wpList_app1_Body {w:World} {ops:Array Oper} {rest:List Oper} {o:Oper} {a:Act} {Q:Exit→Act→World→Prop} (hgd:o.guard=none) (s x:Operand)
  (ho:o.op=.call { callee:=.builtin .append,args:=#[s,x],argTypes:=#[25,25] })
  (B:Nat) (v:Value) (xs:List (Bd × Option Addr × Nat)) (b cap:Nat) (y:(Bd × Option Addr × Nat)) {cs:Array Value} {tb:TypeId} (hs:a.eval s=v) (hx:a.eval x=.slice (some ⟨b,0,none⟩) 1 cap)
  (hown:Own w B 77 3 encBd v xs) (hb:Blk w b tb cs) (hc:cs.toList=encBd y) (hl:xs.length≤900000) (hB:B≤w.heap.size)
  (h:∀ v' w',Own w' B 77 3 encBd v' (xs++[y])→w.grownBy w' v.ownBlock→(v'.ownBlock=v.ownBlock∨v'.ownBlock=some w.heap.size)→wpList Tryz.prog ops Q rest (a.put o.dst v') w'):wpList Tryz.prog ops Q (o::rest) a w:=by
 obtain⟨i0,hi0,hz0,hz1,hz2⟩:=info_parts info_Body;refine wpList_append_own_at w hgd s x 25 ho B 77 i0 _ 3 40 Tryz.underlying25 hi0 hz0 hz1 hz2 (by rfl) oM v xs.length (xs.flatMap encBd) hs hown ⟨b,0,none⟩ 1 cap (encBd y) hx (by rfl) (hb.newsAt hc) (one_Body y) (maxLen_of oM) oM hB ?_;intro v' w' h1 h2 _ h3;refine h v' w' ?_ h2 h3;unfold Own;rw[List.length_append,List.flatMap_append];simpa using h1
theorem info_Station:(Tryz.prog.info? 146).map (fun i=>(i.zero,i.size,i.bytes))=some (some (.agg #[(0:Int),(0:Int),(0:Int)]),3,24):=by kernel_rfl
theorem one_Station (y:Stn):∀ u∈encStn y,u.oneCell'=true:=by
 unfold encStn;simp only[List.mem_cons,List.not_mem_nil,or_false,forall_eq_or_imp,forall_eq];(repeat' apply And.intro)<;>rfl
theorem wp_app1_Station {w:World} {o:Oper} {a:Act} {K:Act→World→Prop} {Q:Exit→Act→World→Prop} (s x:Operand)
  (ho:o.op=.call { callee:=.builtin .append,args:=#[s,x],argTypes:=#[40,40] })
  (B:Nat) (v:Value) (xs:List Stn) (b cap:Nat) (y:Stn) {cs:Array Value} {tb:TypeId} (hs:a.eval s=v) (hx:a.eval x=.slice (some ⟨b,0,none⟩) 1 cap)
  (hown:Own w B 146 3 encStn v xs) (hb:Blk w b tb cs) (hc:cs.toList=encStn y) (hl:xs.length≤900000) (hB:B≤w.heap.size)
  (h:∀ v' w',Own w' B 146 3 encStn v' (xs++[y])→w.grownBy w' v.ownBlock→(v'.ownBlock=v.ownBlock∨v'.ownBlock=some w.heap.size)→K (a.put o.dst v') w'):o.wp Tryz.prog a w K Q:=by
 obtain⟨i0,hi0,hz0,hz1,hz2⟩:=info_parts info_Station;refine wp_append_own_at s x 40 ho B 146 i0 _ 3 24 Tryz.underlying40 hi0 hz0 hz1 hz2 (by rfl) oM v xs.length (xs.flatMap encStn) hs hown ⟨b,0,none⟩ 1 cap (encStn y) hx (by rfl) (hb.newsAt hc) (one_Station y) (maxLen_of oM) oM hB ?_;intro v' w' h1 h2 h3;refine h v' w' ?_ h2 h3;unfold Own;rw[List.length_append,List.flatMap_append];simpa using h1
theorem info_Catalog:(Tryz.prog.info? 148).map (fun i=>(i.zero,i.size,i.bytes))=some (some (.agg #[(0:Int),(0:Int),(0:Int)]),3,24):=by kernel_rfl
theorem one_Catalog (y:Cat):∀ u∈encCat y,u.oneCell'=true:=by
 unfold encCat;simp only[List.mem_cons,List.not_mem_nil,or_false,forall_eq_or_imp,forall_eq];(repeat' apply And.intro)<;>rfl
theorem wp_app1_Catalog {w:World} {o:Oper} {a:Act} {K:Act→World→Prop} {Q:Exit→Act→World→Prop} (s x:Operand)
  (ho:o.op=.call { callee:=.builtin .append,args:=#[s,x],argTypes:=#[41,41] })
  (B:Nat) (v:Value) (xs:List Cat) (b cap:Nat) (y:Cat) {cs:Array Value} {tb:TypeId} (hs:a.eval s=v) (hx:a.eval x=.slice (some ⟨b,0,none⟩) 1 cap)
  (hown:Own w B 148 3 encCat v xs) (hb:Blk w b tb cs) (hc:cs.toList=encCat y) (hl:xs.length≤900000) (hB:B≤w.heap.size)
  (h:∀ v' w',Own w' B 148 3 encCat v' (xs++[y])→w.grownBy w' v.ownBlock→(v'.ownBlock=v.ownBlock∨v'.ownBlock=some w.heap.size)→K (a.put o.dst v') w'):o.wp Tryz.prog a w K Q:=by
 obtain⟨i0,hi0,hz0,hz1,hz2⟩:=info_parts info_Catalog;refine wp_append_own_at s x 41 ho B 148 i0 _ 3 24 Tryz.underlying41 hi0 hz0 hz1 hz2 (by rfl) oM v xs.length (xs.flatMap encCat) hs hown ⟨b,0,none⟩ 1 cap (encCat y) hx (by rfl) (hb.newsAt hc) (one_Catalog y) (maxLen_of oM) oM hB ?_;intro v' w' h1 h2 h3;refine h v' w' ?_ h2 h3;unfold Own;rw[List.length_append,List.flatMap_append];simpa using h1
theorem info_Sight:(Tryz.prog.info? 90).map (fun i=>(i.zero,i.size,i.bytes))=some (some (.agg #[(0:Int),(0:Int),(0:Int),(0:Int),(0:Int),(0:Int),(0:Int),(0:Int),(0:Int)]),9,72):=by kernel_rfl
theorem one_Sight (y:Sg):∀ u∈encSg y,u.oneCell'=true:=by
 unfold encSg;simp only[List.mem_cons,List.not_mem_nil,or_false,forall_eq_or_imp,forall_eq];(repeat' apply And.intro)<;>rfl
theorem wpList_app1_Sight {w:World} {ops:Array Oper} {rest:List Oper} {o:Oper} {a:Act} {Q:Exit→Act→World→Prop} (hgd:o.guard=none) (s x:Operand)
  (ho:o.op=.call { callee:=.builtin .append,args:=#[s,x],argTypes:=#[44,44] })
  (B:Nat) (v:Value) (xs:List Sg) (b cap:Nat) (y:Sg) {cs:Array Value} {tb:TypeId} (hs:a.eval s=v) (hx:a.eval x=.slice (some ⟨b,0,none⟩) 1 cap)
  (hown:Own w B 90 9 encSg v xs) (hb:Blk w b tb cs) (hc:cs.toList=encSg y) (hl:xs.length≤900000) (hB:B≤w.heap.size)
  (h:∀ v' w',Own w' B 90 9 encSg v' (xs++[y])→w.grownBy w' v.ownBlock→(v'.ownBlock=v.ownBlock∨v'.ownBlock=some w.heap.size)→wpList Tryz.prog ops Q rest (a.put o.dst v') w'):wpList Tryz.prog ops Q (o::rest) a w:=by
 obtain⟨i0,hi0,hz0,hz1,hz2⟩:=info_parts info_Sight;refine wpList_append_own_at w hgd s x 44 ho B 90 i0 _ 9 72 Tryz.underlying44 hi0 hz0 hz1 hz2 (by rfl) oM v xs.length (xs.flatMap encSg) hs hown ⟨b,0,none⟩ 1 cap (encSg y) hx (by rfl) (hb.newsAt hc) (one_Sight y) (maxLen_of oM) oM hB ?_;intro v' w' h1 h2 _ h3;refine h v' w' ?_ h2 h3;unfold Own;rw[List.length_append,List.flatMap_append];simpa using h1
end Go.Proofs.YtdhiappifnflpaaGreat
