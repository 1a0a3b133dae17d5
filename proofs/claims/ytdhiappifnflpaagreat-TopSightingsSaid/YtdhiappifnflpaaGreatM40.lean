/- The reference's skies: station. The reference's skies: where. The reference's skies: Check. The reference's skies: Where. -/
import Derived.Test.YtdhiappifnflpaaGreatM23
import Derived.Test.YtdhiappifnflpaaGreatM27
set_option maxRecDepth 100000
set_option maxHeartbeats 2000000
namespace Go.Proofs.YtdhiappifnflpaaGreat
open Go.RowKit
def stI (l:List Stn) (id:Int):Int:=if l.findIdx (fun x=>decide (x.id=id))<l.length then (l.findIdx (fun x=>decide (x.id=id)):Nat) else -1
theorem stI_at {l:List Stn} {id:Int} {i:Nat} (h:i<l.length) (hb:∀ j (hj:j<l.length),j<i→l[j].id≠id) (hi:l[i].id=id):stI l id=i:=by
 have e:l.findIdx (fun x=>decide (x.id=id))=i:=by
  rw[List.findIdx_eq h];refine⟨by simp[hi],fun j hj=>by simpa using hb j oM hj⟩
 unfold stI;rw[e,if_pos h]
theorem stI_none {l:List Stn} {id:Int} (hb:∀ j (hj:j<l.length),l[j].id≠id):stI l id=-1:=by
 unfold stI;rw[if_neg];intro h;have:=List.findIdx_getElem (w:=h);exact hb _ h (by simpa using this)
theorem r2_station_any (A B C:Option Addr) (ca cb cc:Nat) (S:Sky) (id:Int) (w:World) (hr:Rd none w 3 encStn B S.st.length S.st) (hl:S.st.length≤1000) :
  Calls Tryz.prog 122 #[.agg #[.slice A S.W.bs.length ca,S.W.home,.slice B S.st.length cb,.slice C S.ct.length cc],id] w fun e w'=>e=.returned (.int .i64 (stI S.st id))∧Kp w.heap.size none w w':=by
 obtain⟨w1,hw1,Z,K,hz⟩:=box1 w 43 #[.slice A S.W.bs.length ca,S.W.home,.slice B S.st.length cb,.slice C S.ct.length cc];go_enter Tryz.func122,Tryz.ntmps122
 go_wp2_with fail
 rw[← hw1];clear hw1;go_loopw [5] (fun v wr=>∃ i:Nat,v=.int .i64 i∧i≤S.st.length∧(∀ j (hj:j<S.st.length),j<i→S.st[j].id≠id)∧Blk wr w.heap.size 43 #[.slice A S.W.bs.length ca,S.W.home,.slice B S.st.length cb,.slice C S.ct.length cc]∧Kp w.heap.size none w wr) (fun v _=>(S.st.length:Int).toNat-(intOf v).toNat)
 case atStart=>exact⟨0,rfl,Nat.zero_le _,fun j _ h=>absurd h oM,Z,K⟩
 case round=>
  clear Z K;obtain⟨i,rfl,hi,hb,Z,K⟩:=hrel;have cZ:=Z.cell;by_cases h:i<S.st.length
  ·
   obtain⟨bb,o,rfl,hlt,-,hc⟩:=(hr.kpN K).at_ oM;have c0:=hc i h 0 _ rfl;rw[Nat.add_zero] at c0;have hii:(i:Int)<(S.st.length:Int):=by omega
   have hi0:¬ (i:Int)<0:=by omega
   have hbd:(i:Int)≤1000:=by omega
   have hm:(S.st.length:Int).toNat-((i+1:Nat):Int).toNat<(S.st.length:Int).toNat-(i:Int).toNat:=by omega
   replace hm:=Lib.hid hm;clear hc hr;obtain⟨x,hx⟩:∃ x,x=S.st[i].id:=⟨_,rfl⟩;rw[← hx] at c0;by_cases q:x=id
   ·
    have hs:=Lib.hid (stI_at h hb (hx.symm.trans q));have q2:(x==id)=true:=by simp[q]
    clear hx hb q;go_wp2_with fail
    go_ret
    exact⟨by rw[hs.out];rfl,K⟩
   ·
    have q2:(x==id)=false:=by simp[q]
    replace hx:=Lib.hid hx;replace hb:=Lib.hid hb;replace h:=Lib.hid h;replace q:=Lib.hid q;go_wp2
    go_roundw
    case rel=>exact⟨i+1,by congr 1,h.out,fun j hj hji=>by
     rcases Nat.lt_or_ge j i with k|k
     · exact hb.out j hj k
     ·
      obtain rfl:j=i:=by omega
      rw[← hx.out];exact q.out,Z,K⟩
    case measure=>exact hm.out
  ·
   obtain rfl:i=S.st.length:=by omega
   have hs:=Lib.hid (stI_none fun j hj=>hb j hj hj);clear hb hr;go_wp2_with fail
   go_ret
   exact⟨by rw[hs.out];rfl,K⟩
def VecP (w:World) (e:Ending) (w':World):Prop:=(∃ x y:Int,e=.returned (.agg #[x,y])∧-5000≤x∧x≤5000∧-5000≤y∧y≤5000)∧Kp w.heap.size none w w'
theorem r2_where (A B C:Option Addr) (ca cb cc:Nat) (S:Sky) (i:Nat) (t:Int) (w:World) (hS:S.ok) (hA:WdAt none w A S.W) (hr:Rd none w 3 encStn B S.st.length S.st) (hi:i<S.st.length) (ht:0≤t∧t≤1073741824) :
  Calls Tryz.prog 123 #[.agg #[.slice A S.W.bs.length ca,S.W.home,.slice B S.st.length cb,.slice C S.ct.length cc],i,t] w (VecP w):=by
 have hW:=hS.W;have hh:=hW.home;have hpb:=(hW.body _ (List.getElem_mem hh)).pl _ (Bd.at_mem (hW.body _ (List.getElem_mem hh)).tr0 t);have hof:=hS.soff _ (List.getElem_mem hi);clear hS;have ce:=fun w h=>r2_at_any A ca S.W S.W.home t w hW h hW.home ht;generalize S.W.bs[S.W.home].at t=p at *;clear hW;obtain⟨w1,hw1,Z,R,K,hz⟩:=box2 w 43 #[.slice A S.W.bs.length ca,S.W.home,.slice B S.st.length cb,.slice C S.ct.length cc] 73 #[(0:Int),(0:Int)];obtain⟨bb,o,rfl,hlt,-,hc⟩:=hr.at_ oM;have c1:=(K.cell _ _ hlt (by simp)).trans (hc i hi 1 _ rfl);have c2:=(K.cell _ _ hlt (by simp)).trans (hc i hi 2 _ rfl);rw[← Nat.add_assoc] at c1 c2;generalize S.st[i].ox=ox at *;generalize S.st[i].oy=oy at *;have hii:(i:Int)<(S.st.length:Int):=by omega
 have hi0:¬ (i:Int)<0:=by omega
 clear hc hr;go_enter Tryz.func123,Tryz.ntmps123
 go_upto_region 1 with(fail)
 rw[← hw1];clear hw1;have cZ:=Z.cell;go_wp2_with fail
 refine mK (ce _ (hA.kpN K)) fun w2 k=>?_;clear cZ ce hA;have d1:=(k.cell _ _ oM (by simp)).trans c1;have d2:=(k.cell _ _ oM (by simp)).trans c2;have hlt2:bb<w2.heap.size:=Nat.lt_of_lt_of_le oM k.size;replace Z:=Z.kpN k;replace R:=R.kpN k;replace K:=K.tN k;have lR:=R.lt;clear k c1 c2;have l2:(w2.alloc (.cells #[p.x,p.y] 73)).heap.size=w2.heap.size+1:=by simp
 have d3:=(World.cell?_alloc_lt w2 (.cells #[p.x,p.y] 73) _ hlt2).trans d1;have d4:=(World.cell?_alloc_lt w2 (.cells #[p.x,p.y] 73) _ hlt2).trans d2;clear d1 d2;have pZ:=Z.cell;have pR:=R.cell;obtain⟨w9_,rfl,V,k9_,hzn⟩:=box1 w2 73 #[p.x,p.y];replace Z:=Z.kpN k9_;replace R:=R.kpN k9_;replace K:=K.thenN k9_ oU;clear k9_;have cZ:=Z.cell;have fZ:=Z.frozen;have cR:=R.cell;have fR:=R.frozen;go_wp2_with fail
 clear cZ fZ pZ cR fR pR;generalize (w2.alloc (.cells #[p.x,p.y] 73))=w3 at *;obtain⟨y,hx⟩:∃ q9,q9=w2.heap.size:=⟨_,rfl⟩;rw[← hx] at V ⊢;replace hx:=Lib.hid hx;have y1:w.heap.size+2≤y:=by have:=hx.out;omega
 have hlt3:bb<w3.heap.size:=by omega
 clear hx hzn l2;have KO:=K;clear K;have K:=Kp.refl w3.heap.size (some (w.heap.size+1)) w3;obtain⟨S,hS0,hS1⟩:=cls_of2 (P:=fun w'=>Blk w' _ _ _∧Blk w' _ _ _∧Kp _ _ _ w') w3 ⟨Z,V,K⟩;try dsimp only at hS0
 have cZ:=fun (x:Ev (S 0)) i=>((hS0 _).1 x.h).1.cell i;have cV:=fun (x:Ev (S 0)) i=>((hS0 _).1 x.h).2.1.cell i;have a1:=fun (x:Ev (S 0))=>((((hS0 _).1 x.h).2.2).cell _ _ hlt3 oW).trans d3;have a2:=fun (x:Ev (S 0))=>((((hS0 _).1 x.h).2.2).cell _ _ hlt3 oW).trans d4;replace Z:=Z.drew;replace V:=V.drew;replace K:=K.drew;replace R:=R.drew;have hevT:=ev_true;refine wro S [(0,0),(1,1),(2,0),(3,1),(4,0),(5,0),(6,0),(7,0),(8,1),(9,0),(10,0),(11,1),(12,0),(13,1),(14,0),(15,0),(16,0),(17,0),(18,1),(19,0),(20,0),(21,3)] [21] ((hS0 _).2 ⟨Z,V,K⟩) ?_;intro _hev;refine oX ?_;refine oA ?_;intro Kc hKc;generalize w3.drew=wd9 at *;have cR:=R.cell;have fR:=R.frozen;go_step;obtain⟨w9,hwn,RB9,kst,hzst⟩:=R.st2 (.int .i64 (p.x+ox)) (.int .i64 (p.y+oy));rw[← hwn];clear hwn cR fR;refine hKc _ _ ((hS1 _).2 trivial) ?_;clear hKc Kc;replace Z:=Z.kq kst;replace V:=V.kq kst;first|replace K:=K.thenOwn kst (Nat.le_refl _) oM|replace K:=K.then_ kst (Nat.le_refl _)
 replace R:=RB9;clear RB9 kst;simp only[sbt,sc0,scs] at R;change wpOrd _ _ _ _ _ 1 _ _;refine wpOrd_nil ?_;clear hevT _hev;clear a1 a2;clear cZ cV hS0 hS1 S;have cR:=R.cell;go_wp2_with fail
 exact bodyPost_ret (v:=.agg #[.int .i64 (p.x+ox),.int .i64 (p.y+oy)]) (by simp[results,Tryz.results123,go_sem,cR]) rfl ⟨⟨_,_,rfl,by omega,by omega,by omega,by omega⟩,KO.thenOwn K (Nat.le_refl _) oM⟩
theorem Asc.head {k:Int}:∀ {l:List Int},Asc k l→∀ h:0<l.length,k<l[0]
 | [],_,h=>by simp at h
 | n::r,h,_=>h.1
theorem Asc.step {k:Int}:∀ {l:List Int},Asc k l→∀ i (h:i+1<l.length),l[i]<l[i+1]
 | [],_,_,h=>by simp at h
 | n::r,h,0,hi=>by
  have:=h.2.head (by simpa using hi);simpa using this
 | n::r,h,i+1,hi=>by
  have:=Asc.step h.2 i (by simpa using hi);simpa using this
theorem r2_Check_any (A B C:Option Addr) (ca cb cc:Nat) (S:Sky) (w:World) (hS:S.ok) (hA:WdAt none w A S.W) (hr:Rd none w 3 encStn B S.st.length S.st) (hc:Rd none w 3 encCat C S.ct.length S.ct) :
  Calls Tryz.prog 121 #[.agg #[.slice A S.W.bs.length ca,S.W.home,.slice B S.st.length cb,.slice C S.ct.length cc]] w fun e w'=>e=.returned (.int .i64 0)∧Kp w.heap.size none w w':=by
 have cw:=fun w h=>r2_CheckWorld_any A ca S.W w hS.W h;have s1:=hS.s1;have c1:=hS.c1;have n1:¬ (16:Int)<(S.st.length:Int):=by omega
 have n2:¬ (8:Int)<(S.ct.length:Int):=by omega
 have hh:Hid (∀ h:0<S.st.length,(0:Int)<S.st[0].id):=Lib.hid fun h=>by have q:=hS.sid.head (by simpa using h);rw[List.getElem_map] at q;exact q
 have hs:Hid (∀ i (h:i+1<S.st.length),S.st[i].id<S.st[i+1].id):=Lib.hid fun i h=>by have q:=hS.sid.step i (by simpa using h);rw[List.getElem_map,List.getElem_map] at q;exact q
 have gh:Hid (∀ h:0<S.ct.length,(0:Int)<S.ct[0].ver):=Lib.hid fun h=>by have q:=hS.cid.head (by simpa using h);rw[List.getElem_map] at q;exact q
 have gs:Hid (∀ i (h:i+1<S.ct.length),S.ct[i].ver<S.ct[i+1].ver):=Lib.hid fun i h=>by have q:=hS.cid.step i (by simpa using h);rw[List.getElem_map,List.getElem_map] at q;exact q
 have ho:=Lib.hid hS.soff;have hb:=Lib.hid hS.cb;clear hS;obtain⟨w1,hw1,Z,K,hz⟩:=box1 w 43 #[.slice A S.W.bs.length ca,S.W.home,.slice B S.st.length cb,.slice C S.ct.length cc];go_enter Tryz.func121,Tryz.ntmps121
 go_wp2_with fail
 rw[← hw1];clear hw1;refine mK (cw _ (hA.kpN K)) fun w2 k=>?_;replace Z:=Z.kpN k;replace K:=K.thenN k oM;have hzk:=k.size;clear k;clear cw hA hz hzk;have cZ:=Z.cell;go_wp2_with fail
 clear cZ;go_loopw [4,5] (fun v4 v5 wr=>∃ (i:Nat) (la:Int),v5=.int .i64 i∧v4=.int .i64 la∧i≤S.st.length∧(∀ h:i<S.st.length,la<S.st[i].id)∧Blk wr w.heap.size 43 #[.slice A S.W.bs.length ca,S.W.home,.slice B S.st.length cb,.slice C S.ct.length cc]∧Kp w.heap.size none w wr) (fun _ v5 _=>S.st.length-(intOf v5).toNat)
 case atStart=>exact⟨0,0,rfl,rfl,Nat.zero_le _,hh.out,Z,K⟩
 case round=>
  clear Z K;obtain⟨i,la,rfl,rfl,hi,hla,Z,K⟩:=hrel;have cZ:=Z.cell;by_cases h:i<S.st.length
  ·
   obtain⟨bb,o,rfl,hlt,-,hcc⟩:=(hr.kpN K).at_ oM;have c0:=hcc i h 0 _ rfl;have c1':=hcc i h 1 _ rfl;have c2:=hcc i h 2 _ rfl;rw[Nat.add_zero] at c0;rw[← Nat.add_assoc] at c1' c2;have hl2:=hla h;have hn2:Hid (∀ h2:i+1<S.st.length,S.st[i].id<S.st[i+1].id):=Lib.hid fun h2=>hs.out i h2;have hof:=ho.out _ (List.getElem_mem h);generalize S.st[i]=x at *;have hii:(i:Int)<(S.st.length:Int):=by omega
   have hi0:¬ (i:Int)<0:=by omega
   have hbd:(i:Int)≤3:=by omega
   have hm:S.st.length-(i+1)<S.st.length-i:=by omega
   have d1:=fun w=>r2_between_t (n:=x.ox) (lo:=-1048576) (hi:=1048576) oM oM w;have d2:=fun w=>r2_between_t (n:=x.oy) (lo:=-1048576) (hi:=1048576) oM oM w;have hle:¬ x.id≤la:=by omega
   replace hm:=Lib.hid hm;clear hcc hla hl2 hof;replace hr:=Lib.hid hr;replace h:=Lib.hid h;have KX:=K.alloc K.size (.cells #[x.id,x.ox,x.oy] 146);have X:=Blk.new wr 146 #[x.id,x.ox,x.oy];have Z2:=Z.alloc (.cells #[x.id,x.ox,x.oy] 146);have cX:=X.cell;go_wp2_with fail
   refine mK (d1 _) fun w3 k3=>?_;clear cX cZ c0 c1' c2;replace X:=X.kpN k3;replace Z2:=Z2.kpN k3;replace KX:=KX.tN k3;have cX:=X.cell;go_wp2_with fail
   refine mK (d2 _) fun w4 k4=>?_;clear cX;replace X:=X.kpN k4;replace Z2:=Z2.kpN k4;replace KX:=KX.tN k4;have cX:=X.cell;go_wp2
   go_roundw
   case rel=>exact⟨i+1,x.id,by congr 1,rfl,h.out,hn2.out,Z2,KX⟩
   case measure=>exact hm.out
  ·
   obtain rfl:i=S.st.length:=by omega
   clear hla hr;go_wp2_with fail
   rename World=>w1;go_loopw [4,7] (fun v4 v7 wr=>∃ (i:Nat) (la:Int),v7=.int .i64 i∧v4=.int .i64 la∧i≤S.ct.length∧(∀ h:i<S.ct.length,la<S.ct[i].ver)∧Blk wr w.heap.size 43 #[.slice A S.W.bs.length ca,S.W.home,.slice B S.st.length cb,.slice C S.ct.length cc]∧Kp w.heap.size none w wr) (fun _ v7 _=>S.ct.length-(intOf v7).toNat)
   case atStart=>exact⟨0,0,rfl,rfl,Nat.zero_le _,gh.out,Z,K⟩
   case round=>
    clear Z K cZ;obtain⟨i,la,rfl,rfl,hi,hla,Z,K⟩:=hrel;have cZ:=Z.cell;by_cases h:i<S.ct.length
    ·
     obtain⟨bb,o,rfl,hlt,-,hcc⟩:=(hc.kpN K).at_ oM;have c0:=hcc i h 0 _ rfl;have c1':=hcc i h 1 _ rfl;have c2:=hcc i h 2 _ rfl;rw[Nat.add_zero] at c0;rw[← Nat.add_assoc] at c1' c2;have hl2:=hla h;have hn2:Hid (∀ h2:i+1<S.ct.length,S.ct[i].ver<S.ct[i+1].ver):=Lib.hid fun h2=>gs.out i h2;have hof:=hb.out _ (List.getElem_mem h);generalize S.ct[i]=x at *;have hii:(i:Int)<(S.ct.length:Int):=by omega
     have hi0:¬ (i:Int)<0:=by omega
     have hbd:(i:Int)≤3:=by omega
     have hm:S.ct.length-(i+1)<S.ct.length-i:=by omega
     have hle:¬ x.ver≤la:=by omega
     have hb1:¬ x.lo < -500000:=by omega
     have hb2:¬ x.hi<x.lo:=by omega
     have hb3:¬ (500000:Int)<x.hi:=by omega
     replace hm:=Lib.hid hm;clear hcc hla hl2 hof;replace hc:=Lib.hid hc;replace h:=Lib.hid h;have KX:=K.alloc K.size (.cells #[x.ver,x.lo,x.hi] 148);have X:=Blk.new wr 148 #[x.ver,x.lo,x.hi];have Z2:=Z.alloc (.cells #[x.ver,x.lo,x.hi] 148);have cX:=X.cell;go_wp2
     go_roundw
     case rel=>exact⟨i+1,x.ver,by congr 1,rfl,h.out,hn2.out,Z2,KX⟩
     case measure=>exact hm.out
    ·
     obtain rfl:i=S.ct.length:=by omega
     clear hla hc;go_wp2_with fail
     go_ret
     exact⟨rfl,K⟩
def WhP (w:World) (e:Ending) (w':World):Prop:=(∃ x y:Int,e=.returned (.tuple #[.agg #[x,y],.bool true])∧-5000≤x∧x≤5000∧-5000≤y∧y≤5000)∧Kp w.heap.size none w w'
theorem r2_Where_any (A B C:Option Addr) (ca cb cc:Nat) (S:Sky) (id t:Int) (i:Nat) (w:World) (hS:S.ok) (hA:WdAt none w A S.W) (hr:Rd none w 3 encStn B S.st.length S.st) (hc:Rd none w 3 encCat C S.ct.length S.ct) (hi:stI S.st id=i) (hil:i<S.st.length) (ht:0≤t∧t≤1073741824) :
  Calls Tryz.prog 77 #[.agg #[.slice A S.W.bs.length ca,S.W.home,.slice B S.st.length cb,.slice C S.ct.length cc],id,t] w (WhP w):=by
 have ck:=fun w h h2 h3=>r2_Check_any A B C ca cb cc S w hS h h2 h3;have cs:=fun w h2=>r2_station_any A B C ca cb cc S id w h2 (by have:=hS.s1;omega);have cw:=fun w h h2=>r2_where A B C ca cb cc S i t w hS h h2 hil ht;have ct:=fun w=>r2_between_t ht.1 ht.2 w;rw[hi] at cs;have n3:¬ (i:Int)<0:=by omega
 clear hS hi ht;obtain⟨w1,hw1,Z,R,K,hz⟩:=box2 w 43 #[.slice A S.W.bs.length ca,S.W.home,.slice B S.st.length cb,.slice C S.ct.length cc] 73 #[(0:Int),(0:Int)];go_enter Tryz.func77,Tryz.ntmps77
 go_wp2_with fail
 rw[← hw1];clear hw1;refine mK (ck _ (hA.kpN K) (hr.kpN K) (hc.kpN K)) fun w2 k=>?_;replace Z:=Z.kpN k;replace R:=R.kpN k;replace K:=K.thenN k oM;have hzk:=k.size;clear k;have cZ:=Z.cell;have fZ:=Z.frozen;have cR:=R.cell;have fR:=R.frozen;go_wp2_with fail
 refine mK (cs _ (hr.kpN K)) fun w3 k=>?_;clear cZ fZ cR fR;replace Z:=Z.kpN k;replace R:=R.kpN k;replace K:=K.thenN k oM;have hzk:=k.size;clear k;have cZ:=Z.cell;have fZ:=Z.frozen;have cR:=R.cell;have fR:=R.frozen;go_wp2_with fail
 refine mK (ct _) fun w4 k=>?_;clear cZ fZ cR fR;replace Z:=Z.kpN k;replace R:=R.kpN k;replace K:=K.thenN k oM;have hzk:=k.size;clear k;have cZ:=Z.cell;go_wp2_with fail
 clear cZ;obtain⟨S,hS0,hS1⟩:=cls_of2 (P:=fun w'=>Blk w' _ _ _∧Kp _ _ _ w') w4 ⟨Z,K⟩;try dsimp only at hS0
 have cZ:=fun (x:Ev (S 0)) i=>((hS0 _).1 x.h).1.cell i;replace Z:=Z.drew;replace K:=K.drew;replace R:=R.drew;have hevT:=ev_true;refine wro S [(0,1),(1,1),(2,0),(4,0),(3,2),(5,2),(6,3),(7,0)] [6] ((hS0 _).2 ⟨Z,K⟩) ?_;intro _hev;refine oX ?_;refine oL ?_;intro Kc hKc;generalize w4.drew=wd9 at *;go_step;refine mK (cs _ (hr.kpN K)) fun w5 k=>?_;replace Z:=Z.kpN k;replace R:=R.kpN k;replace K:=K.tN k;clear k;refine hKc _ _ ((hS0 _).2 ⟨Z,K⟩) ?_;clear hKc Kc;refine oL ?_;intro Kc hKc;go_step;refine(cw _ (hA.kpN K) (hr.kpN K)).mono ?_;rintro e w6 ⟨⟨x,y,rfl,hb⟩,k⟩;replace Z:=Z.kpN k;replace R:=R.kpN k;replace K:=K.tN k;clear k;refine hKc _ _ ((hS0 _).2 ⟨Z,K⟩) ?_;clear hKc Kc;refine oA ?_;intro Kc hKc;have cR:=R.cell;have fR:=R.frozen;go_step;obtain⟨w9,hwn,RB9,kst,hzst⟩:=R.st2 (.int .i64 x) (.int .i64 y);rw[← hwn];clear hwn cR fR;refine hKc _ _ ((hS1 _).2 trivial) ?_;clear hKc Kc;replace Z:=Z.kq kst;first|replace K:=K.thenOwn kst (Nat.le_refl _) oM|replace K:=K.then_ kst (Nat.le_refl _)
 replace R:=RB9;clear RB9 kst;simp only[sbt,sc0,scs] at R;change wpOrd _ _ _ _ _ 1 _ _;refine oX ?_;refine wpOrd_nil ?_;clear hevT _hev;clear cZ hS0 hS1 S;have cR:=R.cell;go_wp2_with fail
 exact bodyPost_ret (v:=.tuple #[.agg #[x,y],.bool true]) (by simp[results,Tryz.results77,go_sem,cR]) rfl ⟨⟨_,_,rfl,hb⟩,K⟩
end Go.Proofs.YtdhiappifnflpaaGreat
