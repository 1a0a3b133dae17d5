/- CouncilAsks: the regions that ask for the house of a tick. CouncilAsks: the regions that ask for alarms and chances. CouncilAsks: the regions that compare houses, and that turn the house. -/
import Derived.Test.YtogpgnljomchcaaGreatAk
import Derived.Test.YtogpgnljomchcaaGreatWhyAll
import Derived.Test.YtogpgnljomchcaaGreatAn
import Derived.Test.YtogpgnljomchcaaGreatSameAll
import Derived.Test.YtogpgnljomchcaaGreatSr
import Derived.Test.YtogpgnljomchcaaGreatTree
import Derived.Deep.DeepCutAuto
import Derived.Deep.CutBlock
namespace Go.Proofs.YtogpgnljomchcaaGreat
open Go.RowKit

def codeReg (n : Nat) : Code → Code
  | .region id ops d => if id = n then .region id ops d else .skip
  | .seq a b => match codeReg n a with | .skip => codeReg n b | c => c
  | .cond _ a b => match codeReg n a with | .skip => codeReg n b | c => c
  | .block _ c => codeReg n c
  | .loop c => codeReg n c
  | _ => .skip
set_option maxRecDepth 20000 in
set_option maxHeartbeats 8000000 in
theorem ask_r11 {b2 b5 b9 b13 b24 i : Nat} {Vi : CV} {ci : Council} {Ai : Option Addr} {qi : Nat} {li : List CItem} {ti mi : Int} {wr : World} {Q : Exit → Act → World → Prop} {j0 j1 j2 j3 j4 j5 j6 j7 j8 j9 jA jB jC jD jE jF jG jH jI jJ jO jQ jR jS jT jU jV jW jX jY jZ ja jb jc jd je jf jg jh ji jj jk jl jm jn jo jp jq jr js jt ju jv jw jx jy jz z0 z1 z2 z3 z4 z5 z6 z7 z8 z9 zA zB zC zD zE zF zG zH zI zJ zK zL zM zN zO zP zQ zR zS zT zU zV zW zX zY zZ za zb zc zd ze zf zg zh zi zj zk zl zm zn zo zp zq zr zs zt zu zv zw zx zy zz J0 J1 J2 J3 J4 J5 J6 J7 J8 J9 JA JB JC JD JE JF JG JH JI JJ JK JL JM JN JO JP JQ JR JS JT JU JV JW JX JY JZ Ja Jb Jc Jd Je Jf Jg Jh Ji Jj Jk Jl Jm Jn Jo Jp Jq Jr Js Jt Ju Jv Jw Jx Jy Jz Z0 Z1 Z2 Z3 Z4 Z5 Z6 Z7 Z8 Z9 ZA ZB ZC ZD ZE ZF ZG ZH ZI ZJ ZK ZL ZM ZN ZO ZP ZQ ZR ZS ZT ZU ZV ZW ZX ZY ZZ Za Zb Zc Zd Ze Zf Zg Zh Zi Zj Zk Zl Zm Zn Zo Zp Zq Zr Zs Zt Zu Zv Zw Zx Zy Zz O0 O1 O2 O3 O4 O5 O6 O7 O8 O9 OA OB OC OD OE OF OG OH OI OJ OK OL OM ON OO OP OQ OR OS OT OU OV OW OX : Value} (P : World → Prop) (hPn : Hid (∀ w1 w2, P w1 → Kp w1.heap.size none w1 w2 → P w2)) (hF : Hid (∀ w1, P w1 → AF b2 b5 b9 b13 i Vi ci Ai qi li ti mi w1)) (U : P wr) (hi2 : i < 2) (hii : (i : Int) < 2) (hli : li.length ≤ 1000000) (hlq : li.length ≤ qi) {pq : House} {er : Int} (hRp : Hid ((pq, er) = asOfC ci li ti)) (hgr : b24 < wr.heap.size)
    (hQ : ∀ (ab : Nat) (Xa : HV) (va : Ky → Value) (wx : World) (v1X v1Y v1Z v1a v1b v1c v1d v1e v1f v1g v1h v1i v1j v1k v1l v1m : Value), HouseQ b24 ab Xa va pq wx → Kp wr.heap.size none wr wx → Q .normal { tmps := (j0::j1::j2::j3::j4::j5::j6::j7::j8::j9::jA::jB::jC::jD::jE::jF::jG::jH::jI::jJ::.slice (some ⟨b2, 0, none⟩) 2 2::.slice (some ⟨b5, 0, none⟩) 2 2::.slice (some ⟨b9, 0, none⟩) 2 2::.slice (some ⟨b13, 0, none⟩) 2 2::jO::.int .i64 (i : Int)::.pointer (some ⟨ab, 0, none⟩)::.int .i64 er::jS::jT::jU::jV::jW::jX::jY::jZ::ja::jb::jc::jd::je::jf::jg::jh::ji::jj::jk::jl::jm::jn::jo::jp::jq::jr::js::jt::ju::jv::jw::jx::jy::jz::z0::z1::z2::z3::z4::z5::z6::z7::z8::z9::zA::zB::zC::zD::zE::zF::zG::zH::zI::zJ::zK::zL::zM::zN::zO::zP::zQ::zR::zS::zT::zU::zV::zW::v1X::v1Y::v1Z::v1a::v1b::v1c::v1d::v1e::v1f::v1g::v1h::v1i::v1j::v1k::v1l::v1m::zn::zo::zp::zq::zr::zs::zt::zu::zv::zw::zx::zy::zz::J0::J1::J2::J3::J4::J5::J6::J7::J8::J9::JA::JB::JC::JD::JE::JF::JG::JH::JI::JJ::JK::JL::JM::JN::JO::JP::JQ::JR::JS::JT::JU::JV::JW::JX::JY::JZ::Ja::Jb::Jc::Jd::Je::Jf::Jg::Jh::Ji::Jj::Jk::Jl::Jm::Jn::Jo::Jp::Jq::Jr::Js::Jt::Ju::Jv::Jw::Jx::Jy::Jz::Z0::Z1::Z2::Z3::Z4::Z5::Z6::Z7::Z8::Z9::ZA::ZB::ZC::ZD::ZE::ZF::ZG::ZH::ZI::ZJ::ZK::ZL::ZM::ZN::ZO::ZP::ZQ::ZR::ZS::ZT::ZU::ZV::ZW::ZX::ZY::ZZ::Za::Zb::Zc::Zd::Ze::Zf::Zg::Zh::Zi::Zj::Zk::Zl::Zm::Zn::Zo::Zp::Zq::Zr::Zs::Zt::Zu::Zv::Zw::Zx::Zy::Zz::O0::O1::O2::O3::O4::O5::O6::O7::O8::O9::OA::OB::OC::OD::OE::OF::OG::OH::OI::OJ::OK::OL::OM::ON::OO::OP::OQ::OR::OS::OT::OU::OV::OW::OX::([] : List Value)).toArray, defers := [] } wx) :
    Code.wp Tryz.prog (codeReg 11 (Tryz.f4.body.getD .skip)) Q { tmps := (j0::j1::j2::j3::j4::j5::j6::j7::j8::j9::jA::jB::jC::jD::jE::jF::jG::jH::jI::jJ::.slice (some ⟨b2, 0, none⟩) 2 2::.slice (some ⟨b5, 0, none⟩) 2 2::.slice (some ⟨b9, 0, none⟩) 2 2::.slice (some ⟨b13, 0, none⟩) 2 2::jO::.int .i64 (i : Int)::jQ::jR::jS::jT::jU::jV::jW::jX::jY::jZ::ja::jb::jc::jd::je::jf::jg::jh::ji::jj::jk::jl::jm::jn::jo::jp::jq::jr::js::jt::ju::jv::jw::jx::jy::jz::z0::z1::z2::z3::z4::z5::z6::z7::z8::z9::zA::zB::zC::zD::zE::zF::zG::zH::zI::zJ::zK::zL::zM::zN::zO::zP::zQ::zR::zS::zT::zU::zV::zW::zX::zY::zZ::za::zb::zc::zd::ze::zf::zg::zh::zi::zj::zk::zl::zm::zn::zo::zp::zq::zr::zs::zt::zu::zv::zw::zx::zy::zz::J0::J1::J2::J3::J4::J5::J6::J7::J8::J9::JA::JB::JC::JD::JE::JF::JG::JH::JI::JJ::JK::JL::JM::JN::JO::JP::JQ::JR::JS::JT::JU::JV::JW::JX::JY::JZ::Ja::Jb::Jc::Jd::Je::Jf::Jg::Jh::Ji::Jj::Jk::Jl::Jm::Jn::Jo::Jp::Jq::Jr::Js::Jt::Ju::Jv::Jw::Jx::Jy::Jz::Z0::Z1::Z2::Z3::Z4::Z5::Z6::Z7::Z8::Z9::ZA::ZB::ZC::ZD::ZE::ZF::ZG::ZH::ZI::ZJ::ZK::ZL::ZM::ZN::ZO::ZP::ZQ::ZR::ZS::ZT::ZU::ZV::ZW::ZX::ZY::ZZ::Za::Zb::Zc::Zd::Ze::Zf::Zg::Zh::Zi::Zj::Zk::Zl::Zm::Zn::Zo::Zp::Zq::Zr::Zs::Zt::Zu::Zv::Zw::Zx::Zy::Zz::O0::O1::O2::O3::O4::O5::O6::O7::O8::O9::OA::OB::OC::OD::OE::OF::OG::OH::OI::OJ::OK::OL::OM::ON::OO::OP::OQ::OR::OS::OT::OU::OV::OW::OX::([] : List Value)).toArray, defers := [] } wr := by
  show Code.wp _ (Code.region 11 _ true) _ _ _
  have Q5 := (Kp.refl wr.heap.size none wr).drew
  obtain ⟨S0, hS⟩ : ∃ S0 : World → Prop, S0 = P := ⟨_, rfl⟩
  have hS0 : ∀ w', S0 w' ↔ P w' := fun w' => by rw [hS]
  clear hS
  have d0 := fun (q : Ev S0) => (hF.out _ ((hS0 _).1 q.h)).d0
  have d1 := fun (q : Ev S0) => (hF.out _ ((hS0 _).1 q.h)).d1
  have d2 := fun (q : Ev S0) => (hF.out _ ((hS0 _).1 q.h)).d2
  have e0 := fun (q : Ev S0) => (hF.out _ ((hS0 _).1 q.h)).e0
  have t0 := fun (q : Ev S0) => (hF.out _ ((hS0 _).1 q.h)).t
  have hcall := fun W9 (q : P W9) => council_AsOf_ha Vi ci Ai qi li ti W9 (hF.out _ q).ca (hF.out _ q).r hli hlq
  rw [← hRp.out] at hcall
  replace hcall := Lib.hid hcall
  replace hQ := Lib.hid hQ
  have hevT := ev_true
  refine wp_region_tr S0 (.st 0 0 (.st 1 0 (.st 2 0 (.st 3 1 (.st 4 0 (.st 5 0 (.st 6 0 (.st 7 1 (.st 8 0 (.st 9 0 (.st 10 0 (.st 11 1 (.b2 12 (.st 13 0 (.st 14 0 (.st 15 0 (.st 16 2 (.st 17 2 (.st 18 0 .nil)))))) 16 (.st 12 2 (.st 13 0 (.st 14 0 (.st 15 0 (.st 17 2 (.st 18 0 .nil))))))))))))))))))) (by kernel_rfl) (by kernel_rfl) ((hS0 _).2 (hPn.out _ _ U Q5)) ?_
  intro _hev
  iterate 12 (first | (refine wpTr_v rfl rfl ?_; intro K hK; go_big_quiet_op; go_big_quiet_on) | (refine wpTr_q rfl rfl ?_; intro K hK; go_big_quiet_op; go_big_quiet_on) | refine wpTr_s rfl rfl ?_)
  refine wpTr_b2 ?_ ?_
  · refine wpOne_l rfl rfl ?_; intro K hK
    go_step
    refine (hcall.out _ (hPn.out _ _ U Q5)).mono ?_
    have hq5 := Q5.size
    rintro e w9 ⟨Xa, va, Ba, hXa, hBa, rfl, HA, k9⟩
    simp only at HA ⊢
    replace hXa := Lib.hid hXa
    replace Q5 := Q5.thenN k9 (Nat.le_refl _)
    try (have hap : ∀ k, (va k).ownBlock ≠ some ab := fun k e => by have := (HA.ge k _ e).1; have := YB.lt; omega)
    try (replace YB := YB.kpN k9)
    refine hK _ _ ((hS0 _).2 (hPn.out _ _ U Q5)) ?_
    clear hK K k9
    iterate 3 (first | (refine wpTr_v rfl rfl ?_; intro K hK; go_big_quiet_op; go_big_quiet_on) | (refine wpTr_q rfl rfl ?_; intro K hK; go_big_quiet_op; go_big_quiet_on) | refine wpTr_s rfl rfl ?_)
    refine wpTr_l rfl rfl ?_; intro K hK
    have YB := Blk.new w9 43 zeroCells
    have ky := Kp.new w9 (.cells zeroCells 43)
    go_step
    obtain ⟨ab, hab⟩ : ∃ q, q = w9.heap.size := ⟨_, rfl⟩
    have hab4 : wr.heap.size ≤ ab := by rw [hab]; exact Q5.size
    replace Q5 := Q5.thenN ky (Nat.le_refl _)
    have hap : ∀ k, (va k).ownBlock ≠ some ab := fun k e => by have := (HA.ge k _ e).2; omega
    replace HA := HA.kpN ky
    rw [← hab] at YB ⊢
    clear hab ky
    change K _ (World.alloc w9 (.cells zeroCells 43))
    generalize World.alloc w9 (.cells zeroCells 43) = wy at YB Q5 HA ⊢
    refine hK _ _ ((hS0 _).2 (hPn.out _ _ U Q5)) ?_
    clear hK K
    refine wpTr_l rfl rfl ?_; intro K hK
    obtain ⟨wq, hwq, Q9, HY⟩ := put_houseQ (g := b24) Q5 YB HA hap hab4 Xa hXa.out (by omega)
    replace hwq := Lib.hid hwq
    have YB9 : Blk _ ab 43 #[.int .i64 0, .int .i64 0, .slice none 0 0, .slice none 0 0, .slice none 0 0, .int .i64 0, .slice none 0 0, .slice none 0 0, .slice none 0 0] := YB
    have cB := fun i => YB9.cell i
    have fB := fun i => YB.frozen i
    go_step
    change K _ (putH _ ab Xa pq)
    rw [← hwq.out]
    refine hK _ _ ((hS0 _).2 (hPn.out _ _ U Q9)) ?_
    clear hK K cB fB hwq YB9 YB HA hap Q5
    iterate 1 (first | (refine wpTr_v rfl rfl ?_; intro K hK; go_big_quiet_op; go_big_quiet_on) | (refine wpTr_q rfl rfl ?_; intro K hK; go_big_quiet_op; go_big_quiet_on) | refine wpTr_s rfl rfl ?_)
    refine wpTr_nil ?_
    clear hevT _hev
    exact hQ.out ab Xa va _ _ _ _ _ _ _ _ _ _ _ _ _ _ _ _ _ HY Q9
  · refine wpOne_l rfl rfl ?_; intro K hK
    generalize wr.drew = wz at Q5 ⊢
    have YB := Blk.new wz 43 zeroCells
    have ky := Kp.new wz (.cells zeroCells 43)
    go_step
    obtain ⟨ab, hab⟩ : ∃ q, q = wz.heap.size := ⟨_, rfl⟩
    have hab4 : wr.heap.size ≤ ab := by rw [hab]; exact Q5.size
    replace Q5 := Q5.thenN ky (Nat.le_refl _)
    rw [← hab] at YB ⊢
    clear hab ky
    change K _ (World.alloc wz (.cells zeroCells 43))
    generalize World.alloc wz (.cells zeroCells 43) = wy at YB Q5 ⊢
    refine hK _ _ ((hS0 _).2 (hPn.out _ _ U Q5)) ?_
    clear hK K
    refine wpTr_l rfl rfl ?_; intro K hK
    go_step
    refine (hcall.out _ (hPn.out _ _ U Q5)).mono ?_
    have hq5 := Q5.size
    rintro e w9 ⟨Xa, va, Ba, hXa, hBa, rfl, HA, k9⟩
    simp only at HA ⊢
    replace hXa := Lib.hid hXa
    replace Q5 := Q5.thenN k9 (Nat.le_refl _)
    try (have hap : ∀ k, (va k).ownBlock ≠ some ab := fun k e => by have := (HA.ge k _ e).1; have := YB.lt; omega)
    try (replace YB := YB.kpN k9)
    refine hK _ _ ((hS0 _).2 (hPn.out _ _ U Q5)) ?_
    clear hK K k9
    iterate 3 (first | (refine wpTr_v rfl rfl ?_; intro K hK; go_big_quiet_op; go_big_quiet_on) | (refine wpTr_q rfl rfl ?_; intro K hK; go_big_quiet_op; go_big_quiet_on) | refine wpTr_s rfl rfl ?_)
    refine wpTr_l rfl rfl ?_; intro K hK
    obtain ⟨wq, hwq, Q9, HY⟩ := put_houseQ (g := b24) Q5 YB HA hap hab4 Xa hXa.out (by omega)
    replace hwq := Lib.hid hwq
    have YB9 : Blk _ ab 43 #[.int .i64 0, .int .i64 0, .slice none 0 0, .slice none 0 0, .slice none 0 0, .int .i64 0, .slice none 0 0, .slice none 0 0, .slice none 0 0] := YB
    have cB := fun i => YB9.cell i
    have fB := fun i => YB.frozen i
    go_step
    change K _ (putH _ ab Xa pq)
    rw [← hwq.out]
    refine hK _ _ ((hS0 _).2 (hPn.out _ _ U Q9)) ?_
    clear hK K cB fB hwq YB9 YB HA hap Q5
    iterate 1 (first | (refine wpTr_v rfl rfl ?_; intro K hK; go_big_quiet_op; go_big_quiet_on) | (refine wpTr_q rfl rfl ?_; intro K hK; go_big_quiet_op; go_big_quiet_on) | refine wpTr_s rfl rfl ?_)
    refine wpTr_nil ?_
    clear hevT _hev
    exact hQ.out ab Xa va _ _ _ _ _ _ _ _ _ _ _ _ _ _ _ _ _ HY Q9
set_option maxRecDepth 20000 in
set_option maxHeartbeats 8000000 in
theorem ask_r12 {b2 b5 b9 b13 b24 i : Nat} {Vi : CV} {ci : Council} {Ai : Option Addr} {qi : Nat} {li : List CItem} {ti mi : Int} {wr : World} {Q : Exit → Act → World → Prop} {j0 j1 j2 j3 j4 j5 j6 j7 j8 j9 jA jB jC jD jE jF jG jH jI jJ jO jQ jR jS jT jU jV jW jX jY jZ ja jb jc jd je jf jg jh ji jj jk jl jm jn jo jp jq jr js jt ju jv jw jx jy jz z0 z1 z2 z3 z4 z5 z6 z7 z8 z9 zA zB zC zD zE zF zG zH zI zJ zK zL zM zN zO zP zQ zR zS zT zU zV zW zX zY zZ za zb zc zd ze zf zg zh zi zj zk zl zm zn zo zp zq zr zs zt zu zv zw zx zy zz J0 J1 J2 J3 J4 J5 J6 J7 J8 J9 JA JB JC JD JE JF JG JH JI JJ JK JL JM JN JO JP JQ JR JS JT JU JV JW JX JY JZ Ja Jb Jc Jd Je Jf Jg Jh Ji Jj Jk Jl Jm Jn Jo Jp Jq Jr Js Jt Ju Jv Jw Jx Jy Jz Z0 Z1 Z2 Z3 Z4 Z5 Z6 Z7 Z8 Z9 ZA ZB ZC ZD ZE ZF ZG ZH ZI ZJ ZK ZL ZM ZN ZO ZP ZQ ZR ZS ZT ZU ZV ZW ZX ZY ZZ Za Zb Zc Zd Ze Zf Zg Zh Zi Zj Zk Zl Zm Zn Zo Zp Zq Zr Zs Zt Zu Zv Zw Zx Zy Zz O0 O1 O2 O3 O4 O5 O6 O7 O8 O9 OA OB OC OD OE OF OG OH OI OJ OK OL OM ON OO OP OQ OR OS OT OU OV OW OX : Value} (P : World → Prop) (hPn : Hid (∀ w1 w2, P w1 → Kp w1.heap.size none w1 w2 → P w2)) (hF : Hid (∀ w1, P w1 → AF b2 b5 b9 b13 i Vi ci Ai qi li ti mi w1)) (U : P wr) (hi2 : i < 2) (hii : (i : Int) < 2) (hli : li.length ≤ 1000000) (hlq : li.length ≤ qi) {pq : House} {er : Int} (hRp : Hid ((pq, er) = asOfC ci li ti)) (hgr : b24 < wr.heap.size)
    (hQ : ∀ (ab : Nat) (Xa : HV) (va : Ky → Value) (wx : World) (v1n v1o v1p v1q v1r v1s v1t v1u v1v v1w v1x v1y v1z v20 v21 v22 : Value), HouseQ b24 ab Xa va pq wx → Kp wr.heap.size none wr wx → Q .normal { tmps := (j0::j1::j2::j3::j4::j5::j6::j7::j8::j9::jA::jB::jC::jD::jE::jF::jG::jH::jI::jJ::.slice (some ⟨b2, 0, none⟩) 2 2::.slice (some ⟨b5, 0, none⟩) 2 2::.slice (some ⟨b9, 0, none⟩) 2 2::.slice (some ⟨b13, 0, none⟩) 2 2::jO::.int .i64 (i : Int)::jQ::jR::.pointer (some ⟨ab, 0, none⟩)::.int .i64 er::jU::jV::jW::jX::jY::jZ::ja::jb::jc::jd::je::jf::jg::jh::ji::jj::jk::jl::jm::jn::jo::jp::jq::jr::js::jt::ju::jv::jw::jx::jy::jz::z0::z1::z2::z3::z4::z5::z6::z7::z8::z9::zA::zB::zC::zD::zE::zF::zG::zH::zI::zJ::zK::zL::zM::zN::zO::zP::zQ::zR::zS::zT::zU::zV::zW::zX::zY::zZ::za::zb::zc::zd::ze::zf::zg::zh::zi::zj::zk::zl::zm::v1n::v1o::v1p::v1q::v1r::v1s::v1t::v1u::v1v::v1w::v1x::v1y::v1z::v20::v21::v22::J3::J4::J5::J6::J7::J8::J9::JA::JB::JC::JD::JE::JF::JG::JH::JI::JJ::JK::JL::JM::JN::JO::JP::JQ::JR::JS::JT::JU::JV::JW::JX::JY::JZ::Ja::Jb::Jc::Jd::Je::Jf::Jg::Jh::Ji::Jj::Jk::Jl::Jm::Jn::Jo::Jp::Jq::Jr::Js::Jt::Ju::Jv::Jw::Jx::Jy::Jz::Z0::Z1::Z2::Z3::Z4::Z5::Z6::Z7::Z8::Z9::ZA::ZB::ZC::ZD::ZE::ZF::ZG::ZH::ZI::ZJ::ZK::ZL::ZM::ZN::ZO::ZP::ZQ::ZR::ZS::ZT::ZU::ZV::ZW::ZX::ZY::ZZ::Za::Zb::Zc::Zd::Ze::Zf::Zg::Zh::Zi::Zj::Zk::Zl::Zm::Zn::Zo::Zp::Zq::Zr::Zs::Zt::Zu::Zv::Zw::Zx::Zy::Zz::O0::O1::O2::O3::O4::O5::O6::O7::O8::O9::OA::OB::OC::OD::OE::OF::OG::OH::OI::OJ::OK::OL::OM::ON::OO::OP::OQ::OR::OS::OT::OU::OV::OW::OX::([] : List Value)).toArray, defers := [] } wx) :
    Code.wp Tryz.prog (codeReg 12 (Tryz.f4.body.getD .skip)) Q { tmps := (j0::j1::j2::j3::j4::j5::j6::j7::j8::j9::jA::jB::jC::jD::jE::jF::jG::jH::jI::jJ::.slice (some ⟨b2, 0, none⟩) 2 2::.slice (some ⟨b5, 0, none⟩) 2 2::.slice (some ⟨b9, 0, none⟩) 2 2::.slice (some ⟨b13, 0, none⟩) 2 2::jO::.int .i64 (i : Int)::jQ::jR::jS::jT::jU::jV::jW::jX::jY::jZ::ja::jb::jc::jd::je::jf::jg::jh::ji::jj::jk::jl::jm::jn::jo::jp::jq::jr::js::jt::ju::jv::jw::jx::jy::jz::z0::z1::z2::z3::z4::z5::z6::z7::z8::z9::zA::zB::zC::zD::zE::zF::zG::zH::zI::zJ::zK::zL::zM::zN::zO::zP::zQ::zR::zS::zT::zU::zV::zW::zX::zY::zZ::za::zb::zc::zd::ze::zf::zg::zh::zi::zj::zk::zl::zm::zn::zo::zp::zq::zr::zs::zt::zu::zv::zw::zx::zy::zz::J0::J1::J2::J3::J4::J5::J6::J7::J8::J9::JA::JB::JC::JD::JE::JF::JG::JH::JI::JJ::JK::JL::JM::JN::JO::JP::JQ::JR::JS::JT::JU::JV::JW::JX::JY::JZ::Ja::Jb::Jc::Jd::Je::Jf::Jg::Jh::Ji::Jj::Jk::Jl::Jm::Jn::Jo::Jp::Jq::Jr::Js::Jt::Ju::Jv::Jw::Jx::Jy::Jz::Z0::Z1::Z2::Z3::Z4::Z5::Z6::Z7::Z8::Z9::ZA::ZB::ZC::ZD::ZE::ZF::ZG::ZH::ZI::ZJ::ZK::ZL::ZM::ZN::ZO::ZP::ZQ::ZR::ZS::ZT::ZU::ZV::ZW::ZX::ZY::ZZ::Za::Zb::Zc::Zd::Ze::Zf::Zg::Zh::Zi::Zj::Zk::Zl::Zm::Zn::Zo::Zp::Zq::Zr::Zs::Zt::Zu::Zv::Zw::Zx::Zy::Zz::O0::O1::O2::O3::O4::O5::O6::O7::O8::O9::OA::OB::OC::OD::OE::OF::OG::OH::OI::OJ::OK::OL::OM::ON::OO::OP::OQ::OR::OS::OT::OU::OV::OW::OX::([] : List Value)).toArray, defers := [] } wr := by
  show Code.wp _ (Code.region 12 _ true) _ _ _
  have Q5 := (Kp.refl wr.heap.size none wr).drew
  obtain ⟨S0, hS⟩ : ∃ S0 : World → Prop, S0 = P := ⟨_, rfl⟩
  have hS0 : ∀ w', S0 w' ↔ P w' := fun w' => by rw [hS]
  clear hS
  have d0 := fun (q : Ev S0) => (hF.out _ ((hS0 _).1 q.h)).d0
  have d1 := fun (q : Ev S0) => (hF.out _ ((hS0 _).1 q.h)).d1
  have d2 := fun (q : Ev S0) => (hF.out _ ((hS0 _).1 q.h)).d2
  have e0 := fun (q : Ev S0) => (hF.out _ ((hS0 _).1 q.h)).e0
  have t0 := fun (q : Ev S0) => (hF.out _ ((hS0 _).1 q.h)).t
  have hcall := fun W9 (q : P W9) => ref_AsOf_any Vi ci Ai qi li ti W9 (hF.out _ q).ca (hF.out _ q).r hli hlq
  rw [← hRp.out] at hcall
  replace hcall := Lib.hid hcall
  replace hQ := Lib.hid hQ
  have hevT := ev_true
  refine wp_region_tr S0 (.st 0 0 (.st 1 0 (.st 2 0 (.st 3 1 (.st 4 0 (.st 5 0 (.st 6 0 (.st 7 1 (.st 8 0 (.st 9 0 (.st 10 0 (.st 11 1 (.b2 12 (.st 13 0 (.st 14 0 (.st 15 0 (.st 16 2 (.st 17 2 (.st 18 0 .nil)))))) 16 (.st 12 2 (.st 13 0 (.st 14 0 (.st 15 0 (.st 17 2 (.st 18 0 .nil))))))))))))))))))) (by kernel_rfl) (by kernel_rfl) ((hS0 _).2 (hPn.out _ _ U Q5)) ?_
  intro _hev
  iterate 12 (first | (refine wpTr_v rfl rfl ?_; intro K hK; go_big_quiet_op; go_big_quiet_on) | (refine wpTr_q rfl rfl ?_; intro K hK; go_big_quiet_op; go_big_quiet_on) | refine wpTr_s rfl rfl ?_)
  refine wpTr_b2 ?_ ?_
  · refine wpOne_l rfl rfl ?_; intro K hK
    go_step
    refine (hcall.out _ (hPn.out _ _ U Q5)).mono ?_
    have hq5 := Q5.size
    rintro e w9 ⟨Xa, va, Ba, hXa, hBa, rfl, HA, k9⟩
    simp only at HA ⊢
    replace hXa := Lib.hid hXa
    replace Q5 := Q5.thenN k9 (Nat.le_refl _)
    try (have hap : ∀ k, (va k).ownBlock ≠ some ab := fun k e => by have := (HA.ge k _ e).1; have := YB.lt; omega)
    try (replace YB := YB.kpN k9)
    refine hK _ _ ((hS0 _).2 (hPn.out _ _ U Q5)) ?_
    clear hK K k9
    iterate 3 (first | (refine wpTr_v rfl rfl ?_; intro K hK; go_big_quiet_op; go_big_quiet_on) | (refine wpTr_q rfl rfl ?_; intro K hK; go_big_quiet_op; go_big_quiet_on) | refine wpTr_s rfl rfl ?_)
    refine wpTr_l rfl rfl ?_; intro K hK
    have YB := Blk.new w9 43 zeroCells
    have ky := Kp.new w9 (.cells zeroCells 43)
    go_step
    obtain ⟨ab, hab⟩ : ∃ q, q = w9.heap.size := ⟨_, rfl⟩
    have hab4 : wr.heap.size ≤ ab := by rw [hab]; exact Q5.size
    replace Q5 := Q5.thenN ky (Nat.le_refl _)
    have hap : ∀ k, (va k).ownBlock ≠ some ab := fun k e => by have := (HA.ge k _ e).2; omega
    replace HA := HA.kpN ky
    rw [← hab] at YB ⊢
    clear hab ky
    change K _ (World.alloc w9 (.cells zeroCells 43))
    generalize World.alloc w9 (.cells zeroCells 43) = wy at YB Q5 HA ⊢
    refine hK _ _ ((hS0 _).2 (hPn.out _ _ U Q5)) ?_
    clear hK K
    refine wpTr_l rfl rfl ?_; intro K hK
    obtain ⟨wq, hwq, Q9, HY⟩ := put_houseQ (g := b24) Q5 YB HA hap hab4 Xa hXa.out (by omega)
    replace hwq := Lib.hid hwq
    have YB9 : Blk _ ab 43 #[.int .i64 0, .int .i64 0, .slice none 0 0, .slice none 0 0, .slice none 0 0, .int .i64 0, .slice none 0 0, .slice none 0 0, .slice none 0 0] := YB
    have cB := fun i => YB9.cell i
    have fB := fun i => YB.frozen i
    go_step
    change K _ (putH _ ab Xa pq)
    rw [← hwq.out]
    refine hK _ _ ((hS0 _).2 (hPn.out _ _ U Q9)) ?_
    clear hK K cB fB hwq YB9 YB HA hap Q5
    iterate 1 (first | (refine wpTr_v rfl rfl ?_; intro K hK; go_big_quiet_op; go_big_quiet_on) | (refine wpTr_q rfl rfl ?_; intro K hK; go_big_quiet_op; go_big_quiet_on) | refine wpTr_s rfl rfl ?_)
    refine wpTr_nil ?_
    clear hevT _hev
    exact hQ.out ab Xa va _ _ _ _ _ _ _ _ _ _ _ _ _ _ _ _ _ HY Q9
  · refine wpOne_l rfl rfl ?_; intro K hK
    generalize wr.drew = wz at Q5 ⊢
    have YB := Blk.new wz 43 zeroCells
    have ky := Kp.new wz (.cells zeroCells 43)
    go_step
    obtain ⟨ab, hab⟩ : ∃ q, q = wz.heap.size := ⟨_, rfl⟩
    have hab4 : wr.heap.size ≤ ab := by rw [hab]; exact Q5.size
    replace Q5 := Q5.thenN ky (Nat.le_refl _)
    rw [← hab] at YB ⊢
    clear hab ky
    change K _ (World.alloc wz (.cells zeroCells 43))
    generalize World.alloc wz (.cells zeroCells 43) = wy at YB Q5 ⊢
    refine hK _ _ ((hS0 _).2 (hPn.out _ _ U Q5)) ?_
    clear hK K
    refine wpTr_l rfl rfl ?_; intro K hK
    go_step
    refine (hcall.out _ (hPn.out _ _ U Q5)).mono ?_
    have hq5 := Q5.size
    rintro e w9 ⟨Xa, va, Ba, hXa, hBa, rfl, HA, k9⟩
    simp only at HA ⊢
    replace hXa := Lib.hid hXa
    replace Q5 := Q5.thenN k9 (Nat.le_refl _)
    try (have hap : ∀ k, (va k).ownBlock ≠ some ab := fun k e => by have := (HA.ge k _ e).1; have := YB.lt; omega)
    try (replace YB := YB.kpN k9)
    refine hK _ _ ((hS0 _).2 (hPn.out _ _ U Q5)) ?_
    clear hK K k9
    iterate 3 (first | (refine wpTr_v rfl rfl ?_; intro K hK; go_big_quiet_op; go_big_quiet_on) | (refine wpTr_q rfl rfl ?_; intro K hK; go_big_quiet_op; go_big_quiet_on) | refine wpTr_s rfl rfl ?_)
    refine wpTr_l rfl rfl ?_; intro K hK
    obtain ⟨wq, hwq, Q9, HY⟩ := put_houseQ (g := b24) Q5 YB HA hap hab4 Xa hXa.out (by omega)
    replace hwq := Lib.hid hwq
    have YB9 : Blk _ ab 43 #[.int .i64 0, .int .i64 0, .slice none 0 0, .slice none 0 0, .slice none 0 0, .int .i64 0, .slice none 0 0, .slice none 0 0, .slice none 0 0] := YB
    have cB := fun i => YB9.cell i
    have fB := fun i => YB.frozen i
    go_step
    change K _ (putH _ ab Xa pq)
    rw [← hwq.out]
    refine hK _ _ ((hS0 _).2 (hPn.out _ _ U Q9)) ?_
    clear hK K cB fB hwq YB9 YB HA hap Q5
    iterate 1 (first | (refine wpTr_v rfl rfl ?_; intro K hK; go_big_quiet_op; go_big_quiet_on) | (refine wpTr_q rfl rfl ?_; intro K hK; go_big_quiet_op; go_big_quiet_on) | refine wpTr_s rfl rfl ?_)
    refine wpTr_nil ?_
    clear hevT _hev
    exact hQ.out ab Xa va _ _ _ _ _ _ _ _ _ _ _ _ _ _ _ _ _ HY Q9
end Go.Proofs.YtogpgnljomchcaaGreat
namespace Go.Proofs.YtogpgnljomchcaaGreat
open Go.RowKit

set_option maxRecDepth 20000 in
set_option maxHeartbeats 8000000 in
theorem ask_r13 {b2 b5 b9 b13 b24 i : Nat} {Vi : CV} {ci : Council} {Ai : Option Addr} {qi : Nat} {li : List CItem} {ti mi : Int} {wr : World} {Q : Exit → Act → World → Prop} {j0 j1 j2 j3 j4 j5 j6 j7 j8 j9 jA jB jC jD jE jF jG jH jI jJ jO jQ jR jS jT jU jV jW jX jY jZ ja jb jc jd je jf jg jh ji jj jk jl jm jn jo jp jq jr js jt ju jv jw jx jy jz z0 z1 z2 z3 z4 z5 z6 z7 z8 z9 zA zB zC zD zE zF zG zH zI zJ zK zL zM zN zO zP zQ zR zS zT zU zV zW zX zY zZ za zb zc zd ze zf zg zh zi zj zk zl zm zn zo zp zq zr zs zt zu zv zw zx zy zz J0 J1 J2 J3 J4 J5 J6 J7 J8 J9 JA JB JC JD JE JF JG JH JI JJ JK JL JM JN JO JP JQ JR JS JT JU JV JW JX JY JZ Ja Jb Jc Jd Je Jf Jg Jh Ji Jj Jk Jl Jm Jn Jo Jp Jq Jr Js Jt Ju Jv Jw Jx Jy Jz Z0 Z1 Z2 Z3 Z4 Z5 Z6 Z7 Z8 Z9 ZA ZB ZC ZD ZE ZF ZG ZH ZI ZJ ZK ZL ZM ZN ZO ZP ZQ ZR ZS ZT ZU ZV ZW ZX ZY ZZ Za Zb Zc Zd Ze Zf Zg Zh Zi Zj Zk Zl Zm Zn Zo Zp Zq Zr Zs Zt Zu Zv Zw Zx Zy Zz O0 O1 O2 O3 O4 O5 O6 O7 O8 O9 OA OB OC OD OE OF OG OH OI OJ OK OL OM ON OO OP OQ OR OS OT OU OV OW OX : Value} (P : World → Prop) (hPn : Hid (∀ w1 w2, P w1 → Kp w1.heap.size none w1 w2 → P w2)) (hF : Hid (∀ w1, P w1 → AF b2 b5 b9 b13 i Vi ci Ai qi li ti mi w1)) (U : P wr) (hi2 : i < 2) (hii : (i : Int) < 2) (hli : li.length ≤ 1000000) (hlq : li.length ≤ qi) {Rb : House × Int × Int} (hRb : Hid (Rb = buildC ci li))
    (hQ : ∀ (Aa : Option Addr) (qa : Nat) (wx : World) (v23 v24 v25 v26 v27 v28 v29 v2A v2B v2C v2D v2E : Value), LAt wx.heap.size wx (sentLV Aa qa) (sentL (sentOf Rb)) → Kp wr.heap.size none wr wx → Q .normal { tmps := (j0::j1::j2::j3::j4::j5::j6::j7::j8::j9::jA::jB::jC::jD::jE::jF::jG::jH::jI::jJ::.slice (some ⟨b2, 0, none⟩) 2 2::.slice (some ⟨b5, 0, none⟩) 2 2::.slice (some ⟨b9, 0, none⟩) 2 2::.slice (some ⟨b13, 0, none⟩) 2 2::jO::.int .i64 (i : Int)::jQ::jR::jS::jT::.slice Aa (sentOf Rb).length qa::.int .i64 Rb.2.2::jW::jX::jY::jZ::ja::jb::jc::jd::je::jf::jg::jh::ji::jj::jk::jl::jm::jn::jo::jp::jq::jr::js::jt::ju::jv::jw::jx::jy::jz::z0::z1::z2::z3::z4::z5::z6::z7::z8::z9::zA::zB::zC::zD::zE::zF::zG::zH::zI::zJ::zK::zL::zM::zN::zO::zP::zQ::zR::zS::zT::zU::zV::zW::zX::zY::zZ::za::zb::zc::zd::ze::zf::zg::zh::zi::zj::zk::zl::zm::zn::zo::zp::zq::zr::zs::zt::zu::zv::zw::zx::zy::zz::J0::J1::J2::v23::v24::v25::v26::v27::v28::v29::v2A::v2B::v2C::v2D::v2E::JF::JG::JH::JI::JJ::JK::JL::JM::JN::JO::JP::JQ::JR::JS::JT::JU::JV::JW::JX::JY::JZ::Ja::Jb::Jc::Jd::Je::Jf::Jg::Jh::Ji::Jj::Jk::Jl::Jm::Jn::Jo::Jp::Jq::Jr::Js::Jt::Ju::Jv::Jw::Jx::Jy::Jz::Z0::Z1::Z2::Z3::Z4::Z5::Z6::Z7::Z8::Z9::ZA::ZB::ZC::ZD::ZE::ZF::ZG::ZH::ZI::ZJ::ZK::ZL::ZM::ZN::ZO::ZP::ZQ::ZR::ZS::ZT::ZU::ZV::ZW::ZX::ZY::ZZ::Za::Zb::Zc::Zd::Ze::Zf::Zg::Zh::Zi::Zj::Zk::Zl::Zm::Zn::Zo::Zp::Zq::Zr::Zs::Zt::Zu::Zv::Zw::Zx::Zy::Zz::O0::O1::O2::O3::O4::O5::O6::O7::O8::O9::OA::OB::OC::OD::OE::OF::OG::OH::OI::OJ::OK::OL::OM::ON::OO::OP::OQ::OR::OS::OT::OU::OV::OW::OX::([] : List Value)).toArray, defers := [] } wx) :
    Code.wp Tryz.prog (codeReg 13 (Tryz.f4.body.getD .skip)) Q { tmps := (j0::j1::j2::j3::j4::j5::j6::j7::j8::j9::jA::jB::jC::jD::jE::jF::jG::jH::jI::jJ::.slice (some ⟨b2, 0, none⟩) 2 2::.slice (some ⟨b5, 0, none⟩) 2 2::.slice (some ⟨b9, 0, none⟩) 2 2::.slice (some ⟨b13, 0, none⟩) 2 2::jO::.int .i64 (i : Int)::jQ::jR::jS::jT::jU::jV::jW::jX::jY::jZ::ja::jb::jc::jd::je::jf::jg::jh::ji::jj::jk::jl::jm::jn::jo::jp::jq::jr::js::jt::ju::jv::jw::jx::jy::jz::z0::z1::z2::z3::z4::z5::z6::z7::z8::z9::zA::zB::zC::zD::zE::zF::zG::zH::zI::zJ::zK::zL::zM::zN::zO::zP::zQ::zR::zS::zT::zU::zV::zW::zX::zY::zZ::za::zb::zc::zd::ze::zf::zg::zh::zi::zj::zk::zl::zm::zn::zo::zp::zq::zr::zs::zt::zu::zv::zw::zx::zy::zz::J0::J1::J2::J3::J4::J5::J6::J7::J8::J9::JA::JB::JC::JD::JE::JF::JG::JH::JI::JJ::JK::JL::JM::JN::JO::JP::JQ::JR::JS::JT::JU::JV::JW::JX::JY::JZ::Ja::Jb::Jc::Jd::Je::Jf::Jg::Jh::Ji::Jj::Jk::Jl::Jm::Jn::Jo::Jp::Jq::Jr::Js::Jt::Ju::Jv::Jw::Jx::Jy::Jz::Z0::Z1::Z2::Z3::Z4::Z5::Z6::Z7::Z8::Z9::ZA::ZB::ZC::ZD::ZE::ZF::ZG::ZH::ZI::ZJ::ZK::ZL::ZM::ZN::ZO::ZP::ZQ::ZR::ZS::ZT::ZU::ZV::ZW::ZX::ZY::ZZ::Za::Zb::Zc::Zd::Ze::Zf::Zg::Zh::Zi::Zj::Zk::Zl::Zm::Zn::Zo::Zp::Zq::Zr::Zs::Zt::Zu::Zv::Zw::Zx::Zy::Zz::O0::O1::O2::O3::O4::O5::O6::O7::O8::O9::OA::OB::OC::OD::OE::OF::OG::OH::OI::OJ::OK::OL::OM::ON::OO::OP::OQ::OR::OS::OT::OU::OV::OW::OX::([] : List Value)).toArray, defers := [] } wr := by
  show Code.wp _ (Code.region 13 _ true) _ _ _
  have Q5 := (Kp.refl wr.heap.size none wr).drew
  obtain ⟨S, hS⟩ : ∃ S : Nat → World → Prop, S = fun _ w' => P w' := ⟨_, rfl⟩
  have hS0 : ∀ w', S 0 w' ↔ (P w') := fun w' => by rw [hS]
  clear hS
  have d0 := fun (q : Ev (S 0)) => (hF.out _ ((hS0 _).1 q.h)).d0
  have d1 := fun (q : Ev (S 0)) => (hF.out _ ((hS0 _).1 q.h)).d1
  have d2 := fun (q : Ev (S 0)) => (hF.out _ ((hS0 _).1 q.h)).d2
  have e0 := fun (q : Ev (S 0)) => (hF.out _ ((hS0 _).1 q.h)).e0
  have hcall := fun W9 (q : P W9) => alarms_see Vi ci Ai qi li W9 (hF.out _ q).ca (hF.out _ q).r hli
  rw [← hRb.out] at hcall
  replace hcall := Lib.hid hcall
  replace hQ := Lib.hid hQ
  have hevT := ev_true
  refine wp_region_ord S [(0, 0), (1, 0), (2, 0), (3, 1), (4, 0), (5, 0), (6, 0), (7, 1), (8, 2), (9, 0), (10, 0), (11, 0), (12, 0), (13, 0)] [] (by kernel_rfl) (by kernel_rfl) ((hS0 _).2 (hPn.out _ _ U Q5)) ?_
  intro _hev
  iterate 8 (first | (refine wpOrd_v rfl rfl ?_; intro K hK; go_big_quiet_op; go_big_quiet_on) | (refine wpOrd_q rfl rfl ?_; intro K hK; go_big_quiet_op; go_big_quiet_on) | refine wpOrd_s (by decide) rfl rfl ?_)
  refine wpOrd_l rfl rfl ?_; intro K hK
  go_step
  refine (hcall.out _ (hPn.out _ _ U Q5)).mono ?_
  rintro e w9 ⟨Aa, qa, rfl, hla, k9⟩
  replace Q5 := Q5.thenN k9 (Nat.le_refl _)
  refine hK _ _ ((hS0 _).2 (hPn.out _ _ U Q5)) ?_
  clear hK K k9
  iterate 5 (first | (refine wpOrd_v rfl rfl ?_; intro K hK; go_big_quiet_op; go_big_quiet_on) | (refine wpOrd_q rfl rfl ?_; intro K hK; go_big_quiet_op; go_big_quiet_on) | refine wpOrd_s (by decide) rfl rfl ?_)
  refine wpOrd_nil ?_
  clear hevT _hev
  exact hQ.out Aa qa _ _ _ _ _ _ _ _ _ _ _ _ _ hla Q5
set_option maxRecDepth 20000 in
set_option maxHeartbeats 8000000 in
theorem ask_r14 {b2 b5 b9 b13 b24 i : Nat} {Vi : CV} {ci : Council} {Ai : Option Addr} {qi : Nat} {li : List CItem} {ti mi : Int} {wr : World} {Q : Exit → Act → World → Prop} {j0 j1 j2 j3 j4 j5 j6 j7 j8 j9 jA jB jC jD jE jF jG jH jI jJ jO jQ jR jS jT jU jV jW jX jY jZ ja jb jc jd je jf jg jh ji jj jk jl jm jn jo jp jq jr js jt ju jv jw jx jy jz z0 z1 z2 z3 z4 z5 z6 z7 z8 z9 zA zB zC zD zE zF zG zH zI zJ zK zL zM zN zO zP zQ zR zS zT zU zV zW zX zY zZ za zb zc zd ze zf zg zh zi zj zk zl zm zn zo zp zq zr zs zt zu zv zw zx zy zz J0 J1 J2 J3 J4 J5 J6 J7 J8 J9 JA JB JC JD JE JF JG JH JI JJ JK JL JM JN JO JP JQ JR JS JT JU JV JW JX JY JZ Ja Jb Jc Jd Je Jf Jg Jh Ji Jj Jk Jl Jm Jn Jo Jp Jq Jr Js Jt Ju Jv Jw Jx Jy Jz Z0 Z1 Z2 Z3 Z4 Z5 Z6 Z7 Z8 Z9 ZA ZB ZC ZD ZE ZF ZG ZH ZI ZJ ZK ZL ZM ZN ZO ZP ZQ ZR ZS ZT ZU ZV ZW ZX ZY ZZ Za Zb Zc Zd Ze Zf Zg Zh Zi Zj Zk Zl Zm Zn Zo Zp Zq Zr Zs Zt Zu Zv Zw Zx Zy Zz O0 O1 O2 O3 O4 O5 O6 O7 O8 O9 OA OB OC OD OE OF OG OH OI OJ OK OL OM ON OO OP OQ OR OS OT OU OV OW OX : Value} (P : World → Prop) (hPn : Hid (∀ w1 w2, P w1 → Kp w1.heap.size none w1 w2 → P w2)) (hF : Hid (∀ w1, P w1 → AF b2 b5 b9 b13 i Vi ci Ai qi li ti mi w1)) (U : P wr) (hi2 : i < 2) (hii : (i : Int) < 2) (hli : li.length ≤ 1000000) (hlq : li.length ≤ qi) {Rb : House × Int × Int} (hRb : Hid (Rb = buildC ci li))
    (hQ : ∀ (Aa : Option Addr) (qa : Nat) (wx : World) (v2F v2G v2H v2I v2J v2K v2L v2M v2N v2O v2P v2Q : Value), LAt wx.heap.size wx (sentLV Aa qa) (sentL (sentOf Rb)) → Kp wr.heap.size none wr wx → Q .normal { tmps := (j0::j1::j2::j3::j4::j5::j6::j7::j8::j9::jA::jB::jC::jD::jE::jF::jG::jH::jI::jJ::.slice (some ⟨b2, 0, none⟩) 2 2::.slice (some ⟨b5, 0, none⟩) 2 2::.slice (some ⟨b9, 0, none⟩) 2 2::.slice (some ⟨b13, 0, none⟩) 2 2::jO::.int .i64 (i : Int)::jQ::jR::jS::jT::jU::jV::.slice Aa (sentOf Rb).length qa::.int .i64 Rb.2.2::jY::jZ::ja::jb::jc::jd::je::jf::jg::jh::ji::jj::jk::jl::jm::jn::jo::jp::jq::jr::js::jt::ju::jv::jw::jx::jy::jz::z0::z1::z2::z3::z4::z5::z6::z7::z8::z9::zA::zB::zC::zD::zE::zF::zG::zH::zI::zJ::zK::zL::zM::zN::zO::zP::zQ::zR::zS::zT::zU::zV::zW::zX::zY::zZ::za::zb::zc::zd::ze::zf::zg::zh::zi::zj::zk::zl::zm::zn::zo::zp::zq::zr::zs::zt::zu::zv::zw::zx::zy::zz::J0::J1::J2::J3::J4::J5::J6::J7::J8::J9::JA::JB::JC::JD::JE::v2F::v2G::v2H::v2I::v2J::v2K::v2L::v2M::v2N::v2O::v2P::v2Q::JR::JS::JT::JU::JV::JW::JX::JY::JZ::Ja::Jb::Jc::Jd::Je::Jf::Jg::Jh::Ji::Jj::Jk::Jl::Jm::Jn::Jo::Jp::Jq::Jr::Js::Jt::Ju::Jv::Jw::Jx::Jy::Jz::Z0::Z1::Z2::Z3::Z4::Z5::Z6::Z7::Z8::Z9::ZA::ZB::ZC::ZD::ZE::ZF::ZG::ZH::ZI::ZJ::ZK::ZL::ZM::ZN::ZO::ZP::ZQ::ZR::ZS::ZT::ZU::ZV::ZW::ZX::ZY::ZZ::Za::Zb::Zc::Zd::Ze::Zf::Zg::Zh::Zi::Zj::Zk::Zl::Zm::Zn::Zo::Zp::Zq::Zr::Zs::Zt::Zu::Zv::Zw::Zx::Zy::Zz::O0::O1::O2::O3::O4::O5::O6::O7::O8::O9::OA::OB::OC::OD::OE::OF::OG::OH::OI::OJ::OK::OL::OM::ON::OO::OP::OQ::OR::OS::OT::OU::OV::OW::OX::([] : List Value)).toArray, defers := [] } wx) :
    Code.wp Tryz.prog (codeReg 14 (Tryz.f4.body.getD .skip)) Q { tmps := (j0::j1::j2::j3::j4::j5::j6::j7::j8::j9::jA::jB::jC::jD::jE::jF::jG::jH::jI::jJ::.slice (some ⟨b2, 0, none⟩) 2 2::.slice (some ⟨b5, 0, none⟩) 2 2::.slice (some ⟨b9, 0, none⟩) 2 2::.slice (some ⟨b13, 0, none⟩) 2 2::jO::.int .i64 (i : Int)::jQ::jR::jS::jT::jU::jV::jW::jX::jY::jZ::ja::jb::jc::jd::je::jf::jg::jh::ji::jj::jk::jl::jm::jn::jo::jp::jq::jr::js::jt::ju::jv::jw::jx::jy::jz::z0::z1::z2::z3::z4::z5::z6::z7::z8::z9::zA::zB::zC::zD::zE::zF::zG::zH::zI::zJ::zK::zL::zM::zN::zO::zP::zQ::zR::zS::zT::zU::zV::zW::zX::zY::zZ::za::zb::zc::zd::ze::zf::zg::zh::zi::zj::zk::zl::zm::zn::zo::zp::zq::zr::zs::zt::zu::zv::zw::zx::zy::zz::J0::J1::J2::J3::J4::J5::J6::J7::J8::J9::JA::JB::JC::JD::JE::JF::JG::JH::JI::JJ::JK::JL::JM::JN::JO::JP::JQ::JR::JS::JT::JU::JV::JW::JX::JY::JZ::Ja::Jb::Jc::Jd::Je::Jf::Jg::Jh::Ji::Jj::Jk::Jl::Jm::Jn::Jo::Jp::Jq::Jr::Js::Jt::Ju::Jv::Jw::Jx::Jy::Jz::Z0::Z1::Z2::Z3::Z4::Z5::Z6::Z7::Z8::Z9::ZA::ZB::ZC::ZD::ZE::ZF::ZG::ZH::ZI::ZJ::ZK::ZL::ZM::ZN::ZO::ZP::ZQ::ZR::ZS::ZT::ZU::ZV::ZW::ZX::ZY::ZZ::Za::Zb::Zc::Zd::Ze::Zf::Zg::Zh::Zi::Zj::Zk::Zl::Zm::Zn::Zo::Zp::Zq::Zr::Zs::Zt::Zu::Zv::Zw::Zx::Zy::Zz::O0::O1::O2::O3::O4::O5::O6::O7::O8::O9::OA::OB::OC::OD::OE::OF::OG::OH::OI::OJ::OK::OL::OM::ON::OO::OP::OQ::OR::OS::OT::OU::OV::OW::OX::([] : List Value)).toArray, defers := [] } wr := by
  show Code.wp _ (Code.region 14 _ true) _ _ _
  have Q5 := (Kp.refl wr.heap.size none wr).drew
  obtain ⟨S, hS⟩ : ∃ S : Nat → World → Prop, S = fun _ w' => P w' := ⟨_, rfl⟩
  have hS0 : ∀ w', S 0 w' ↔ (P w') := fun w' => by rw [hS]
  clear hS
  have d0 := fun (q : Ev (S 0)) => (hF.out _ ((hS0 _).1 q.h)).d0
  have d1 := fun (q : Ev (S 0)) => (hF.out _ ((hS0 _).1 q.h)).d1
  have d2 := fun (q : Ev (S 0)) => (hF.out _ ((hS0 _).1 q.h)).d2
  have e0 := fun (q : Ev (S 0)) => (hF.out _ ((hS0 _).1 q.h)).e0
  have hcall := fun W9 (q : P W9) => ref_alarms_see Vi ci Ai qi li W9 (hF.out _ q).ca (hF.out _ q).r hli
  rw [← hRb.out] at hcall
  replace hcall := Lib.hid hcall
  replace hQ := Lib.hid hQ
  have hevT := ev_true
  refine wp_region_ord S [(0, 0), (1, 0), (2, 0), (3, 1), (4, 0), (5, 0), (6, 0), (7, 1), (8, 2), (9, 0), (10, 0), (11, 0), (12, 0), (13, 0)] [] (by kernel_rfl) (by kernel_rfl) ((hS0 _).2 (hPn.out _ _ U Q5)) ?_
  intro _hev
  iterate 8 (first | (refine wpOrd_v rfl rfl ?_; intro K hK; go_big_quiet_op; go_big_quiet_on) | (refine wpOrd_q rfl rfl ?_; intro K hK; go_big_quiet_op; go_big_quiet_on) | refine wpOrd_s (by decide) rfl rfl ?_)
  refine wpOrd_l rfl rfl ?_; intro K hK
  go_step
  refine (hcall.out _ (hPn.out _ _ U Q5)).mono ?_
  rintro e w9 ⟨Aa, qa, rfl, hla, k9⟩
  replace Q5 := Q5.thenN k9 (Nat.le_refl _)
  refine hK _ _ ((hS0 _).2 (hPn.out _ _ U Q5)) ?_
  clear hK K k9
  iterate 5 (first | (refine wpOrd_v rfl rfl ?_; intro K hK; go_big_quiet_op; go_big_quiet_on) | (refine wpOrd_q rfl rfl ?_; intro K hK; go_big_quiet_op; go_big_quiet_on) | refine wpOrd_s (by decide) rfl rfl ?_)
  refine wpOrd_nil ?_
  clear hevT _hev
  exact hQ.out Aa qa _ _ _ _ _ _ _ _ _ _ _ _ _ hla Q5
set_option maxRecDepth 20000 in
set_option maxHeartbeats 8000000 in
theorem ask_r15 {b2 b5 b9 b13 b24 i : Nat} {Vi : CV} {ci : Council} {Ai : Option Addr} {qi : Nat} {li : List CItem} {ti mi : Int} {wr : World} {Q : Exit → Act → World → Prop} {j0 j1 j2 j3 j4 j5 j6 j7 j8 j9 jA jB jC jD jE jF jG jH jI jJ jO jQ jR jS jT jU jV jW jX jY jZ ja jb jc jd je jf jg jh ji jj jk jl jm jn jo jp jq jr js jt ju jv jw jx jy jz z0 z1 z2 z3 z4 z5 z6 z7 z8 z9 zA zB zC zD zE zF zG zH zI zJ zK zL zM zN zO zP zQ zR zS zT zU zV zW zX zY zZ za zb zc zd ze zf zg zh zi zj zk zl zm zn zo zp zq zr zs zt zu zv zw zx zy zz J0 J1 J2 J3 J4 J5 J6 J7 J8 J9 JA JB JC JD JE JF JG JH JI JJ JK JL JM JN JO JP JQ JR JS JT JU JV JW JX JY JZ Ja Jb Jc Jd Je Jf Jg Jh Ji Jj Jk Jl Jm Jn Jo Jp Jq Jr Js Jt Ju Jv Jw Jx Jy Jz Z0 Z1 Z2 Z3 Z4 Z5 Z6 Z7 Z8 Z9 ZA ZB ZC ZD ZE ZF ZG ZH ZI ZJ ZK ZL ZM ZN ZO ZP ZQ ZR ZS ZT ZU ZV ZW ZX ZY ZZ Za Zb Zc Zd Ze Zf Zg Zh Zi Zj Zk Zl Zm Zn Zo Zp Zq Zr Zs Zt Zu Zv Zw Zx Zy Zz O0 O1 O2 O3 O4 O5 O6 O7 O8 O9 OA OB OC OD OE OF OG OH OI OJ OK OL OM ON OO OP OQ OR OS OT OU OV OW OX : Value} (P : World → Prop) (hPn : Hid (∀ w1 w2, P w1 → Kp w1.heap.size none w1 w2 → P w2)) (hF : Hid (∀ w1, P w1 → AF b2 b5 b9 b13 i Vi ci Ai qi li ti mi w1)) (U : P wr) (hi2 : i < 2) (hii : (i : Int) < 2) (hli : li.length ≤ 1000000) (hlq : li.length ≤ qi) {wc : Chance} {we : Int} (hRw : Hid ((wc, we) = whyR (buildC ci li) li mi))
    (hQ : ∀ (ab : Nat) (wx : World) (v2R v2S v2T v2U v2V v2W v2X v2Y v2Z v2a v2b v2c v2d v2e v2f v2g : Value), Blk wx ab 34 #[.int .i64 wc.least, .int .i64 wc.most, .int .i64 wc.all] → Kp wr.heap.size none wr wx → Q .normal { tmps := (j0::j1::j2::j3::j4::j5::j6::j7::j8::j9::jA::jB::jC::jD::jE::jF::jG::jH::jI::jJ::.slice (some ⟨b2, 0, none⟩) 2 2::.slice (some ⟨b5, 0, none⟩) 2 2::.slice (some ⟨b9, 0, none⟩) 2 2::.slice (some ⟨b13, 0, none⟩) 2 2::jO::.int .i64 (i : Int)::jQ::jR::jS::jT::jU::jV::jW::jX::.pointer (some ⟨ab, 0, none⟩)::.int .i64 we::ja::jb::jc::jd::je::jf::jg::jh::ji::jj::jk::jl::jm::jn::jo::jp::jq::jr::js::jt::ju::jv::jw::jx::jy::jz::z0::z1::z2::z3::z4::z5::z6::z7::z8::z9::zA::zB::zC::zD::zE::zF::zG::zH::zI::zJ::zK::zL::zM::zN::zO::zP::zQ::zR::zS::zT::zU::zV::zW::zX::zY::zZ::za::zb::zc::zd::ze::zf::zg::zh::zi::zj::zk::zl::zm::zn::zo::zp::zq::zr::zs::zt::zu::zv::zw::zx::zy::zz::J0::J1::J2::J3::J4::J5::J6::J7::J8::J9::JA::JB::JC::JD::JE::JF::JG::JH::JI::JJ::JK::JL::JM::JN::JO::JP::JQ::v2R::v2S::v2T::v2U::v2V::v2W::v2X::v2Y::v2Z::v2a::v2b::v2c::v2d::v2e::v2f::v2g::Jh::Ji::Jj::Jk::Jl::Jm::Jn::Jo::Jp::Jq::Jr::Js::Jt::Ju::Jv::Jw::Jx::Jy::Jz::Z0::Z1::Z2::Z3::Z4::Z5::Z6::Z7::Z8::Z9::ZA::ZB::ZC::ZD::ZE::ZF::ZG::ZH::ZI::ZJ::ZK::ZL::ZM::ZN::ZO::ZP::ZQ::ZR::ZS::ZT::ZU::ZV::ZW::ZX::ZY::ZZ::Za::Zb::Zc::Zd::Ze::Zf::Zg::Zh::Zi::Zj::Zk::Zl::Zm::Zn::Zo::Zp::Zq::Zr::Zs::Zt::Zu::Zv::Zw::Zx::Zy::Zz::O0::O1::O2::O3::O4::O5::O6::O7::O8::O9::OA::OB::OC::OD::OE::OF::OG::OH::OI::OJ::OK::OL::OM::ON::OO::OP::OQ::OR::OS::OT::OU::OV::OW::OX::([] : List Value)).toArray, defers := [] } wx) :
    Code.wp Tryz.prog (codeReg 15 (Tryz.f4.body.getD .skip)) Q { tmps := (j0::j1::j2::j3::j4::j5::j6::j7::j8::j9::jA::jB::jC::jD::jE::jF::jG::jH::jI::jJ::.slice (some ⟨b2, 0, none⟩) 2 2::.slice (some ⟨b5, 0, none⟩) 2 2::.slice (some ⟨b9, 0, none⟩) 2 2::.slice (some ⟨b13, 0, none⟩) 2 2::jO::.int .i64 (i : Int)::jQ::jR::jS::jT::jU::jV::jW::jX::jY::jZ::ja::jb::jc::jd::je::jf::jg::jh::ji::jj::jk::jl::jm::jn::jo::jp::jq::jr::js::jt::ju::jv::jw::jx::jy::jz::z0::z1::z2::z3::z4::z5::z6::z7::z8::z9::zA::zB::zC::zD::zE::zF::zG::zH::zI::zJ::zK::zL::zM::zN::zO::zP::zQ::zR::zS::zT::zU::zV::zW::zX::zY::zZ::za::zb::zc::zd::ze::zf::zg::zh::zi::zj::zk::zl::zm::zn::zo::zp::zq::zr::zs::zt::zu::zv::zw::zx::zy::zz::J0::J1::J2::J3::J4::J5::J6::J7::J8::J9::JA::JB::JC::JD::JE::JF::JG::JH::JI::JJ::JK::JL::JM::JN::JO::JP::JQ::JR::JS::JT::JU::JV::JW::JX::JY::JZ::Ja::Jb::Jc::Jd::Je::Jf::Jg::Jh::Ji::Jj::Jk::Jl::Jm::Jn::Jo::Jp::Jq::Jr::Js::Jt::Ju::Jv::Jw::Jx::Jy::Jz::Z0::Z1::Z2::Z3::Z4::Z5::Z6::Z7::Z8::Z9::ZA::ZB::ZC::ZD::ZE::ZF::ZG::ZH::ZI::ZJ::ZK::ZL::ZM::ZN::ZO::ZP::ZQ::ZR::ZS::ZT::ZU::ZV::ZW::ZX::ZY::ZZ::Za::Zb::Zc::Zd::Ze::Zf::Zg::Zh::Zi::Zj::Zk::Zl::Zm::Zn::Zo::Zp::Zq::Zr::Zs::Zt::Zu::Zv::Zw::Zx::Zy::Zz::O0::O1::O2::O3::O4::O5::O6::O7::O8::O9::OA::OB::OC::OD::OE::OF::OG::OH::OI::OJ::OK::OL::OM::ON::OO::OP::OQ::OR::OS::OT::OU::OV::OW::OX::([] : List Value)).toArray, defers := [] } wr := by
  show Code.wp _ (Code.region 15 _ true) _ _ _
  have Q5 := (Kp.refl wr.heap.size none wr).drew
  obtain ⟨S0, hS⟩ : ∃ S0 : World → Prop, S0 = P := ⟨_, rfl⟩
  have hS0 : ∀ w', S0 w' ↔ P w' := fun w' => by rw [hS]
  clear hS
  have d0 := fun (q : Ev S0) => (hF.out _ ((hS0 _).1 q.h)).d0
  have d1 := fun (q : Ev S0) => (hF.out _ ((hS0 _).1 q.h)).d1
  have d2 := fun (q : Ev S0) => (hF.out _ ((hS0 _).1 q.h)).d2
  have e0 := fun (q : Ev S0) => (hF.out _ ((hS0 _).1 q.h)).e0
  have t0 := fun (q : Ev S0) => (hF.out _ ((hS0 _).1 q.h)).m
  have hcall := fun W9 (q : P W9) => council_Why_any Vi ci Ai qi li mi W9 (hF.out _ q).ca (hF.out _ q).r hli
  rw [← hRw.out] at hcall
  replace hcall := Lib.hid hcall
  replace hQ := Lib.hid hQ
  have hevT := ev_true
  refine wp_region_tr S0 (.st 0 0 (.st 1 0 (.st 2 0 (.st 3 1 (.st 4 0 (.st 5 0 (.st 6 0 (.st 7 1 (.st 8 0 (.st 9 0 (.st 10 0 (.st 11 1 (.b2 12 (.st 13 0 (.st 14 0 (.st 15 0 (.st 16 2 (.st 17 2 (.st 18 0 .nil)))))) 16 (.st 12 2 (.st 13 0 (.st 14 0 (.st 15 0 (.st 17 2 (.st 18 0 .nil))))))))))))))))))) (by kernel_rfl) (by kernel_rfl) ((hS0 _).2 (hPn.out _ _ U Q5)) ?_
  intro _hev
  iterate 12 (first | (refine wpTr_v rfl rfl ?_; intro K hK; go_big_quiet_op; go_big_quiet_on) | (refine wpTr_q rfl rfl ?_; intro K hK; go_big_quiet_op; go_big_quiet_on) | refine wpTr_s rfl rfl ?_)
  refine wpTr_b2 ?_ ?_
  · refine wpOne_l rfl rfl ?_; intro K hK
    go_step
    refine (hcall.out _ (hPn.out _ _ U Q5)).mono ?_
    rintro e w9 ⟨rfl, k9⟩
    simp only
    replace Q5 := Q5.thenN k9 (Nat.le_refl _)
    try (replace YB := YB.kpN k9)
    refine hK _ _ ((hS0 _).2 (hPn.out _ _ U Q5)) ?_
    clear hK K k9
    iterate 3 (first | (refine wpTr_v rfl rfl ?_; intro K hK; go_big_quiet_op; go_big_quiet_on) | (refine wpTr_q rfl rfl ?_; intro K hK; go_big_quiet_op; go_big_quiet_on) | refine wpTr_s rfl rfl ?_)
    refine wpTr_l rfl rfl ?_; intro K hK
    have YB := Blk.new w9 34 #[.int .i64 0, .int .i64 0, .int .i64 0]
    have ky := Kp.new w9 (.cells #[.int .i64 0, .int .i64 0, .int .i64 0] 34)
    go_step
    obtain ⟨ab, hab⟩ : ∃ q, q = w9.heap.size := ⟨_, rfl⟩
    have hab4 : wr.heap.size ≤ ab := by rw [hab]; exact Q5.size
    replace Q5 := Q5.thenN ky (Nat.le_refl _)
    rw [← hab] at YB ⊢
    clear hab ky
    change K _ (World.alloc w9 (.cells #[.int .i64 0, .int .i64 0, .int .i64 0] 34))
    generalize World.alloc w9 (.cells #[.int .i64 0, .int .i64 0, .int .i64 0] 34) = wy at YB Q5 ⊢
    refine hK _ _ ((hS0 _).2 (hPn.out _ _ U Q5)) ?_
    clear hK K
    refine wpTr_l rfl rfl ?_; intro K hK
    have Q9 := setC0_kp Q5 hab4 (.int .i64 wc.least) (.int .i64 wc.most) (.int .i64 wc.all)
    have Y9 := Blk.setC0 YB (.int .i64 wc.least) (.int .i64 wc.most) (.int .i64 wc.all)
    have cB := fun i => YB.cell i
    have fB := fun i => YB.frozen i
    replace Q9 := Lib.hid Q9
    replace Y9 := Lib.hid Y9
    go_step
    change K _ (setC0 _ ab (.int .i64 wc.least) (.int .i64 wc.most) (.int .i64 wc.all))
    replace Q9 := Q9.out
    replace Y9 := Y9.out
    refine hK _ _ ((hS0 _).2 (hPn.out _ _ U Q9)) ?_
    clear hK K cB fB YB Q5
    iterate 1 (first | (refine wpTr_v rfl rfl ?_; intro K hK; go_big_quiet_op; go_big_quiet_on) | (refine wpTr_q rfl rfl ?_; intro K hK; go_big_quiet_op; go_big_quiet_on) | refine wpTr_s rfl rfl ?_)
    refine wpTr_nil ?_
    clear hevT _hev
    exact hQ.out ab _ _ _ _ _ _ _ _ _ _ _ _ _ _ _ _ _ Y9 Q9
  · refine wpOne_l rfl rfl ?_; intro K hK
    generalize wr.drew = wz at Q5 ⊢
    have YB := Blk.new wz 34 #[.int .i64 0, .int .i64 0, .int .i64 0]
    have ky := Kp.new wz (.cells #[.int .i64 0, .int .i64 0, .int .i64 0] 34)
    go_step
    obtain ⟨ab, hab⟩ : ∃ q, q = wz.heap.size := ⟨_, rfl⟩
    have hab4 : wr.heap.size ≤ ab := by rw [hab]; exact Q5.size
    replace Q5 := Q5.thenN ky (Nat.le_refl _)
    rw [← hab] at YB ⊢
    clear hab ky
    change K _ (World.alloc wz (.cells #[.int .i64 0, .int .i64 0, .int .i64 0] 34))
    generalize World.alloc wz (.cells #[.int .i64 0, .int .i64 0, .int .i64 0] 34) = wy at YB Q5 ⊢
    refine hK _ _ ((hS0 _).2 (hPn.out _ _ U Q5)) ?_
    clear hK K
    refine wpTr_l rfl rfl ?_; intro K hK
    go_step
    refine (hcall.out _ (hPn.out _ _ U Q5)).mono ?_
    rintro e w9 ⟨rfl, k9⟩
    simp only
    replace Q5 := Q5.thenN k9 (Nat.le_refl _)
    try (replace YB := YB.kpN k9)
    refine hK _ _ ((hS0 _).2 (hPn.out _ _ U Q5)) ?_
    clear hK K k9
    iterate 3 (first | (refine wpTr_v rfl rfl ?_; intro K hK; go_big_quiet_op; go_big_quiet_on) | (refine wpTr_q rfl rfl ?_; intro K hK; go_big_quiet_op; go_big_quiet_on) | refine wpTr_s rfl rfl ?_)
    refine wpTr_l rfl rfl ?_; intro K hK
    have Q9 := setC0_kp Q5 hab4 (.int .i64 wc.least) (.int .i64 wc.most) (.int .i64 wc.all)
    have Y9 := Blk.setC0 YB (.int .i64 wc.least) (.int .i64 wc.most) (.int .i64 wc.all)
    have cB := fun i => YB.cell i
    have fB := fun i => YB.frozen i
    replace Q9 := Lib.hid Q9
    replace Y9 := Lib.hid Y9
    go_step
    change K _ (setC0 _ ab (.int .i64 wc.least) (.int .i64 wc.most) (.int .i64 wc.all))
    replace Q9 := Q9.out
    replace Y9 := Y9.out
    refine hK _ _ ((hS0 _).2 (hPn.out _ _ U Q9)) ?_
    clear hK K cB fB YB Q5
    iterate 1 (first | (refine wpTr_v rfl rfl ?_; intro K hK; go_big_quiet_op; go_big_quiet_on) | (refine wpTr_q rfl rfl ?_; intro K hK; go_big_quiet_op; go_big_quiet_on) | refine wpTr_s rfl rfl ?_)
    refine wpTr_nil ?_
    clear hevT _hev
    exact hQ.out ab _ _ _ _ _ _ _ _ _ _ _ _ _ _ _ _ _ Y9 Q9
set_option maxRecDepth 20000 in
set_option maxHeartbeats 8000000 in
theorem ask_r16 {b2 b5 b9 b13 b24 i : Nat} {Vi : CV} {ci : Council} {Ai : Option Addr} {qi : Nat} {li : List CItem} {ti mi : Int} {wr : World} {Q : Exit → Act → World → Prop} {j0 j1 j2 j3 j4 j5 j6 j7 j8 j9 jA jB jC jD jE jF jG jH jI jJ jO jQ jR jS jT jU jV jW jX jY jZ ja jb jc jd je jf jg jh ji jj jk jl jm jn jo jp jq jr js jt ju jv jw jx jy jz z0 z1 z2 z3 z4 z5 z6 z7 z8 z9 zA zB zC zD zE zF zG zH zI zJ zK zL zM zN zO zP zQ zR zS zT zU zV zW zX zY zZ za zb zc zd ze zf zg zh zi zj zk zl zm zn zo zp zq zr zs zt zu zv zw zx zy zz J0 J1 J2 J3 J4 J5 J6 J7 J8 J9 JA JB JC JD JE JF JG JH JI JJ JK JL JM JN JO JP JQ JR JS JT JU JV JW JX JY JZ Ja Jb Jc Jd Je Jf Jg Jh Ji Jj Jk Jl Jm Jn Jo Jp Jq Jr Js Jt Ju Jv Jw Jx Jy Jz Z0 Z1 Z2 Z3 Z4 Z5 Z6 Z7 Z8 Z9 ZA ZB ZC ZD ZE ZF ZG ZH ZI ZJ ZK ZL ZM ZN ZO ZP ZQ ZR ZS ZT ZU ZV ZW ZX ZY ZZ Za Zb Zc Zd Ze Zf Zg Zh Zi Zj Zk Zl Zm Zn Zo Zp Zq Zr Zs Zt Zu Zv Zw Zx Zy Zz O0 O1 O2 O3 O4 O5 O6 O7 O8 O9 OA OB OC OD OE OF OG OH OI OJ OK OL OM ON OO OP OQ OR OS OT OU OV OW OX : Value} (P : World → Prop) (hPn : Hid (∀ w1 w2, P w1 → Kp w1.heap.size none w1 w2 → P w2)) (hF : Hid (∀ w1, P w1 → AF b2 b5 b9 b13 i Vi ci Ai qi li ti mi w1)) (U : P wr) (hi2 : i < 2) (hii : (i : Int) < 2) (hli : li.length ≤ 1000000) (hlq : li.length ≤ qi) {wc : Chance} {we : Int} (hRw : Hid ((wc, we) = whyR (buildC ci li) li mi))
    (hQ : ∀ (ab : Nat) (wx : World) (v2h v2i v2j v2k v2l v2m v2n v2o v2p v2q v2r v2s v2t v2u v2v v2w : Value), Blk wx ab 34 #[.int .i64 wc.least, .int .i64 wc.most, .int .i64 wc.all] → Kp wr.heap.size none wr wx → Q .normal { tmps := (j0::j1::j2::j3::j4::j5::j6::j7::j8::j9::jA::jB::jC::jD::jE::jF::jG::jH::jI::jJ::.slice (some ⟨b2, 0, none⟩) 2 2::.slice (some ⟨b5, 0, none⟩) 2 2::.slice (some ⟨b9, 0, none⟩) 2 2::.slice (some ⟨b13, 0, none⟩) 2 2::jO::.int .i64 (i : Int)::jQ::jR::jS::jT::jU::jV::jW::jX::jY::jZ::.pointer (some ⟨ab, 0, none⟩)::.int .i64 we::jc::jd::je::jf::jg::jh::ji::jj::jk::jl::jm::jn::jo::jp::jq::jr::js::jt::ju::jv::jw::jx::jy::jz::z0::z1::z2::z3::z4::z5::z6::z7::z8::z9::zA::zB::zC::zD::zE::zF::zG::zH::zI::zJ::zK::zL::zM::zN::zO::zP::zQ::zR::zS::zT::zU::zV::zW::zX::zY::zZ::za::zb::zc::zd::ze::zf::zg::zh::zi::zj::zk::zl::zm::zn::zo::zp::zq::zr::zs::zt::zu::zv::zw::zx::zy::zz::J0::J1::J2::J3::J4::J5::J6::J7::J8::J9::JA::JB::JC::JD::JE::JF::JG::JH::JI::JJ::JK::JL::JM::JN::JO::JP::JQ::JR::JS::JT::JU::JV::JW::JX::JY::JZ::Ja::Jb::Jc::Jd::Je::Jf::Jg::v2h::v2i::v2j::v2k::v2l::v2m::v2n::v2o::v2p::v2q::v2r::v2s::v2t::v2u::v2v::v2w::Jx::Jy::Jz::Z0::Z1::Z2::Z3::Z4::Z5::Z6::Z7::Z8::Z9::ZA::ZB::ZC::ZD::ZE::ZF::ZG::ZH::ZI::ZJ::ZK::ZL::ZM::ZN::ZO::ZP::ZQ::ZR::ZS::ZT::ZU::ZV::ZW::ZX::ZY::ZZ::Za::Zb::Zc::Zd::Ze::Zf::Zg::Zh::Zi::Zj::Zk::Zl::Zm::Zn::Zo::Zp::Zq::Zr::Zs::Zt::Zu::Zv::Zw::Zx::Zy::Zz::O0::O1::O2::O3::O4::O5::O6::O7::O8::O9::OA::OB::OC::OD::OE::OF::OG::OH::OI::OJ::OK::OL::OM::ON::OO::OP::OQ::OR::OS::OT::OU::OV::OW::OX::([] : List Value)).toArray, defers := [] } wx) :
    Code.wp Tryz.prog (codeReg 16 (Tryz.f4.body.getD .skip)) Q { tmps := (j0::j1::j2::j3::j4::j5::j6::j7::j8::j9::jA::jB::jC::jD::jE::jF::jG::jH::jI::jJ::.slice (some ⟨b2, 0, none⟩) 2 2::.slice (some ⟨b5, 0, none⟩) 2 2::.slice (some ⟨b9, 0, none⟩) 2 2::.slice (some ⟨b13, 0, none⟩) 2 2::jO::.int .i64 (i : Int)::jQ::jR::jS::jT::jU::jV::jW::jX::jY::jZ::ja::jb::jc::jd::je::jf::jg::jh::ji::jj::jk::jl::jm::jn::jo::jp::jq::jr::js::jt::ju::jv::jw::jx::jy::jz::z0::z1::z2::z3::z4::z5::z6::z7::z8::z9::zA::zB::zC::zD::zE::zF::zG::zH::zI::zJ::zK::zL::zM::zN::zO::zP::zQ::zR::zS::zT::zU::zV::zW::zX::zY::zZ::za::zb::zc::zd::ze::zf::zg::zh::zi::zj::zk::zl::zm::zn::zo::zp::zq::zr::zs::zt::zu::zv::zw::zx::zy::zz::J0::J1::J2::J3::J4::J5::J6::J7::J8::J9::JA::JB::JC::JD::JE::JF::JG::JH::JI::JJ::JK::JL::JM::JN::JO::JP::JQ::JR::JS::JT::JU::JV::JW::JX::JY::JZ::Ja::Jb::Jc::Jd::Je::Jf::Jg::Jh::Ji::Jj::Jk::Jl::Jm::Jn::Jo::Jp::Jq::Jr::Js::Jt::Ju::Jv::Jw::Jx::Jy::Jz::Z0::Z1::Z2::Z3::Z4::Z5::Z6::Z7::Z8::Z9::ZA::ZB::ZC::ZD::ZE::ZF::ZG::ZH::ZI::ZJ::ZK::ZL::ZM::ZN::ZO::ZP::ZQ::ZR::ZS::ZT::ZU::ZV::ZW::ZX::ZY::ZZ::Za::Zb::Zc::Zd::Ze::Zf::Zg::Zh::Zi::Zj::Zk::Zl::Zm::Zn::Zo::Zp::Zq::Zr::Zs::Zt::Zu::Zv::Zw::Zx::Zy::Zz::O0::O1::O2::O3::O4::O5::O6::O7::O8::O9::OA::OB::OC::OD::OE::OF::OG::OH::OI::OJ::OK::OL::OM::ON::OO::OP::OQ::OR::OS::OT::OU::OV::OW::OX::([] : List Value)).toArray, defers := [] } wr := by
  show Code.wp _ (Code.region 16 _ true) _ _ _
  have Q5 := (Kp.refl wr.heap.size none wr).drew
  obtain ⟨S0, hS⟩ : ∃ S0 : World → Prop, S0 = P := ⟨_, rfl⟩
  have hS0 : ∀ w', S0 w' ↔ P w' := fun w' => by rw [hS]
  clear hS
  have d0 := fun (q : Ev S0) => (hF.out _ ((hS0 _).1 q.h)).d0
  have d1 := fun (q : Ev S0) => (hF.out _ ((hS0 _).1 q.h)).d1
  have d2 := fun (q : Ev S0) => (hF.out _ ((hS0 _).1 q.h)).d2
  have e0 := fun (q : Ev S0) => (hF.out _ ((hS0 _).1 q.h)).e0
  have t0 := fun (q : Ev S0) => (hF.out _ ((hS0 _).1 q.h)).m
  have hcall := fun W9 (q : P W9) => ref_Why_any Vi ci Ai qi li mi W9 (hF.out _ q).ca (hF.out _ q).r hli
  rw [← hRw.out] at hcall
  replace hcall := Lib.hid hcall
  replace hQ := Lib.hid hQ
  have hevT := ev_true
  refine wp_region_tr S0 (.st 0 0 (.st 1 0 (.st 2 0 (.st 3 1 (.st 4 0 (.st 5 0 (.st 6 0 (.st 7 1 (.st 8 0 (.st 9 0 (.st 10 0 (.st 11 1 (.b2 12 (.st 13 0 (.st 14 0 (.st 15 0 (.st 16 2 (.st 17 2 (.st 18 0 .nil)))))) 16 (.st 12 2 (.st 13 0 (.st 14 0 (.st 15 0 (.st 17 2 (.st 18 0 .nil))))))))))))))))))) (by kernel_rfl) (by kernel_rfl) ((hS0 _).2 (hPn.out _ _ U Q5)) ?_
  intro _hev
  iterate 12 (first | (refine wpTr_v rfl rfl ?_; intro K hK; go_big_quiet_op; go_big_quiet_on) | (refine wpTr_q rfl rfl ?_; intro K hK; go_big_quiet_op; go_big_quiet_on) | refine wpTr_s rfl rfl ?_)
  refine wpTr_b2 ?_ ?_
  · refine wpOne_l rfl rfl ?_; intro K hK
    go_step
    refine (hcall.out _ (hPn.out _ _ U Q5)).mono ?_
    rintro e w9 ⟨rfl, k9⟩
    simp only
    replace Q5 := Q5.thenN k9 (Nat.le_refl _)
    try (replace YB := YB.kpN k9)
    refine hK _ _ ((hS0 _).2 (hPn.out _ _ U Q5)) ?_
    clear hK K k9
    iterate 3 (first | (refine wpTr_v rfl rfl ?_; intro K hK; go_big_quiet_op; go_big_quiet_on) | (refine wpTr_q rfl rfl ?_; intro K hK; go_big_quiet_op; go_big_quiet_on) | refine wpTr_s rfl rfl ?_)
    refine wpTr_l rfl rfl ?_; intro K hK
    have YB := Blk.new w9 34 #[.int .i64 0, .int .i64 0, .int .i64 0]
    have ky := Kp.new w9 (.cells #[.int .i64 0, .int .i64 0, .int .i64 0] 34)
    go_step
    obtain ⟨ab, hab⟩ : ∃ q, q = w9.heap.size := ⟨_, rfl⟩
    have hab4 : wr.heap.size ≤ ab := by rw [hab]; exact Q5.size
    replace Q5 := Q5.thenN ky (Nat.le_refl _)
    rw [← hab] at YB ⊢
    clear hab ky
    change K _ (World.alloc w9 (.cells #[.int .i64 0, .int .i64 0, .int .i64 0] 34))
    generalize World.alloc w9 (.cells #[.int .i64 0, .int .i64 0, .int .i64 0] 34) = wy at YB Q5 ⊢
    refine hK _ _ ((hS0 _).2 (hPn.out _ _ U Q5)) ?_
    clear hK K
    refine wpTr_l rfl rfl ?_; intro K hK
    have Q9 := setC0_kp Q5 hab4 (.int .i64 wc.least) (.int .i64 wc.most) (.int .i64 wc.all)
    have Y9 := Blk.setC0 YB (.int .i64 wc.least) (.int .i64 wc.most) (.int .i64 wc.all)
    have cB := fun i => YB.cell i
    have fB := fun i => YB.frozen i
    replace Q9 := Lib.hid Q9
    replace Y9 := Lib.hid Y9
    go_step
    change K _ (setC0 _ ab (.int .i64 wc.least) (.int .i64 wc.most) (.int .i64 wc.all))
    replace Q9 := Q9.out
    replace Y9 := Y9.out
    refine hK _ _ ((hS0 _).2 (hPn.out _ _ U Q9)) ?_
    clear hK K cB fB YB Q5
    iterate 1 (first | (refine wpTr_v rfl rfl ?_; intro K hK; go_big_quiet_op; go_big_quiet_on) | (refine wpTr_q rfl rfl ?_; intro K hK; go_big_quiet_op; go_big_quiet_on) | refine wpTr_s rfl rfl ?_)
    refine wpTr_nil ?_
    clear hevT _hev
    exact hQ.out ab _ _ _ _ _ _ _ _ _ _ _ _ _ _ _ _ _ Y9 Q9
  · refine wpOne_l rfl rfl ?_; intro K hK
    generalize wr.drew = wz at Q5 ⊢
    have YB := Blk.new wz 34 #[.int .i64 0, .int .i64 0, .int .i64 0]
    have ky := Kp.new wz (.cells #[.int .i64 0, .int .i64 0, .int .i64 0] 34)
    go_step
    obtain ⟨ab, hab⟩ : ∃ q, q = wz.heap.size := ⟨_, rfl⟩
    have hab4 : wr.heap.size ≤ ab := by rw [hab]; exact Q5.size
    replace Q5 := Q5.thenN ky (Nat.le_refl _)
    rw [← hab] at YB ⊢
    clear hab ky
    change K _ (World.alloc wz (.cells #[.int .i64 0, .int .i64 0, .int .i64 0] 34))
    generalize World.alloc wz (.cells #[.int .i64 0, .int .i64 0, .int .i64 0] 34) = wy at YB Q5 ⊢
    refine hK _ _ ((hS0 _).2 (hPn.out _ _ U Q5)) ?_
    clear hK K
    refine wpTr_l rfl rfl ?_; intro K hK
    go_step
    refine (hcall.out _ (hPn.out _ _ U Q5)).mono ?_
    rintro e w9 ⟨rfl, k9⟩
    simp only
    replace Q5 := Q5.thenN k9 (Nat.le_refl _)
    try (replace YB := YB.kpN k9)
    refine hK _ _ ((hS0 _).2 (hPn.out _ _ U Q5)) ?_
    clear hK K k9
    iterate 3 (first | (refine wpTr_v rfl rfl ?_; intro K hK; go_big_quiet_op; go_big_quiet_on) | (refine wpTr_q rfl rfl ?_; intro K hK; go_big_quiet_op; go_big_quiet_on) | refine wpTr_s rfl rfl ?_)
    refine wpTr_l rfl rfl ?_; intro K hK
    have Q9 := setC0_kp Q5 hab4 (.int .i64 wc.least) (.int .i64 wc.most) (.int .i64 wc.all)
    have Y9 := Blk.setC0 YB (.int .i64 wc.least) (.int .i64 wc.most) (.int .i64 wc.all)
    have cB := fun i => YB.cell i
    have fB := fun i => YB.frozen i
    replace Q9 := Lib.hid Q9
    replace Y9 := Lib.hid Y9
    go_step
    change K _ (setC0 _ ab (.int .i64 wc.least) (.int .i64 wc.most) (.int .i64 wc.all))
    replace Q9 := Q9.out
    replace Y9 := Y9.out
    refine hK _ _ ((hS0 _).2 (hPn.out _ _ U Q9)) ?_
    clear hK K cB fB YB Q5
    iterate 1 (first | (refine wpTr_v rfl rfl ?_; intro K hK; go_big_quiet_op; go_big_quiet_on) | (refine wpTr_q rfl rfl ?_; intro K hK; go_big_quiet_op; go_big_quiet_on) | refine wpTr_s rfl rfl ?_)
    refine wpTr_nil ?_
    clear hevT _hev
    exact hQ.out ab _ _ _ _ _ _ _ _ _ _ _ _ _ _ _ _ _ Y9 Q9
end Go.Proofs.YtogpgnljomchcaaGreat
namespace Go.Proofs.YtogpgnljomchcaaGreat
open Go.RowKit

set_option maxRecDepth 20000 in
set_option maxHeartbeats 8000000 in
theorem ask_r19 {b24 : Nat} {wr : World} {Q : Exit → Act → World → Prop} {j0 j1 j2 j3 j4 j5 j6 j7 j8 j9 jA jB jC jD jE jF jG jH jI jJ jK jL jM jN jP jQ jR jT jU jV jW jX jY jZ ja jb jc jd je jf jg jh ji jj jk jl jm jn jo jp jq jr js jt ju jv jw jx jy jz z0 z1 z2 z3 z4 z5 z6 z7 z8 z9 zA zB zC zD zE zF zG zH zI zJ zK zL zM zN zO zP zQ zR zS zT zU zV zW zX zY zZ za zb zc zd ze zf zg zh zi zj zk zl zm zn zo zp zq zr zs zt zu zv zw zx zy zz J0 J1 J2 J3 J4 J5 J6 J7 J8 J9 JA JB JC JD JE JF JG JH JI JJ JK JL JM JN JO JP JQ JR JS JT JU JV JW JX JY JZ Ja Jb Jc Jd Je Jf Jg Jh Ji Jj Jk Jl Jm Jn Jo Jp Jq Jr Js Jt Ju Jv Jw Jx Jy Jz Z0 Z1 Z2 Z3 Z4 Z5 Z6 Z7 Z8 Z9 ZA ZB ZC ZD ZE ZF ZG ZH ZI ZJ ZK ZL ZM ZN ZO ZP ZQ ZR ZS ZT ZU ZV ZW ZX ZY ZZ Za Zb Zc Zd Ze Zf Zg Zh Zi Zj Zk Zl Zm Zn Zo Zp Zq Zr Zs Zt Zu Zv Zw Zx Zy Zz O0 O1 O2 O3 O4 O5 O6 O7 O8 O9 OA OB OC OD OE OF OG OH OI OJ OK OL OM ON OO OP OQ OR OS OT OU OV OW OX : Value}  {qb : Nat} {Xq XH : HV} {pq xh : House} (hq1 : Blk wr qb 43 #[.int .i64 pq.tick, .int .i64 pq.real.items, .slice Xq.r.fa pq.real.facts.length Xq.r.fc, .slice Xq.r.ma pq.real.motions.length Xq.r.mc, .slice Xq.r.sa pq.real.sent.length Xq.r.sc, .int .i64 pq.drill.items, .slice Xq.d.fa pq.drill.facts.length Xq.d.fc, .slice Xq.d.ma pq.drill.motions.length Xq.d.mc, .slice Xq.d.sa pq.drill.sent.length Xq.d.sc]) (hb1 : Blk wr b24 43 #[.int .i64 xh.tick, .int .i64 xh.real.items, .slice XH.r.fa xh.real.facts.length XH.r.fc, .slice XH.r.ma xh.real.motions.length XH.r.mc, .slice XH.r.sa xh.real.sent.length XH.r.sc, .int .i64 xh.drill.items, .slice XH.d.fa xh.drill.facts.length XH.d.fc, .slice XH.d.ma xh.drill.motions.length XH.d.mc, .slice XH.d.sa xh.drill.sent.length XH.d.sc]) (hqs : SAt wr.heap.size wr Xq pq) (hhs : SAt wr.heap.size wr XH xh)
    (hQ : ∀ (wx : World) (v3T v3U v3V v3W v3X v3Y v3Z v3a v3b v3c v3d v3e : Value), Kp wr.heap.size none wr wx → Q .normal { tmps := (j0::j1::j2::j3::j4::j5::j6::j7::j8::j9::jA::jB::jC::jD::jE::jF::jG::jH::jI::jJ::jK::jL::jM::jN::.pointer (some ⟨b24, 0, none⟩)::jP::jQ::jR::.pointer (some ⟨qb, 0, none⟩)::jT::jU::jV::jW::jX::jY::jZ::ja::jb::jc::jd::je::jf::jg::jh::ji::jj::jk::jl::jm::jn::jo::jp::jq::jr::js::jt::ju::jv::jw::jx::jy::jz::z0::z1::z2::z3::z4::z5::z6::z7::z8::z9::zA::zB::zC::zD::zE::zF::zG::zH::zI::zJ::zK::zL::zM::zN::zO::zP::zQ::zR::zS::zT::zU::zV::zW::zX::zY::zZ::za::zb::zc::zd::ze::zf::zg::zh::zi::zj::zk::zl::zm::zn::zo::zp::zq::zr::zs::zt::zu::zv::zw::zx::zy::zz::J0::J1::J2::J3::J4::J5::J6::J7::J8::J9::JA::JB::JC::JD::JE::JF::JG::JH::JI::JJ::JK::JL::JM::JN::JO::JP::JQ::JR::JS::JT::JU::JV::JW::JX::JY::JZ::Ja::Jb::Jc::Jd::Je::Jf::Jg::Jh::Ji::Jj::Jk::Jl::Jm::Jn::Jo::Jp::Jq::Jr::Js::Jt::Ju::Jv::Jw::Jx::Jy::Jz::Z0::Z1::Z2::Z3::Z4::Z5::Z6::Z7::Z8::Z9::ZA::ZB::ZC::ZD::ZE::ZF::ZG::ZH::ZI::ZJ::ZK::ZL::ZM::ZN::ZO::ZP::ZQ::ZR::ZS::v3T::v3U::v3V::v3W::v3X::v3Y::v3Z::v3a::v3b::v3c::v3d::v3e::.bool false::Zg::Zh::Zi::Zj::Zk::Zl::Zm::Zn::Zo::Zp::Zq::Zr::Zs::Zt::Zu::Zv::Zw::Zx::Zy::Zz::O0::O1::O2::O3::O4::O5::O6::O7::O8::O9::OA::OB::OC::OD::OE::OF::OG::OH::OI::OJ::OK::OL::OM::ON::OO::OP::OQ::OR::OS::OT::OU::OV::OW::OX::([] : List Value)).toArray, defers := [] } wx) :
    Code.wp Tryz.prog (codeReg 19 (Tryz.f4.body.getD .skip)) Q { tmps := (j0::j1::j2::j3::j4::j5::j6::j7::j8::j9::jA::jB::jC::jD::jE::jF::jG::jH::jI::jJ::jK::jL::jM::jN::.pointer (some ⟨b24, 0, none⟩)::jP::jQ::jR::.pointer (some ⟨qb, 0, none⟩)::jT::jU::jV::jW::jX::jY::jZ::ja::jb::jc::jd::je::jf::jg::jh::ji::jj::jk::jl::jm::jn::jo::jp::jq::jr::js::jt::ju::jv::jw::jx::jy::jz::z0::z1::z2::z3::z4::z5::z6::z7::z8::z9::zA::zB::zC::zD::zE::zF::zG::zH::zI::zJ::zK::zL::zM::zN::zO::zP::zQ::zR::zS::zT::zU::zV::zW::zX::zY::zZ::za::zb::zc::zd::ze::zf::zg::zh::zi::zj::zk::zl::zm::zn::zo::zp::zq::zr::zs::zt::zu::zv::zw::zx::zy::zz::J0::J1::J2::J3::J4::J5::J6::J7::J8::J9::JA::JB::JC::JD::JE::JF::JG::JH::JI::JJ::JK::JL::JM::JN::JO::JP::JQ::JR::JS::JT::JU::JV::JW::JX::JY::JZ::Ja::Jb::Jc::Jd::Je::Jf::Jg::Jh::Ji::Jj::Jk::Jl::Jm::Jn::Jo::Jp::Jq::Jr::Js::Jt::Ju::Jv::Jw::Jx::Jy::Jz::Z0::Z1::Z2::Z3::Z4::Z5::Z6::Z7::Z8::Z9::ZA::ZB::ZC::ZD::ZE::ZF::ZG::ZH::ZI::ZJ::ZK::ZL::ZM::ZN::ZO::ZP::ZQ::ZR::ZS::ZT::ZU::ZV::ZW::ZX::ZY::ZZ::Za::Zb::Zc::Zd::Ze::Zf::Zg::Zh::Zi::Zj::Zk::Zl::Zm::Zn::Zo::Zp::Zq::Zr::Zs::Zt::Zu::Zv::Zw::Zx::Zy::Zz::O0::O1::O2::O3::O4::O5::O6::O7::O8::O9::OA::OB::OC::OD::OE::OF::OG::OH::OI::OJ::OK::OL::OM::ON::OO::OP::OQ::OR::OS::OT::OU::OV::OW::OX::([] : List Value)).toArray, defers := [] } wr := by
  show Code.wp _ (Code.region 19 _ true) _ _ _
  have Q5 := (Kp.refl wr.heap.size none wr).drew
  obtain ⟨dd, hdd⟩ : ∃ d, d = decide (pq = xh) := ⟨_, rfl⟩
  replace hdd := Lib.hid hdd
  replace hQ := Lib.hid hQ
  obtain ⟨S, hS⟩ : ∃ S : Nat → World → Prop, S = fun _ w' => Blk w' qb 43 #[.int .i64 pq.tick, .int .i64 pq.real.items, .slice Xq.r.fa pq.real.facts.length Xq.r.fc, .slice Xq.r.ma pq.real.motions.length Xq.r.mc, .slice Xq.r.sa pq.real.sent.length Xq.r.sc, .int .i64 pq.drill.items, .slice Xq.d.fa pq.drill.facts.length Xq.d.fc, .slice Xq.d.ma pq.drill.motions.length Xq.d.mc, .slice Xq.d.sa pq.drill.sent.length Xq.d.sc] ∧ Blk w' b24 43 #[.int .i64 xh.tick, .int .i64 xh.real.items, .slice XH.r.fa xh.real.facts.length XH.r.fc, .slice XH.r.ma xh.real.motions.length XH.r.mc, .slice XH.r.sa xh.real.sent.length XH.r.sc, .int .i64 xh.drill.items, .slice XH.d.fa xh.drill.facts.length XH.d.fc, .slice XH.d.ma xh.drill.motions.length XH.d.mc, .slice XH.d.sa xh.drill.sent.length XH.d.sc] := ⟨_, rfl⟩
  have hS0 : ∀ w', S 0 w' ↔ (Blk w' qb 43 #[.int .i64 pq.tick, .int .i64 pq.real.items, .slice Xq.r.fa pq.real.facts.length Xq.r.fc, .slice Xq.r.ma pq.real.motions.length Xq.r.mc, .slice Xq.r.sa pq.real.sent.length Xq.r.sc, .int .i64 pq.drill.items, .slice Xq.d.fa pq.drill.facts.length Xq.d.fc, .slice Xq.d.ma pq.drill.motions.length Xq.d.mc, .slice Xq.d.sa pq.drill.sent.length Xq.d.sc] ∧ Blk w' b24 43 #[.int .i64 xh.tick, .int .i64 xh.real.items, .slice XH.r.fa xh.real.facts.length XH.r.fc, .slice XH.r.ma xh.real.motions.length XH.r.mc, .slice XH.r.sa xh.real.sent.length XH.r.sc, .int .i64 xh.drill.items, .slice XH.d.fa xh.drill.facts.length XH.d.fc, .slice XH.d.ma xh.drill.motions.length XH.d.mc, .slice XH.d.sa xh.drill.sent.length XH.d.sc]) := fun w' => by rw [hS]
  clear hS
  have cq := fun (q : Ev (S 0)) i => ((hS0 _).1 q.h).1.cell i
  have cb := fun (q : Ev (S 0)) i => ((hS0 _).1 q.h).2.cell i
  have hevT := ev_true
  refine wp_region_ord S [(0, 1), (1, 1), (3, 1), (4, 1), (2, 2), (5, 2), (6, 0), (7, 0), (8, 1), (9, 1), (10, 2), (11, 0), (12, 0)] [] (by kernel_rfl) (by kernel_rfl) ((hS0 _).2 ⟨hq1.kpN Q5, hb1.kpN Q5⟩) ?_
  intro _hev
  iterate 4 (first | (refine wpOrd_v rfl rfl ?_; intro K hK; go_big_quiet_op; go_big_quiet_on) | (refine wpOrd_q rfl rfl ?_; intro K hK; go_big_quiet_op; go_big_quiet_on) | refine wpOrd_s (by decide) rfl rfl ?_)
  refine wpOrd_l rfl rfl ?_; intro K hK
  go_step
  refine (council_Same_any Xq XH pq xh _ (hqs.next Q5) (hhs.next Q5)).mono ?_
  rintro e w9 ⟨rfl, k9⟩
  rw [← hdd.out]
  replace Q5 := Q5.thenN k9 (Nat.le_refl _)
  refine hK _ _ ((hS0 _).2 ⟨hq1.kpN Q5, hb1.kpN Q5⟩) ?_
  clear hK K k9
  refine wpOrd_l rfl rfl ?_; intro K hK
  go_step
  refine (ref_Same_any Xq XH pq xh _ (hqs.next Q5) (hhs.next Q5)).mono ?_
  rintro e w9 ⟨rfl, k9⟩
  rw [← hdd.out]
  replace Q5 := Q5.thenN k9 (Nat.le_refl _)
  refine hK _ _ ((hS0 _).2 ⟨hq1.kpN Q5, hb1.kpN Q5⟩) ?_
  clear hK K k9
  iterate 4 (first | (refine wpOrd_v rfl rfl ?_; intro K hK; go_big_quiet_op; go_big_quiet_on) | (refine wpOrd_q rfl rfl ?_; intro K hK; go_big_quiet_op; go_big_quiet_on) | refine wpOrd_s (by decide) rfl rfl ?_)
  refine wpOrd_l rfl rfl ?_; intro K hK
  go_step
  refine (council_Same_any Xq Xq pq pq _ (hqs.next Q5) (hqs.next Q5)).mono ?_
  rintro e w9 ⟨rfl, k9⟩
  rw [decide_eq_true rfl]
  replace Q5 := Q5.thenN k9 (Nat.le_refl _)
  refine hK _ _ ((hS0 _).2 ⟨hq1.kpN Q5, hb1.kpN Q5⟩) ?_
  clear hK K k9
  iterate 2 (first | (refine wpOrd_v rfl rfl ?_; intro K hK; go_big_quiet_op; go_big_quiet_on) | (refine wpOrd_q rfl rfl ?_; intro K hK; go_big_quiet_op; go_big_quiet_on) | refine wpOrd_s (by decide) rfl rfl ?_)
  refine wpOrd_nil ?_
  clear hevT _hev
  exact hQ.out _ _ _ _ _ _ _ _ _ _ _ _ _ Q5
set_option maxRecDepth 20000 in
set_option maxHeartbeats 8000000 in
theorem ask_r22 {b24 : Nat} {wr : World} {Q : Exit → Act → World → Prop} {j0 j1 j2 j3 j4 j5 j6 j7 j8 j9 jA jB jC jD jE jF jG jI jJ jK jL jM jN jP jQ jR jS jT jU jV jW jX jY jZ ja jb jc jd je jf jg jh ji jj jk jl jm jn jo jp jq jr js jt ju jv jw jx jy jz z0 z1 z2 z3 z4 z5 z6 z7 z8 z9 zA zB zC zD zE zF zG zH zI zJ zK zL zM zN zO zP zQ zR zS zT zU zV zW zX zY zZ za zb zc zd ze zf zg zh zi zj zk zl zm zn zo zp zq zr zs zt zu zv zw zx zy zz J0 J1 J2 J3 J4 J5 J6 J7 J8 J9 JA JB JC JD JE JF JG JH JI JJ JK JL JM JN JO JP JQ JR JS JT JU JV JW JX JY JZ Ja Jb Jc Jd Je Jf Jg Jh Ji Jj Jk Jl Jm Jn Jo Jp Jq Jr Js Jt Ju Jv Jw Jx Jy Jz Z0 Z1 Z2 Z3 Z4 Z5 Z6 Z7 Z8 Z9 ZA ZB ZC ZD ZE ZF ZG ZH ZI ZJ ZK ZL ZM ZN ZO ZP ZQ ZR ZS ZT ZU ZV ZW ZX ZY ZZ Za Zb Zc Zd Ze Zf Zg Zh Zi Zj Zk Zl Zm Zn Zo Zp Zq Zr Zs Zt Zu Zv Zw Zx Zy Zz O0 O1 O2 O3 O4 O5 O6 O7 O8 O9 OA OB OC OD OE OF OG OH OI OJ OK OL OM ON OO OP OQ OR OS OT OU OV OW OX : Value}  {Xq : HV} {pq : House} {g k : Nat} {nums : List Int} (HB2 : Blk wr b24 43 #[.int .i64 pq.tick, .int .i64 pq.real.items, .slice Xq.r.fa pq.real.facts.length Xq.r.fc, .slice Xq.r.ma pq.real.motions.length Xq.r.mc, .slice Xq.r.sa pq.real.sent.length Xq.r.sc, .int .i64 pq.drill.items, .slice Xq.d.fa pq.drill.facts.length Xq.d.fc, .slice Xq.d.ma pq.drill.motions.length Xq.d.mc, .slice Xq.d.sa pq.drill.sent.length Xq.d.sc]) (ring2 : RingAt wr.drew g nums k) (hk9 : k ≤ 1000000) (hne : some b24 ≠ some g) (hx : Hid (0 ≤ pq.tick)) (hx2 : Hid (pq.tick ≤ 1073741824))
    (hQ : ∀ (xx : Int) (w21 wx : World) (v3h v3i v3j v3k v3l v3m : Value), wx = w21.setCell ⟨b24, 0, none⟩ (.int .i64 (pq.tick + xx)) → RingAt w21 g nums (k + 1) → Kp wr.heap.size (some g) wr w21 → Q .normal { tmps := (j0::j1::j2::j3::j4::j5::j6::j7::j8::j9::jA::jB::jC::jD::jE::jF::jG::.pointer (some ⟨g, 0, none⟩)::jI::jJ::jK::jL::jM::jN::.pointer (some ⟨b24, 0, none⟩)::jP::jQ::jR::jS::jT::jU::jV::jW::jX::jY::jZ::ja::jb::jc::jd::je::jf::jg::jh::ji::jj::jk::jl::jm::jn::jo::jp::jq::jr::js::jt::ju::jv::jw::jx::jy::jz::z0::z1::z2::z3::z4::z5::z6::z7::z8::z9::zA::zB::zC::zD::zE::zF::zG::zH::zI::zJ::zK::zL::zM::zN::zO::zP::zQ::zR::zS::zT::zU::zV::zW::zX::zY::zZ::za::zb::zc::zd::ze::zf::zg::zh::zi::zj::zk::zl::zm::zn::zo::zp::zq::zr::zs::zt::zu::zv::zw::zx::zy::zz::J0::J1::J2::J3::J4::J5::J6::J7::J8::J9::JA::JB::JC::JD::JE::JF::JG::JH::JI::JJ::JK::JL::JM::JN::JO::JP::JQ::JR::JS::JT::JU::JV::JW::JX::JY::JZ::Ja::Jb::Jc::Jd::Je::Jf::Jg::Jh::Ji::Jj::Jk::Jl::Jm::Jn::Jo::Jp::Jq::Jr::Js::Jt::Ju::Jv::Jw::Jx::Jy::Jz::Z0::Z1::Z2::Z3::Z4::Z5::Z6::Z7::Z8::Z9::ZA::ZB::ZC::ZD::ZE::ZF::ZG::ZH::ZI::ZJ::ZK::ZL::ZM::ZN::ZO::ZP::ZQ::ZR::ZS::ZT::ZU::ZV::ZW::ZX::ZY::ZZ::Za::Zb::Zc::Zd::Ze::Zf::Zg::v3h::v3i::v3j::v3k::v3l::v3m::Zn::Zo::Zp::Zq::Zr::Zs::Zt::Zu::Zv::Zw::Zx::Zy::Zz::O0::O1::O2::O3::O4::O5::O6::O7::O8::O9::OA::OB::OC::OD::OE::OF::OG::OH::OI::OJ::OK::OL::OM::ON::OO::OP::OQ::OR::OS::OT::OU::OV::OW::OX::([] : List Value)).toArray, defers := [] } wx) :
    Code.wp Tryz.prog (codeReg 22 (Tryz.f4.body.getD .skip)) Q { tmps := (j0::j1::j2::j3::j4::j5::j6::j7::j8::j9::jA::jB::jC::jD::jE::jF::jG::.pointer (some ⟨g, 0, none⟩)::jI::jJ::jK::jL::jM::jN::.pointer (some ⟨b24, 0, none⟩)::jP::jQ::jR::jS::jT::jU::jV::jW::jX::jY::jZ::ja::jb::jc::jd::je::jf::jg::jh::ji::jj::jk::jl::jm::jn::jo::jp::jq::jr::js::jt::ju::jv::jw::jx::jy::jz::z0::z1::z2::z3::z4::z5::z6::z7::z8::z9::zA::zB::zC::zD::zE::zF::zG::zH::zI::zJ::zK::zL::zM::zN::zO::zP::zQ::zR::zS::zT::zU::zV::zW::zX::zY::zZ::za::zb::zc::zd::ze::zf::zg::zh::zi::zj::zk::zl::zm::zn::zo::zp::zq::zr::zs::zt::zu::zv::zw::zx::zy::zz::J0::J1::J2::J3::J4::J5::J6::J7::J8::J9::JA::JB::JC::JD::JE::JF::JG::JH::JI::JJ::JK::JL::JM::JN::JO::JP::JQ::JR::JS::JT::JU::JV::JW::JX::JY::JZ::Ja::Jb::Jc::Jd::Je::Jf::Jg::Jh::Ji::Jj::Jk::Jl::Jm::Jn::Jo::Jp::Jq::Jr::Js::Jt::Ju::Jv::Jw::Jx::Jy::Jz::Z0::Z1::Z2::Z3::Z4::Z5::Z6::Z7::Z8::Z9::ZA::ZB::ZC::ZD::ZE::ZF::ZG::ZH::ZI::ZJ::ZK::ZL::ZM::ZN::ZO::ZP::ZQ::ZR::ZS::ZT::ZU::ZV::ZW::ZX::ZY::ZZ::Za::Zb::Zc::Zd::Ze::Zf::Zg::Zh::Zi::Zj::Zk::Zl::Zm::Zn::Zo::Zp::Zq::Zr::Zs::Zt::Zu::Zv::Zw::Zx::Zy::Zz::O0::O1::O2::O3::O4::O5::O6::O7::O8::O9::OA::OB::OC::OD::OE::OF::OG::OH::OI::OJ::OK::OL::OM::ON::OO::OP::OQ::OR::OS::OT::OU::OV::OW::OX::([] : List Value)).toArray, defers := [] } wr := by
  show Code.wp _ (Code.region 22 _ true) _ _ _
  have hb24l := HB2.lt
  have Q5 := (Kp.refl wr.heap.size (some g) wr).drew
  replace hQ := Lib.hid hQ
  obtain ⟨S, hS⟩ : ∃ S : Nat → World → Prop, S = fun n w' => if n = 0 then Blk w' b24 43 #[.int .i64 pq.tick, .int .i64 pq.real.items, .slice Xq.r.fa pq.real.facts.length Xq.r.fc, .slice Xq.r.ma pq.real.motions.length Xq.r.mc, .slice Xq.r.sa pq.real.sent.length Xq.r.sc, .int .i64 pq.drill.items, .slice Xq.d.fa pq.drill.facts.length Xq.d.fc, .slice Xq.d.ma pq.drill.motions.length Xq.d.mc, .slice Xq.d.sa pq.drill.sent.length Xq.d.sc] else True := ⟨_, rfl⟩
  have hS0 : ∀ w', S 0 w' ↔ (Blk w' b24 43 #[.int .i64 pq.tick, .int .i64 pq.real.items, .slice Xq.r.fa pq.real.facts.length Xq.r.fc, .slice Xq.r.ma pq.real.motions.length Xq.r.mc, .slice Xq.r.sa pq.real.sent.length Xq.r.sc, .int .i64 pq.drill.items, .slice Xq.d.fa pq.drill.facts.length Xq.d.fc, .slice Xq.d.ma pq.drill.motions.length Xq.d.mc, .slice Xq.d.sa pq.drill.sent.length Xq.d.sc]) := fun w' => by rw [hS]; exact Iff.rfl
  have hS1 : ∀ w', S 1 w' ↔ (True) := fun w' => by rw [hS]; exact Iff.rfl
  clear hS
  have cb := fun (q : Ev (S 0)) i => ((hS0 _).1 q.h).cell i
  have hevT := ev_true
  refine wp_region_ord S [(0, 0), (1, 1), (2, 0), (3, 2), (4, 0), (5, 0), (6, 3)] [6] (by kernel_rfl) (by kernel_rfl) ((hS0 _).2 (HB2.kp Q5 hb24l hne)) ?_
  intro _hev
  iterate 3 (first | (refine wpOrd_v rfl rfl ?_; intro K hK; go_big_quiet_op; go_big_quiet_on) | (refine wpOrd_q rfl rfl ?_; intro K hK; go_big_quiet_op; go_big_quiet_on) | refine wpOrd_s (by decide) rfl rfl ?_)
  refine wpOrd_l rfl rfl ?_; intro K hK
  go_step
  refine (next_any g nums k 2 _ ring2 hk9 (by omega) (by omega)).mono ?_
  rintro e w21 ⟨v, rfl, ⟨xx, rfl, hx3, hx4⟩, r21, q21⟩
  replace Q5 := Q5.then_ q21 (Nat.le_refl _)
  have hwr : IntKind.i64.wrap (pq.tick + xx) = pq.tick + xx := by rw [IntKind.wrap_i64]; have := hx.out; have := hx2.out; omega
  clear hx3 hx4
  refine hK _ _ ((hS0 _).2 (HB2.kp Q5 hb24l hne)) ?_
  clear hK K
  iterate 2 (first | (refine wpOrd_v rfl rfl ?_; intro K hK; go_big_quiet_op; go_big_quiet_on) | (refine wpOrd_q rfl rfl ?_; intro K hK; go_big_quiet_op; go_big_quiet_on) | refine wpOrd_s (by decide) rfl rfl ?_)
  have HB3 := HB2.kp Q5 hb24l hne
  have cA := fun i => HB3.cell i
  have fA := fun i => HB3.frozen i
  refine wpOrd_a rfl rfl ?_; intro K hK
  go_step
  refine hK _ _ ((hS1 _).2 trivial) ?_
  clear hK K
  change wpOrd _ _ _ _ _ 1 _ _
  refine wpOrd_nil ?_
  clear hevT _hev
  exact hQ.out xx w21 _ _ _ _ _ _ _ rfl r21 Q5
end Go.Proofs.YtogpgnljomchcaaGreat
