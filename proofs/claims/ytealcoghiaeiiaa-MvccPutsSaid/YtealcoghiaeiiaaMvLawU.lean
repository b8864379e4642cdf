/- MvccPuts answers true at whatever it is called with; no condition. -/
import Derived.Test.YtealcoghiaeiiaaVLu
import Derived.Test.YtealcoghiaeiiaaMvLives
set_option linter.unusedVariables false
namespace Go.Proofs.Ytealcoghiaeiiaa.VG
open Go.VB Go.VB.Srt Go.Proofs Go.RowKit

theorem puts_ok {w : World} {x0 : T_api_Versions} {x1 : Sl} {l : List Ver} {m : List Wri} (h : VerRd w x0.List l) (room : l.length ≤ 2932031007402) (hm : WriRd w x1 m) (t : Int) :
    Cl Try.prog fn_ladinglaw09_MvccPuts [T_api_Versions.v x0, Sl.v x1, .int .u64 t].toArray w (fun e w' => ∃ r0 : Bool, e = .returned (.bool r0) ∧ (r0 = true ∧ Bel w w')) := by
  refine L1_ladinglaw09_MvccPuts x0 x1 t w (fun b w' => b = true ∧ Bel w w') ?_
  unfold V_ladinglaw09_MvccPuts
  refine S.boxW (cs := x0.cells) rfl fun B3 w1 b1 hV hB4 => ?_
  refine S.ldA agg_api_Versions x0 rfl hV.at rfl ?_
  refine copy_ok (h.bel b1) room fun r w2 base _ _ hO b2 => ?_
  refine S.newW new_api_Versions rfl agg_api_Versions (cs := (⟨r, x0.Low⟩ : T_api_Versions).cells) rfl rfl rfl fun B7 w3 b3 hG hB9 => ?_
  have hr := (VerOwn.rd hO).bel b3
  have b03 := (b1.trans b2).trans b3
  have hV3 := (hV.bel b2).bel b3
  refine S.ldA agg_api_Versions (⟨r, x0.Low⟩ : T_api_Versions) rfl hG.at rfl ?_
  refine mput_ok (x0 := (⟨r, x0.Low⟩ : T_api_Versions)) hr (hm.bel b03) t fun r4 w4 base4 _ hO4 b4 => ?_
  refine S.newW new_api_Versions rfl agg_api_Versions (cs := (⟨r4, (vput l x0.Low m t).2.1⟩ : T_api_Versions).cells) rfl rfl rfl fun B8 w5 b5 hP hB8 => ?_
  have b35 := b4.trans b5
  refine S.ldA agg_api_Versions x0 rfl (hV3.bel b35).at rfl ?_
  refine rput_ok (h.bel (b03.trans b35)) (hm.bel (b03.trans b35)) t fun r6 w6 hO6 b6 => ?_
  refine S.newW new_api_Versions rfl agg_api_Versions (cs := (⟨r6, (vput l x0.Low m t).2.1⟩ : T_api_Versions).cells) rfl rfl rfl fun B10 w7 b7 hQ hB10 => ?_
  have b57 := b6.trans b7
  have b37 := b35.trans b57
  refine S.ldA agg_api_Versions (⟨r, x0.Low⟩ : T_api_Versions) rfl (hG.bel b37).at rfl ?_
  refine msweep_ok (x0 := (⟨r, x0.Low⟩ : T_api_Versions)) (hr.bel b37) t fun r8 w8 base8 _ hO8 b8 => ?_
  refine S.newW new_api_Versions rfl agg_api_Versions (cs := (⟨r8, (vsweep l x0.Low t).2.1⟩ : T_api_Versions).cells) rfl rfl rfl fun B12 w9 b9 hS hB12 => ?_
  have b79 := b8.trans b9
  have b39 := b37.trans b79
  refine S.ldA agg_api_Versions x0 rfl (hV3.bel b39).at rfl ?_
  refine rsweep_ok (h.bel (b03.trans b39)) t fun r10 w10 hO10 b10 => ?_
  refine S.newW new_api_Versions rfl agg_api_Versions (cs := (⟨r10, (vsweep l x0.Low t).2.1⟩ : T_api_Versions).cells) rfl rfl rfl fun B14 w11 b11 hT hB14 => ?_
  have b9b := b10.trans b11
  refine lives_ok w11 fun w12 b12 => ?_
  have b9c := b9b.trans b12
  have b7c := b79.trans b9c
  have b5c := b57.trans b7c
  have b3c := b35.trans b5c
  refine ⟨fun _ => ?_, fun h => (nomatch h)⟩
  refine S.ldA agg_api_Versions (⟨r4, (vput l x0.Low m t).2.1⟩ : T_api_Versions) rfl (hP.bel b5c).at rfl ?_
  refine S.ldA agg_api_Versions (⟨r6, (vput l x0.Low m t).2.1⟩ : T_api_Versions) rfl (hQ.bel b7c).at rfl ?_
  refine same_ok (x0 := (⟨r4, (vput l x0.Low m t).2.1⟩ : T_api_Versions)) (x1 := (⟨r6, (vput l x0.Low m t).2.1⟩ : T_api_Versions)) ((VerOwn.rd hO4).bel (b5.trans b5c)) (hO6.bel (b7.trans b7c)) fun b w13 hb b13 => ?_
  obtain rfl : b = true := hb.2 ⟨rfl, rfl⟩
  unfold V_ladinglaw09_MvccPuts_r1
  refine ⟨fun _ => ?_, fun h => (nomatch h)⟩
  rw [decide_eq_true rfl]
  unfold V_ladinglaw09_MvccPuts_r2
  refine ⟨fun _ => ?_, fun h => (nomatch h)⟩
  refine S.ldA agg_api_Versions (⟨r8, (vsweep l x0.Low t).2.1⟩ : T_api_Versions) rfl (hS.bel (b9c.trans b13)).at rfl ?_
  refine S.ldA agg_api_Versions (⟨r10, (vsweep l x0.Low t).2.1⟩ : T_api_Versions) rfl (hT.bel (b12.trans b13)).at rfl ?_
  refine same_ok (x0 := (⟨r8, (vsweep l x0.Low t).2.1⟩ : T_api_Versions)) (x1 := (⟨r10, (vsweep l x0.Low t).2.1⟩ : T_api_Versions)) ((VerOwn.rd hO8).bel ((b9.trans b9c).trans b13)) (hO10.bel ((b11.trans b12).trans b13)) fun b w14 hb b14 => ?_
  obtain rfl : b = true := hb.2 ⟨rfl, rfl⟩
  unfold V_ladinglaw09_MvccPuts_r3
  refine ⟨fun _ => ?_, fun h => (nomatch h)⟩
  rw [decide_eq_true rfl]
  unfold V_ladinglaw09_MvccPuts_r4
  refine ⟨fun _ => ?_, fun h => (nomatch h)⟩
  have b3e := (b3c.trans b13).trans b14
  refine S.ldA agg_api_Versions (⟨r, x0.Low⟩ : T_api_Versions) rfl (hG.bel b3e).at rfl ?_
  refine S.ldA agg_api_Versions x0 rfl (hV3.bel b3e).at rfl ?_
  refine same_ok (x0 := (⟨r, x0.Low⟩ : T_api_Versions)) (hr.bel b3e) (h.bel (b03.trans b3e)) fun b w15 hb b15 => ?_
  unfold V_ladinglaw09_MvccPuts_r5
  exact ⟨hb.2 ⟨rfl, rfl⟩, (b03.trans b3e).trans b15⟩
end Go.Proofs.Ytealcoghiaeiiaa.VG
