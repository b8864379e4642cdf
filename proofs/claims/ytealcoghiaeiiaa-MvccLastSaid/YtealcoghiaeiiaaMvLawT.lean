/- MvccLast answers true at whatever it is called with; no condition. -/
import Derived.Test.YtealcoghiaeiiaaVLt
import Derived.Test.YtealcoghiaeiiaaMvFacts
set_option linter.unusedVariables false
namespace Go.Proofs.Ytealcoghiaeiiaa.VG
open Go.VB Go.VB.Srt Go.Proofs Go.RowKit

theorem eqB_s (b : Bool) {w : World} {o1 o2 : Operand} {k : Bool → World → Prop} (H : k true w) : opE Try.prog Value.bool (do eqGuard .eql ty_bool o1 o2 (.bool b) (.bool b); binOp .eql ty_bool (.bool b) (.bool b)) w k :=
  ⟨true, w, by cases b <;> kernel_rfl, H⟩
theorem lastlaw_ok {w : World} {x0 : T_api_Versions} {l : List Ver} (h : VerRd w x0.List l) (key : ByteArray) (t : Int) :
    Cl Try.prog fn_ladinglaw09_MvccLast [T_api_Versions.v x0, .string key, .int .u64 t].toArray w (fun e w' => ∃ r0 : Bool, e = .returned (.bool r0) ∧ (r0 = true ∧ Bel w w')) := by
  refine L1_ladinglaw09_MvccLast x0 key t w (fun b w' => b = true ∧ Bel w w') ?_
  unfold V_ladinglaw09_MvccLast
  refine S.boxW (cs := x0.cells) rfl fun B3 w1 b1 hV hB4 => ?_
  refine lives_ok w1 fun w2 b2 => ?_
  refine ⟨fun h => (nomatch h), fun _ => ?_⟩
  have b02 := b1.trans b2
  replace hV := hV.bel b2
  refine S.ldA agg_api_Versions x0 rfl hV.at rfl ?_
  refine mlast_ok (h.bel b02) key fun w3 b3 => ?_
  have b03 := b02.trans b3
  have hV3 := hV.bel b3
  by_cases e1 : (vlast l x0.Low key).2 = 0
  case neg => exact ⟨fun _ => ⟨decide_eq_true (vlast_err e1), b03⟩, fun h => absurd e1 h⟩
  refine ⟨fun h => absurd e1 h, fun _ => ?_⟩
  have hg := vlast_good e1
  rw [vlast_ok hg]
  dsimp only
  rcases lastAt_of hg key with ⟨p1, p2⟩ | ⟨x, p1, p2, p3, p4, p5⟩
  · refine ⟨fun _ => ?_, fun h => absurd p1 h⟩
    refine S.ldA agg_api_Versions x0 rfl hV3.at rfl ?_
    refine S.fld fld_api_Versions_Low one_uint64 hV3.at x0.Low rfl ?_
    refine mget_ok (h.bel b03) key (if t < x0.Low then x0.Low else t) fun w4 b4 => ?_
    have hno : sees l key (if t < x0.Low then x0.Low else t) = none := sees_none.2 fun y hy hk => p2 y hy hk.1
    rw [vget_ok hg (by split <;> omega), hno]
    refine ⟨fun _ => ?_, fun h => absurd rfl h⟩
    change V_ladinglaw09_MvccLast_r1 _ false (decide (noB = noB)) w4
    rw [decide_eq_true rfl]
    unfold V_ladinglaw09_MvccLast_r1
    refine ⟨fun _ => ?_, fun h => (nomatch h)⟩
    unfold V_ladinglaw09_MvccLast_r2
    exact ⟨rfl, b03.trans b4⟩
  · refine ⟨fun h => by omega, fun _ => ?_⟩
    rw [p3]
    have r3t : V_ladinglaw09_MvccLast_r3 key t (fun b w' => b = true ∧ Bel w w') (some ⟨B3, 0, none⟩) x.At true w3 := ⟨fun _ => ⟨rfl, b03⟩, fun h => (nomatch h)⟩
    refine ⟨fun _ => r3t, fun ht => ?_⟩
    refine S.fld fld_api_Versions_Low one_uint64 hV3.at x0.Low rfl ?_
    by_cases hlo : x.At < x0.Low
    · rw [decide_eq_true hlo]; exact r3t
    rw [decide_eq_false hlo]
    unfold V_ladinglaw09_MvccLast_r3
    refine ⟨fun h => (nomatch h), fun _ => ?_⟩
    refine S.ldA agg_api_Versions x0 rfl hV3.at rfl ?_
    refine mget_ok (h.bel b03) key x.At fun w4 b4 => ?_
    refine S.ldA agg_api_Versions x0 rfl (hV3.bel b4).at rfl ?_
    refine mget_ok (h.bel (b03.trans b4)) key t fun w5 b5 => ?_
    rw [vget_ok hg (by omega), vget_ok hg (by omega), p5 x.At (Int.le_refl _), p5 t (by omega)]
    refine ⟨fun _ => ?_, fun h => absurd rfl h⟩
    rw [decide_eq_true rfl]
    unfold V_ladinglaw09_MvccLast_r4
    refine ⟨fun _ => ?_, fun h => (nomatch h)⟩
    rw [decide_eq_true rfl]
    unfold V_ladinglaw09_MvccLast_r5
    refine ⟨fun _ => ?_, fun h => (nomatch h)⟩
    refine eqB_s _ ?_
    unfold V_ladinglaw09_MvccLast_r6
    exact ⟨rfl, (b03.trans b4).trans b5⟩
end Go.Proofs.Ytealcoghiaeiiaa.VG
