/- MvccAsks answers true at whatever it is called with; no condition. -/
import Derived.Test.YtealcoghiaeiiaaVLa
import Derived.Test.YtealcoghiaeiiaaMvLives
set_option linter.unusedVariables false
namespace Go.Proofs.Ytealcoghiaeiiaa.VG
open Go.VB Go.VB.Srt Go.Proofs Go.RowKit

theorem q_of {τ : Type} {P : Program} {f : FuncId} {args : Array Value} {enc : τ → Value} {x : τ} {w : World} (h : ∀ w', Bel w w' → Cl P f args w' (fun e W => ∃ r : τ, e = .returned (enc r) ∧ (r = x ∧ Bel w' W))) :
    ∀ w', Bel w w' → Cl P f args w' (fun e W => e = .returned (enc x) ∧ Bel w' W) := fun w' hb => (h w' hb).mono fun e W ⟨r, he, hr, hB⟩ => ⟨by rw [he, hr], hB⟩
theorem eqB_q (b : Bool) {w : World} {o1 o2 : Operand} {k : Bool → Prop} (H : k true) : opB Try.prog Value.bool (do eqGuard .eql ty_bool o1 o2 (.bool b) (.bool b); binOp .eql ty_bool (.bool b) (.bool b)) w k :=
  ⟨true, fun w' _ => by cases b <;> kernel_rfl, H⟩
theorem asks_ok {w : World} {x0 : T_api_Versions} {l : List Ver} (h : VerRd w x0.List l) (room : l.length ≤ 2932031007402) (key to : ByteArray) (t : Int) :
    Cl Try.prog fn_ladinglaw09_MvccAsks [T_api_Versions.v x0, .string key, .string to, .int .u64 t].toArray w (fun e w' => ∃ r0 : Bool, e = .returned (.bool r0) ∧ (r0 = true ∧ Bel w w')) := by
  refine L1_ladinglaw09_MvccAsks x0 key to t w (fun b w' => b = true ∧ Bel w w') ?_
  unfold V_ladinglaw09_MvccAsks
  refine S.boxW (cs := x0.cells) rfl fun B4 w1 b1 hV hB4 => ?_
  refine S.ldA agg_api_Versions x0 rfl hV.at rfl ?_
  refine copy_ok (h.bel b1) room fun r w2 base _ _ hO b2 => ?_
  refine S.newW new_api_Versions rfl agg_api_Versions (cs := (⟨r, x0.Low⟩ : T_api_Versions).cells) rfl rfl rfl fun B9 w3 b3 hG hB9 => ?_
  have hr := (VerOwn.rd hO).bel b3
  have b03 := (b1.trans b2).trans b3
  have hV3 := (hV.bel b2).bel b3
  refine S.ldA agg_api_Versions (⟨r, x0.Low⟩ : T_api_Versions) rfl hG.at rfl ?_
  refine mget_ok (x0 := (⟨r, x0.Low⟩ : T_api_Versions)) hr key t fun w4 b4 => ?_
  refine S.ldA agg_api_Versions x0 rfl (hV3.bel b4).at rfl ?_
  refine rget_ok (h.bel (b03.trans b4)) key t fun w5 b5 => ?_
  have b35 := b4.trans b5
  refine S.ldA agg_api_Versions (⟨r, x0.Low⟩ : T_api_Versions) rfl (hG.bel b35).at rfl ?_
  refine mscan_ok (x0 := (⟨r, x0.Low⟩ : T_api_Versions)) (hr.bel b35) key to t fun s6 w6 base6 _ _ hO6 b6 => ?_
  have b36 := b35.trans b6
  refine S.ldA agg_api_Versions x0 rfl (hV3.bel b36).at rfl ?_
  refine rscan_ok (h.bel (b03.trans b36)) key to t fun s7 w7 hO7 b7 => ?_
  have b37 := b36.trans b7
  refine S.ldA agg_api_Versions (⟨r, x0.Low⟩ : T_api_Versions) rfl (hG.bel b37).at rfl ?_
  refine mlast_ok (x0 := (⟨r, x0.Low⟩ : T_api_Versions)) (hr.bel b37) key fun w8 b8 => ?_
  have b38 := b37.trans b8
  refine S.ldA agg_api_Versions x0 rfl (hV3.bel b38).at rfl ?_
  refine rlast_ok (h.bel (b03.trans b38)) key fun w9 b9 => ?_
  have b39 := b38.trans b9
  have b09 := b03.trans b39
  have hr9 := hr.bel b39
  have h9 := h.bel b09
  have hG9 := hG.bel b39
  have hV9 := hV3.bel b39
  refine ⟨true, q_of (enc := Value.bool) fun w' hb => lives_ok w' fun W hB => ⟨rfl, hB⟩, fun _ => ?_, fun h => (nomatch h)⟩
  refine Q.ldA agg_api_Versions (⟨r, x0.Low⟩ : T_api_Versions) rfl hG9.at rfl ?_
  refine ⟨vchk l x0.Low, q_of (enc := Value.int .i64) fun w' hb => mcheck_ok (x0 := (⟨r, x0.Low⟩ : T_api_Versions)) (hr9.bel hb) fun W hB => ⟨rfl, hB⟩, ?_⟩
  refine Q.ldA agg_api_Versions x0 rfl hV9.at rfl ?_
  refine ⟨vchk l x0.Low, q_of (enc := Value.int .i64) fun w' hb => rcheck_ok (h9.bel hb) fun W hB => ⟨rfl, hB⟩, ?_⟩
  rw [decide_eq_true rfl]
  unfold V_ladinglaw09_MvccAsks_r1
  refine ⟨fun _ => ?_, fun h => (nomatch h)⟩
  rw [decide_eq_true rfl]
  unfold V_ladinglaw09_MvccAsks_r2
  refine ⟨fun _ => ?_, fun h => (nomatch h)⟩
  refine eqB_q _ ?_
  unfold V_ladinglaw09_MvccAsks_r3
  refine ⟨fun _ => ?_, fun h => (nomatch h)⟩
  rw [decide_eq_true rfl]
  unfold V_ladinglaw09_MvccAsks_r4
  refine ⟨fun _ => ?_, fun h => (nomatch h)⟩
  refine ⟨true, q_of (enc := Value.bool) fun w' hb => psame_ok ((((PaiOwn.rd hO6).bel b7).bel (b8.trans b9)).bel hb) ((hO7.bel (b8.trans b9)).bel hb) fun b W hbb hB => ⟨hbb.2 rfl, hB⟩, ?_⟩
  unfold V_ladinglaw09_MvccAsks_r5
  refine ⟨fun _ => ?_, fun h => (nomatch h)⟩
  rw [decide_eq_true rfl]
  unfold V_ladinglaw09_MvccAsks_r6
  refine ⟨fun _ => ?_, fun h => (nomatch h)⟩
  rw [decide_eq_true rfl]
  unfold V_ladinglaw09_MvccAsks_r7
  refine ⟨fun _ => ?_, fun h => (nomatch h)⟩
  rw [decide_eq_true rfl]
  unfold V_ladinglaw09_MvccAsks_r8
  refine ⟨fun _ => ?_, fun h => (nomatch h)⟩
  refine Q.ldA agg_api_Versions (⟨r, x0.Low⟩ : T_api_Versions) rfl hG9.at rfl ?_
  refine Q.ldA agg_api_Versions x0 rfl hV9.at rfl ?_
  refine ⟨true, q_of (enc := Value.bool) fun w' hb => same_ok (x0 := (⟨r, x0.Low⟩ : T_api_Versions)) (hr9.bel hb) (h9.bel hb) fun b W hbb hB => ⟨hbb.2 ⟨rfl, rfl⟩, hB⟩, ?_⟩
  unfold V_ladinglaw09_MvccAsks_r9
  intro w10 b10
  exact ⟨rfl, b09.trans b10⟩
end Go.Proofs.Ytealcoghiaeiiaa.VG
