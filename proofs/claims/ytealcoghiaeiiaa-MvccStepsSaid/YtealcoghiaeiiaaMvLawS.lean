/- MvccSteps answers true at whatever it is called with; no condition. -/
import Derived.Test.YtealcoghiaeiiaaVLs
import Derived.Test.YtealcoghiaeiiaaMvFacts
set_option linter.unusedVariables false
namespace Go.Proofs.Ytealcoghiaeiiaa.VG
open Go.VB Go.VB.Srt Go.Proofs Go.RowKit

theorem steps_ok {w : World} {x0 : T_api_Versions} {l : List Ver} (h : VerRd w x0.List l) (a b : Int) :
    Cl Try.prog fn_ladinglaw09_MvccSteps [T_api_Versions.v x0, .int .u64 a, .int .u64 b].toArray w (fun e w' => ∃ r0 : Bool, e = .returned (.bool r0) ∧ (r0 = true ∧ Bel w w')) := by
  refine L1_ladinglaw09_MvccSteps x0 a b w (fun b w' => b = true ∧ Bel w w') ?_
  unfold V_ladinglaw09_MvccSteps
  refine S.boxW (cs := x0.cells) rfl fun B3 w1 b1 hV hB4 => ?_
  refine lives_ok w1 fun w2 b2 => ?_
  refine ⟨fun h => (nomatch h), fun _ => ?_⟩
  have b02 := b1.trans b2
  replace hV := hV.bel b2
  refine S.ldA agg_api_Versions x0 rfl hV.at rfl ?_
  obtain ⟨mn, hmn⟩ : ∃ mn : Int, mn = if b < a then b else a := ⟨_, rfl⟩
  obtain ⟨mx, hmx⟩ : ∃ mx : Int, mx = if a < b then b else a := ⟨_, rfl⟩
  have hle : mn ≤ mx := by rw [hmn, hmx]; split <;> split <;> omega
  rw [← hmn, ← hmx]
  refine msweep_ok (h.bel b02) mn fun r3 w3 base3 _ hO3 b3 => ?_
  refine S.newW new_api_Versions rfl agg_api_Versions (cs := (⟨r3, (vsweep l x0.Low mn).2.1⟩ : T_api_Versions).cells) rfl rfl rfl fun B7 w4 b4 h7 _ => ?_
  have b24 := b3.trans b4
  refine S.ldA agg_api_Versions (⟨r3, (vsweep l x0.Low mn).2.1⟩ : T_api_Versions) rfl h7.at rfl ?_
  refine msweep_ok (x0 := (⟨r3, (vsweep l x0.Low mn).2.1⟩ : T_api_Versions)) ((VerOwn.rd hO3).bel b4) mx fun r5 w5 base5 _ hO5 b5 => ?_
  refine S.newW new_api_Versions rfl agg_api_Versions (cs := (⟨r5, (vsweep (vsweep l x0.Low mn).1 (vsweep l x0.Low mn).2.1 mx).2.1⟩ : T_api_Versions).cells) rfl rfl rfl fun B9 w6 b6 h9 _ => ?_
  have b26 := b24.trans (b5.trans b6)
  refine S.ldA agg_api_Versions x0 rfl (hV.bel b26).at rfl ?_
  refine msweep_ok (h.bel (b02.trans b26)) mx fun r7 w7 base7 _ hO7 b7 => ?_
  refine S.newW new_api_Versions rfl agg_api_Versions (cs := (⟨r7, (vsweep l x0.Low mx).2.1⟩ : T_api_Versions).cells) rfl rfl rfl fun B11 w8 b8 h11 _ => ?_
  have b68 := b7.trans b8
  have b08 := b02.trans (b26.trans b68)
  by_cases e1 : (vsweep l x0.Low mn).2.2 = 0
  case neg =>
    refine ⟨fun _ => ?_, fun h => absurd e1 h⟩
    unfold V_ladinglaw09_MvccSteps_r1 V_ladinglaw09_MvccSteps_r2
    exact ⟨fun _ => ⟨fun _ => ⟨rfl, b08⟩, fun h => absurd e1 h⟩, fun h => (nomatch h)⟩
  refine ⟨fun h => absurd e1 h, fun _ => ?_⟩
  obtain ⟨g1, g2, g3, g4⟩ := vsweep_ok e1
  have hgm := swp_good g1 g3
  by_cases e2 : mx ≤ 2305843009213693952
  case neg =>
    have s2 : vsweep (vsweep l x0.Low mn).1 (vsweep l x0.Low mn).2.1 mx = ([], 0, 2) := by rw [g4]; exact vsweep_hi hgm hle (by omega)
    have s3 : vsweep l x0.Low mx = ([], 0, 2) := vsweep_hi g1 (by omega) (by omega)
    rw [s2, s3, decide_eq_true (p := (2 : Int) ≠ 0) (by decide)]
    unfold V_ladinglaw09_MvccSteps_r1 V_ladinglaw09_MvccSteps_r2
    refine ⟨fun _ => ⟨fun h => absurd e1 h, fun _ => ⟨decide_eq_true rfl, b08⟩⟩, fun h => (nomatch h)⟩
  have s2 : vsweep (vsweep l x0.Low mn).1 (vsweep l x0.Low mn).2.1 mx = (swp mx l, mx, 0) := by
    rw [g4]; show vsweep (swp mn l) mn mx = _
    rw [vsweep_of hgm hle e2, swp_swp g1.sorted hle]
  have s3 : vsweep l x0.Low mx = (swp mx l, mx, 0) := vsweep_of g1 (by omega) e2
  rw [s2] at hO5 h9 ⊢
  rw [s3] at hO7 h11 ⊢
  dsimp only at hO5 h9 hO7 h11 ⊢
  rw [decide_eq_false (p := (0 : Int) ≠ 0) (by decide)]
  unfold V_ladinglaw09_MvccSteps_r1
  refine ⟨fun h => (nomatch h), fun _ => ?_⟩
  refine S.ldA agg_api_Versions (⟨r7, mx⟩ : T_api_Versions) rfl h11.at rfl ?_
  rw [← hmx]
  refine msweep_ok (x0 := (⟨r7, mx⟩ : T_api_Versions)) ((VerOwn.rd hO7).bel b8) mx fun r9 w9 base9 _ hO9 b9 => ?_
  have s4 : vsweep (swp mx l) mx mx = (swp mx l, mx, 0) := by rw [vsweep_of (swp_good g1 e2) (Int.le_refl _) e2, swp_swp g1.sorted (Int.le_refl _)]
  rw [s4] at hO9 ⊢
  dsimp only at hO9 ⊢
  refine S.newW new_api_Versions rfl agg_api_Versions (cs := (⟨r9, mx⟩ : T_api_Versions).cells) rfl rfl rfl fun B13 w10 b10 h13 _ => ?_
  have b8a := b9.trans b10
  refine ⟨fun _ => ?_, fun h => absurd rfl h⟩
  refine S.ldA agg_api_Versions (⟨r5, mx⟩ : T_api_Versions) rfl (h9.bel (b68.trans b8a)).at rfl ?_
  refine S.ldA agg_api_Versions (⟨r7, mx⟩ : T_api_Versions) rfl (h11.bel b8a).at rfl ?_
  refine same_ok (x0 := (⟨r5, mx⟩ : T_api_Versions)) (x1 := (⟨r7, mx⟩ : T_api_Versions)) ((VerOwn.rd hO5).bel (b6.trans (b68.trans b8a))) ((VerOwn.rd hO7).bel (b8.trans b8a)) fun q w11 hq b11 => ?_
  obtain rfl : q = true := hq.2 ⟨rfl, rfl⟩
  unfold V_ladinglaw09_MvccSteps_r3
  refine ⟨fun _ => ?_, fun h => (nomatch h)⟩
  rw [decide_eq_true rfl]
  unfold V_ladinglaw09_MvccSteps_r4
  refine ⟨fun _ => ?_, fun h => (nomatch h)⟩
  refine S.ldA agg_api_Versions (⟨r9, mx⟩ : T_api_Versions) rfl (h13.bel b11).at rfl ?_
  refine S.ldA agg_api_Versions (⟨r7, mx⟩ : T_api_Versions) rfl (h11.bel (b8a.trans b11)).at rfl ?_
  refine same_ok (x0 := (⟨r9, mx⟩ : T_api_Versions)) (x1 := (⟨r7, mx⟩ : T_api_Versions)) ((VerOwn.rd hO9).bel (b10.trans b11)) ((VerOwn.rd hO7).bel (b8.trans (b8a.trans b11))) fun q w12 hq b12 => ?_
  unfold V_ladinglaw09_MvccSteps_r5
  exact ⟨hq.2 ⟨rfl, rfl⟩, (b08.trans (b8a.trans b11)).trans b12⟩
end Go.Proofs.Ytealcoghiaeiiaa.VG
