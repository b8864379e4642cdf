/- MvccSwept answers true at whatever it is called with; no condition. -/
import Derived.Test.YtealcoghiaeiiaaVLw
import Derived.Test.YtealcoghiaeiiaaMvFacts
set_option linter.unusedVariables false
namespace Go.Proofs.Ytealcoghiaeiiaa.VG
open Go.VB Go.VB.Srt Go.Proofs Go.RowKit

theorem eqB_w (b : Bool) {w : World} {o1 o2 : Operand} {k : Bool → World → Prop} (H : k true w) : opE Try.prog Value.bool (do eqGuard .eql ty_bool o1 o2 (.bool b) (.bool b); binOp .eql ty_bool (.bool b) (.bool b)) w k :=
  ⟨true, w, by cases b <;> kernel_rfl, H⟩
theorem swept_ok {w : World} {x0 : T_api_Versions} {l : List Ver} (h : VerRd w x0.List l) (low ask : Int) (key : ByteArray) :
    Cl Try.prog fn_ladinglaw09_MvccSwept [T_api_Versions.v x0, .int .u64 low, .int .u64 ask, .string key].toArray w (fun e w' => ∃ r0 : Bool, e = .returned (.bool r0) ∧ (r0 = true ∧ Bel w w')) := by
  refine L1_ladinglaw09_MvccSwept x0 low ask key w (fun b w' => b = true ∧ Bel w w') ?_
  have hlen := h.len
  unfold V_ladinglaw09_MvccSwept
  refine S.boxW (cs := x0.cells) rfl fun B4 w1 b1 hV hB4 => ?_
  refine lives_ok w1 fun w2 b2 => ?_
  refine ⟨fun h => (nomatch h), fun _ => ?_⟩
  have b02 := b1.trans b2
  replace hV := hV.bel b2
  refine S.ldA agg_api_Versions x0 rfl hV.at rfl ?_
  refine msweep_ok (h.bel b02) low fun r w3 base3 _ hO3 b3 => ?_
  refine S.newW new_api_Versions rfl agg_api_Versions (cs := (⟨r, (vsweep l x0.Low low).2.1⟩ : T_api_Versions).cells) rfl rfl rfl fun B9 w4 b4 h9 _ => ?_
  have b24 := b3.trans b4
  have b04 := b02.trans b24
  have hV4 := hV.bel b24
  have hr := (VerOwn.rd hO3).bel b4
  have rlen := hr.len
  by_cases e1 : (vsweep l x0.Low low).2.2 = 0
  case neg =>
    refine ⟨fun _ => ?_, fun h => absurd e1 h⟩
    refine S.fld fld_api_Versions_List one_L_api_Version h9.at r rfl ?_
    rw [vsweep_err e1] at rlen
    exact ⟨decide_eq_true (by simp at rlen; omega), b04⟩
  refine ⟨fun h => absurd e1 h, fun _ => ?_⟩
  obtain ⟨g1, g2, g3, g4⟩ := vsweep_ok e1
  rw [g4] at hr h9 rlen
  dsimp only at hr h9 rlen
  have hgm := swp_good g1 g3
  have hlen4 := hgm.len
  have hbig := hr.big
  refine S.ldA agg_api_Versions (⟨r, low⟩ : T_api_Versions) rfl h9.at rfl ?_
  refine mcheck_ok (x0 := (⟨r, low⟩ : T_api_Versions)) hr fun w5 b5 => ?_
  rw [show vchk (swp low l) (⟨r, low⟩ : T_api_Versions).Low = 0 from vchk_good hgm]
  refine ⟨fun h => absurd rfl h, fun _ => ?_⟩
  have b05 := b04.trans b5
  refine S.fld fld_api_Versions_Low one_uint64 (h9.bel b5).at low rfl ?_
  rw [decide_eq_false (p := low ≠ low) (fun h => h rfl)]
  unfold V_ladinglaw09_MvccSwept_r1
  refine ⟨fun h => (nomatch h), fun _ => ?_⟩
  refine S.fld fld_api_Versions_List one_L_api_Version (h9.bel b5).at r rfl ?_
  refine S.fld fld_api_Versions_List one_L_api_Version (hV4.bel b5).at x0.List rfl ?_
  have hsl := swp_len low l
  rw [decide_eq_false (p := (x0.List.len : Int) < (r.len : Int)) (by omega)]
  unfold V_ladinglaw09_MvccSwept_r2
  refine ⟨fun h => (nomatch h), fun _ => ?_⟩
  refine S.fld fld_api_Versions_List one_L_api_Version (h9.bel b5).at r rfl ?_
  refine ⟨fun i W => ∃ n : Nat, i = (n : Int) ∧ n ≤ (swp low l).length ∧ Bel w4 W, fun i _ => (r.len - i).toNat, ⟨0, rfl, by omega, b5⟩, ?_⟩
  rintro i W ⟨n, rfl, hn, hb⟩
  have b0W := b04.trans hb
  unfold V_ladinglaw09_MvccSwept_l3b
  refine ⟨fun hlt => ?_, fun hlt => ?_⟩
  · obtain ⟨e, he⟩ := getV (l := swp low l) (n := n) (by omega)
    refine S.idx (hr.bel hb) und_L_api_Version esz_L_api_Version (by omega) (x := e) (by simpa using he) fun ad hA => ?_
    refine S.ldA agg_api_Version e rfl hA rfl ?_
    refine S.newW new_api_Version rfl agg_api_Version (cs := e.cells) rfl rfl rfl fun C w6 b6 hX hC => ?_
    have r4f : V_ladinglaw09_MvccSwept_r4 (fun b w' => b = true ∧ Bel w w') n (fun (i' : Int) (w' : World) => (∃ n : Nat, i' = (n : Int) ∧ n ≤ (swp low l).length ∧ Bel w4 w') ∧ (r.len - i').toNat < (r.len - (n : Int)).toNat) false w6 := fun w7 b7 => by
      refine ⟨fun h => (nomatch h), fun _ => ?_⟩
      rw [wr64 (by omega) (by omega)]
      exact ⟨⟨n + 1, by omega, by omega, (hb.trans b6).trans b7⟩, by omega⟩
    refine Q.fld fld_api_Version_At one_uint64 hX.at e.At rfl ?_
    refine ⟨fun hat => ?_, fun hat => r4f⟩
    obtain ⟨q1, q2⟩ := swp_low g1.sorted he hat
    refine Q.fld fld_api_Version_Gone one_bool hX.at e.Gone rfl ?_
    refine ⟨fun hg => (by rw [q1] at hg; cases hg), fun _ => ⟨fun h0 => ?_, fun h0 => r4f⟩⟩
    obtain ⟨p, hp⟩ := getV (l := swp low l) (n := n - 1) (by omega)
    rw [wr64 (by omega) (by omega)]
    refine Q.fld fld_api_Versions_List one_L_api_Version ((h9.bel hb).bel b6).at r rfl ?_
    refine Q.idx ((hr.bel hb).bel b6) und_L_api_Version esz_L_api_Version (by omega) (x := p) (by rw [show ((n : Int) - 1).toNat = n - 1 by omega]; exact hp) fun ad hA => ?_
    refine Q.fld fld_api_Version_Key one_string hA p.Key rfl ?_
    refine Q.fld fld_api_Version_Key one_string hX.at e.Key rfl ?_
    rw [decide_eq_false (q2 (n - 1) p (by omega) hp)]
    exact r4f
  · have hV' := hV4.bel hb
    have h9' := h9.bel hb
    refine ⟨fun ha => ?_, fun ha => ?_⟩
    · refine S.ldA agg_api_Versions (⟨r, low⟩ : T_api_Versions) rfl h9'.at rfl ?_
      refine mget_ok (x0 := (⟨r, low⟩ : T_api_Versions)) (hr.bel hb) key ask fun w6 b6 => ?_
      rw [vget_low hgm ha]
      exact ⟨decide_eq_true rfl, b0W.trans b6⟩
    · refine S.ldA agg_api_Versions x0 rfl hV'.at rfl ?_
      refine mget_ok (h.bel b0W) key ask fun w6 b6 => ?_
      refine S.ldA agg_api_Versions (⟨r, low⟩ : T_api_Versions) rfl (h9'.bel b6).at rfl ?_
      refine mget_ok (x0 := (⟨r, low⟩ : T_api_Versions)) ((hr.bel hb).bel b6) key ask fun w7 b7 => ?_
      rw [vget_ok g1 (by omega), vget_ok hgm (by omega), swp_sees g1 (by omega)]
      refine ⟨fun _ => ?_, fun h => absurd rfl h⟩
      rw [decide_eq_true rfl]
      unfold V_ladinglaw09_MvccSwept_r7
      refine ⟨fun _ => ?_, fun h => (nomatch h)⟩
      rw [decide_eq_true rfl]
      unfold V_ladinglaw09_MvccSwept_r8
      refine ⟨fun _ => ?_, fun h => (nomatch h)⟩
      refine eqB_w _ ?_
      unfold V_ladinglaw09_MvccSwept_r9
      exact ⟨rfl, (b0W.trans b6).trans b7⟩
end Go.Proofs.Ytealcoghiaeiiaa.VG
