/- MvccPast answers true at whatever it is called with; no condition. -/
import Derived.Test.YtealcoghiaeiiaaVLp
import Derived.Test.YtealcoghiaeiiaaMvFacts
set_option linter.unusedVariables false
namespace Go.Proofs.Ytealcoghiaeiiaa.VG
open Go.VB Go.VB.Srt Go.Proofs Go.RowKit

theorem eqB_p (b : Bool) {w : World} {o1 o2 : Operand} {k : Bool → World → Prop} (H : k true w) : opE Try.prog Value.bool (do eqGuard .eql ty_bool o1 o2 (.bool b) (.bool b); binOp .eql ty_bool (.bool b) (.bool b)) w k :=
  ⟨true, w, by cases b <;> kernel_rfl, H⟩
abbrev zeroW : Wri := ⟨noB, noB, false⟩
theorem written_ok {w : World} {x : Sl} {m : List Wri} (hm : WriRd w x m) (key : ByteArray) {k : Wri → Bool → World → Prop}
    (H1 : ∀ w', (∀ d ∈ m, d.Key ≠ key) → Bel w w' → k zeroW false w') (H2 : ∀ d w', d ∈ m → d.Key = key → Bel w w' → k d true w') :
    Cl Try.prog fn_ladinglaw09_written [Sl.v x, .string key].toArray w (fun e w' => ∃ (r0 : Wri) (r1 : Bool), e = .returned (.tuple [T_api_Write.v r0, .bool r1].toArray) ∧ k r0 r1 w') := by
  refine L1_ladinglaw09_written x key w k ?_
  have dbig := hm.big; have dcap := hm.cap; have dlen := hm.len
  unfold V_ladinglaw09_written
  refine S.new1W new_api_Write fun B w1 b1 hZ hB => ?_
  refine ⟨fun i W => ∃ n : Nat, i = (n : Int) ∧ n ≤ m.length ∧ Bel w1 W ∧ ∀ d ∈ m.take n, d.Key ≠ key, fun i _ => (x.len - i).toNat, ⟨0, rfl, by omega, Bel.refl _, by simp⟩, ?_⟩
  rintro i W ⟨n, rfl, hn, hb, hno⟩
  unfold V_ladinglaw09_written_l1b
  refine ⟨fun hlt => ?_, fun hlt => ?_⟩
  · obtain ⟨d, hdn⟩ := getW (l := m) (n := n) (by omega)
    refine S.idx (hm.bel (b1.trans hb)) und_L_api_Write esz_L_api_Write (by omega) (x := d) (by simpa using hdn) fun ad hA => ?_
    refine S.ldA agg_api_Write d rfl hA rfl ?_
    refine S.newW new_api_Write rfl agg_api_Write (cs := d.cells) rfl rfl rfl fun C w3 b3 hX hC => ?_
    refine S.fld fld_api_Write_Key one_string hX.at d.Key rfl ?_
    refine ⟨fun hk => ?_, fun hk => ?_⟩
    · refine S.ldA agg_api_Write d rfl hX.at rfl ?_
      refine S.stA agg_api_Write ((hZ.bel hb).bel b3) rfl rfl rfl fun w4 hR4 hg4 => ?_
      refine R.agg agg_api_Write d rfl hR4.at rfl ?_
      exact H2 d w4 (List.mem_of_getElem? hdn) hk (((b1.trans hb).trans b3).grown hg4 fun r hr => by cases hr; exact hB)
    · rw [wr64 (by omega) (by omega)]
      refine ⟨⟨n + 1, by omega, by omega, hb.trans b3, fun e he => ?_⟩, by dsimp only; omega⟩
      rw [take_one hdn] at he
      rcases List.mem_append.1 he with h2 | h2
      · exact hno e h2
      · simp at h2; subst h2; exact hk
  · obtain rfl : n = m.length := by omega
    rw [List.take_length] at hno
    refine ⟨zeroW, W, by kernel_rfl, ?_⟩
    refine S.stA agg_api_Write (hZ.bel hb) rfl rfl rfl fun w4 hR4 hg4 => ?_
    refine R.agg agg_api_Write zeroW rfl hR4.at rfl ?_
    exact H1 w4 hno ((b1.trans hb).grown hg4 fun r hr => by cases hr; exact hB)
theorem past_ok {w : World} {x0 : T_api_Versions} {x1 : Sl} {l : List Ver} {m : List Wri} (h : VerRd w x0.List l) (hm : WriRd w x1 m) (t ask : Int) (key : ByteArray) :
    Cl Try.prog fn_ladinglaw09_MvccPast [T_api_Versions.v x0, Sl.v x1, .int .u64 t, .int .u64 ask, .string key].toArray w (fun e w' => ∃ r0 : Bool, e = .returned (.bool r0) ∧ (r0 = true ∧ Bel w w')) := by
  refine L1_ladinglaw09_MvccPast x0 x1 t ask key w (fun b w' => b = true ∧ Bel w w') ?_
  have hlen := h.len
  unfold V_ladinglaw09_MvccPast
  refine S.boxW (cs := x0.cells) rfl fun B5 w1 b1 hV hB4 => ?_
  refine lives_ok w1 fun w2 b2 => ?_
  refine ⟨fun h => (nomatch h), fun _ => ?_⟩
  have b02 := b1.trans b2
  replace hV := hV.bel b2
  refine S.ldA agg_api_Versions x0 rfl hV.at rfl ?_
  refine mput_ok (h.bel b02) (hm.bel b02) t fun r w3 base3 _ hO3 b3 => ?_
  refine S.newW new_api_Versions rfl agg_api_Versions (cs := (⟨r, (vput l x0.Low m t).2.1⟩ : T_api_Versions).cells) rfl rfl rfl fun B11 w4 b4 h11 _ => ?_
  have b24 := b3.trans b4
  have b04 := b02.trans b24
  have hV4 := hV.bel b24
  have hr := (VerOwn.rd hO3).bel b4
  have rlen := hr.len
  by_cases e1 : (vput l x0.Low m t).2.2 = 0
  case neg =>
    refine ⟨fun _ => ?_, fun h => absurd e1 h⟩
    refine S.fld fld_api_Versions_List one_L_api_Version h11.at r rfl ?_
    rw [vput_err e1] at rlen
    exact ⟨decide_eq_true (by simp at rlen; omega), b04⟩
  refine ⟨fun h => absurd e1 h, fun _ => ?_⟩
  obtain ⟨hp, g4⟩ := vput_ok e1
  obtain ⟨g1, g2, g3, g5, g6, g7, g8⟩ := pwhy_zero.1 hp
  rw [g4] at hr h11
  dsimp only at hr h11
  have hgu := put_good hp
  refine S.ldA agg_api_Versions (⟨r, x0.Low⟩ : T_api_Versions) rfl h11.at rfl ?_
  refine mcheck_ok (x0 := (⟨r, x0.Low⟩ : T_api_Versions)) hr fun w5 b5 => ?_
  rw [show vchk (putL l t m) (⟨r, x0.Low⟩ : T_api_Versions).Low = 0 from vchk_good hgu]
  refine ⟨fun h => absurd rfl h, fun _ => ?_⟩
  have b05 := b04.trans b5
  have hV5 := hV4.bel b5
  have h115 := h11.bel b5
  have hr5 := hr.bel b5
  refine ⟨fun ha => ?_, fun ha => ?_⟩
  · refine S.ldA agg_api_Versions x0 rfl hV5.at rfl ?_
    refine mget_ok (h.bel b05) key ask fun w6 b6 => ?_
    refine S.ldA agg_api_Versions (⟨r, x0.Low⟩ : T_api_Versions) rfl (h115.bel b6).at rfl ?_
    refine mget_ok (x0 := (⟨r, x0.Low⟩ : T_api_Versions)) (hr5.bel b6) key ask fun w7 b7 => ?_
    have heq : vget (putL l t m) x0.Low key ask = vget l x0.Low key ask := by
      by_cases hlo : ask < x0.Low
      · rw [vget_low hgu hlo, vget_low g1 hlo]
      · rw [vget_ok hgu (by omega), vget_ok g1 (by omega), put_past hp ha]
    rw [show (⟨r, x0.Low⟩ : T_api_Versions).Low = x0.Low from rfl, heq]
    refine ⟨fun _ => ?_, fun h => absurd rfl h⟩
    refine eqB_p _ ?_
    unfold V_ladinglaw09_MvccPast_r1
    refine ⟨fun _ => ?_, fun h => (nomatch h)⟩
    unfold V_ladinglaw09_MvccPast_r2
    exact ⟨decide_eq_true rfl, (b05.trans b6).trans b7⟩
  · refine S.ldA agg_api_Versions x0 rfl hV5.at rfl ?_
    refine mget_ok (h.bel b05) key t fun w6 b6 => ?_
    refine S.ldA agg_api_Versions (⟨r, x0.Low⟩ : T_api_Versions) rfl (h115.bel b6).at rfl ?_
    refine mget_ok (x0 := (⟨r, x0.Low⟩ : T_api_Versions)) (hr5.bel b6) key ask fun w7 b7 => ?_
    have b57 := b6.trans b7
    refine S.ldA agg_api_Versions (⟨r, x0.Low⟩ : T_api_Versions) rfl (h115.bel b57).at rfl ?_
    refine mlast_ok (x0 := (⟨r, x0.Low⟩ : T_api_Versions)) (hr5.bel b57) key fun w8 b8 => ?_
    have b58 := b57.trans b8
    rw [show (⟨r, x0.Low⟩ : T_api_Versions).Low = x0.Low from rfl, vget_ok g1 g6, vget_ok hgu (by omega), vlast_ok hgu]
    dsimp only
    refine written_ok (hm.bel (b05.trans b58)) key (fun w9 hno b9 => ?_) (fun d w9 hd hdk b9 => ?_)
    · refine S.newW new_api_Write rfl agg_api_Write (cs := zeroW.cells) rfl rfl rfl fun B27 w10 b10 h27 _ => ?_
      have b0a := ((b05.trans b58).trans b9).trans b10
      refine ⟨fun h => absurd rfl h, fun _ => ?_⟩
      rw [decide_eq_false (p := (0 : Int) ≠ 0) (by decide)]
      unfold V_ladinglaw09_MvccPast_r3
      refine ⟨fun h => (nomatch h), fun _ => ?_⟩
      rw [decide_eq_false (p := (0 : Int) ≠ 0) (by decide)]
      unfold V_ladinglaw09_MvccPast_r4
      refine ⟨fun h => (nomatch h), fun _ => ⟨fun _ => ?_, fun h => (nomatch h)⟩⟩
      rw [put_other hp (by omega) hno]
      refine ⟨fun _ => ?_, fun h => absurd rfl h⟩
      refine eqB_p _ ?_
      unfold V_ladinglaw09_MvccPast_r5
      refine ⟨fun _ => ?_, fun h => (nomatch h)⟩
      unfold V_ladinglaw09_MvccPast_r6
      refine ⟨decide_eq_true ?_, b0a⟩
      rcases lastAt_of hgu key with ⟨p1, _⟩ | ⟨x, p1, p2, p3, _, _⟩
      · omega
      · rw [p3]
        rcases putL_mem.1 p1 with q1 | ⟨d, q1, rfl⟩
        · exact g7 x q1
        · exact absurd p2 (hno d q1)
    · refine S.newW new_api_Write rfl agg_api_Write (cs := d.cells) rfl rfl rfl fun B27 w10 b10 h27 _ => ?_
      have b0a := ((b05.trans b58).trans b9).trans b10
      refine ⟨fun h => absurd rfl h, fun _ => ?_⟩
      rw [decide_eq_false (p := (0 : Int) ≠ 0) (by decide)]
      unfold V_ladinglaw09_MvccPast_r3
      refine ⟨fun h => (nomatch h), fun _ => ?_⟩
      rw [decide_eq_false (p := (0 : Int) ≠ 0) (by decide)]
      unfold V_ladinglaw09_MvccPast_r4
      refine ⟨fun h => (nomatch h), fun _ => ⟨fun h => (nomatch h), fun _ => ?_⟩⟩
      have hhit := put_hit hp (show t ≤ ask by omega) hd
      rw [hdk] at hhit
      rw [hhit]
      refine S.fld fld_api_Write_Gone one_bool h27.at d.Gone rfl ?_
      refine eqB_p (!d.Gone) ?_
      refine ⟨fun _ => ?_, fun h => (nomatch h)⟩
      refine S.fld fld_api_Write_Gone one_bool h27.at d.Gone rfl ?_
      have r7t : V_ladinglaw09_MvccPast_r7 t (fun b w' => b = true ∧ Bel w w') (lastAt (putL l t m) key) true w10 := by
        unfold V_ladinglaw09_MvccPast_r7 V_ladinglaw09_MvccPast_r8
        refine ⟨fun _ => ⟨decide_eq_true ?_, b0a⟩, fun h => (nomatch h)⟩
        rcases lastAt_of hgu key with ⟨_, p2⟩ | ⟨x, p1, p2, p3, _, p5⟩
        · exact absurd hdk (p2 (mk t d) (putL_mem.2 (.inr ⟨d, hd, rfl⟩)))
        · rw [p3]
          have h1 := p5 2305843009213693952 (hgu.made p1).hi
          have h2 := put_hit hp g5 hd
          rw [hdk, h1] at h2
          rw [Option.some.inj h2]; rfl
      unfold V_ladinglaw09_MvccPast_r9
      refine ⟨fun _ => r7t, fun hg => ?_⟩
      refine S.fld fld_api_Write_Val one_string h27.at d.Val rfl ?_
      rw [decide_eq_true (p := (outV (some (mk t d))).1 = d.Val) (by show (if d.Gone = true then noB else d.Val) = d.Val; rw [if_neg (by rw [hg]; decide)])]
      exact r7t
end Go.Proofs.Ytealcoghiaeiiaa.VG
