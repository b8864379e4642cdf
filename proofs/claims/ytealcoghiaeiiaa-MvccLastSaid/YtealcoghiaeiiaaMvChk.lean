/- Both Checks of versions, and what is asked as of a time; no condition. -/
import Derived.Test.YtealcoghiaeiiaaMvLast
import Derived.Test.YtealcoghiaeiiaaVGr
set_option linter.unusedVariables false
namespace Go.Proofs.Ytealcoghiaeiiaa.VG
open Go.VB Go.VB.Srt Go.Proofs Go.RowKit

theorem getV {l : List Ver} {n : Nat} (h : n < l.length) : ∃ x, l[n]? = some x := ⟨l[n]'h, by simp⟩
theorem rcheck_ok {w : World} {x0 : T_api_Versions} {l : List Ver} (h : VerRd w x0.List l) {k : Int → World → Prop} (H : ∀ w', Bel w w' → k (vchk l x0.Low) w') :
    Cl Try.prog fn_ladingref09_Check [T_api_Versions.v x0].toArray w (fun e w' => ∃ r0 : Int, e = .returned (.int .i64 r0) ∧ k r0 w') := by
  refine L1_ladingref09_Check x0 w k ?_
  have hbig := h.big; have hcap := h.cap; have hlen := h.len
  have bad : ∀ w', Bel w w' → ¬ GoodV l x0.Low → k 2 w' := fun w' hb hn => by rw [← vchk_bad hn]; exact H w' hb
  unfold V_ladingref09_Check
  refine S.boxW (cs := x0.cells) rfl fun B w1 b1 hV _ => ?_
  refine S.fld fld_api_Versions_List one_L_api_Version hV.at x0.List rfl ?_
  have r1t : ¬ GoodV l x0.Low → V_ladingref09_Check_r1 k (some ⟨B, 0, none⟩) true w1 := fun hn => ⟨fun _ => bad _ b1 hn, fun h => (nomatch h)⟩
  refine ⟨fun hc => r1t (fun hg => by have := hg.len; omega), fun hc => ?_⟩
  refine S.fld fld_api_Versions_Low one_uint64 hV.at x0.Low rfl ?_
  by_cases hlow : 2305843009213693952 < x0.Low
  case pos => rw [decide_eq_true hlow]; exact r1t (fun hg => by have := hg.low; omega)
  rw [decide_eq_false hlow]
  unfold V_ladingref09_Check_r1
  refine ⟨fun h => (nomatch h), fun _ => ?_⟩
  refine S.fld fld_api_Versions_List one_L_api_Version hV.at x0.List rfl ?_
  refine ⟨fun x W => ∃ n : Nat, x = (n : Int) ∧ n ≤ l.length ∧ Bel w1 W ∧ OkTo l n, fun x _ => (x0.List.len - x).toNat, ⟨0, rfl, by omega, Bel.refl _, OkTo.zero l⟩, ?_⟩
  rintro x W ⟨n, rfl, hn, hb, hok⟩
  unfold V_ladingref09_Check_l2b
  refine ⟨fun hlt => ?_, fun hlt => ?_⟩
  case refine_2 =>
    have hG : GoodV l x0.Low := ⟨by omega, by omega, by rw [show l.length = n from by omega]; exact hok⟩
    rw [← vchk_good hG]; exact H W (b1.trans hb)
  obtain ⟨e, he⟩ := getV (l := l) (n := n) (by omega)
  have b01 := b1.trans hb
  refine S.idx (h.bel b01) und_L_api_Version esz_L_api_Version (by omega) (x := e) (by simpa using he) fun ad hA => ?_
  refine S.ldA agg_api_Version e rfl hA rfl ?_
  refine S.newW new_api_Version rfl agg_api_Version (cs := e.cells) rfl rfl rfl fun C w2 b2 hX _ => ?_
  have b02 := b01.trans b2
  have hV2 := (hV.bel hb).bel b2
  have badAt : ∀ w', Bel w2 w' → ¬ OkAt l n e → k 2 w' := fun w' hb hno => bad w' (b02.trans hb) fun hG => hno (hG.ok n e (by omega) he)
  have r7t : ∀ K : Int → World → Prop, ¬ OkAt l n e → V_ladingref09_Check_r7 k n K true w2 := fun K hng w' hb' => ⟨fun _ => badAt _ hb' hng, fun h => (nomatch h)⟩
  have r6t : ∀ K : Int → World → Prop, ¬ OkAt l n e → V_ladingref09_Check_r6 k (some ⟨B, 0, none⟩) n K (some ⟨C, 0, none⟩) true w2 := fun K hng => ⟨fun _ => badAt _ (Bel.refl _) hng, fun h => (nomatch h)⟩
  have r5t : ∀ K : Int → World → Prop, ¬ OkAt l n e → V_ladingref09_Check_r5 k (some ⟨B, 0, none⟩) n K (some ⟨C, 0, none⟩) true w2 := fun K hng => ⟨fun _ => r6t K hng, fun h => (nomatch h)⟩
  have r4t : ∀ K : Int → World → Prop, ¬ OkAt l n e → V_ladingref09_Check_r4 k (some ⟨B, 0, none⟩) n K (some ⟨C, 0, none⟩) true w2 := fun K hng => ⟨fun _ => r5t K hng, fun h => (nomatch h)⟩
  have r3t : ∀ K : Int → World → Prop, ¬ OkAt l n e → V_ladingref09_Check_r3 k (some ⟨B, 0, none⟩) n K (some ⟨C, 0, none⟩) true w2 := fun K hng => ⟨fun _ => r4t K hng, fun h => (nomatch h)⟩
  refine S.fld fld_api_Version_At one_uint64 hX.at e.At rfl ?_
  refine ⟨fun hc => r3t _ (fun hG => by have := hG.1.lo; omega), fun hlo => ?_⟩
  refine S.fld fld_api_Version_At one_uint64 hX.at e.At rfl ?_
  by_cases hhi : 2305843009213693952 < e.At
  case pos => rw [decide_eq_true hhi]; exact r3t _ (fun hG => by have := hG.1.hi; omega)
  rw [decide_eq_false hhi]
  unfold V_ladingref09_Check_r3
  refine ⟨fun h => (nomatch h), fun _ => ?_⟩
  refine S.fld fld_api_Version_Gone one_bool hX.at e.Gone rfl ?_
  have r4f : ∀ K : Int → World → Prop, (∀ w', Bel w2 w' → OkAt l n e → K (IntKind.wrap .i64 ((n : Int) + 1)) w') → (e.Gone = true → e.Val = noB) → V_ladingref09_Check_r4 k (some ⟨B, 0, none⟩) n K (some ⟨C, 0, none⟩) false w2 := by
    intro K hK hgone
    unfold V_ladingref09_Check_r4
    refine ⟨fun h => (nomatch h), fun _ => ?_⟩
    refine S.fld fld_api_Version_Key one_string hX.at e.Key rfl ?_
    by_cases hkl : 256 < (e.Key.size : Int)
    case pos => rw [decide_eq_true hkl]; exact r5t _ (fun hG => by have := hG.1.keyl; omega)
    rw [decide_eq_false hkl]
    unfold V_ladingref09_Check_r5
    refine ⟨fun h => (nomatch h), fun _ => ?_⟩
    refine S.fld fld_api_Version_Val one_string hX.at e.Val rfl ?_
    by_cases hvl : 512 < (e.Val.size : Int)
    case pos => rw [decide_eq_true hvl]; exact r6t _ (fun hG => by have := hG.1.vall; omega)
    rw [decide_eq_false hvl]
    have made : Made e := ⟨by omega, by omega, hgone, by omega, by omega⟩
    have r7f : OkAt l n e → V_ladingref09_Check_r7 k n K false w2 := fun hG w' hb' => ⟨fun h => (nomatch h), fun _ => hK w' hb' hG⟩
    unfold V_ladingref09_Check_r6
    refine ⟨fun h => (nomatch h), fun _ => ⟨fun h0 => ?_, fun h0 => r7f ⟨made, fun j y hj _ => by omega⟩⟩⟩
    obtain ⟨p, hp⟩ := getV (l := l) (n := n - 1) (by omega)
    have hp' : l[((n : Int) - 1).toNat]? = some p := by rw [show ((n : Int) - 1).toNat = n - 1 by omega]; exact hp
    have uniq : ∀ j y, n = j + 1 → l[j]? = some y → y = p := fun j y hj hy => by rw [show j = n - 1 by omega, hp] at hy; cases hy; rfl
    rw [wr64 (by omega) (by omega)]
    refine Q.fld fld_api_Versions_List one_L_api_Version hV2.at x0.List rfl ?_
    refine Q.idx (h.bel b02) und_L_api_Version esz_L_api_Version (by omega) hp' fun ad hA => ?_
    refine Q.fld fld_api_Version_Key one_string hA p.Key rfl ?_
    refine Q.fld fld_api_Version_Key one_string hX.at e.Key rfl ?_
    rw [sGt_eq]
    refine ⟨fun hgt => r7t K (fun hG => ?_), fun hgt => ?_⟩
    · have h1 := hG.2 (n - 1) p (by omega) hp
      exact vlt_key h1 hgt
    refine Q.fld fld_api_Versions_List one_L_api_Version hV2.at x0.List rfl ?_
    refine Q.idx (h.bel b02) und_L_api_Version esz_L_api_Version (by omega) hp' fun ad hA => ?_
    refine Q.fld fld_api_Version_Key one_string hA p.Key rfl ?_
    refine Q.fld fld_api_Version_Key one_string hX.at e.Key rfl ?_
    refine ⟨fun heq => ?_, fun hne => ?_⟩
    · refine Q.fld fld_api_Versions_List one_L_api_Version hV2.at x0.List rfl ?_
      refine Q.idx (h.bel b02) und_L_api_Version esz_L_api_Version (by omega) hp' fun ad hA => ?_
      refine Q.fld fld_api_Version_At one_uint64 hA p.At rfl ?_
      refine Q.fld fld_api_Version_At one_uint64 hX.at e.At rfl ?_
      by_cases hat : e.At ≤ p.At
      · rw [decide_eq_true hat]
        refine r7t K (fun hG => ?_)
        rcases hG.2 (n - 1) p (by omega) hp with h1 | h1
        · rw [heq] at h1; exact sLt_irr _ h1
        · omega
      · rw [decide_eq_false hat]
        exact r7f ⟨made, fun j y hj hy => by rw [uniq j y hj hy]; exact .inr ⟨heq, by omega⟩⟩
    · exact r7f ⟨made, fun j y hj hy => by rw [uniq j y hj hy]; exact .inl (sLt_tot (by rw [hgt]; decide) (fun h => hne h.symm))⟩
  have again : ∀ w', Bel w2 w' → OkAt l n e → (fun (x' : Int) (w' : World) => (∃ n : Nat, x' = (n : Int) ∧ n ≤ l.length ∧ Bel w1 w' ∧ OkTo l n) ∧ (x0.List.len - x').toNat < (x0.List.len - (n : Int)).toNat) (IntKind.wrap .i64 ((n : Int) + 1)) w' := by
    intro w' hb' hG
    rw [wr64 (by omega) (by omega)]
    exact ⟨⟨n + 1, by omega, by omega, (hb.trans b2).trans hb', hok.succ he hG⟩, by omega⟩
  refine ⟨fun hg => ?_, fun hg => r4f _ again (fun h => by rw [hg] at h; cases h)⟩
  refine S.fld fld_api_Version_Val one_string hX.at e.Val rfl ?_
  by_cases hv : e.Val = noB
  · rw [decide_eq_false (fun h => h hv)]
    exact r4f _ again fun _ => hv
  · rw [decide_eq_true hv]
    exact r4t _ (fun hG => hv (hG.1.gone hg))
theorem mcheck_ok {w : World} {x0 : T_api_Versions} {l : List Ver} (h : VerRd w x0.List l) {k : Int → World → Prop} (H : ∀ w', Bel w w' → k (vchk l x0.Low) w') :
    Cl Try.prog fn_mvcc_Check [T_api_Versions.v x0].toArray w (fun e w' => ∃ r0 : Int, e = .returned (.int .i64 r0) ∧ k r0 w') := by
  refine L1_mvcc_Check x0 w k ?_
  have hbig := h.big; have hcap := h.cap; have hlen := h.len
  have bad : ∀ w', Bel w w' → ¬ GoodV l x0.Low → k 2 w' := fun w' hb hn => by rw [← vchk_bad hn]; exact H w' hb
  unfold V_mvcc_Check
  refine S.boxW (cs := x0.cells) rfl fun B w1 b1 hV _ => ?_
  refine S.fld fld_api_Versions_List one_L_api_Version hV.at x0.List rfl ?_
  have r1t : ¬ GoodV l x0.Low → V_mvcc_Check_r1 k (some ⟨B, 0, none⟩) true w1 := fun hn => ⟨fun _ => bad _ b1 hn, fun h => (nomatch h)⟩
  refine ⟨fun hc => r1t (fun hg => by have := hg.len; omega), fun hc => ?_⟩
  refine S.fld fld_api_Versions_Low one_uint64 hV.at x0.Low rfl ?_
  by_cases hlow : 2305843009213693952 < x0.Low
  case pos => rw [decide_eq_true hlow]; exact r1t (fun hg => by have := hg.low; omega)
  rw [decide_eq_false hlow]
  unfold V_mvcc_Check_r1
  refine ⟨fun h => (nomatch h), fun _ => ?_⟩
  refine S.fld fld_api_Versions_List one_L_api_Version hV.at x0.List rfl ?_
  refine ⟨fun x W => ∃ n : Nat, x = (n : Int) ∧ n ≤ l.length ∧ Bel w1 W ∧ OkTo l n, fun x _ => (x0.List.len - x).toNat, ⟨0, rfl, by omega, Bel.refl _, OkTo.zero l⟩, ?_⟩
  rintro x W ⟨n, rfl, hn, hb, hok⟩
  unfold V_mvcc_Check_l2b
  refine ⟨fun hlt => ?_, fun hlt => ?_⟩
  case refine_2 =>
    have hG : GoodV l x0.Low := ⟨by omega, by omega, by rw [show l.length = n from by omega]; exact hok⟩
    rw [← vchk_good hG]; exact H W (b1.trans hb)
  obtain ⟨e, he⟩ := getV (l := l) (n := n) (by omega)
  have b01 := b1.trans hb
  refine S.idx (h.bel b01) und_L_api_Version esz_L_api_Version (by omega) (x := e) (by simpa using he) fun ad hA => ?_
  refine S.ldA agg_api_Version e rfl hA rfl ?_
  refine S.newW new_api_Version rfl agg_api_Version (cs := e.cells) rfl rfl rfl fun C w2 b2 hX _ => ?_
  have b02 := b01.trans b2
  have hV2 := (hV.bel hb).bel b2
  have badAt : ∀ w', Bel w2 w' → ¬ OkAt l n e → k 2 w' := fun w' hb hno => bad w' (b02.trans hb) fun hG => hno (hG.ok n e (by omega) he)
  have r7t : ∀ K : Int → World → Prop, ¬ OkAt l n e → V_mvcc_Check_r7 k n K true w2 := fun K hng w' hb' => ⟨fun _ => badAt _ hb' hng, fun h => (nomatch h)⟩
  have r6f : ∀ K : Int → World → Prop, ¬ OkAt l n e → V_mvcc_Check_r6 k (some ⟨B, 0, none⟩) n K (some ⟨C, 0, none⟩) false w2 := fun K hng => ⟨fun _ => r7t K hng, fun h => (nomatch h)⟩
  have r5f : ∀ K : Int → World → Prop, ¬ OkAt l n e → V_mvcc_Check_r5 k (some ⟨B, 0, none⟩) n K (some ⟨C, 0, none⟩) false w2 := fun K hng => ⟨fun h => (nomatch h), fun _ => r6f K hng⟩
  have r4f : ∀ K : Int → World → Prop, ¬ OkAt l n e → V_mvcc_Check_r4 k (some ⟨B, 0, none⟩) n K (some ⟨C, 0, none⟩) false w2 := fun K hng => ⟨fun h => (nomatch h), fun _ => r5f K hng⟩
  have r3f : ∀ K : Int → World → Prop, ¬ OkAt l n e → V_mvcc_Check_r3 k (some ⟨B, 0, none⟩) n K (some ⟨C, 0, none⟩) false w2 := fun K hng => ⟨fun h => (nomatch h), fun _ => r4f K hng⟩
  refine S.fld fld_api_Version_At one_uint64 hX.at e.At rfl ?_
  refine ⟨fun hlo => ?_, fun hc => r3f _ (fun hG => by have := hG.1.lo; omega)⟩
  refine S.fld fld_api_Version_At one_uint64 hX.at e.At rfl ?_
  by_cases hhi : e.At ≤ 2305843009213693952
  case neg => rw [decide_eq_false hhi]; exact r3f _ (fun hG => by have := hG.1.hi; omega)
  rw [decide_eq_true hhi]
  unfold V_mvcc_Check_r3
  refine ⟨fun _ => ?_, fun h => (nomatch h)⟩
  refine S.fld fld_api_Version_Gone one_bool hX.at e.Gone rfl ?_
  have r4t : ∀ K : Int → World → Prop, (∀ w', Bel w2 w' → OkAt l n e → K (IntKind.wrap .i64 ((n : Int) + 1)) w') → (e.Gone = true → e.Val = noB) → V_mvcc_Check_r4 k (some ⟨B, 0, none⟩) n K (some ⟨C, 0, none⟩) true w2 := by
    intro K hK hgone
    unfold V_mvcc_Check_r4
    refine ⟨fun _ => ?_, fun h => (nomatch h)⟩
    refine S.fld fld_api_Version_Key one_string hX.at e.Key rfl ?_
    by_cases hkl : (e.Key.size : Int) ≤ 256
    case neg => rw [decide_eq_false hkl]; exact r5f _ (fun hG => by have := hG.1.keyl; omega)
    rw [decide_eq_true hkl]
    unfold V_mvcc_Check_r5
    refine ⟨fun _ => ?_, fun h => (nomatch h)⟩
    refine S.fld fld_api_Version_Val one_string hX.at e.Val rfl ?_
    by_cases hvl : (e.Val.size : Int) ≤ 512
    case neg => rw [decide_eq_false hvl]; exact r6f _ (fun hG => by have := hG.1.vall; omega)
    rw [decide_eq_true hvl]
    have made : Made e := ⟨by omega, by omega, hgone, by omega, by omega⟩
    have r7f : OkAt l n e → V_mvcc_Check_r7 k n K false w2 := fun hG w' hb' => ⟨fun h => (nomatch h), fun _ => hK w' hb' hG⟩
    unfold V_mvcc_Check_r6
    refine ⟨fun h => (nomatch h), fun _ => ⟨fun h0 => ?_, fun h0 => r7f ⟨made, fun j y hj _ => by omega⟩⟩⟩
    obtain ⟨p, hp⟩ := getV (l := l) (n := n - 1) (by omega)
    have hp' : l[((n : Int) - 1).toNat]? = some p := by rw [show ((n : Int) - 1).toNat = n - 1 by omega]; exact hp
    have uniq : ∀ j y, n = j + 1 → l[j]? = some y → y = p := fun j y hj hy => by rw [show j = n - 1 by omega, hp] at hy; cases hy; rfl
    rw [wr64 (by omega) (by omega)]
    refine Q.fld fld_api_Versions_List one_L_api_Version hV2.at x0.List rfl ?_
    refine Q.idx (h.bel b02) und_L_api_Version esz_L_api_Version (by omega) hp' fun ad hA => ?_
    refine Q.ldA agg_api_Version p rfl hA rfl ?_
    refine Q.ldA agg_api_Version e rfl hX.at rfl ?_
    refine ⟨ordI p e, order_q p e w2, ?_⟩
    by_cases hv : vlt p e
    · have := ordI_lt.2 hv
      rw [decide_eq_false (by omega)]
      exact r7f ⟨made, fun j y hj hy => by rw [uniq j y hj hy]; exact hv⟩
    · have : ¬ ordI p e < 0 := fun h1 => hv (ordI_lt.1 h1)
      rw [decide_eq_true (by omega)]
      exact r7t K (fun hG => hv (hG.2 (n - 1) p (by omega) hp))
  have again : ∀ w', Bel w2 w' → OkAt l n e → (fun (x' : Int) (w' : World) => (∃ n : Nat, x' = (n : Int) ∧ n ≤ l.length ∧ Bel w1 w' ∧ OkTo l n) ∧ (x0.List.len - x').toNat < (x0.List.len - (n : Int)).toNat) (IntKind.wrap .i64 ((n : Int) + 1)) w' := by
    intro w' hb' hG
    rw [wr64 (by omega) (by omega)]
    exact ⟨⟨n + 1, by omega, by omega, (hb.trans b2).trans hb', hok.succ he hG⟩, by omega⟩
  unfold V_mvcc_Check_r9
  refine ⟨fun hg => r4t _ again (fun h => by rw [h] at hg; cases hg), fun hg => ?_⟩
  have hg' : e.Gone = true := by cases h : e.Gone <;> simp_all
  refine S.fld fld_api_Version_Val one_string hX.at e.Val rfl ?_
  by_cases hv : e.Val = noB
  · rw [decide_eq_true hv]
    exact r4t _ again fun _ => hv
  · rw [decide_eq_false hv]
    exact r4f _ (fun hG => hv (hG.1.gone hg'))
theorem rasked_ok {w : World} {x0 : T_api_Versions} {l : List Ver} (h : VerRd w x0.List l) (t : Int) {k : Int → World → Prop} (H : ∀ w', Bel w w' → k (vask l x0.Low t) w') :
    Cl Try.prog fn_ladingref09_asked [T_api_Versions.v x0, .int .u64 t].toArray w (fun e w' => ∃ r0 : Int, e = .returned (.int .i64 r0) ∧ k r0 w') := by
  refine L1_ladingref09_asked x0 t w k ?_
  unfold V_ladingref09_asked
  refine S.boxW (cs := x0.cells) rfl fun B w1 b1 hV _ => ?_
  refine S.ldA agg_api_Versions x0 rfl hV.at rfl ?_
  refine rcheck_ok (h.bel b1) fun w2 b2 => ?_
  have b02 := b1.trans b2
  unfold vask at H
  refine ⟨fun hc => ?_, fun hc => ?_⟩
  · rw [if_neg (by simp [hc])] at H
    refine S.fld fld_api_Versions_Low one_uint64 (hV.bel b2).at x0.Low rfl ?_
    unfold V_ladingref09_asked_r2 V_ladingref09_asked_j1
    refine ⟨fun ht => ?_, fun hf => ?_⟩
    · rw [if_pos (of_decide_eq_true ht)] at H; exact H w2 b02
    · rw [if_neg (of_decide_eq_false hf)] at H; rw [hc]; exact H w2 b02
  · rw [if_pos hc] at H
    unfold V_ladingref09_asked_r2 V_ladingref09_asked_j1
    refine ⟨fun h => (nomatch h), fun _ => ?_⟩
    rw [vchk_ne hc]; exact H w2 b02
theorem masked_ok {w : World} {x0 : T_api_Versions} {l : List Ver} (h : VerRd w x0.List l) (t : Int) {k : Int → World → Prop} (H : ∀ w', Bel w w' → k (vask l x0.Low t) w') :
    Cl Try.prog fn_mvcc_asked [T_api_Versions.v x0, .int .u64 t].toArray w (fun e w' => ∃ r0 : Int, e = .returned (.int .i64 r0) ∧ k r0 w') := by
  refine L1_mvcc_asked x0 t w k ?_
  unfold V_mvcc_asked
  refine S.boxW (cs := x0.cells) rfl fun B w1 b1 hV _ => ?_
  refine S.ldA agg_api_Versions x0 rfl hV.at rfl ?_
  refine mcheck_ok (h.bel b1) fun w2 b2 => ?_
  have b02 := b1.trans b2
  unfold vask at H
  refine ⟨fun hc => ?_, fun hc => ?_⟩
  · rw [if_neg (by simp [hc])] at H
    refine S.fld fld_api_Versions_Low one_uint64 (hV.bel b2).at x0.Low rfl ?_
    unfold V_mvcc_asked_r1
    refine ⟨fun ht => ?_, fun hf => ?_⟩
    · rw [if_pos (of_decide_eq_true ht)] at H; exact H w2 b02
    · rw [if_neg (of_decide_eq_false hf)] at H; rw [hc]; exact H w2 b02
  · rw [if_pos hc] at H
    unfold V_mvcc_asked_r1
    refine ⟨fun h => (nomatch h), fun _ => ?_⟩
    rw [vchk_ne hc]; exact H w2 b02
end Go.Proofs.Ytealcoghiaeiiaa.VG
