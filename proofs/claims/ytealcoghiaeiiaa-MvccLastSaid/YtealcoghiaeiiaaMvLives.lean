/- The program's sample of versions is as the document says, whatever the world; no condition. -/
import Derived.Test.YtealcoghiaeiiaaVLl
import Derived.Test.YtealcoghiaeiiaaMvPutR
set_option linter.unusedVariables false
namespace Go.Proofs.Ytealcoghiaeiiaa.VG
open Go.VB Go.VB.Srt Go.Proofs Go.RowKit

theorem Q.neqP {w : World} {x y : Pai} {o1 o2 : Operand} {k : Bool → Prop} (H : ∀ b : Bool, (b = true ↔ ¬ x = y) → k b) :
    opB Try.prog Value.bool (do eqGuard .neq ty_api_Pair o1 o2 (T_api_Pair.v x) (T_api_Pair.v y); binOp .neq ty_api_Pair (T_api_Pair.v x) (T_api_Pair.v y)) w k := by
  obtain ⟨r, h1, h2⟩ := neq_api_Pair x y o1 o2
  exact ⟨r, fun w' _ => h1 w', H r h2⟩
theorem psame_ok {w : World} {x0 x1 : Sl} {l m : List Pai} (h : PaiRd w x0 l) (h' : PaiRd w x1 m) {k : Bool → World → Prop} (H : ∀ r w', (r = true ↔ l = m) → Bel w w' → k r w') :
    Cl Try.prog fn_ladingref08_Same [Sl.v x0, Sl.v x1].toArray w (fun e w' => ∃ r0 : Bool, e = .returned (.bool r0) ∧ k r0 w') := by
  refine L1_ladingref08_Same x0 x1 w k ?_
  have hbig := h.big; have hcap := h.cap; have hlen := h.len; have hlen' := h'.len
  unfold V_ladingref08_Same
  refine ⟨fun hc => H false w ⟨fun h => (nomatch h), fun h => ?_⟩ (Bel.refl _), fun hc => ?_⟩
  · subst h; omega
  have hc' : (x0.len : Int) = x1.len := Classical.not_not.1 hc
  refine ⟨fun x w1 => ∃ n : Nat, x = (n : Int) ∧ n ≤ l.length ∧ Bel w w1 ∧ l.take n = m.take n, fun x _ => (x0.len - x).toNat, ⟨0, rfl, by omega, Bel.refl _, rfl⟩, ?_⟩
  rintro x w1 ⟨n, rfl, hn, hb, hq⟩
  unfold V_ladingref08_Same_l1b
  refine ⟨fun hc => ?_, fun hc => ?_⟩
  · obtain ⟨e, he⟩ : ∃ e, l[n]? = some e := ⟨l[n]'(by omega), by simp⟩
    obtain ⟨f, hf⟩ : ∃ f, m[n]? = some f := ⟨m[n]'(by omega), by simp⟩
    refine Q.idx (h.bel hb) und_L_api_Pair esz_L_api_Pair (by omega) (x := e) (by simpa using he) fun ad hA => ?_
    refine Q.ldA agg_api_Pair e rfl hA rfl ?_
    refine Q.idx (h'.bel hb) und_L_api_Pair esz_L_api_Pair (by omega) (x := f) (by simpa using hf) fun ad' hA' => ?_
    refine Q.ldA agg_api_Pair f rfl hA' rfl ?_
    refine Q.neqP fun b hbb => ?_
    intro w2 hb2
    refine ⟨fun ht => H false w2 ⟨fun h => (nomatch h), fun h => ?_⟩ (hb.trans hb2), fun hf0 => ?_⟩
    · subst h; rw [he] at hf; exact absurd (Option.some.inj hf) (hbb.1 ht)
    · have hef : e = f := Classical.not_not.1 fun h => by rw [hbb.2 h] at hf0; cases hf0
      subst hef
      rw [wr64 (by omega) (by omega)]
      exact ⟨⟨n + 1, by omega, by omega, hb.trans hb2, take_eq_succ hq he hf⟩, by dsimp only; omega⟩
  · obtain rfl : n = l.length := by omega
    refine H true w1 ⟨fun _ => ?_, fun _ => rfl⟩ hb
    rw [List.take_length, List.take_of_length_le (by omega)] at hq
    exact hq
abbrev tA : ByteArray := ByteArray.mk #[97]
abbrev tB : ByteArray := ByteArray.mk #[98]
abbrev t1 : ByteArray := ByteArray.mk #[49]
abbrev t2 : ByteArray := ByteArray.mk #[50]
abbrev wA : List Wri := [⟨tA, t1, false⟩]
abbrev wB : List Wri := [⟨tA, noB, true⟩, ⟨tB, t2, false⟩]
abbrev vA : List Ver := [⟨tA, 1, t1, false⟩]
abbrev vB : List Ver := [⟨tA, 1, t1, false⟩, ⟨tA, 5, noB, true⟩, ⟨tB, 5, t2, false⟩]
abbrev vC : List Ver := [⟨tB, 5, t2, false⟩]
theorem sAB : sLt tA tB = true := by rw [sLt_iff]; decide
theorem sAA : sLt tA tA = false := by cases h : sLt tA tA with
  | false => rfl
  | true => exact absurd h (sLt_irr _)
theorem sBA : sLt tB tA = false := by cases h : sLt tB tA with
  | false => rfl
  | true => exact absurd h (sLt_asy sAB)
theorem goodA : GoodV vA 0 := good_of (by decide) (by decide) (by intro x hx; simp at hx; subst hx; exact ⟨by decide, by decide, fun h => (nomatch h), by decide, by decide⟩) (by simp)
theorem goodB : GoodV vB 0 := good_of (by decide) (by decide) (by intro x hx; simp at hx; rcases hx with rfl | rfl | rfl <;> exact ⟨by decide, by decide, by decide, by decide, by decide⟩)
  (by
    rw [List.pairwise_cons, List.pairwise_cons]
    refine ⟨fun y hy => ?_, fun y hy => ?_, by simp⟩
    · simp at hy; rcases hy with rfl | rfl
      · exact .inr ⟨rfl, by decide⟩
      · exact .inl sAB
    · simp at hy; subst hy; exact .inl sAB)
theorem goodC : GoodV vC 5 := good_of (by decide) (by decide) (by intro x hx; simp at hx; subst hx; exact ⟨by decide, by decide, fun h => (nomatch h), by decide, by decide⟩) (by simp)
theorem putA : vput [] 0 wA 1 = (vA, 0, 0) := by
  have h : pwhy [] 0 wA 1 = 0 := pwhy_zero.2 ⟨good_nil (by decide), wwrong_zero.2 ⟨by decide, by intro w hw; simp at hw; subst hw; rintro (h | h) <;> exact absurd h (by decide), by simp [wkeys]⟩, by decide, by decide, by decide, by simp, by decide⟩
  unfold vput; rw [if_neg (by simp [h])]; rfl
theorem putB : vput vA 0 wB 5 = (vB, 0, 0) := by
  have h : pwhy vA 0 wB 5 = 0 := pwhy_zero.2 ⟨goodA, wwrong_zero.2 ⟨by decide, by intro w hw; simp at hw; rcases hw with rfl | rfl <;> (rintro (h | h) <;> exact absurd h (by decide)), by simp [wkeys]⟩, by decide, by decide, by decide, by intro x hx; simp at hx; subst hx; decide, by decide⟩
  unfold vput; rw [if_neg (by simp [h])]
  have : putL vA 5 wB = vB := by
    show ins (mk 5 ⟨tB, t2, false⟩) (ins (mk 5 ⟨tA, noB, true⟩) vA) = vB
    simp [ins, mk, sAA, sBA]
  rw [this]
theorem getB : vget vB 0 tA 4 = (t1, true, 0) := by
  have h : vask vB 0 4 = 0 := vask_zero.2 ⟨goodB, by decide⟩
  unfold vget; rw [if_neg (by simp [h])]; rfl
theorem scanB : vscan vB 0 noB noB 5 = ([⟨tB, t2⟩], 0) := by
  have h : vask vB 0 5 = 0 := vask_zero.2 ⟨goodB, by decide⟩
  unfold vscan; rw [if_neg (by simp [h])]
  have h0 : ∀ x, ¬ outSpan noB noB x := fun x hx => by
    rcases hx with h1 | h1
    · rw [sLt_iff] at h1; exact absurd h1 (by simp [noB])
    · exact h1.1 rfl
  have p0 : pick vB noB noB 5 0 = [] := by
    rw [pick_first (l := vB) (x := ⟨tA, 1, t1, false⟩) rfl (Bdry.zero _)]
    exact one_gone (x := ⟨tA, 5, noB, true⟩) rfl
  have p1 : pick vB noB noB 5 1 = [] := pick_later (l := vB) (j := 0) (x := ⟨tA, 5, noB, true⟩) (y := ⟨tA, 1, t1, false⟩) rfl rfl rfl noB noB 5
  have p2 : pick vB noB noB 5 2 = [⟨tB, t2⟩] := by
    rw [pick_first (l := vB) (x := ⟨tB, 5, t2, false⟩) rfl (fun j x y hj hx hy => by
      obtain rfl : j = 1 := by omega
      simp at hx hy; subst hx; subst hy; exact fun h => absurd h (by decide))]
    exact one_is (x := ⟨tB, 5, t2, false⟩) (h0 _) rfl
  have : scanTo vB noB noB 5 vB.length = [⟨tB, t2⟩] := by
    show scanTo vB noB noB 5 3 = _
    rw [scanTo_succ, scanTo_succ, scanTo_succ, p0, p1, p2]; rfl
  rw [this]
theorem sweepB : vsweep vB 0 5 = (vC, 5, 0) := by
  unfold vsweep
  rw [if_neg (by simp [vchk_good goodB]), if_neg (by decide), if_neg (by decide)]
  have k1 : keepOne 5 (⟨tA, 1, t1, false⟩ : Ver) (some ⟨tA, 5, noB, true⟩) = [] := keepOne_later rfl (by decide)
  have k2 : keepOne 5 (⟨tA, 5, noB, true⟩ : Ver) (some ⟨tB, 5, t2, false⟩) = [] := keepOne_gone ⟨rfl, by decide⟩
  have k3 : keepOne 5 (⟨tB, 5, t2, false⟩ : Ver) none = [⟨tB, 5, t2, false⟩] := keepOne_is (fun y h => (nomatch h)) (fun h => (nomatch h.1))
  have : swp 5 vB = vC := by
    show keepOne 5 (⟨tA, 1, t1, false⟩ : Ver) (some ⟨tA, 5, noB, true⟩) ++ (keepOne 5 (⟨tA, 5, noB, true⟩ : Ver) (some ⟨tB, 5, t2, false⟩) ++ (keepOne 5 (⟨tB, 5, t2, false⟩ : Ver) none ++ [])) = _
    rw [k1, k2, k3]; rfl
  rw [this]
theorem getC : vget vC 5 tA 4 = (noB, false, 9) := by
  have h : vask vC 5 4 = 9 := by unfold vask; rw [if_neg (by simp [vchk_good goodC]), if_pos (by decide)]
  unfold vget; rw [h]; rfl
theorem lives_ok (w : World) {k : Bool → World → Prop} (H : ∀ w', Bel w w' → k true w') : Cl Try.prog fn_ladinglaw09_lives [].toArray w (fun e w' => ∃ r0 : Bool, e = .returned (.bool r0) ∧ k r0 w') := by
  refine L1_ladinglaw09_lives w k ?_
  unfold V_ladinglaw09_lives
  refine ⟨zeroVs, w, by kernel_rfl, ?_⟩
  refine ⟨⟨tA, t1, false⟩, w, by kernel_rfl, ?_⟩
  have hl1 := Rd.lit (c := T_api_Write.cells) (n := 3) (fun _ => rfl) wA (by decide) w ty_api_Write
  have b1 : Bel w (w.alloc (.cells (wA.flatMap T_api_Write.cells).toArray ty_api_Write)) := Bel.alloc _ _
  refine ⟨⟨some ⟨w.heap.size, 0, none⟩, 1, 1⟩, (w.alloc (.cells (wA.flatMap T_api_Write.cells).toArray ty_api_Write)), by kernel_rfl, ?_⟩
  generalize (w.alloc (.cells (wA.flatMap T_api_Write.cells).toArray ty_api_Write)) = w1 at hl1 b1 ⊢
  refine mput_ok (x0 := zeroVs) (l := []) (Rd.nil _ _ _) hl1 1 fun r2 w2 base2 _ hO2 b2 => ?_
  rw [show zeroVs.Low = 0 from rfl, putA] at hO2 ⊢
  dsimp only at hO2 ⊢
  have b02 := b1.trans b2
  refine S.newW new_api_Versions rfl agg_api_Versions (cs := (⟨r2, 0⟩ : T_api_Versions).cells) rfl rfl rfl fun B1 w3 b3 hB1 hB1w => ?_
  have b03 := b02.trans b3
  refine S.ldA agg_api_Versions (⟨r2, 0⟩ : T_api_Versions) rfl hB1.at rfl ?_
  refine ⟨⟨tA, noB, true⟩, w3, by kernel_rfl, ?_⟩
  refine ⟨⟨tB, t2, false⟩, w3, by kernel_rfl, ?_⟩
  have hl2 := Rd.lit (c := T_api_Write.cells) (n := 3) (fun _ => rfl) wB (by decide) w3 ty_api_Write
  have b4 : Bel w3 (w3.alloc (.cells (wB.flatMap T_api_Write.cells).toArray ty_api_Write)) := Bel.alloc _ _
  refine ⟨⟨some ⟨w3.heap.size, 0, none⟩, 2, 2⟩, (w3.alloc (.cells (wB.flatMap T_api_Write.cells).toArray ty_api_Write)), by kernel_rfl, ?_⟩
  generalize (w3.alloc (.cells (wB.flatMap T_api_Write.cells).toArray ty_api_Write)) = w4 at hl2 b4 ⊢
  have hO4 := (hO2.bel b3).bel b4
  refine mput_ok (x0 := (⟨r2, 0⟩ : T_api_Versions)) (VerOwn.rd hO4) hl2 5 fun r5 w5 base5 hb5 hO5 b5 => ?_
  rw [putB] at hO5 ⊢
  dsimp only at hO5 ⊢
  have hB15 := (hB1.bel b4).bel b5
  refine S.stA agg_api_Versions hB15 rfl rfl rfl fun w6 hB16 hg6 => ?_
  have b06 : Bel w w6 := ((b03.trans b4).trans b5).grown hg6 fun r hr => by cases hr; have := b02.le; omega
  have hO6 : VerRd w6 r5 vB := VerOwn.rd (hO5.kept hg6 (.inr (OwnS.ne_row hO5 hB15 (by decide))))
  refine S.ldA agg_api_Versions (⟨r5, 0⟩ : T_api_Versions) rfl hB16.at rfl ?_
  refine mget_ok (x0 := (⟨r5, 0⟩ : T_api_Versions)) hO6 tA 4 fun w7 b7 => ?_
  rw [getB]
  refine S.ldA agg_api_Versions (⟨r5, 0⟩ : T_api_Versions) rfl (hB16.bel b7).at rfl ?_
  refine mscan_ok (x0 := (⟨r5, 0⟩ : T_api_Versions)) (hO6.bel b7) noB noB 5 fun r8 w8 base8 _ _ hO8 b8 => ?_
  rw [scanB] at hO8 ⊢
  dsimp only at hO8 ⊢
  have b78 := b7.trans b8
  refine S.ldA agg_api_Versions (⟨r5, 0⟩ : T_api_Versions) rfl (hB16.bel b78).at rfl ?_
  refine msweep_ok (x0 := (⟨r5, 0⟩ : T_api_Versions)) (hO6.bel b78) 5 fun r9 w9 base9 _ hO9 b9 => ?_
  rw [sweepB] at hO9 ⊢
  dsimp only at hO9 ⊢
  have b69 := b78.trans b9
  refine S.newW new_api_Versions rfl agg_api_Versions (cs := (⟨r9, 5⟩ : T_api_Versions).cells) rfl rfl rfl fun B9 w10 b10 hB9 hB9w => ?_
  refine S.ldA agg_api_Versions (⟨r9, 5⟩ : T_api_Versions) rfl hB9.at rfl ?_
  refine mget_ok (x0 := (⟨r9, 5⟩ : T_api_Versions)) (VerOwn.rd (hO9.bel b10)) tA 4 fun w11 b11 => ?_
  rw [getC]
  have b0 : Bel w w11 := ((b06.trans b69).trans b10).trans b11
  have hP : PaiRd w11 r8 [⟨tB, t2⟩] := (((PaiOwn.rd hO8).bel b9).bel b10).bel b11
  refine ⟨fun _ => ?_, fun h => absurd rfl h⟩
  unfold V_ladinglaw09_lives_r1
  refine ⟨fun _ => ?_, fun h => (nomatch h)⟩
  unfold V_ladinglaw09_lives_r2
  refine ⟨fun _ => ?_, fun h => (nomatch h)⟩
  unfold V_ladinglaw09_lives_r3
  refine ⟨fun _ => ?_, fun h => (nomatch h)⟩
  unfold V_ladinglaw09_lives_r4
  refine ⟨fun _ => ?_, fun h => (nomatch h)⟩
  refine ⟨⟨tB, t2⟩, w11, by kernel_rfl, ?_⟩
  have hl3 := Rd.lit (c := T_api_Pair.cells) (n := 2) (fun _ => rfl) [(⟨tB, t2⟩ : Pai)] (by decide) w11 ty_api_Pair
  have b12 : Bel w11 (w11.alloc (.cells ([(⟨tB, t2⟩ : Pai)].flatMap T_api_Pair.cells).toArray ty_api_Pair)) := Bel.alloc _ _
  refine ⟨⟨some ⟨w11.heap.size, 0, none⟩, 1, 1⟩, (w11.alloc (.cells ([(⟨tB, t2⟩ : Pai)].flatMap T_api_Pair.cells).toArray ty_api_Pair)), by kernel_rfl, ?_⟩
  generalize (w11.alloc (.cells ([(⟨tB, t2⟩ : Pai)].flatMap T_api_Pair.cells).toArray ty_api_Pair)) = w12 at hl3 b12 ⊢
  refine psame_ok (hP.bel b12) hl3 fun b w13 hb b13 => ?_
  obtain rfl : b = true := hb.2 rfl
  unfold V_ladinglaw09_lives_r5
  refine ⟨fun _ => ?_, fun h => (nomatch h)⟩
  unfold V_ladinglaw09_lives_r6
  refine ⟨fun _ => ?_, fun h => (nomatch h)⟩
  refine S.fld fld_api_Versions_List one_L_api_Version ((hB9.bel b11).bel (b12.trans b13)).at r9 rfl ?_
  have hl9 : (r9.len : Int) = 1 := by have := hO9.len; simp at this; omega
  rw [decide_eq_true hl9]
  unfold V_ladinglaw09_lives_r7
  refine ⟨fun _ => ?_, fun h => (nomatch h)⟩
  unfold V_ladinglaw09_lives_r8
  refine ⟨fun _ => ?_, fun h => (nomatch h)⟩
  unfold V_ladinglaw09_lives_r9
  exact H w13 (b0.trans (b12.trans b13))
end Go.Proofs.Ytealcoghiaeiiaa.VG
