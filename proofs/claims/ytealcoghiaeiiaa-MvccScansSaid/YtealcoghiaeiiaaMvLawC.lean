/- MvccScans answers true at whatever it is called with; no condition. -/
import Derived.Test.YtealcoghiaeiiaaVLc
import Derived.Test.YtealcoghiaeiiaaMvFacts
set_option linter.unusedVariables false
namespace Go.Proofs.Ytealcoghiaeiiaa.VG
open Go.VB Go.VB.Srt Go.Proofs Go.RowKit

theorem scanTo_pre (l : List Ver) (fr to : ByteArray) (t : Int) (n : Nat) : ∀ d, ∃ r, scanTo l fr to t (n + d) = scanTo l fr to t n ++ r
  | 0 => ⟨[], by simp⟩
  | d + 1 => by
    obtain ⟨r, hr⟩ := scanTo_pre l fr to t n d
    exact ⟨r ++ pick l fr to t (n + d), by rw [← Nat.add_assoc, scanTo_succ, hr, List.append_assoc]⟩
theorem vscan_ok {l : List Ver} {low : Int} {fr to : ByteArray} {t : Int} (h : (vscan l low fr to t).2 = 0) : GoodV l low ∧ low ≤ t ∧ vscan l low fr to t = (scanTo l fr to t l.length, 0) := by
  unfold vscan at h ⊢
  by_cases h1 : vask l low t = 0
  · rw [if_neg (by simp [h1])]; exact ⟨(vask_zero.1 h1).1, (vask_zero.1 h1).2, rfl⟩
  · rw [if_pos h1] at h; exact absurd h h1
theorem vscan_err {l : List Ver} {low : Int} {fr to : ByteArray} {t : Int} (h : (vscan l low fr to t).2 ≠ 0) : (vscan l low fr to t).1 = [] := by
  unfold vscan at h ⊢
  by_cases h1 : vask l low t = 0
  · rw [if_neg (by simp [h1])] at h; exact absurd rfl h
  · rw [if_pos h1]
theorem scans_ok {w : World} {x0 : T_api_Versions} {l : List Ver} (h : VerRd w x0.List l) (fr to : ByteArray) (t : Int) :
    Cl Try.prog fn_ladinglaw09_MvccScans [T_api_Versions.v x0, .string fr, .string to, .int .u64 t].toArray w (fun e w' => ∃ r0 : Bool, e = .returned (.bool r0) ∧ (r0 = true ∧ Bel w w')) := by
  refine L1_ladinglaw09_MvccScans x0 fr to t w (fun b w' => b = true ∧ Bel w w') ?_
  have hlen := h.len; have hbig := h.big
  unfold V_ladinglaw09_MvccScans
  refine S.boxW (cs := x0.cells) rfl fun B4 w1 b1 hV hB4 => ?_
  refine lives_ok w1 fun w2 b2 => ?_
  refine ⟨fun h => (nomatch h), fun _ => ?_⟩
  have b02 := b1.trans b2
  replace hV := hV.bel b2
  refine S.ldA agg_api_Versions x0 rfl hV.at rfl ?_
  refine mscan_ok (h.bel b02) fr to t fun r w3 base3 _ _ hO3 b3 => ?_
  have b03 := b02.trans b3
  have hV3 := hV.bel b3
  have hr := PaiOwn.rd hO3
  have rlen := hr.len
  by_cases e1 : (vscan l x0.Low fr to t).2 = 0
  case neg =>
    refine ⟨fun _ => ⟨decide_eq_true ?_, b03⟩, fun h => absurd e1 h⟩
    rw [vscan_err e1] at rlen; simp at rlen; omega
  refine ⟨fun h => absurd e1 h, fun _ => ?_⟩
  obtain ⟨hg, hlo, g4⟩ := vscan_ok e1
  rw [g4] at hr rlen
  dsimp only at hr rlen
  have hl4 := hg.len
  refine S.fld fld_api_Versions_List one_L_api_Version hV3.at x0.List rfl ?_
  refine ⟨fun a i W => ∃ n : Nat, i = (n : Int) ∧ n ≤ l.length ∧ Bel w3 W ∧ a = ((scanTo l fr to t n).length : Int), fun _ i _ => (x0.List.len - i).toNat, ⟨0, rfl, by omega, Bel.refl _, rfl⟩, ?_⟩
  rintro a i W ⟨n, rfl, hn, hb, rfl⟩
  have b0W := b03.trans hb
  have hsl := scanTo_len l fr to t n
  unfold V_ladinglaw09_MvccScans_l1b
  refine ⟨fun hlt => ?_, fun hlt => ?_⟩
  case refine_2 =>
    obtain rfl : n = l.length := by omega
    exact ⟨decide_eq_true (by omega), b0W⟩
  obtain ⟨e, he⟩ := getV (l := l) (n := n) (by omega)
  have hsucc := scanTo_succ l fr to t n
  obtain ⟨rest, hrest⟩ := scanTo_pre l fr to t (n + 1) (l.length - (n + 1))
  rw [show n + 1 + (l.length - (n + 1)) = l.length by omega, hsucc, List.append_assoc] at hrest
  refine S.idx (h.bel b0W) und_L_api_Version esz_L_api_Version (by omega) (x := e) (by simpa using he) fun ad hA => ?_
  refine S.ldA agg_api_Version e rfl hA rfl ?_
  refine S.newW new_api_Version rfl agg_api_Version (cs := e.cells) rfl rfl rfl fun C w5 b5 hX hC => ?_
  have b05 := b0W.trans b5
  have hV5 := (hV3.bel hb).bel b5
  have j2 : ∀ (a' : Int) w6, Bel w5 w6 → a' = ((scanTo l fr to t n).length : Int) + ((pick l fr to t n).length : Int) → V_ladinglaw09_MvccScans_j2 n (fun (a' i' : Int) (w' : World) => (∃ n : Nat, i' = (n : Int) ∧ n ≤ l.length ∧ Bel w3 w' ∧ a' = ((scanTo l fr to t n).length : Int)) ∧ (x0.List.len - i').toNat < (x0.List.len - (n : Int)).toNat) a' w6 := by
    intro a' w6 b6 ha
    unfold V_ladinglaw09_MvccScans_j2
    rw [wr64 (by omega) (by omega)]
    refine ⟨⟨n + 1, by omega, by omega, (hb.trans b5).trans b6, ?_⟩, by omega⟩
    rw [hsucc, List.length_append, ha]; omega
  have skip : ∀ w6, Bel w5 w6 → pick l fr to t n = [] → V_ladinglaw09_MvccScans_j2 n (fun (a' i' : Int) (w' : World) => (∃ n : Nat, i' = (n : Int) ∧ n ≤ l.length ∧ Bel w3 w' ∧ a' = ((scanTo l fr to t n).length : Int)) ∧ (x0.List.len - i').toNat < (x0.List.len - (n : Int)).toNat) ((scanTo l fr to t n).length : Int) w6 :=
    fun w6 b6 hp => j2 _ w6 b6 (by rw [hp]; simp)
  have first : Bdry l n → V_ladinglaw09_MvccScans_r3 fr to t (fun b w' => b = true ∧ Bel w w') (some ⟨B4, 0, none⟩) r ((scanTo l fr to t n).length : Int) n (fun (a' i' : Int) (w' : World) => (∃ n : Nat, i' = (n : Int) ∧ n ≤ l.length ∧ Bel w3 w' ∧ a' = ((scanTo l fr to t n).length : Int)) ∧ (x0.List.len - i').toNat < (x0.List.len - (n : Int)).toNat) (some ⟨C, 0, none⟩) false w5 := by
    intro hbd w6 b6
    have hpk := pick_first he hbd fr to t
    refine ⟨fun h => (nomatch h), fun _ => ?_⟩
    refine S.ldA agg_api_Versions x0 rfl (hV5.bel b6).at rfl ?_
    refine S.fld fld_api_Version_Key one_string (hX.bel b6).at e.Key rfl ?_
    refine mget_ok (h.bel (b05.trans b6)) e.Key t fun w7 b7 => ?_
    rw [vget_ok hg hlo]
    refine ⟨fun h => absurd rfl h, fun _ => ?_⟩
    have b57 := b6.trans b7
    have hX7 := hX.bel b57
    -- out of the scan
    have r5t : ∀ v, pick l fr to t n = [] → V_ladinglaw09_MvccScans_r5 (fun b w' => b = true ∧ Bel w w') r ((scanTo l fr to t n).length : Int) n (fun (a' i' : Int) (w' : World) => (∃ n : Nat, i' = (n : Int) ∧ n ≤ l.length ∧ Bel w3 w' ∧ a' = ((scanTo l fr to t n).length : Int)) ∧ (x0.List.len - i').toNat < (x0.List.len - (n : Int)).toNat) (some ⟨C, 0, none⟩) v true w7 := fun v hp => ⟨fun _ => skip w7 b57 hp, fun h => (nomatch h)⟩
    have r4t : ∀ v, pick l fr to t n = [] → V_ladinglaw09_MvccScans_r4 to (fun b w' => b = true ∧ Bel w w') r ((scanTo l fr to t n).length : Int) n (fun (a' i' : Int) (w' : World) => (∃ n : Nat, i' = (n : Int) ∧ n ≤ l.length ∧ Bel w3 w' ∧ a' = ((scanTo l fr to t n).length : Int)) ∧ (x0.List.len - i').toNat < (x0.List.len - (n : Int)).toNat) (some ⟨C, 0, none⟩) v true w7 := fun v hp => ⟨fun _ => r5t v hp, fun h => (nomatch h)⟩
    cases hs : sees l e.Key t with
    | none => exact ⟨fun _ => r4t _ (by rw [hpk, hs, one_none]), fun h => (nomatch h)⟩
    | some x =>
      cases hxg : x.Gone with
      | true => exact ⟨fun _ => r4t _ (by rw [hpk, hs, one_gone hxg]), fun h => by simp [outV, hxg] at h⟩
      | false =>
        refine ⟨fun h => by simp [outV, hxg] at h, fun _ => ?_⟩
        refine S.fld fld_api_Version_Key one_string hX7.at e.Key rfl ?_
        cases hf : sLt e.Key fr with
        | true => exact r4t _ (by rw [hpk, one_out (.inl hf)])
        | false =>
          have r5f : ¬ outSpan fr to e.Key → V_ladinglaw09_MvccScans_r5 (fun b w' => b = true ∧ Bel w w') r ((scanTo l fr to t n).length : Int) n (fun (a' i' : Int) (w' : World) => (∃ n : Nat, i' = (n : Int) ∧ n ≤ l.length ∧ Bel w3 w' ∧ a' = ((scanTo l fr to t n).length : Int)) ∧ (x0.List.len - i').toNat < (x0.List.len - (n : Int)).toNat) (some ⟨C, 0, none⟩) x.Val false w7 := by
            intro hin
            have hp1 : pick l fr to t n = [⟨e.Key, x.Val⟩] := by rw [hpk, hs, one_is hin hxg]
            rw [hp1] at hrest
            have hlen1 : (scanTo l fr to t n).length < (scanTo l fr to t l.length).length := by rw [hrest]; simp
            unfold V_ladinglaw09_MvccScans_r5
            refine ⟨fun h => (nomatch h), fun _ => ⟨fun hc => absurd hc (by omega), fun _ => ?_⟩⟩
            have hat : (scanTo l fr to t l.length)[(scanTo l fr to t n).length]? = some ⟨e.Key, x.Val⟩ := by
              rw [hrest, List.getElem?_append_right (Nat.le_refl _), Nat.sub_self]; rfl
            refine Q.idx ((hr.bel hb).bel (b5.trans b57)) und_L_api_Pair esz_L_api_Pair (by omega) (x := (⟨e.Key, x.Val⟩ : Pai)) (by rw [Int.toNat_natCast]; exact hat) fun ad2 hA2 => ?_
            refine Q.ldA agg_api_Pair (⟨e.Key, x.Val⟩ : Pai) rfl hA2 rfl ?_
            refine Q.fld fld_api_Version_Key one_string hX7.at e.Key rfl ?_
            refine ⟨⟨e.Key, x.Val⟩, fun w' _ => by kernel_rfl, ?_⟩
            refine Q.neqP fun b hbb => ?_
            obtain rfl : b = false := by cases b with
              | false => rfl
              | true => exact absurd rfl (hbb.1 rfl)
            unfold V_ladinglaw09_MvccScans_r6
            intro w8 b8
            refine ⟨fun h => (nomatch h), fun _ => ?_⟩
            rw [wr64 (by omega) (by omega)]
            exact j2 _ w8 (b57.trans b8) (by rw [hp1]; simp)
          unfold V_ladinglaw09_MvccScans_r4
          refine ⟨fun h => (nomatch h), fun _ => ⟨fun hto => ?_, fun hto => r5f (fun ho => by
            rcases ho with q | q
            · rw [hf] at q; cases q
            · exact hto q.1)⟩⟩
          refine S.fld fld_api_Version_Key one_string hX7.at e.Key rfl ?_
          unfold V_ladinglaw09_MvccScans_r7
          cases htt : sLt e.Key to with
          | false => exact r5t _ (by rw [hpk, one_out (.inr ⟨hto, htt⟩)])
          | true => exact r5f (fun ho => by
              rcases ho with q | q
              · rw [hf] at q; cases q
              · rw [htt] at q; cases q.2)
  refine ⟨fun h0 => ?_, fun h0 => first (fun j x y hj => by omega)⟩
  obtain ⟨p, hp⟩ := getV (l := l) (n := n - 1) (by omega)
  rw [wr64 (by omega) (by omega)]
  refine Q.fld fld_api_Versions_List one_L_api_Version hV5.at x0.List rfl ?_
  refine Q.idx (h.bel b05) und_L_api_Version esz_L_api_Version (by omega) (x := p) (by rw [show ((n : Int) - 1).toNat = n - 1 by omega]; exact hp) fun ad hA => ?_
  refine Q.fld fld_api_Version_Key one_string hA p.Key rfl ?_
  refine Q.fld fld_api_Version_Key one_string hX.at e.Key rfl ?_
  by_cases hk : p.Key = e.Key
  · rw [decide_eq_true hk]
    intro w6 b6
    refine ⟨fun _ => skip w6 b6 ?_, fun h => (nomatch h)⟩
    have := pick_later (l := l) (j := n - 1) (x := e) (y := p) (by rw [show n - 1 + 1 = n by omega]; exact he) hp hk fr to t
    rwa [show n - 1 + 1 = n by omega] at this
  · rw [decide_eq_false hk]
    exact first (fun j x y hj hx hy => by
      rw [show j = n - 1 by omega, hp] at hx; cases hx
      rw [he] at hy; cases hy; exact hk)
end Go.Proofs.Ytealcoghiaeiiaa.VG
