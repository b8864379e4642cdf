/- Put, the document's; no condition. -/
import Derived.Test.YtealcoghiaeiiaaMvPutM
set_option linter.unusedVariables false
namespace Go.Proofs.Ytealcoghiaeiiaa.VG
open Go.VB Go.VB.Srt Go.Proofs Go.RowKit

theorem rwrong_ok {w : World} {x : Sl} {m : List Wri} (hd : WriRd w x m) {k : Int → World → Prop} (H : ∀ w', Bel w w' → k (wwrong m) w') :
    Cl Try.prog fn_ladingref08_Wrong [Sl.v x].toArray w (fun e w' => ∃ r0 : Int, e = .returned (.int .i64 r0) ∧ k r0 w') := by
  have dbig := hd.big; have dcap := hd.cap; have dlen := hd.len
  refine L1_ladingref08_Wrong x w k ?_
  unfold V_ladingref08_Wrong
  unfold wwrong at H
  refine ⟨fun hc => ?_, fun hc => ?_⟩
  · rw [if_pos (by omega)] at H; exact H w (Bel.refl _)
  rw [if_neg (by omega)] at H
  refine ⟨fun i W => ∃ n : Nat, i = (n : Int) ∧ n ≤ m.length ∧ Bel w W ∧ ∀ d ∈ m.take n, ¬ TooLong d, fun i _ => (x.len - i).toNat, ⟨0, rfl, by omega, Bel.refl _, by simp⟩, ?_⟩
  rintro i W ⟨n, rfl, hn, hb, hno⟩
  unfold V_ladingref08_Wrong_l1b
  refine ⟨fun hlt => ?_, fun hlt => ?_⟩
  · obtain ⟨d, hdn⟩ := getW (l := m) (n := n) (by omega)
    refine S.idx (hd.bel hb) und_L_api_Write esz_L_api_Write (by omega) (x := d) (by simpa using hdn) fun ad hA => ?_
    refine S.ldA agg_api_Write d rfl hA rfl ?_
    refine S.newW new_api_Write rfl agg_api_Write (cs := d.cells) rfl rfl rfl fun C w3 b3 hX hC => ?_
    refine S.fld fld_api_Write_Key one_string hX.at d.Key rfl ?_
    have b03 := hb.trans b3
    have r2t : ∀ K : Int → World → Prop, TooLong d → V_ladingref08_Wrong_r2 k n K true w3 := fun K hl => ⟨fun _ => by rw [if_pos ⟨d, List.mem_of_getElem? hdn, hl⟩] at H; exact H w3 b03, fun h => (nomatch h)⟩
    refine ⟨fun hk => r2t _ (.inl (by omega)), fun hk => ?_⟩
    refine S.fld fld_api_Write_Val one_string hX.at d.Val rfl ?_
    by_cases hv : 512 < (d.Val.size : Int)
    · rw [decide_eq_true hv]; exact r2t _ (.inr (by omega))
    · rw [decide_eq_false hv]
      refine ⟨fun h => (nomatch h), fun _ => ?_⟩
      rw [wr64 (by omega) (by omega)]
      refine ⟨⟨n + 1, by omega, by omega, b03, fun e he => ?_⟩, by dsimp only; omega⟩
      rw [take_one hdn] at he
      rcases List.mem_append.1 he with h2 | h2
      · exact hno e h2
      · simp at h2; subst h2; exact fun h3 => by rcases h3 with h3 | h3 <;> omega
  · obtain rfl : n = m.length := by omega
    rw [List.take_length] at hno
    rw [if_neg (fun ⟨d, h1, h2⟩ => hno d h1 h2)] at H
    refine ⟨fun i W' => ∃ n : Nat, i = (n : Int) ∧ n ≤ m.length ∧ Bel w W' ∧ (wkeys (m.take n)).Nodup, fun i _ => (x.len - i).toNat, ⟨0, rfl, by omega, hb, by simp [wkeys]⟩, ?_⟩
    rintro i W' ⟨n, rfl, hn', hb', hnd⟩
    unfold V_ladingref08_Wrong_l3b
    refine ⟨fun hlt' => ?_, fun hlt' => ?_⟩
    case refine_2 =>
      obtain rfl : n = m.length := by omega
      rw [List.take_length] at hnd
      rw [if_neg (by simp [hnd])] at H
      exact H W' hb'
    obtain ⟨d, hdn⟩ := getW (l := m) (n := n) (by omega)
    have hwk := wkeys_take hdn
    refine S.idx (hd.bel hb') und_L_api_Write esz_L_api_Write (by omega) (x := d) (by simpa using hdn) fun ad hA => ?_
    refine S.ldA agg_api_Write d rfl hA rfl ?_
    refine S.newW new_api_Write rfl agg_api_Write (cs := d.cells) rfl rfl rfl fun C w3 b3 hX hC => ?_
    have b03 := hb'.trans b3
    refine ⟨_, _, run_upto und_L_api_Write esz_L_api_Write (s := x) (h := n) (by omega), ?_⟩
    have hcut := (hd.bel b03).sub (l := 0) (h := n) (by omega) (by omega)
    rw [List.drop_zero, Nat.sub_zero] at hcut
    have hcl := hcut.len
    rw [List.length_take] at hcl
    generalize (x.sub 0 n 3) = y at hcut hcl ⊢
    refine ⟨fun j W2 => ∃ q : Nat, j = (q : Int) ∧ q ≤ n ∧ Bel w3 W2 ∧ d.Key ∉ wkeys (m.take q), fun j _ => (y.len - j).toNat, ⟨0, rfl, by omega, Bel.refl _, by simp [wkeys]⟩, ?_⟩
    rintro j W2 ⟨q, rfl, hq, hb2, hout⟩
    have b02 := b03.trans hb2
    unfold V_ladingref08_Wrong_l4b
    refine ⟨fun hlt2 => ?_, fun hlt2 => ?_⟩
    · obtain ⟨e, he⟩ := getW (l := m) (n := q) (by omega)
      refine S.idx (hcut.bel hb2) und_L_api_Write esz_L_api_Write (by omega) (x := e) (by rw [Int.toNat_natCast, List.getElem?_take_of_lt (by omega)]; exact he) fun ad2 hA2 => ?_
      refine S.ldA agg_api_Write e rfl hA2 rfl ?_
      refine S.newW new_api_Write rfl agg_api_Write (cs := e.cells) rfl rfl rfl fun C2 w4 b4 hX2 hC2 => ?_
      refine S.fld fld_api_Write_Key one_string hX2.at e.Key rfl ?_
      refine S.fld fld_api_Write_Key one_string ((hX.bel hb2).bel b4).at d.Key rfl ?_
      refine ⟨fun heq => ?_, fun hne => ?_⟩
      · rw [if_pos (nodup_part (n + 1) (by
          rw [hwk, nodup_snoc]
          rintro ⟨_, h2⟩
          refine h2 (List.mem_map.2 ⟨e, List.mem_of_getElem? (i := q) (by rw [List.getElem?_take_of_lt (by omega)]; exact he), heq⟩)))] at H
        exact H w4 (b02.trans b4)
      · rw [wr64 (by omega) (by omega)]
        refine ⟨⟨q + 1, by omega, by omega, hb2.trans b4, ?_⟩, by dsimp only; omega⟩
        rw [wkeys_take he]
        intro h2
        rcases List.mem_append.1 h2 with h2 | h2
        · exact hout h2
        · simp at h2; exact hne h2.symm
    · obtain rfl : q = n := by omega
      rw [wr64 (by omega) (by omega)]
      exact ⟨⟨q + 1, by omega, by omega, b02, by rw [hwk, nodup_snoc]; exact ⟨hnd, hout⟩⟩, by dsimp only; omega⟩
theorem with_ok {w : World} {s : Sl} {l : List Ver} (h : VerRd w s l) (x : Ver) (room : l.length + 1 ≤ 2932031007402) {k : Sl → World → Prop} (H : ∀ r w' base, VerOwn base w' r (ins x l) → Bel w w' → k r w') :
    Cl Try.prog fn_ladingref09_with [Sl.v s, T_api_Version.v x].toArray w (fun e w' => ∃ r0 : Sl, e = .returned (Sl.v r0) ∧ k r0 w') := by
  refine L1_ladingref09_with s x w k ?_
  have hbig := h.big; have hcap := h.cap; have hlen := h.len
  unfold V_ladingref09_with
  refine S.boxW (cs := x.cells) rfl fun B w1 b1 hX _ => ?_
  refine ⟨fun i W => ∃ n : Nat, i = (n : Int) ∧ n ≤ l.length ∧ Bel w1 W ∧ ∀ j y, j < n → l[j]? = some y → ¬ sLt x.Key y.Key = true, fun i _ => (s.len - i).toNat, ⟨0, rfl, by omega, Bel.refl _, fun j y hj => by omega⟩, ?_⟩
  rintro i W ⟨n, rfl, hn, hb, hall⟩
  have b0W := b1.trans hb
  have stop : ∀ K : Int → World → Prop, (∀ y, l[n]? = some y → sLt x.Key y.Key = true) → V_ladingref09_with_r2 s k (some ⟨B, 0, none⟩) n K false W := by
    intro K hend w2 b2
    have b02 := b0W.trans b2
    have hins := ins_eq l n hn hall hend
    refine ⟨fun h => (nomatch h), fun _ => ?_⟩
    refine ⟨_, _, bs0_L_api_Version w2, ?_⟩
    have b3 := Bel.alloc w2 (.cells #[] ty_api_Version)
    refine ⟨_, _, run_upto und_L_api_Version esz_L_api_Version (s := s) (h := n) (by omega), ?_⟩
    have hc1 := ((h.bel b02).bel b3).sub (l := 0) (h := n) (by omega) (by omega)
    rw [List.drop_zero, Nat.sub_zero] at hc1
    refine ver_app (w0 := w2) (OwnS.lit0 (Nat.le_refl _)) hc1 b3 (Nat.le_refl _) (by rw [size_alloc']; omega) (by simp [List.length_take]; omega) fun r1 w4 hO1 b4 _ => ?_
    rw [List.nil_append] at hO1
    intro w5 b5
    have b25 := b4.trans b5
    refine ⟨_, fun W' => run_from und_L_api_Version esz_L_api_Version (s := s) (l := n) (by omega), ?_⟩
    refine S.ldA agg_api_Version x rfl (((hX.bel hb).bel b2).bel b25).at rfl ?_
    refine ver_app1 (w0 := w2) (hO1.bel b5) b25 (Nat.le_refl _) b25.le (by rw [List.length_take]; omega) fun r2 w6 hO2 b6 _ => ?_
    have hc2 := ((h.bel b02).bel b6).sub (l := n) (h := s.len) (by omega) (by omega)
    rw [List.take_of_length_le (by rw [List.length_drop]; omega)] at hc2
    refine ver_app (w0 := w2) hO2 hc2 b6 (Nat.le_refl _) b6.le (by simp [List.length_take]; omega) fun r3 w7 hO3 b7 _ => ?_
    exact H r3 w7 _ (by rw [hins]; exact hO3) (b02.trans b7)
  unfold V_ladingref09_with_l1b
  refine ⟨fun hlt => ?_, fun hlt => stop _ fun y hy => by have := (List.getElem?_eq_some_iff.1 hy).1; omega⟩
  obtain ⟨e, he⟩ := getV (l := l) (n := n) (by omega)
  refine Q.idx (h.bel b0W) und_L_api_Version esz_L_api_Version (by omega) (x := e) (by simpa using he) fun ad hA => ?_
  refine Q.fld fld_api_Version_Key one_string hA e.Key rfl ?_
  refine Q.fld fld_api_Version_Key one_string (hX.bel hb).at x.Key rfl ?_
  rw [sLe_eq]
  cases hlt2 : sLt x.Key e.Key with
  | true => exact stop _ fun y hy => by rw [he] at hy; cases hy; exact hlt2
  | false =>
    intro w2 b2
    refine ⟨fun _ => ?_, fun h => (nomatch h)⟩
    rw [wr64 (by omega) (by omega)]
    refine ⟨⟨n + 1, by omega, by omega, hb.trans b2, fun j y hj hy => ?_⟩, by dsimp only; omega⟩
    rcases Nat.lt_or_ge j n with h1 | h1
    · exact hall j y h1 hy
    · obtain rfl : j = n := by omega
      rw [he] at hy; cases hy; rw [hlt2]; decide
theorem rput_rest {w u : World} {x0 : T_api_Versions} {x1 : Sl} {l : List Ver} {m : List Wri} {t : Int} {B3 B6 : Nat} (h : VerRd w x0.List l) (hm : WriRd w x1 m) (hbu : Bel w u) (hV : Row u B3 x0.cells ty_api_Versions) (h6 : Row u B6 zero_api_Versions ty_api_Versions) (hB6 : w.heap.size ≤ B6)
    {k : T_api_Versions → Int → World → Prop} (H : ∀ r w', VerRd w' r (vput l x0.Low m t).1 → Bel w w' → k ⟨r, (vput l x0.Low m t).2.1⟩ (vput l x0.Low m t).2.2 w') :
    V_ladingref09_Put_j7 x1 t k (some ⟨B3, 0, none⟩) (some ⟨B6, 0, none⟩) (pwhy l x0.Low m t) u := by
  have hbig := h.big; have hcap := h.cap; have hlen := h.len
  have dbig := hm.big; have dcap := hm.cap; have dlen := hm.len
  have lt6 := h6.lt
  unfold vput at H
  unfold V_ladingref09_Put_j7
  refine ⟨fun hne => ?_, fun hz => ?_⟩
  · rw [if_pos hne] at H
    refine ⟨zeroVs, u, by kernel_rfl, ?_⟩
    exact ret_ok h6 rfl fun W' hg => H Sl.none W' (Rd.nil _ _ _) (hbu.grown hg fun r hr => by cases hr; omega)
  rw [if_neg hz] at H
  obtain ⟨g1, g2, g3, g4, g5, g6, g7⟩ := pwhy_zero.1 (Classical.not_not.1 hz)
  refine S.ldA agg_api_Versions x0 rfl hV.at rfl ?_
  refine copy_ok (h.bel hbu) (by omega) fun r w1 base hba hba' hO b1 => ?_
  refine S.newW new_api_Versions rfl agg_api_Versions (cs := (⟨r, x0.Low⟩ : T_api_Versions).cells) rfl rfl rfl fun B w2 b2 hR hB => ?_
  have b12 := b1.trans b2
  have c1 := b1.le
  refine ⟨fun i W => ∃ (n : Nat) (sl : Sl) (base : Nat), i = (n : Int) ∧ n ≤ m.length ∧ Row W B [Sl.v sl, .int .u64 x0.Low] ty_api_Versions ∧ VerOwn base W sl (putL l t (m.take n)) ∧ Bel w1 W, fun i _ => (x1.len - i).toNat, ⟨0, r, base, rfl, by omega, hR, hO.bel b2, b2⟩, ?_⟩
  rintro i W ⟨n, sl, base', rfl, hn, hRW, hO', hb'⟩
  have b0W := (hbu.trans b1).trans hb'
  have hpl := putL_len t (m.take n) l
  rw [List.length_take] at hpl
  unfold V_ladingref09_Put_l8b
  refine ⟨fun hlt => ?_, fun hlt => ?_⟩
  · obtain ⟨d, hdn⟩ := getW (l := m) (n := n) (by omega)
    have hmk : putL l t (m.take (n + 1)) = ins (mk t d) (putL l t (m.take n)) := by rw [take_one hdn]; unfold putL; rw [List.foldl_append]; rfl
    refine S.idx (hm.bel b0W) und_L_api_Write esz_L_api_Write (by omega) (x := d) (by simpa using hdn) fun ad hA => ?_
    refine S.ldA agg_api_Write d rfl hA rfl ?_
    refine S.newW new_api_Write rfl agg_api_Write (cs := d.cells) rfl rfl rfl fun C w3 b3 hX hC => ?_
    refine S.fld fld_api_Write_Key one_string hX.at d.Key rfl ?_
    refine S.fld fld_api_Write_Val one_string hX.at d.Val rfl ?_
    refine S.fld fld_api_Write_Gone one_bool hX.at d.Gone rfl ?_
    refine ⟨⟨d.Key, t, d.Val, d.Gone⟩, w3, by kernel_rfl, ?_⟩
    refine S.newW new_api_Version rfl agg_api_Version (cs := (⟨d.Key, t, d.Val, d.Gone⟩ : Ver).cells) rfl rfl rfl fun C2 w4 b4 hY hC2 => ?_
    have b34 := b3.trans b4
    have b3le := b3.le; have hb'le := hb'.le
    refine S.fld fld_api_Write_Gone one_bool (hX.bel b4).at d.Gone rfl ?_
    have j9 : ∀ w5, Row w5 C2 (mk t d).cells ty_api_Version → Row w5 B [Sl.v sl, .int .u64 x0.Low] ty_api_Versions → VerOwn base' w5 sl (putL l t (m.take n)) → Bel w1 w5 →
        V_ladingref09_Put_j9 (some ⟨B, 0, none⟩) n (fun (i' : Int) (w' : World) => (∃ (n : Nat) (sl : Sl) (base : Nat), i' = (n : Int) ∧ n ≤ m.length ∧ Row w' B [Sl.v sl, .int .u64 x0.Low] ty_api_Versions ∧ VerOwn base w' sl (putL l t (m.take n)) ∧ Bel w1 w') ∧ (x1.len - i').toNat < (x1.len - (n : Int)).toNat) (some ⟨C2, 0, none⟩) w5 := by
      intro w5 r1 r2 r3 r4
      unfold V_ladingref09_Put_j9
      refine S.fld fld_api_Versions_List one_L_api_Version r2.at sl rfl ?_
      refine S.ldA agg_api_Version (mk t d) rfl r1.at rfl ?_
      refine with_ok (VerOwn.rd r3) (mk t d) (by omega) fun s' w6 base2 q1 q2 => ?_
      refine ⟨_, _, fld_api_Versions_List _ w6, ?_⟩
      have r26 := r2.bel q2
      refine S.st1 one_L_api_Version (off := 0) r26 rfl (by simp) rfl fun w7 h7 g7 => ?_
      rw [wr64 (by omega) (by omega)]
      exact ⟨⟨n + 1, s', base2, by omega, by omega, by simpa using h7, by rw [hmk]; exact q1.kept g7 (.inr (OwnS.ne_row q1 r26 (by decide))), (r4.trans q2).grown g7 fun r hr => by cases hr; omega⟩, by omega⟩
    refine ⟨fun hg => ?_, fun hg => ?_⟩
    · refine ⟨_, _, fld_api_Version_Val _ w4, ?_⟩
      refine S.st1 one_string (off := 2) hY rfl (by simp) rfl fun w5 hZ hg5 => ?_
      refine j9 w5 ?_ ((hRW.bel b34).grown hg5 (fun e => ?_)) ((hO'.bel b34).kept hg5 ?_) ((hb'.trans b34).grown hg5 fun r hr => by cases hr; omega)
      · rw [show (mk t d) = ⟨d.Key, t, noB, d.Gone⟩ by unfold mk; rw [if_pos hg]]; simpa using hZ
      · have h1 := hRW.lt; have h2 := Option.some.inj e; omega
      · cases ho : (Sl.v sl).ownBlock with
        | none => exact .inl rfl
        | some q => exact .inr fun e => by have h8 := (hO'.row.lt q ho).2; have h9 := Option.some.inj e; omega
    · exact j9 w4 (by rw [show (mk t d) = ⟨d.Key, t, d.Val, d.Gone⟩ by unfold mk; rw [if_neg (by rw [hg]; decide)]]; exact hY) (hRW.bel b34) (hO'.bel b34) (hb'.trans b34)
  · obtain rfl : n = m.length := by omega
    rw [List.take_length] at hO'
    refine S.ldA agg_api_Versions ⟨sl, x0.Low⟩ rfl hRW.at rfl ?_
    have h6W := (h6.bel b1).bel hb'
    refine ret_ok h6W rfl fun w4 hg4 => ?_
    exact H sl w4 (VerOwn.rd (hO'.kept hg4 (.inr (OwnS.ne_row hO' h6W (by decide))))) (b0W.grown hg4 fun r hr => by cases hr; exact hB6)
theorem rput_ok {w : World} {x0 : T_api_Versions} {x1 : Sl} {l : List Ver} {m : List Wri} (h : VerRd w x0.List l) (hm : WriRd w x1 m) (t : Int) {k : T_api_Versions → Int → World → Prop}
    (H : ∀ r w', VerRd w' r (vput l x0.Low m t).1 → Bel w w' → k ⟨r, (vput l x0.Low m t).2.1⟩ (vput l x0.Low m t).2.2 w') :
    Cl Try.prog fn_ladingref09_Put [T_api_Versions.v x0, Sl.v x1, .int .u64 t].toArray w (fun e w' => ∃ (r0 : T_api_Versions) (r1 : Int), e = .returned (.tuple [T_api_Versions.v r0, .int .i64 r1].toArray) ∧ k r0 r1 w') := by
  refine L1_ladingref09_Put x0 x1 t w k ?_
  have hbig := h.big; have hcap := h.cap; have hlen := h.len
  have dbig := hm.big; have dcap := hm.cap; have dlen := hm.len
  unfold V_ladingref09_Put
  refine S.boxW (cs := x0.cells) rfl fun B3 w1 b1 hV hB3 => ?_
  refine S.new1W new_api_Versions fun B6 w2 b2 hZ hB6 => ?_
  have b02 := b1.trans b2
  have w1le := b1.le
  replace hV := hV.bel b2
  refine S.ldA agg_api_Versions x0 rfl hV.at rfl ?_
  refine rcheck_ok (h.bel b02) fun w3 b3 => ?_
  have b03 := b02.trans b3
  have hV3 := hV.bel b3
  have hZ3 := hZ.bel b3
  have J7 : ∀ (c : Int) W, Bel w3 W → c = pwhy l x0.Low m t → V_ladingref09_Put_j7 x1 t k (some ⟨B3, 0, none⟩) (some ⟨B6, 0, none⟩) c W := fun c W hb hc => by
    rw [hc]; exact rput_rest h hm (b03.trans hb) (hV3.bel hb) (hZ3.bel hb) (by omega) H
  -- from the versions' times on
  have J2 : ∀ (c : Int) W, Bel w3 W → (c ≠ 0 → c = pwhy l x0.Low m t) → (c = 0 → vchk l x0.Low = 0 ∧ wwrong m = 0 ∧ ¬ (t < 1 ∨ 2305843009213693952 < t)) → V_ladingref09_Put_j2 x1 t k (some ⟨B3, 0, none⟩) (some ⟨B6, 0, none⟩) c W := by
    intro c W hb hc1 hc2
    unfold V_ladingref09_Put_j2
    refine S.fld fld_api_Versions_List one_L_api_Version (hV3.bel hb).at x0.List rfl ?_
    refine ⟨fun d i W' => ∃ n : Nat, i = (n : Int) ∧ n ≤ l.length ∧ Bel w3 W' ∧ ((d = c ∧ (c = 0 → ∀ x ∈ l.take n, ¬ t ≤ x.At)) ∨ (c = 0 ∧ d = 9 ∧ ∃ x ∈ l, t ≤ x.At)), fun _ i _ => (x0.List.len - i).toNat, ⟨0, rfl, by omega, hb, .inl ⟨rfl, fun _ => by simp⟩⟩, ?_⟩
    rintro d i W' ⟨n, rfl, hn, hb', hd⟩
    have b0W := b03.trans hb'
    unfold V_ladingref09_Put_l3b
    refine ⟨fun hlt => ?_, fun hlt => ?_⟩
    · obtain ⟨e, he⟩ := getV (l := l) (n := n) (by omega)
      refine S.idx (h.bel b0W) und_L_api_Version esz_L_api_Version (by omega) (x := e) (by simpa using he) fun ad hA => ?_
      refine S.ldA agg_api_Version e rfl hA rfl ?_
      refine S.newW new_api_Version rfl agg_api_Version (cs := e.cells) rfl rfl rfl fun C w4 b4 hX hC => ?_
      have go : ∀ d' : Int, ((d' = c ∧ (c = 0 → ∀ x ∈ l.take (n + 1), ¬ t ≤ x.At)) ∨ (c = 0 ∧ d' = 9 ∧ ∃ x ∈ l, t ≤ x.At)) → V_ladingref09_Put_j4 n (fun (d' : Int) (i' : Int) (w' : World) => (∃ n : Nat, i' = (n : Int) ∧ n ≤ l.length ∧ Bel w3 w' ∧ ((d' = c ∧ (c = 0 → ∀ x ∈ l.take n, ¬ t ≤ x.At)) ∨ (c = 0 ∧ d' = 9 ∧ ∃ x ∈ l, t ≤ x.At))) ∧ (x0.List.len - i').toNat < (x0.List.len - (n : Int)).toNat) d' w4 := by
        intro d' hd'
        unfold V_ladingref09_Put_j4
        rw [wr64 (by omega) (by omega)]
        exact ⟨⟨n + 1, by omega, by omega, hb'.trans b4, hd'⟩, by omega⟩
      refine ⟨fun hd0 => ?_, fun hd0 => ?_⟩
      · refine S.fld fld_api_Version_At one_uint64 hX.at e.At rfl ?_
        unfold V_ladingref09_Put_r5
        have hcz : c = 0 ∧ ∀ x ∈ l.take n, ¬ t ≤ x.At := by
          rcases hd with ⟨h1, h2⟩ | ⟨_, h2, _⟩
          · exact ⟨by omega, h2 (by omega)⟩
          · omega
        refine ⟨fun ht => go 9 (.inr ⟨hcz.1, rfl, e, List.mem_of_getElem? he, of_decide_eq_true ht⟩), fun ht => go d (.inl ⟨by omega, fun _ x hx => ?_⟩)⟩
        rw [take_one he] at hx
        rcases List.mem_append.1 hx with h2 | h2
        · exact hcz.2 x h2
        · simp at h2; subst h2; exact of_decide_eq_false ht
      · unfold V_ladingref09_Put_r5
        refine ⟨fun h => (nomatch h), fun _ => go d ?_⟩
        rcases hd with ⟨h1, h2⟩ | h2
        · exact .inl ⟨h1, fun h3 => absurd (h1.trans h3) hd0⟩
        · exact .inr h2
    · obtain rfl : n = l.length := by omega
      rw [List.take_length] at hd
      have hm4 : c = 0 → m.length ≤ 4096 ∧ l.length ≤ 4096 := fun hz => ⟨(wwrong_zero.1 (hc2 hz).2.1).1, (vchk_zero.1 (hc2 hz).1).len⟩
      have hp : c = 0 → pwhy l x0.Low m t = if t < x0.Low ∨ (∃ x ∈ l, t ≤ x.At) then 9 else if 4096 < l.length + m.length then 3 else 0 := fun hz => by
        obtain ⟨e1, e2, e3⟩ := hc2 hz
        unfold pwhy; rw [if_neg (by simp [e1]), if_neg (by simp [e2]), if_neg e3]
      have J6 : ∀ (f : Int), (f ≠ 0 → f = pwhy l x0.Low m t) → (f = 0 → c = 0 ∧ ¬ (t < x0.Low ∨ (∃ x ∈ l, t ≤ x.At))) → V_ladingref09_Put_j6 x1 t k (some ⟨B3, 0, none⟩) (some ⟨B6, 0, none⟩) f W' := by
        intro f hf1 hf2
        unfold V_ladingref09_Put_j6 V_ladingref09_Put_r10
        refine ⟨fun hz => ?_, fun hz => ⟨fun h => (nomatch h), fun _ => J7 f W' hb' (hf1 hz)⟩⟩
        obtain ⟨e1, e2⟩ := hf2 hz
        have := hm4 e1
        refine S.fld fld_api_Versions_List one_L_api_Version (hV3.bel hb').at x0.List rfl ?_
        rw [wr64 (by omega) (by omega)]
        refine ⟨fun ht => J7 3 W' hb' (by rw [hp e1, if_neg e2, if_pos (by have := of_decide_eq_true ht; omega)]), fun ht => J7 f W' hb' (by rw [hp e1, if_neg e2, if_neg (by have := of_decide_eq_false ht; omega)]; exact hz)⟩
      refine ⟨fun hz => ?_, fun hz => ?_⟩
      · have hcz : c = 0 ∧ ∀ x ∈ l, ¬ t ≤ x.At := by
          rcases hd with ⟨h1, h2⟩ | ⟨_, h2, _⟩
          · exact ⟨by omega, h2 (by omega)⟩
          · omega
        refine S.fld fld_api_Versions_Low one_uint64 (hV3.bel hb').at x0.Low rfl ?_
        unfold V_ladingref09_Put_r11
        refine ⟨fun ht => J6 9 (fun _ => by rw [hp hcz.1, if_pos (.inl (of_decide_eq_true ht))]) (fun h => by omega), fun ht => J6 d (fun h => absurd hz h) (fun _ => ⟨hcz.1, fun h => ?_⟩)⟩
        rcases h with h | ⟨x, h1, h2⟩
        · exact of_decide_eq_false ht h
        · exact hcz.2 x h1 h2
      · unfold V_ladingref09_Put_r11
        refine ⟨fun h => (nomatch h), fun _ => J6 d (fun _ => ?_) (fun h => absurd h hz)⟩
        rcases hd with ⟨h1, _⟩ | ⟨h1, h2, h3⟩
        · rw [h1]; exact hc1 (by rw [← h1]; exact hz)
        · rw [hp h1, if_pos (.inr h3), h2]
  have J1 : ∀ (c : Int) W, Bel w3 W → (c ≠ 0 → c = pwhy l x0.Low m t) → (c = 0 → vchk l x0.Low = 0 ∧ wwrong m = 0) → V_ladingref09_Put_j1 x1 t k (some ⟨B3, 0, none⟩) (some ⟨B6, 0, none⟩) c W := by
    intro c W hb hc1 hc2
    unfold V_ladingref09_Put_j1
    refine ⟨fun hz => ?_, fun hz => ⟨fun h => (nomatch h), fun _ => J2 c W hb hc1 (fun h => absurd h hz)⟩⟩
    obtain ⟨e1, e2⟩ := hc2 hz
    have hp : (t < 1 ∨ 2305843009213693952 < t) → pwhy l x0.Low m t = 2 := fun ht => by
      unfold pwhy; rw [if_neg (by simp [e1]), if_neg (by simp [e2]), if_pos ht]
    have r12t : (t < 1 ∨ 2305843009213693952 < t) → V_ladingref09_Put_r12 x1 t k (some ⟨B3, 0, none⟩) (some ⟨B6, 0, none⟩) c true W := fun ht => ⟨fun _ => J2 2 W hb (fun _ => (hp ht).symm) (fun h => absurd h (by decide)), fun h => (nomatch h)⟩
    unfold V_ladingref09_Put_r13
    refine ⟨fun ht => r12t (.inl ht), fun ht => ?_⟩
    by_cases ht2 : 2305843009213693952 < t
    · rw [decide_eq_true ht2]; exact r12t (.inr ht2)
    · rw [decide_eq_false ht2]
      exact ⟨fun h => (nomatch h), fun _ => J2 c W hb hc1 (fun _ => ⟨e1, e2, by omega⟩)⟩
  refine ⟨fun hc => ?_, fun hc => J1 _ w3 (Bel.refl _) (fun _ => by unfold pwhy; rw [if_pos hc]) (fun h => absurd h hc)⟩
  refine rwrong_ok (hm.bel b03) fun w5 b5 => ?_
  exact J1 _ w5 b5 (fun hne => by unfold pwhy; rw [if_neg (by simp [hc]), if_pos hne]) (fun hz => ⟨hc, hz⟩)
end Go.Proofs.Ytealcoghiaeiiaa.VG
