/- Put, the program's; no condition. -/
import Derived.Test.YtealcoghiaeiiaaMvPut
set_option linter.unusedVariables false
namespace Go.Proofs.Ytealcoghiaeiiaa.VG
open Go.VB Go.VB.Srt Go.Proofs Go.RowKit

theorem At.row_wri {w : World} {C : Nat} {d : Wri} (h : Row w C d.cells ty_api_Write) : At w ⟨C, 0, none⟩ d.cells := h.at
/-- The loop that puts the writes behind the versions, and the sort. -/
theorem mput_rest {w u W : World} {x1 : Sl} {l : List Ver} {m : List Wri} {low t : Int} {B5 B6 B9 : Nat} {r : Sl} (hm : WriRd w x1 m) (hbu : Bel w u) (hs : l.Pairwise vlt) (hn : (wkeys m).Nodup) (hl : ∀ y ∈ l, y.At < t) (hlen : l.length + m.length ≤ 4096)
    (h5 : Row u B5 [.int .u64 t] ty_uint64) (h6 : Row u B6 zero_api_Versions ty_api_Versions) (hB6 : w.heap.size ≤ B6) (hR : Row W B9 [Sl.v r, .int .u64 low] ty_api_Versions) (hO : VerOwn u.heap.size W r l) (hb : Bel u W) (hB9 : u.heap.size ≤ B9)
    {k : T_api_Versions → Int → World → Prop} (H : ∀ r w' base, w.heap.size ≤ base → VerOwn base w' r (putL l t m) → Bel w w' → k ⟨r, low⟩ 0 w') :
    V_mvcc_Put_j3 x1 k (some ⟨B5, 0, none⟩) (some ⟨B6, 0, none⟩) (some ⟨B9, 0, none⟩) W := by
  have dbig := hm.big; have dcap := hm.cap; have dlen := hm.len
  have hwu := hbu.le
  have lt6 := h6.lt
  unfold V_mvcc_Put_j3
  refine ⟨fun i W' => ∃ (n : Nat) (sl : Sl), i = (n : Int) ∧ n ≤ m.length ∧ Row W' B9 [Sl.v sl, .int .u64 low] ty_api_Versions ∧ VerOwn u.heap.size W' sl (l ++ (m.take n).map (mk t)) ∧ Bel u W', fun i _ => (x1.len - i).toNat, ⟨0, r, rfl, by omega, hR, by simpa using hO, hb⟩, ?_⟩
  rintro i W' ⟨n, sl, rfl, hnn, hR', hO', hb'⟩
  unfold V_mvcc_Put_l4b
  refine ⟨fun hlt => ?_, fun hlt => ?_⟩
  · obtain ⟨d, hdn⟩ := getW (l := m) (n := n) (by omega)
    have hmk : (m.take (n + 1)).map (mk t) = (m.take n).map (mk t) ++ [mk t d] := by rw [take_one hdn, List.map_append]; rfl
    refine S.idx (hm.bel (hbu.trans hb')) und_L_api_Write esz_L_api_Write (by omega) (x := d) (by simpa using hdn) fun ad hA => ?_
    refine S.ldA agg_api_Write d rfl hA rfl ?_
    refine S.newW new_api_Write rfl agg_api_Write (cs := d.cells) rfl rfl rfl fun C w3 b3 hX hC => ?_
    refine S.fld fld_api_Write_Key one_string hX.at d.Key rfl ?_
    refine S.ld1 one_uint64 t ((h5.bel hb').bel b3).cell ?_
    refine S.fld fld_api_Write_Val one_string hX.at d.Val rfl ?_
    refine S.fld fld_api_Write_Gone one_bool hX.at d.Gone rfl ?_
    refine ⟨⟨d.Key, t, d.Val, d.Gone⟩, w3, by kernel_rfl, ?_⟩
    refine S.newW new_api_Version rfl agg_api_Version (cs := (⟨d.Key, t, d.Val, d.Gone⟩ : Ver).cells) rfl rfl rfl fun C2 w4 b4 hY hC2 => ?_
    have b34 := b3.trans b4
    have hb4 := hb'.trans b34
    refine S.fld fld_api_Write_Gone one_bool (hX.bel b4).at d.Gone rfl ?_
    have j5 : ∀ w5, Row w5 C2 (mk t d).cells ty_api_Version → Row w5 B9 [Sl.v sl, .int .u64 low] ty_api_Versions → VerOwn u.heap.size w5 sl (l ++ (m.take n).map (mk t)) → Bel u w5 →
        V_mvcc_Put_j5 (some ⟨B9, 0, none⟩) n (fun (i' : Int) (w' : World) => (∃ (n : Nat) (sl : Sl), i' = (n : Int) ∧ n ≤ m.length ∧ Row w' B9 [Sl.v sl, .int .u64 low] ty_api_Versions ∧ VerOwn u.heap.size w' sl (l ++ (m.take n).map (mk t)) ∧ Bel u w') ∧ (x1.len - i').toNat < (x1.len - (n : Int)).toNat) (some ⟨C2, 0, none⟩) w5 := by
      intro w5 r1 r2 r3 r4
      unfold V_mvcc_Put_j5
      refine push2_ok (w0 := u) r2 r3 r1.at r4 (Nat.le_refl _) r4.le hB9 (by rw [List.length_append, List.length_map, List.length_take]; omega) fun s' W5 q1 q2 q3 q4 => ?_
      rw [wr64 (by omega) (by omega)]
      exact ⟨⟨n + 1, s', by omega, by omega, q1, by rw [hmk, ← List.append_assoc]; exact q2, q3⟩, by omega⟩
    have hb'le := hb'.le
    have b3le := b3.le
    refine ⟨fun hg => ?_, fun hg => ?_⟩
    · refine ⟨_, _, fld_api_Version_Val _ w4, ?_⟩
      refine S.st1 one_string (off := 2) hY rfl (by simp) rfl fun w5 hZ hg5 => ?_
      refine j5 w5 ?_ (((hR'.bel b34)).grown hg5 (fun e => ?_)) ((hO'.bel b34).kept hg5 ?_) (hb4.grown hg5 fun r hr => by cases hr; omega)
      · rw [show (mk t d) = ⟨d.Key, t, noB, d.Gone⟩ by unfold mk; rw [if_pos hg]]; simpa using hZ
      · have h1 := hR'.lt; have h2 := Option.some.inj e; omega
      · cases ho : (Sl.v sl).ownBlock with
        | none => exact .inl rfl
        | some q => exact .inr fun e => by have h8 := (hO'.row.lt q ho).2; have h9 := Option.some.inj e; omega
    · exact j5 w4 (by rw [show (mk t d) = ⟨d.Key, t, d.Val, d.Gone⟩ by unfold mk; rw [if_neg (by rw [hg]; decide)]]; exact hY) (hR'.bel b34) (hO'.bel b34) hb4
  · obtain rfl : n = m.length := by omega
    rw [List.take_length] at hO'
    refine S.fld fld_api_Versions_List one_L_api_Version hR'.at sl rfl ?_
    refine SoCmpFunc_api_Version.sort_ok vltB_swo order_cmps hO' fun ys w3 hp hle hO3 hg3 => ?_
    have hys := sort_is hs hn hl hp hle
    subst hys
    have hR3 := hR'.grown hg3 (OwnS.ne_row hO' hR' (by decide))
    refine S.ldA agg_api_Versions ⟨sl, low⟩ rfl hR3.at rfl ?_
    have hb3 : Bel u w3 := hb'.grown hg3 fun r hr => hO'.lo hr
    refine ret_ok (h6.bel hb3) rfl fun w4 hg4 => ?_
    have hb6 : Bel w w4 := (hbu.trans hb3).grown hg4 fun r hr => by cases hr; exact hB6
    refine H sl w4 u.heap.size hwu (hO3.kept hg4 ?_) hb6
    cases ho : (Sl.v sl).ownBlock with
    | none => exact .inl rfl
    | some q => exact .inr fun e => by have h8 := hO3.lo ho; have h9 := Option.some.inj e; omega
theorem mput_ok {w : World} {x0 : T_api_Versions} {x1 : Sl} {l : List Ver} {m : List Wri} (h : VerRd w x0.List l) (hm : WriRd w x1 m) (t : Int) {k : T_api_Versions → Int → World → Prop}
    (H : ∀ r w' base, w.heap.size ≤ base → VerOwn base w' r (vput l x0.Low m t).1 → Bel w w' → k ⟨r, (vput l x0.Low m t).2.1⟩ (vput l x0.Low m t).2.2 w') :
    Cl Try.prog fn_mvcc_Put [T_api_Versions.v x0, Sl.v x1, .int .u64 t].toArray w (fun e w' => ∃ (r0 : T_api_Versions) (r1 : Int), e = .returned (.tuple [T_api_Versions.v r0, .int .i64 r1].toArray) ∧ k r0 r1 w') := by
  refine L1_mvcc_Put x0 x1 t w k ?_
  have hbig := h.big; have hcap := h.cap; have hlen := h.len
  have dbig := hm.big; have dcap := hm.cap; have dlen := hm.len
  unfold V_mvcc_Put
  refine S.boxW (cs := x0.cells) rfl fun B3 w1 b1 hV hB3 => ?_
  refine S.boxW (cs := [.int .u64 t]) rfl fun B5 w2 b2 hT hB5 => ?_
  refine S.new1W new_api_Versions fun B6 w3 b3 hZ hB6 => ?_
  have b03 := (b1.trans b2).trans b3
  have w1le := b1.le; have w2le := b2.le
  replace hV := (hV.bel b2).bel b3
  replace hT := hT.bel b3
  refine S.ldA agg_api_Versions x0 rfl hV.at rfl ?_
  refine mcheck_ok (h.bel b03) fun w4 b4 => ?_
  have b04 := b03.trans b4
  have J2 : ∀ (c : Int) W, Bel w4 W → c = pwhy l x0.Low m t → V_mvcc_Put_j2 x1 k (some ⟨B3, 0, none⟩) (some ⟨B5, 0, none⟩) (some ⟨B6, 0, none⟩) c W := by
    intro c W hb hc
    have b0W := b04.trans hb
    have hZW := (hZ.bel b4).bel hb
    unfold vput at H
    rw [← hc] at H
    unfold V_mvcc_Put_j2
    refine ⟨fun hne => ?_, fun hz => ?_⟩
    · rw [if_pos hne] at H
      refine ⟨zeroVs, W, by kernel_rfl, ?_⟩
      have hbg : ∀ W', W.grownBy W' (some B6) → Bel w W' := fun W' hg => b0W.grown hg fun r hr => by cases hr; omega
      exact ret_ok hZW rfl fun W' hg => H Sl.none W' W'.heap.size (hbg W' hg).le (OwnS.nil _ _ _ _ _) (hbg W' hg)
    rw [if_neg hz] at H
    obtain ⟨g1, g2, g3, g4, g5, g6, g7⟩ := pwhy_zero.1 (hc ▸ Classical.not_not.1 hz : pwhy l x0.Low m t = 0)
    have hnd := (wwrong_zero.1 g2).2.2
    refine ⟨Bel W, fun u bu => ⟨bu, ?_⟩⟩
    have b0u := b0W.trans bu
    have hVu := ((hV.bel b4).bel hb).bel bu
    have hTu := ((hT.bel b4).bel hb).bel bu
    have hZu := hZW.bel bu
    have hVb : ∀ W', Bel W W' → Row W' B3 x0.cells ty_api_Versions := fun W' hw => ((hV.bel b4).bel hb).bel hw
    refine K.fa fld_api_Versions_List ?_
    refine K.fa fld_api_Versions_Low ?_
    refine K.ld1 one_L_api_Version x0.List (fun W' hW' => (hVb W' hW').at.fld rfl) ?_
    refine K.ld1 one_uint64 x0.Low (fun W' hW' => (hVb W' hW').at.fld rfl) ?_
    have fin := fun (r : Sl) (B9 : Nat) (W' : World) (hR : Row W' B9 [Sl.v r, .int .u64 x0.Low] ty_api_Versions) (hO : VerOwn u.heap.size W' r l) (hb' : Bel u W') (hB9 : u.heap.size ≤ B9) => mput_rest (low := x0.Low) (k := k) hm b0u g1.sorted hnd g6 g7 hTu hZu (by omega) hR hO hb' hB9 H
    constructor
    · refine clone_ok (h.bel b0u) (by omega) fun r W1 hO c1 => ?_
      refine ⟨bu.trans c1, ?_⟩
      refine ⟨⟨r, x0.Low⟩, fun W' _ => by kernel_rfl, ?_⟩
      refine S.new1W new_api_Versions fun B9 W2 c2 hR hB9 => ?_
      refine ⟨(bu.trans c1).trans c2, ?_⟩
      have c1le := c1.le
      refine S.stA agg_api_Versions hR rfl rfl rfl fun W3 hR3 hg3 => ?_
      have c3 : Bel u W3 := (c1.trans c2).grown hg3 fun r hr => by cases hr; omega
      exact ⟨bu.trans c3, fin r B9 W3 hR3 ((hO.bel c2).kept hg3 (.inr (OwnS.ne_row (hO.bel c2) hR (by decide)))) c3 (by omega)⟩
    · refine S.new1W new_api_Versions fun B9 W1 c1 hR hB9 => ?_
      refine ⟨bu.trans c1, ?_⟩
      refine clone_ok (h.bel (b0u.trans c1)) (by omega) fun r W2 hO c2 => ?_
      refine ⟨(bu.trans c1).trans c2, ?_⟩
      refine ⟨⟨r, x0.Low⟩, fun W' _ => by kernel_rfl, ?_⟩
      have hR2 := hR.bel c2
      refine S.stA agg_api_Versions hR2 rfl rfl rfl fun W3 hR3 hg3 => ?_
      have c3 : Bel u W3 := (c1.trans c2).grown hg3 fun r hr => by cases hr; omega
      have hO' : VerOwn u.heap.size W2 r l := ⟨hO.len, hO.small, hO.row.1, by
        rcases hO.row.2 with h1 | ⟨g, cap, cur, p1, p2, p3⟩
        · exact .inl h1
        · exact .inr ⟨g, cap, cur, p1, Nat.le_trans c1.le p2, p3⟩⟩
      exact ⟨bu.trans c3, fin r B9 W3 hR3 (hO'.kept hg3 (.inr (OwnS.ne_row hO' hR2 (by decide)))) c3 hB9⟩
  have J1 : ∀ (c : Int) W, Bel w4 W → (c ≠ 0 → c = pwhy l x0.Low m t) → (c = 0 → vchk l x0.Low = 0 ∧ wwrong m = 0) → V_mvcc_Put_j1 x1 k (some ⟨B3, 0, none⟩) (some ⟨B5, 0, none⟩) (some ⟨B6, 0, none⟩) c W := by
    intro c W hb hc1 hc2
    have b0W := b04.trans hb
    unfold V_mvcc_Put_j1
    refine ⟨fun hne => J2 c W hb (hc1 hne), fun hz => ?_⟩
    obtain rfl : c = 0 := Classical.not_not.1 hz
    obtain ⟨e1, e2⟩ := hc2 rfl
    have hp : pwhy l x0.Low m t = if t < 1 ∨ 2305843009213693952 < t then 2 else if t < x0.Low ∨ (∃ x ∈ l, t ≤ x.At) then 9 else if 4096 < l.length + m.length then 3 else 0 := by
      unfold pwhy; rw [if_neg (by simp [e1]), if_neg (by simp [e2])]
    have hg := (vchk_zero.1 e1).len
    have hm4 := (wwrong_zero.1 e2).1
    have hTW := (hT.bel b4).bel hb
    have hVW := (hV.bel b4).bel hb
    refine S.ld1 one_uint64 t hTW.cell ?_
    have r7t : (t < 1 ∨ 2305843009213693952 < t) → V_mvcc_Put_r7 x1 k (some ⟨B3, 0, none⟩) (some ⟨B5, 0, none⟩) (some ⟨B6, 0, none⟩) 0 true W := fun ht => ⟨fun _ => J2 2 W hb (by rw [hp, if_pos ht]), fun h => (nomatch h)⟩
    refine ⟨fun ht => r7t (.inl ht), fun ht => ?_⟩
    refine S.ld1 one_uint64 t hTW.cell ?_
    by_cases ht2 : 2305843009213693952 < t
    · rw [decide_eq_true ht2]; exact r7t (.inr ht2)
    rw [decide_eq_false ht2]
    rw [if_neg (by omega)] at hp
    unfold V_mvcc_Put_r7
    refine ⟨fun h => (nomatch h), fun _ => ?_⟩
    refine S.ld1 one_uint64 t hTW.cell ?_
    refine S.fld fld_api_Versions_Low one_uint64 hVW.at x0.Low rfl ?_
    have r8t : ∀ W', Bel w4 W' → (t < x0.Low ∨ (∃ x ∈ l, t ≤ x.At)) → V_mvcc_Put_r8 x1 k (some ⟨B3, 0, none⟩) (some ⟨B5, 0, none⟩) (some ⟨B6, 0, none⟩) 0 true W' := fun W' hb' ht => ⟨fun _ => J2 9 W' hb' (by rw [hp, if_pos ht]), fun h => (nomatch h)⟩
    refine ⟨fun hlo => r8t W hb (.inl hlo), fun hlo => ?_⟩
    refine S.fld fld_api_Versions_List one_L_api_Version hVW.at x0.List rfl ?_
    refine containsV_ok (h.bel b0W) hTW fun b W1 hbb b5 => ?_
    cases b with
    | true => exact r8t W1 (hb.trans b5) (.inr (hbb.1 rfl))
    | false =>
      rw [if_neg (fun hx => by
        rcases hx with h1 | h1
        · exact hlo h1
        · have := hbb.2 h1; cases this)] at hp
      unfold V_mvcc_Put_r8
      refine ⟨fun h => (nomatch h), fun _ => ?_⟩
      refine S.fld fld_api_Versions_List one_L_api_Version (hVW.bel b5).at x0.List rfl ?_
      rw [wr64 (by omega) (by omega)]
      exact ⟨fun h4 => J2 3 W1 (hb.trans b5) (by rw [hp, if_pos (by omega)]), fun h4 => J2 0 W1 (hb.trans b5) (by rw [hp, if_neg (by omega)])⟩
  refine ⟨fun hc => ?_, fun hc => J1 _ w4 (Bel.refl _) (fun _ => by unfold pwhy; rw [if_pos hc]) (fun h => absurd h hc)⟩
  refine mwrong_ok (hm.bel b04) fun w5 b5 => ?_
  exact J1 _ w5 b5 (fun hne => by unfold pwhy; rw [if_neg (by simp [hc]), if_pos hne]) (fun hz => ⟨hc, hz⟩)
end Go.Proofs.Ytealcoghiaeiiaa.VG
