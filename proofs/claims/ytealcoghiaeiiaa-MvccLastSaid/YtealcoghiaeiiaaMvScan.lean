/- The scans, the document's and the program's; no condition. -/
import Derived.Test.YtealcoghiaeiiaaMvScanP
set_option linter.unusedVariables false
namespace Go.Proofs.Ytealcoghiaeiiaa.VG
open Go.VB Go.VB.Srt Go.Proofs Go.RowKit

abbrev PaiRd (w : World) (s : Sl) (l : List Pai) : Prop := Rd T_api_Pair.cells 2 w s l
abbrev PaiOwn (base : Nat) (w : World) (s : Sl) (l : List Pai) : Prop := OwnS T_api_Pair.cells 2 ty_api_Pair base w s l
theorem PaiOwn.rd {base : Nat} {w : World} {s : Sl} {l : List Pai} (h : PaiOwn base w s l) : PaiRd w s l := OwnS.rd h (fun _ => rfl)
theorem pai_app1 {base : Nat} {w0 w : World} {s : Sl} {l : List Pai} {x : Pai} {k : Sl → World → Prop} (hO : PaiOwn base w s l) (hB : Bel w0 w) (hb : w0.heap.size ≤ base) (hbw : base ≤ w.heap.size) (room : l.length + 1 ≤ 4398046511104)
    (H : ∀ s' w', PaiOwn base w' s' (l ++ [x]) → Bel w0 w' → w.grownBy w' (Sl.v s).ownBlock → k s' w') :
    opE Try.prog Sl.v (Instr.buildSlice ty_L_api_Pair 1 [(0, T_api_Pair.v x)].toArray) w (fun y w => opE Try.prog Sl.v (Builtin.append_ #[ty_L_api_Pair, ty_L_api_Pair] ty_L_api_Pair [Sl.v s, Sl.v y].toArray) w k) :=
  S.app1 hO (fun _ => rfl) (fun _ => rfl) (by decide) und_L_api_Pair einf_L_api_Pair rfl (by decide) (bs1_L_api_Pair x) hB hb hbw (by omega) H
theorem one_out {fr to key : ByteArray} {o : Option Ver} (h : outSpan fr to key) : one fr to key o = [] := by unfold one; rw [if_pos h]
theorem one_none {fr to key : ByteArray} : one fr to key none = [] := by unfold one; split <;> rfl
theorem one_gone {fr to key : ByteArray} {x : Ver} (h : x.Gone = true) : one fr to key (some x) = [] := by
  unfold one; split
  · rfl
  · simp only; rw [if_pos h]
theorem one_is {fr to key : ByteArray} {x : Ver} (h : ¬ outSpan fr to key) (hg : x.Gone = false) : one fr to key (some x) = [⟨key, x.Val⟩] := by
  unfold one; rw [if_neg h]; simp only; rw [if_neg (by rw [hg]; decide)]
theorem rscan_ok {w : World} {x0 : T_api_Versions} {l : List Ver} (h : VerRd w x0.List l) (fr to : ByteArray) (t : Int) {k : Sl → Int → World → Prop}
    (H : ∀ r w', PaiRd w' r (vscan l x0.Low fr to t).1 → Bel w w' → k r (vscan l x0.Low fr to t).2 w') :
    Cl Try.prog fn_ladingref09_Scan [T_api_Versions.v x0, .string fr, .string to, .int .u64 t].toArray w (fun e w' => ∃ (r0 : Sl) (r1 : Int), e = .returned (.tuple [Sl.v r0, .int .i64 r1].toArray) ∧ k r0 r1 w') := by
  refine L1_ladingref09_Scan x0 fr to t w k ?_
  have hbig := h.big; have hcap := h.cap; have hlen := h.len
  unfold V_ladingref09_Scan
  refine S.boxW (cs := x0.cells) rfl fun B w1 b1 hV hB => ?_
  refine S.ldA agg_api_Versions x0 rfl hV.at rfl ?_
  refine rasked_ok (h.bel b1) t fun w2 b2 => ?_
  have b02 := b1.trans b2
  unfold vscan at H
  refine ⟨fun hc => ?_, fun hc => ?_⟩
  · rw [if_pos hc] at H; exact H _ w2 (Rd.nil _ _ _) b02
  rw [if_neg hc] at H
  have hg := (vask_zero.1 (Classical.not_not.1 hc)).1
  have hl4 := hg.len
  replace hV := hV.bel b2
  refine S.fld fld_api_Versions_List one_L_api_Version hV.at x0.List rfl ?_
  refine ⟨fun y i W => ∃ n : Nat, i = (n : Int) ∧ n ≤ l.length ∧ Bel w2 W ∧ PaiOwn w2.heap.size W y (scanTo l fr to t n), fun _ i _ => (x0.List.len - i).toNat, ⟨0, rfl, by omega, Bel.refl _, OwnS.nil _ _ _ _ _⟩, ?_⟩
  rintro y i W ⟨n, rfl, hn, hb, hO⟩
  have b0W := b02.trans hb
  unfold V_ladingref09_Scan_l1b
  refine ⟨fun hlt => ?_, fun hlt => ?_⟩
  case refine_2 =>
    obtain rfl : n = l.length := by omega
    exact H y W (PaiOwn.rd hO) b0W
  obtain ⟨e, he⟩ := getV (l := l) (n := n) (by omega)
  have hsucc := scanTo_succ l fr to t n
  have hsl := scanTo_len l fr to t n
  refine S.idx (h.bel b0W) und_L_api_Version esz_L_api_Version (by omega) (x := e) (by simpa using he) fun ad hA => ?_
  refine S.ldA agg_api_Version e rfl hA rfl ?_
  refine S.newW new_api_Version rfl agg_api_Version (cs := e.cells) rfl rfl rfl fun C w3 b3 hX _ => ?_
  have b03 := b0W.trans b3
  have hV3 := (hV.bel hb).bel b3
  have nil : ∀ w4, Bel w3 w4 → pick l fr to t n = [] → (fun (y' : Sl) (i' : Int) (w' : World) => (∃ n : Nat, i' = (n : Int) ∧ n ≤ l.length ∧ Bel w2 w' ∧ PaiOwn w2.heap.size w' y' (scanTo l fr to t n)) ∧ (x0.List.len - i').toNat < (x0.List.len - (n : Int)).toNat) y (IntKind.wrap .i64 ((n : Int) + 1)) w4 := by
    intro w4 b4 hp
    rw [wr64 (by omega) (by omega)]
    refine ⟨⟨n + 1, by omega, by omega, (hb.trans b3).trans b4, ?_⟩, by omega⟩
    rw [hsucc, hp, List.append_nil]
    exact (hO.bel b3).bel b4
  have r5t : ∀ K : Sl → Int → World → Prop, (∀ w4, Bel w3 w4 → K y (IntKind.wrap .i64 ((n : Int) + 1)) w4) → V_ladingref09_Scan_r5 t (some ⟨B, 0, none⟩) y n K (some ⟨C, 0, none⟩) true w3 := fun K hK w4 b4 => ⟨fun _ => hK w4 b4, fun h => (nomatch h)⟩
  have r4t : ∀ K : Sl → Int → World → Prop, (∀ w4, Bel w3 w4 → K y (IntKind.wrap .i64 ((n : Int) + 1)) w4) → V_ladingref09_Scan_r4 to t (some ⟨B, 0, none⟩) y n K (some ⟨C, 0, none⟩) true w3 := fun K hK => ⟨fun _ => r5t K hK, fun h => (nomatch h)⟩
  have r3t : ∀ K : Sl → Int → World → Prop, (∀ w4, Bel w3 w4 → K y (IntKind.wrap .i64 ((n : Int) + 1)) w4) → V_ladingref09_Scan_r3 fr to t (some ⟨B, 0, none⟩) y n K (some ⟨C, 0, none⟩) true w3 := fun K hK => ⟨fun _ => r4t K hK, fun h => (nomatch h)⟩
  have r3f : Bdry l n → V_ladingref09_Scan_r3 fr to t (some ⟨B, 0, none⟩) y n (fun (y' : Sl) (i' : Int) (w' : World) => (∃ n : Nat, i' = (n : Int) ∧ n ≤ l.length ∧ Bel w2 w' ∧ PaiOwn w2.heap.size w' y' (scanTo l fr to t n)) ∧ (x0.List.len - i').toNat < (x0.List.len - (n : Int)).toNat) (some ⟨C, 0, none⟩) false w3 := by
    intro hbd
    have hpk := pick_first he hbd fr to t
    unfold V_ladingref09_Scan_r3
    refine ⟨fun h => (nomatch h), fun _ => ?_⟩
    refine Q.fld fld_api_Version_Key one_string hX.at e.Key rfl ?_
    cases hf : sLt e.Key fr with
    | true => exact r4t _ fun w4 b4 => nil w4 b4 (by rw [hpk, one_out (.inl hf)])
    | false =>
    unfold V_ladingref09_Scan_r4
    refine ⟨fun h => (nomatch h), fun _ => ?_⟩
    have r5f : ¬ outSpan fr to e.Key → V_ladingref09_Scan_r5 t (some ⟨B, 0, none⟩) y n (fun (y' : Sl) (i' : Int) (w' : World) => (∃ n : Nat, i' = (n : Int) ∧ n ≤ l.length ∧ Bel w2 w' ∧ PaiOwn w2.heap.size w' y' (scanTo l fr to t n)) ∧ (x0.List.len - i').toNat < (x0.List.len - (n : Int)).toNat) (some ⟨C, 0, none⟩) false w3 := by
      intro hin w4 b4
      refine ⟨fun h => (nomatch h), fun _ => ?_⟩
      refine S.ldA agg_api_Versions x0 rfl (hV3.bel b4).at rfl ?_
      refine S.fld fld_api_Version_Key one_string (hX.bel b4).at e.Key rfl ?_
      refine seen_ok (h.bel (b03.trans b4)) e.Key t fun w5 b5 => ?_
      have b35 := b4.trans b5
      cases hs : sees l e.Key t with
      | none => exact ⟨fun h => (nomatch h), fun _ => nil w5 b35 (by rw [hpk, hs, one_none])⟩
      | some x =>
        refine ⟨fun hq => ?_, fun hq => nil w5 b35 (by rw [hpk, hs, one_gone (by cases hxg : x.Gone <;> simp_all [outV])])⟩
        have hxg : x.Gone = false := by cases hxg : x.Gone <;> simp_all [outV]
        refine S.fld fld_api_Version_Key one_string (hX.bel b35).at e.Key rfl ?_
        refine ⟨⟨e.Key, x.Val⟩, w5, by kernel_rfl, ?_⟩
        refine pai_app1 (w0 := w2) ((hO.bel b3).bel b35) ((hb.trans b3).trans b35) (Nat.le_refl _) ((hb.trans b3).trans b35).le (by omega) fun s' w6 h5 h6 _ => ?_
        unfold V_ladingref09_Scan_j2
        rw [wr64 (by omega) (by omega)]
        refine ⟨⟨n + 1, by omega, by omega, h6, ?_⟩, by omega⟩
        rw [hsucc, hpk, hs, one_is hin hxg]; exact h5
    refine ⟨fun hto => ?_, fun hto => r5f (fun ho => by
      rcases ho with h1 | h1
      · rw [hf] at h1; cases h1
      · exact hto h1.1)⟩
    refine Q.fld fld_api_Version_Key one_string hX.at e.Key rfl ?_
    unfold V_ladingref09_Scan_r6
    cases ht : sLt e.Key to with
    | false => exact r5t _ fun w4 b4 => nil w4 b4 (by rw [hpk, one_out (.inr ⟨hto, ht⟩)])
    | true => exact r5f (fun ho => by
        rcases ho with h1 | h1
        · rw [hf] at h1; cases h1
        · rw [ht] at h1; cases h1.2)
  refine ⟨fun h0 => ?_, fun h0 => r3f (fun j x y hj => by omega)⟩
  obtain ⟨p, hp⟩ := getV (l := l) (n := n - 1) (by omega)
  rw [wr64 (by omega) (by omega)]
  refine Q.fld fld_api_Versions_List one_L_api_Version hV3.at x0.List rfl ?_
  refine Q.idx (h.bel b03) und_L_api_Version esz_L_api_Version (by omega) (x := p) (by rw [show ((n : Int) - 1).toNat = n - 1 by omega]; exact hp) fun ad hA => ?_
  refine Q.fld fld_api_Version_Key one_string hA p.Key rfl ?_
  refine Q.fld fld_api_Version_Key one_string hX.at e.Key rfl ?_
  by_cases hk : p.Key = e.Key
  · rw [decide_eq_true hk]
    exact r3t _ fun w4 b4 => nil w4 b4 (by
      have := pick_later (l := l) (j := n - 1) (x := e) (y := p) (by rw [show n - 1 + 1 = n by omega]; exact he) hp hk fr to t
      rwa [show n - 1 + 1 = n by omega] at this)
  · rw [decide_eq_false hk]
    exact r3f (fun j x y hj hx hy => by
      rw [show j = n - 1 by omega, hp] at hx; cases hx
      rw [he] at hy; cases hy; exact hk)
theorem scanS_len {l : List Ver} (fr to : ByteArray) (t : Int) : ∀ pre : List (Seg l), (scanS fr to t pre).length ≤ pre.length
  | [] => by simp [scanS]
  | s :: pre => by
    have := scanS_len fr to t pre
    have h2 := one_len fr to s.key (sees s.vers s.key t)
    unfold scanS at *
    rw [List.flatMap_cons, List.length_append, List.length_cons]; omega
theorem scanS_snoc {l : List Ver} (fr to : ByteArray) (t : Int) (pre : List (Seg l)) (s : Seg l) : scanS fr to t (pre ++ [s]) = scanS fr to t pre ++ one fr to s.key (sees s.vers s.key t) := by
  unfold scanS; rw [List.flatMap_append]; simp
theorem Seg.sorted {l : List Ver} (hs : l.Pairwise vlt) (s : Seg l) : s.vers.Pairwise vlt := by
  unfold Seg.vers
  exact (hs.sublist (List.drop_sublist _ _)).sublist (List.take_sublist _ _)
theorem mscan_ok {w : World} {x0 : T_api_Versions} {l : List Ver} (h : VerRd w x0.List l) (fr to : ByteArray) (t : Int) {k : Sl → Int → World → Prop}
    (H : ∀ r w' base, w.heap.size ≤ base → base ≤ w'.heap.size → PaiOwn base w' r (vscan l x0.Low fr to t).1 → Bel w w' → k r (vscan l x0.Low fr to t).2 w') :
    Cl Try.prog fn_mvcc_Scan [T_api_Versions.v x0, .string fr, .string to, .int .u64 t].toArray w (fun e w' => ∃ (r0 : Sl) (r1 : Int), e = .returned (.tuple [Sl.v r0, .int .i64 r1].toArray) ∧ k r0 r1 w') := by
  refine L1_mvcc_Scan x0 fr to t w k ?_
  have hbig := h.big; have hcap := h.cap; have hlen := h.len
  unfold V_mvcc_Scan
  refine S.boxW (cs := x0.cells) rfl fun B4 w1 b1 hV hB4 => ?_
  refine S.boxW (cs := [.string fr]) rfl fun B5 w2 b2 h5 hB5 => ?_
  refine S.boxW (cs := [.string to]) rfl fun B6 w3 b3 h6 hB6 => ?_
  refine S.boxW (cs := [.int .u64 t]) rfl fun B7 w4 b4 h7 hB7 => ?_
  replace hV := ((hV.bel b2).bel b3).bel b4
  replace h5 := (h5.bel b3).bel b4
  replace h6 := h6.bel b4
  have b04 := ((b1.trans b2).trans b3).trans b4
  refine S.ldA agg_api_Versions x0 rfl hV.at rfl ?_
  refine S.ld1 one_uint64 t h7.cell ?_
  refine masked_ok (h.bel b04) t fun w5 b5 => ?_
  have b05 := b04.trans b5
  unfold vscan at H
  refine ⟨fun hc => ?_, fun hc => ?_⟩
  · rw [if_pos hc] at H; exact H _ w5 w5.heap.size b05.le (Nat.le_refl _) (OwnS.nil _ _ _ _ _) b05
  rw [if_neg hc] at H
  have hg := (vask_zero.1 (Classical.not_not.1 hc)).1
  have hl4 := hg.len
  have hs := hg.sorted
  refine S.new1W new_L_api_Pair fun B w6 b6 hR hB => ?_
  have b06 := b05.trans b6
  have hRR : Row w6 B [Sl.v Sl.none] ty_L_api_Pair := hR
  refine S.fld fld_api_Versions_List one_L_api_Version ((hV.bel b5).bel b6).at x0.List rfl ?_
  have w05 : w.heap.size ≤ w5.heap.size := b05.le
  refine keys_ok b06 h fun v b w7 hS hb6 hb7 b7 => ?_
  have b07 := b06.trans b7
  have hBw : B < w6.heap.size := hRR.lt
  have h57 := ((h5.bel b5).bel b6).bel b7
  have h67 := ((h6.bel b5).bel b6).bel b7
  have h77 := ((h7.bel b5).bel b6).bel b7
  have c7 := b7.le
  have lt5 : B5 < w5.heap.size := (h5.bel b5).lt
  have lt6 : B6 < w5.heap.size := (h6.bel b5).lt
  have lt7 : B7 < w5.heap.size := (h7.bel b5).lt
  have b57 : Bel w5 w7 := b6.trans b7
  refine ⟨Seg l, fun s => s.key, fun s => x0.List.sub s.lo s.hi 4, Keeps2 w b, fun xs => Cuts l xs l.length, fun _ => True, l.length,
    fun pre W => ∃ sl, Row W B [Sl.v sl] ty_L_api_Pair ∧ PaiOwn w7.heap.size W sl (scanS fr to t pre) ∧ Bel w5 W ∧ w7.heap.size ≤ W.heap.size, fun _ _ => False,
    RangeOk.of2 hS b07.le hb7 (fun s W W' row hi hg hr => ?_) (fun s W W' row hi hg hr => hi) (fun pre W hi => hi.elim fun _ h => h.2.2.2) ⟨Sl.none, hRR.bel b7, OwnS.nil _ _ _ _ _, b57, Nat.le_refl _⟩,
    fun W => Keeps2.refl _ _ _, ?_, ?_, ?_⟩
  · obtain ⟨sl, h1, h2, h3, h4⟩ := hi
    exact ⟨sl, h1.notwalk hg hr, h2.notwalk hg hr, h3.notwalk b57.le hg hr, Nat.le_trans h4 hg.size⟩
  · rintro pre s W ⟨sl, h1, h2, h3, h4⟩ hlenp
    have hsl := scanS_len fr to t pre
    have r5 := h5.bel b5; have r6 := h6.bel b5; have r7 := h7.bel b5
    unfold V_mvcc_Scan_f1b
    refine S.ld1 one_string fr (r5.bel h3).cell ?_
    have skip : ∀ W', Bel W W' → one fr to s.key (sees s.vers s.key t) = [] → (KeepsFrom w7.heap.size W W' ∧ Keeps2 w b W W' ∧ ∃ sl, Row W' B [Sl.v sl] ty_L_api_Pair ∧ PaiOwn w7.heap.size W' sl (scanS fr to t (pre ++ [s])) ∧ Bel w5 W' ∧ w7.heap.size ≤ W'.heap.size) := by
      intro W' hb hn
      refine ⟨KeepsFrom.bel hb, Keeps2.bel hb (by omega), sl, h1.bel hb, ?_, h3.trans hb, Nat.le_trans h4 hb.le⟩
      rw [scanS_snoc, hn, List.append_nil]; exact h2.bel hb
    have r2t : outSpan fr to s.key → V_mvcc_Scan_r2 (some ⟨B7, 0, none⟩) (some ⟨B, 0, none⟩) s.key (x0.List.sub s.lo s.hi 4) (fun W' => KeepsFrom w7.heap.size W W' ∧ Keeps2 w b W W' ∧ ∃ sl, Row W' B [Sl.v sl] ty_L_api_Pair ∧ PaiOwn w7.heap.size W' sl (scanS fr to t (pre ++ [s])) ∧ Bel w5 W' ∧ w7.heap.size ≤ W'.heap.size) true W :=
      fun ho => ⟨fun _ => skip W (Bel.refl _) (one_out ho), fun h => (nomatch h)⟩
    have r2f : ¬ outSpan fr to s.key → V_mvcc_Scan_r2 (some ⟨B7, 0, none⟩) (some ⟨B, 0, none⟩) s.key (x0.List.sub s.lo s.hi 4) (fun W' => KeepsFrom w7.heap.size W W' ∧ Keeps2 w b W W' ∧ ∃ sl, Row W' B [Sl.v sl] ty_L_api_Pair ∧ PaiOwn w7.heap.size W' sl (scanS fr to t (pre ++ [s])) ∧ Bel w5 W' ∧ w7.heap.size ≤ W'.heap.size) false W := by
      intro hin
      refine ⟨fun h => (nomatch h), fun _ => ?_⟩
      refine S.ld1 one_uint64 t (r7.bel h3).cell ?_
      refine last_ok (s.rd (h.bel (b05.trans h3))) (s.sorted hs) s.key t fun W1 c1 => ?_
      refine S.newW new_api_Version rfl agg_api_Version (cs := (verOr (sees s.vers s.key t)).cells) rfl rfl rfl fun C W2 c2 hX _ => ?_
      have c02 := c1.trans c2
      cases hq : sees s.vers s.key t with
      | none => exact ⟨fun h => (nomatch h), fun _ => ⟨fun h => (nomatch h), fun _ => skip W2 c02 (by rw [hq, one_none])⟩⟩
      | some x =>
        refine ⟨fun _ => ?_, fun h => (nomatch h)⟩
        rw [hq] at hX
        refine S.fld fld_api_Version_Gone one_bool hX.at x.Gone rfl ?_
        unfold V_mvcc_Scan_r3
        refine ⟨fun hx => ?_, fun hx => skip W2 c02 (by rw [hq, one_gone (by cases hxg : x.Gone <;> simp_all)])⟩
        have hxg : x.Gone = false := by cases hxg : x.Gone <;> simp_all
        refine S.ld1 one_L_api_Pair sl (h1.bel c02).cell ?_
        refine S.fld fld_api_Version_Val one_string hX.at x.Val rfl ?_
        refine ⟨⟨s.key, x.Val⟩, W2, by kernel_rfl, ?_⟩
        refine pai_app1 (w0 := w5) (h2.bel c02) (h3.trans c02) b57.le (Nat.le_trans h4 c02.le) (by omega) fun s' W3 g5 g6 g7 => ?_
        have hne : (Sl.v sl).ownBlock ≠ some B := fun e => by have := h2.lo e; omega
        have hr1 := (h1.bel c02).grown g7 hne
        refine S.st0 one_L_api_Pair hr1 rfl rfl fun W4 hr2 hg2 => ?_
        have le02 := c02.le
        refine ⟨(KeepsFrom.bel c02).trans ((KeepsFrom.row g7 fun r hr => (h2.bel c02).isRow hr).trans (KeepsFrom.row hg2 fun r hr => by cases hr; exact ⟨_, _, _, hr1⟩)), ?_, s', hr2, ?_, ?_, Nat.le_trans h4 (Nat.le_trans c02.le (Nat.le_trans g7.size hg2.size))⟩
        · exact (Keeps2.bel c02 (by omega)).trans ((Keeps2.grown g7 (by omega) fun r hr => by have := h2.lo hr; have := b07.le; omega).trans (Keeps2.grown hg2 (by have := g7.size; omega) fun r hr => by cases hr; omega))
        · rw [scanS_snoc, hq, one_is hin hxg]
          exact g5.kept hg2 (by
            cases ho : (Sl.v s').ownBlock with
            | none => exact .inl rfl
            | some q => exact .inr fun e => by have h8 := g5.lo ho; have h9 := Option.some.inj e; omega)
        · exact g6.grown hg2 fun r hr => by cases hr; omega
    refine ⟨fun hf => r2t (.inl hf), fun hf => ?_⟩
    refine S.ld1 one_string to (r6.bel h3).cell ?_
    refine ⟨fun hto => ?_, fun hto => r2f (fun ho => by
      rcases ho with g | g
      · rw [hf] at g; cases g
      · exact hto g.1)⟩
    refine S.ld1 one_string to (r6.bel h3).cell ?_
    unfold V_mvcc_Scan_r4
    cases ht : sLt s.key to with
    | false => exact r2t (.inr ⟨hto, ht⟩)
    | true => exact r2f (fun ho => by
        rcases ho with g | g
        · rw [hf] at g; cases g
        · rw [ht] at g; cases g.2)
  · rintro D xs W hD hC ⟨sl, h1, h2, h3, h4⟩ hK
    refine S.ld1 one_L_api_Pair sl h1.cell ?_
    refine ⟨hK, ?_⟩
    have hg := shut_grown W D
    have hr : ∀ r, some D = some r → w7.heap.size ≤ r ∧ ∃ o : Obj, W.heap[r]? = some o ∧ o.isCells = false := fun r e => by cases e; exact ⟨hD, _, hK, rfl⟩
    have hsc := Cuts.scan hs fr to t hC
    refine H sl _ w7.heap.size b07.le (Nat.le_trans h4 hg.size) ?_ (b05.trans (h3.notwalk b57.le hg hr))
    rw [hsc]; exact h2.notwalk hg hr
  · exact fun D pre W h1 h2 h3 h4 => trivial
end Go.Proofs.Ytealcoghiaeiiaa.VG
