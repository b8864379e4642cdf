/- The document's answers for events, as calls of the program: Append, some, Read, All, Streams; no condition. -/
import Derived.Test.YtlghlmoifjcgoaaEvSpec
set_option linter.unusedVariables false
namespace Go.Proofs.Ytlghlmoifjcgoaa.VG
open Go.VB Go.Proofs

abbrev StrRd (w : World) (s : Sl) (l : List ByteArray) : Prop := Rd (fun x : ByteArray => [Value.string x]) 1 w s l
abbrev StrOwn (base : Nat) (w : World) (s : Sl) (l : List ByteArray) : Prop := OwnS (fun x : ByteArray => [Value.string x]) 1 9 base w s l
theorem StrOwn.rd {base : Nat} {w : World} {s : Sl} {l : List ByteArray} (h : StrOwn base w s l) : StrRd w s l := OwnS.rd h (fun _ => rfl)

theorem getL {α : Type} {l : List α} {i : Int} (h0 : 0 ≤ i) (h : i < l.length) : ∃ x, l[i.toNat]? = some x := ⟨l[i.toNat]'(by omega), by simp⟩

theorem append_ok {w : World} {x0 x4 : Sl} {l : List Ev} {data : List ByteArray} (h : EvRd w x0 l) (hd : StrRd w x4 data) (s mark : ByteArray) (x : Int) {k : Sl → Int → Int → World → Prop}
    (H : ∀ r w', EvRd w' r (app l s x mark data).1 → Bel w w' → k r (app l s x mark data).2.1 (app l s x mark data).2.2 w') :
    Cl Try.prog fn_ladingref12_Append [Sl.v x0, .string s, .int .i64 x, .string mark, Sl.v x4].toArray w (fun e w' => ∃ (r0 : Sl) (r1 r2 : Int), e = .returned (.tuple [Sl.v r0, .int .i64 r1, .int .i64 r2].toArray) ∧ k r0 r1 r2 w') := by
  refine L1_ladingref12_Append x0 s x mark x4 w k ?_
  have hbig := h.big; have hcap := h.cap; have hlen := h.len
  have dbig := hd.big; have dcap := hd.cap; have dlen := hd.len
  unfold V_ladingref12_Append
  refine marked_ok h s mark fun w1 hb1 => ?_
  refine ⟨fun hc => ?_, fun hc => ?_⟩
  · have := H Sl.none w1
    unfold app at this; rw [if_pos hc] at this
    rw [chk_ne hc]; exact this (Rd.nil _ _ _) hb1
  have hc0 : chk l = 0 := Classical.not_not.1 hc
  rw [if_pos hc0]
  have hG := (chk_zero.1 hc0).1
  unfold app at H; rw [if_neg hc] at H
  have r2 : ∀ b : Bool, (b = true ↔ (s = noB ∨ 1024 < s.size ∨ 1024 < mark.size)) → V_ladingref12_Append_r2 x0 s x mark x4 k (mkd l s mark) b w1 := by
    intro b hbb
    unfold V_ladingref12_Append_r2
    refine ⟨fun b' y w2 => ∃ n : Nat, y = (n : Int) ∧ n ≤ data.length ∧ Bel w1 w2 ∧ (b' = true ↔ (s = noB ∨ 1024 < s.size ∨ 1024 < mark.size) ∨ ∃ d ∈ data.take n, 1024 < d.size), fun _ y _ => (x4.len - y).toNat, ?_, ?_⟩
    · exact ⟨0, rfl, by omega, Bel.refl _, by rw [hbb]; simp⟩
    · rintro b' y w2 ⟨n, rfl, hn, hb2, hbb'⟩
      have hb02 := hb1.trans hb2
      unfold V_ladingref12_Append_l3b
      refine ⟨fun hc => ?_, fun hc => ?_⟩
      · obtain ⟨d, hdn⟩ := getL (l := data) (i := (n : Int)) (by omega) (by omega)
        have hdn' : data[n]? = some d := by simpa using hdn
        refine S.idx (hd.bel hb02) und_L_string esz_L_string (by omega) hdn fun ad hA => ?_
        refine S.ld1 one_string d (by have := hA 0 (.string d) rfl; simpa [Addr.add] using this) ?_
        have go : ∀ c : Bool, (c = true ↔ (b' = true ∨ 1024 < d.size)) → V_ladingref12_Append_r4 n (fun x15' x46' w' => (∃ n : Nat, x46' = (n : Int) ∧ n ≤ data.length ∧ Bel w1 w' ∧ (x15' = true ↔ (s = noB ∨ 1024 < s.size ∨ 1024 < mark.size) ∨ ∃ d ∈ data.take n, 1024 < d.size)) ∧ (x4.len - x46').toNat < (x4.len - (n : Int)).toNat) c w2 := by
          intro c hcc
          unfold V_ladingref12_Append_r4
          rw [wr64 (by omega) (by omega)]
          refine ⟨⟨n + 1, by omega, by omega, hb2, ?_⟩, by omega⟩
          rw [hcc, hbb', List.take_add_one, hdn']
          simp only [Option.toList_some, List.mem_append, List.mem_singleton]
          constructor
          · rintro ((h | ⟨d', h1, h2⟩) | h)
            · exact .inl h
            · exact .inr ⟨d', .inl h1, h2⟩
            · exact .inr ⟨d, .inr rfl, h⟩
          · rintro (h | ⟨d', h1 | rfl, h2⟩)
            · exact .inl (.inl h)
            · exact .inl (.inr ⟨d', h1, h2⟩)
            · exact .inr h2
        exact ⟨fun ht => go true (by simp [ht]), fun hf => go _ (by rw [hf]; simp; omega)⟩
      · obtain rfl : n = data.length := by omega
        rw [List.take_length] at hbb'
        have hL : b' = true ↔ LongIn s mark data := by
          rw [hbb']; unfold LongIn
          constructor
          · rintro ((h | h | h) | h)
            · exact .inl h
            · exact .inr (.inl h)
            · exact .inr (.inr (.inl h))
            · exact .inr (.inr (.inr h))
          · rintro (h | h | h | h)
            · exact .inl (.inl h)
            · exact .inl (.inr (.inl h))
            · exact .inl (.inr (.inr h))
            · exact .inr h
        refine of_ok (h.bel hb02) (by omega) s fun r w3 hO hb3 => ?_
        have hrl : (r.len : Int) = (cnt l s : Int) := by have := hO.len; unfold cnt; omega
        refine ev_copy ((h.bel hb02).bel hb3) (by omega) fun c w4 hC hb4 => ?_
        have hb04 := (hb02.trans hb3).trans hb4
        refine ⟨fun ht => ?_, fun hf => ?_⟩
        · rw [if_pos (hL.1 ht)] at H
          exact H Sl.none w4 (Rd.nil _ _ _) hb04
        rw [if_neg (fun hx => by rw [hL.2 hx] at hf; cases hf)] at H
        refine ⟨fun hm => ?_, fun hm => ?_⟩
        · rw [if_pos hm] at H
          rw [hrl]
          exact H c w4 hC.rd hb04
        rw [if_neg hm] at H
        have r5 : ∀ q : Bool, (q = true ↔ (0 ≤ x ∧ x ≠ (cnt l s : Int))) → V_ladingref12_Append_r5 x0 s mark x4 k r c q w4 := by
          intro q hq
          unfold V_ladingref12_Append_r5
          refine ⟨fun ht => ?_, fun hf => ?_⟩
          · rw [if_pos (hq.1 ht)] at H
            exact H Sl.none w4 (Rd.nil _ _ _) hb04
          rw [if_neg (fun hx => by rw [hq.2 hx] at hf; cases hf)] at H
          rw [wr64 (by omega) (by omega)]
          refine ⟨fun hm => ?_, fun hm => ?_⟩
          · rw [if_pos (by omega)] at H
            exact H Sl.none w4 (Rd.nil _ _ _) hb04
          rw [if_neg (by omega)] at H
          rw [hrl]
          refine ⟨fun mk n o j w5 => ∃ i : Nat, j = (i : Int) ∧ i ≤ data.length ∧ n = (cnt l s : Int) + i ∧ mk = (if i = 0 then mark else noB) ∧ Bel w3 w5 ∧ EvOwn w3.heap.size w5 o (l ++ (news s mark (cnt l s) l.length data).take i), fun _ _ _ j _ => (x4.len - j).toNat, ?_, ?_⟩
          · exact ⟨0, rfl, by omega, by omega, rfl, hb4, by simpa using hC⟩
          · rintro mk n o j w5 ⟨i, rfl, hi, rfl, rfl, hb5, hO5⟩
            have hb05 := (hb02.trans hb3).trans hb5
            have hcl := cnt_le l s
            have hol := hO5.len
            rw [List.length_append, List.length_take, news_len] at hol
            unfold V_ladingref12_Append_l6b
            refine ⟨fun hc => ?_, fun hc => ?_⟩
            · obtain ⟨d, hdn⟩ := getL (l := data) (i := (i : Int)) (by omega) (by omega)
              have hdn' : data[i]? = some d := by simpa using hdn
              refine S.idx (hd.bel hb05) und_L_string esz_L_string (by omega) hdn fun ad hA => ?_
              refine S.ld1 one_string d (by have := hA 0 (.string d) rfl; simpa [Addr.add] using this) ?_
              rw [wr64 (by omega) (by omega), wr64 (by omega) (by omega), wr64 (by omega) (by omega)]
              have hol' : (o.len : Int) = (l.length : Int) + i := by omega
              rw [hol']
              refine ⟨⟨s, (cnt l s : Int) + i + 1, (l.length : Int) + i + 1, if i = 0 then mark else noB, d⟩, w5, by kernel_rfl, ?_⟩
              refine ev_app1 (w0 := w3) hO5 hb5 (Nat.le_refl _) hb5.le (by rw [List.length_append, List.length_take, news_len]; omega) fun o' w6 hO6 hb6 hg6 => ?_
              refine ⟨⟨i + 1, by omega, by omega, by omega, by simp [noB], hb6, ?_⟩, by dsimp only; omega⟩
              rw [news_take hdn', ← List.append_assoc, show (cnt l s : Int) + 1 + i = (cnt l s : Int) + i + 1 by omega, show (l.length : Int) + 1 + i = (l.length : Int) + i + 1 by omega]
              exact hO6
            · obtain rfl : i = data.length := by omega
              have := H o w5 (by rw [← news_len s mark (cnt l s) l.length data, List.take_length] at hO5; exact hO5.rd) hb05
              exact this
        refine ⟨fun h0 => r5 _ ?_, fun h0 => r5 false ?_⟩
        · rw [hrl]; simp [h0]
        · simp; omega
  have r1 : ∀ b : Bool, (b = true ↔ (s = noB ∨ 1024 < s.size)) → V_ladingref12_Append_r1 x0 s x mark x4 k (mkd l s mark) b w1 := by
    intro b hb
    unfold V_ladingref12_Append_r1
    refine ⟨fun ht => r2 true ?_, fun hf => r2 _ ?_⟩
    · rcases hb.1 ht with h | h <;> simp [h]
    · have : ¬ (s = noB ∨ 1024 < s.size) := fun h => by rw [hb.2 h] at hf; cases hf
      simp only [decide_eq_true_eq]
      constructor
      · intro h; exact .inr (.inr (by omega))
      · rintro (h | h | h)
        · exact absurd (.inl h) this
        · exact absurd (.inr h) this
        · omega
  refine ⟨fun h0 => r1 true (by simp [h0]), fun h0 => r1 _ ?_⟩
  simp only [decide_eq_true_eq]
  constructor
  · intro h; exact .inr (by omega)
  · rintro (h | h)
    · exact absurd h h0
    · omega

theorem toNat_min {a b : Int} : (if a < b then a else b).toNat = min b.toNat a.toNat := by split <;> omega

theorem some_ok {w : World} {x0 : Sl} {l : List Ev} (h : EvRd w x0 l) (hl : l.length ≤ 2199023255552) {m : Int} (hm : 0 ≤ m) {k : Sl → World → Prop} (H : ∀ r w', EvRd w' r (l.take m.toNat) → Bel w w' → k r w') :
    Cl Try.prog fn_ladingref12_some [Sl.v x0, .int .i64 m].toArray w (fun e w' => ∃ r0 : Sl, e = .returned (Sl.v r0) ∧ k r0 w') := by
  refine L1_ladingref12_some x0 m w k ?_
  have hbig := h.big; have hcap := h.cap; have hlen := h.len
  unfold V_ladingref12_some
  refine ⟨_, _, bs0_L_api_Event w, ?_⟩
  obtain ⟨n, hn, hn'⟩ : ∃ n : Nat, (if (x0.len : Int) < m then (x0.len : Int) else m) = (n : Int) ∧ n = min m.toNat x0.len := by
    refine ⟨_, ?_, rfl⟩; split <;> omega
  rw [hn]
  refine ⟨_, _, run_upto und_L_api_Event esz_L_api_Event (by omega), ?_⟩
  have hR := (h.bel (Bel.alloc w (.cells #[] 32))).sub (l := 0) (h := n) (by omega) (by omega)
  refine ev_app (w0 := w) (OwnS.lit0 (Nat.le_refl _)) hR (Bel.alloc _ _) (Nat.le_refl _) (by rw [size_alloc']; omega) (by simp; omega) fun s' w' h1 h2 _ => H s' w' ?_ h2
  have : (l.take m.toNat) = [] ++ ((l.drop 0).take (n - 0)) := by
    rw [List.nil_append, List.drop_zero, Nat.sub_zero, hn']
    rcases Nat.le_total m.toNat x0.len with h3 | h3
    · rw [Nat.min_eq_left h3]
    · rw [Nat.min_eq_right h3, List.take_of_length_le (by omega), List.take_of_length_le (by omega)]
  rw [this]; exact h1.rd

theorem page_ok {w : World} {y : Sl} {l : List Ev} (h : EvRd w y l) (hl : l.length ≤ 2199023255552) {a m : Int} (ha : 1 ≤ a) (ham : a ≤ 9223372036854775807) (hm : 0 ≤ m) {k : Sl → World → Prop} (H : ∀ r w', EvRd w' r (page l a m) → Bel w w' → k r w') :
    opE Try.prog Sl.v (Instr.sliceAt ty_L_api_Event (Sl.v y) (some (.int .i64 (if (y.len : Int) < (IntKind.wrap .i64 (a - 1)) then (y.len : Int) else (IntKind.wrap .i64 (a - 1))))) none none) w
      (fun x w => Cl Try.prog fn_ladingref12_some [Sl.v x, .int .i64 m].toArray w (fun e w' => ∃ r0 : Sl, e = .returned (Sl.v r0) ∧ k r0 w')) := by
  have hbig := h.big; have hcap := h.cap; have hlen := h.len
  rw [wr64 (by omega) (by omega)]
  obtain ⟨n, hn, hn'⟩ : ∃ n : Nat, (if (y.len : Int) < a - 1 then (y.len : Int) else a - 1) = (n : Int) ∧ n = min (a - 1).toNat y.len := by
    refine ⟨_, ?_, rfl⟩; split <;> omega
  rw [hn]
  refine ⟨_, _, run_from und_L_api_Event esz_L_api_Event (by omega), ?_⟩
  have hR := h.sub (l := n) (h := y.len) (by omega) (by omega)
  have hR' : EvRd w (y.sub n y.len 5) (l.drop (a - 1).toNat) := by
    have : (l.drop (a - 1).toNat) = (l.drop n).take (y.len - n) := by
      rw [List.take_of_length_le (by simp; omega)]
      rcases Nat.le_total (a - 1).toNat y.len with h1 | h1
      · rw [hn', Nat.min_eq_left h1]
      · rw [hn', Nat.min_eq_right h1, List.drop_of_length_le (by omega), List.drop_of_length_le (by omega)]
    rw [this]; exact hR
  exact some_ok hR' (by simp; omega) hm H

theorem read_ok {w : World} {x0 : Sl} {l : List Ev} (h : EvRd w x0 l) (s : ByteArray) (a m : Int) (ham : a ≤ 9223372036854775807) {k : Sl → Int → World → Prop}
    (H : ∀ r w', EvRd w' r (rdS l s a m).1 → Bel w w' → k r (rdS l s a m).2 w') :
    Cl Try.prog fn_ladingref12_Read [Sl.v x0, .string s, .int .i64 a, .int .i64 m].toArray w (fun e w' => ∃ (r0 : Sl) (r1 : Int), e = .returned (.tuple [Sl.v r0, .int .i64 r1].toArray) ∧ k r0 r1 w') := by
  refine L1_ladingref12_Read x0 s a m w k ?_
  unfold V_ladingref12_Read
  refine check_ok h fun w1 hb1 => ?_
  unfold rdS at H
  refine ⟨fun hc => ?_, fun hc => ?_⟩
  · rw [if_neg (by rw [hc]; simp)] at H
    have bad : (a < 1 ∨ m < 0) → V_ladingref12_Read_r2 x0 s a m k (chk l) true w1 := fun hx => by
      unfold V_ladingref12_Read_r2
      refine ⟨fun _ => ⟨fun _ => ?_, fun h => absurd (by decide) h⟩, fun h => (nomatch h)⟩
      rw [if_pos hx] at H
      exact H Sl.none w1 (Rd.nil _ _ _) hb1
    unfold V_ladingref12_Read_r3
    refine ⟨fun h1 => bad (.inl h1), fun h1 => ?_⟩
    by_cases h2 : m < 0
    · rw [decide_eq_true h2]; exact bad (.inr h2)
    rw [decide_eq_false h2, hc]
    rw [if_neg (by omega)] at H
    unfold V_ladingref12_Read_r2
    refine ⟨fun h => (nomatch h), fun _ => ⟨fun h => absurd rfl h, fun _ => ?_⟩⟩
    have hG := (chk_zero.1 hc).1
    refine of_ok (h.bel hb1) (by omega) s fun r w2 hO hb2 => ?_
    have hcl := cnt_le l s
    refine page_ok hO.rd (by unfold cnt at hcl; omega) (by omega) ham (by omega) fun r' w3 h3 hb3 => ?_
    exact H r' w3 h3 ((hb1.trans hb2).trans hb3)
  · rw [if_pos hc] at H
    unfold V_ladingref12_Read_r2
    refine ⟨fun h => (nomatch h), fun _ => ⟨fun _ => ?_, fun h => absurd hc h⟩⟩
    rw [chk_ne hc]
    exact H Sl.none w1 (Rd.nil _ _ _) hb1

theorem all_ok {w : World} {x0 : Sl} {l : List Ev} (h : EvRd w x0 l) (a m : Int) (ham : a ≤ 9223372036854775807) {k : Sl → Int → World → Prop}
    (H : ∀ r w', EvRd w' r (rdA l a m).1 → Bel w w' → k r (rdA l a m).2 w') :
    Cl Try.prog fn_ladingref12_All [Sl.v x0, .int .i64 a, .int .i64 m].toArray w (fun e w' => ∃ (r0 : Sl) (r1 : Int), e = .returned (.tuple [Sl.v r0, .int .i64 r1].toArray) ∧ k r0 r1 w') := by
  refine L1_ladingref12_All x0 a m w k ?_
  unfold V_ladingref12_All
  refine check_ok h fun w1 hb1 => ?_
  unfold rdA at H
  refine ⟨fun hc => ?_, fun hc => ?_⟩
  · rw [if_neg (by rw [hc]; simp)] at H
    have bad : (a < 1 ∨ m < 0) → V_ladingref12_All_r2 x0 a m k (chk l) true w1 := fun hx => by
      unfold V_ladingref12_All_r2
      refine ⟨fun _ => ⟨fun _ => ?_, fun h => absurd (by decide) h⟩, fun h => (nomatch h)⟩
      rw [if_pos hx] at H
      exact H Sl.none w1 (Rd.nil _ _ _) hb1
    unfold V_ladingref12_All_r3
    refine ⟨fun h1 => bad (.inl h1), fun h1 => ?_⟩
    by_cases h2 : m < 0
    · rw [decide_eq_true h2]; exact bad (.inr h2)
    rw [decide_eq_false h2, hc]
    rw [if_neg (by omega)] at H
    unfold V_ladingref12_All_r2
    refine ⟨fun h => (nomatch h), fun _ => ⟨fun h => absurd rfl h, fun _ => ?_⟩⟩
    have hG := (chk_zero.1 hc).1
    refine page_ok (h.bel hb1) (by omega) (by omega) ham (by omega) fun r' w3 h3 hb3 => ?_
    exact H r' w3 h3 (hb1.trans hb3)
  · rw [if_pos hc] at H
    unfold V_ladingref12_All_r2
    refine ⟨fun h => (nomatch h), fun _ => ⟨fun _ => ?_, fun h => absurd hc h⟩⟩
    rw [chk_ne hc]
    exact H Sl.none w1 (Rd.nil _ _ _) hb1
end Go.Proofs.Ytlghlmoifjcgoaa.VG
