/- The program's Append, Read, All answer as the document's; no condition. -/
import Derived.Test.YtlghlmoifjcgoaaEvSeq
set_option linter.unusedVariables false
namespace Go.Proofs.Ytlghlmoifjcgoaa.VG
open Go.VB Go.Proofs Go.RowKit

theorem clone_ok {w : World} {x0 : Sl} {l : List Ev} (h : EvRd w x0 l) (hl : l.length ≤ 2199023255552) {k : Sl → World → Prop} (H : ∀ r w' base, w.heap.size ≤ base → base ≤ w'.heap.size → EvOwn base w' r l → Bel w w' → k r w') :
    Cl Try.prog fn_slices_Clone_api_Event_api_Event [Sl.v x0].toArray w (fun e w' => ∃ r0 : Sl, e = .returned (Sl.v r0) ∧ k r0 w') := by
  refine L1_slices_Clone_api_Event_api_Event x0 w k ?_
  unfold V_slices_Clone_api_Event_api_Event
  obtain ⟨a, len, cap⟩ := x0
  cases a with
  | none =>
    have hcap := h.nilc rfl; have h1 := h.cap; have h2 := h.len
    have hl0 : l = [] := List.eq_nil_of_length_eq_zero (by simp at hcap h1 h2; omega)
    refine ⟨true, w, by kernel_rfl, fun _ => ?_, fun h => (nomatch h)⟩
    subst hl0
    exact H _ _ _ (Nat.le_refl _) (Nat.le_refl _) (OwnS.nil _ _ _ _ _) (Bel.refl _)
  | some a =>
    refine ⟨false, w, by kernel_rfl, fun h => (nomatch h), fun _ => ?_⟩
    exact ev_copy h hl fun s' w' h1 h2 => H s' w' _ (Nat.le_refl _) h2.le h1 h2

theorem longs_ok {w : World} {x : Sl} {data : List ByteArray} (hd : StrRd w x data) {k : Bool → World → Prop} (H : ∀ b w', (b = true ↔ ∃ d ∈ data, 1024 < d.size) → Bel w w' → k b w') :
    Cl Try.prog fn_slices_ContainsFunc_string_string [Sl.v x, .func (.func fn_events_long) #[] #[]].toArray w (fun e w' => ∃ r0 : Bool, e = .returned (.bool r0) ∧ k r0 w') := by
  have dbig := hd.big; have dcap := hd.cap; have dlen := hd.len
  refine L1_slices_ContainsFunc_string_string x _ w k ?_
  unfold V_slices_ContainsFunc_string_string
  refine L1_slices_IndexFunc_string_string x _ w _ ?_
  unfold V_slices_IndexFunc_string_string
  refine ⟨fun i w1 => ∃ n : Nat, i = (n : Int) ∧ n ≤ data.length ∧ Bel w w1 ∧ ∀ d ∈ data.take n, ¬ 1024 < d.size, fun i _ => (x.len - i).toNat, ?_, ?_⟩
  · exact ⟨0, rfl, by omega, Bel.refl _, by simp⟩
  rintro i w1 ⟨n, rfl, hn, hb, hno⟩
  unfold V_slices_IndexFunc_string_string_l1b
  refine ⟨fun hc => ?_, fun hc => ?_⟩
  · obtain ⟨d, hdn⟩ := getL (l := data) (i := (n : Int)) (by omega) (by omega)
    have hdn' : data[n]? = some d := by simpa using hdn
    refine S.idx (hd.bel hb) und_L_string esz_L_string (by omega) hdn fun ad hA => ?_
    refine S.ld1 one_string d (by have := hA 0 (.string d) rfl; simpa [Addr.add] using this) ?_
    refine .inl ⟨fn_events_long, [], [], rfl, ent28, long_ok d w1 ?_⟩
    refine ⟨fun ht => ?_, fun hf => ?_⟩
    · have h1 := of_decide_eq_true ht
      dsimp only
      rw [decide_eq_true (p := 0 ≤ (n : Int)) (by omega)]
      exact H true w1 ⟨fun _ => ⟨d, List.mem_of_getElem? hdn', by omega⟩, fun _ => rfl⟩ hb
    · have h1 := of_decide_eq_false hf
      rw [wr64 (by omega) (by omega)]
      refine ⟨⟨n + 1, by omega, by omega, hb, fun e he => ?_⟩, by dsimp only; omega⟩
      rw [List.take_add_one, hdn'] at he
      rcases List.mem_append.1 he with h2 | h2
      · exact hno e h2
      · simp at h2; subst h2; omega
  · obtain rfl : n = data.length := by omega
    rw [List.take_length] at hno
    refine H _ w1 ⟨fun h => absurd (of_decide_eq_true h) (by omega), fun ⟨d, h1, h2⟩ => absurd h2 (hno d h1)⟩ hb

theorem eappend_ok {w : World} {x0 x4 : Sl} {l : List Ev} {data : List ByteArray} (h : EvRd w x0 l) (hl : l.length ≤ 2199023255552) (hd : StrRd w x4 data) (s mark : ByteArray) (x : Int) {k : Sl → Int → Int → World → Prop}
    (H : ∀ r w', EvRd w' r (app l s x mark data).1 → Bel w w' → k r (app l s x mark data).2.1 (app l s x mark data).2.2 w') :
    Cl Try.prog fn_events_Append [Sl.v x0, .string s, .int .i64 x, .string mark, Sl.v x4].toArray w (fun e w' => ∃ (r0 : Sl) (r1 r2 : Int), e = .returned (.tuple [Sl.v r0, .int .i64 r1, .int .i64 r2].toArray) ∧ k r0 r1 r2 w') := by
  refine L1_events_Append x0 s x mark x4 w k ?_
  have hbig := h.big; have hcap := h.cap; have hlen := h.len
  have dbig := hd.big; have dcap := hd.cap; have dlen := hd.len
  unfold V_events_Append
  refine emarked_ok h s mark fun w1 hb1 => ?_
  refine of_fn_ok (h.bel hb1) s fun v w2 hs hb2 => ?_
  refine collect_ok hs (Nat.le_refl _) hl fun r w3 xs hxs hr hb3 => ?_
  subst hxs
  have hb03 := (hb1.trans hb2).trans hb3
  refine clone_ok (h.bel hb03) hl fun c w4 base hba hba' hC hb34 => ?_
  have hb4 := hb03.trans hb34
  have hrl : (r.len : Int) = (cnt l s : Int) := by have := hr.len; unfold cnt; omega
  refine ⟨fun hc => ?_, fun hc => ?_⟩
  · have := H Sl.none w4
    unfold app at this; rw [if_pos hc] at this
    rw [chk_ne hc]; exact this (Rd.nil _ _ _) hb4
  have hc0 : chk l = 0 := Classical.not_not.1 hc
  rw [if_pos hc0]
  have hG := (chk_zero.1 hc0).1
  unfold app at H; rw [if_neg hc] at H
  have r3 : ∀ (b : Bool) (w5 : World), Bel w4 w5 → (b = true ↔ LongIn s mark data) → V_events_Append_r3 x0 s x mark x4 k (mkd l s mark) r c b w5 := by
    intro b w5 hb45 hb
    have hb5 := hb4.trans hb45
    unfold V_events_Append_r3
    refine ⟨fun ht => ?_, fun hf => ?_⟩
    · rw [if_pos (hb.1 ht)] at H
      exact H Sl.none w5 (Rd.nil _ _ _) hb5
    rw [if_neg (fun hx => by rw [hb.2 hx] at hf; cases hf)] at H
    refine ⟨fun hm => ?_, fun hm => ?_⟩
    · rw [if_pos hm] at H
      rw [hrl]
      exact H c w5 (EvOwn.rd (hC.bel hb45)) hb5
    rw [if_neg hm] at H
    have r4 : ∀ q : Bool, (q = true ↔ (0 ≤ x ∧ x ≠ (cnt l s : Int))) → V_events_Append_r4 x0 s mark x4 k r c q w5 := by
      intro q hq
      unfold V_events_Append_r4
      refine ⟨fun ht => ?_, fun hf => ?_⟩
      · rw [if_pos (hq.1 ht)] at H
        exact H Sl.none w5 (Rd.nil _ _ _) hb5
      rw [if_neg (fun hx => by rw [hq.2 hx] at hf; cases hf)] at H
      rw [wr64 (by omega) (by omega)]
      refine ⟨fun hm => ?_, fun hm => ?_⟩
      · rw [if_pos (by omega)] at H
        exact H Sl.none w5 (Rd.nil _ _ _) hb5
      rw [if_neg (by omega)] at H
      refine ⟨fun o j w6 => ∃ i : Nat, j = (i : Int) ∧ i ≤ data.length ∧ Bel w w6 ∧ base ≤ w6.heap.size ∧ EvOwn base w6 o (l ++ (news s mark (cnt l s) l.length data).take i), fun _ j _ => (x4.len - j).toNat, ?_, ?_⟩
      · exact ⟨0, rfl, by omega, hb5, Nat.le_trans hba' hb45.le, by simpa using hC.bel hb45⟩
      rintro o j w6 ⟨i, rfl, hi, hb6, hba6, hO6⟩
      have hcl := cnt_le l s
      have hol := hO6.len
      rw [List.length_append, List.length_take, news_len] at hol
      have hwb : w.heap.size ≤ base := Nat.le_trans hb03.le hba
      unfold V_events_Append_l5b
      refine ⟨fun hc => ?_, fun hc => ?_⟩
      · obtain ⟨d, hdn⟩ := getL (l := data) (i := (i : Int)) (by omega) (by omega)
        have hdn' : data[i]? = some d := by simpa using hdn
        refine S.idx (hd.bel hb6) und_L_string esz_L_string (by omega) hdn fun ad hA => ?_
        refine S.ld1 one_string d (by have := hA 0 (.string d) rfl; simpa [Addr.add] using this) ?_
        have hol' : (o.len : Int) = (l.length : Int) + i := by omega
        rw [hrl, hol', wr64 (n := (cnt l s : Int) + 1) (by omega) (by omega), wr64 (n := (cnt l s : Int) + 1 + i) (by omega) (by omega), wr64 (n := (l.length : Int) + i + 1) (by omega) (by omega)]
        refine ⟨⟨s, (cnt l s : Int) + 1 + i, (l.length : Int) + i + 1, noB, d⟩, w6, by kernel_rfl, ?_⟩
        refine S.new new_api_Event rfl agg_api_Event (cs := T_api_Event.cells ⟨s, (cnt l s : Int) + 1 + i, (l.length : Int) + i + 1, noB, d⟩) rfl rfl rfl ?_
        have hrow := Row.new w6 (T_api_Event.cells ⟨s, (cnt l s : Int) + 1 + i, (l.length : Int) + i + 1, noB, d⟩) ty_api_Event
        have hb67 := Bel.alloc w6 (.cells (T_api_Event.cells ⟨s, (cnt l s : Int) + 1 + i, (l.length : Int) + i + 1, noB, d⟩).toArray ty_api_Event)
        have hBge : base ≤ w6.heap.size := hba6
        have hO7 := hO6.bel hb67
        have hBo : (Sl.v o).ownBlock ≠ some w6.heap.size := fun e => by have := (hO6.row.lt _ e).2; omega
        generalize w6.heap.size = B at hrow hBge hBo ⊢
        generalize (w6.alloc (.cells (T_api_Event.cells ⟨s, (cnt l s : Int) + 1 + i, (l.length : Int) + i + 1, noB, d⟩).toArray ty_api_Event)) = w7 at hrow hb67 hO7 ⊢
        have hb7 := hb6.trans hb67
        have j6 : ∀ (w8 : World), Bel w w8 → base ≤ w8.heap.size → EvOwn base w8 o (l ++ (news s mark (cnt l s) l.length data).take i) → Row w8 B (T_api_Event.cells ⟨s, (cnt l s : Int) + 1 + i, (l.length : Int) + i + 1, if i = 0 then mark else noB, d⟩) ty_api_Event →
            V_events_Append_j6 o i (fun x16' x75' w' => (∃ i : Nat, x75' = (i : Int) ∧ i ≤ data.length ∧ Bel w w' ∧ base ≤ w'.heap.size ∧ EvOwn base w' x16' (l ++ (news s mark (cnt l s) l.length data).take i)) ∧ (x4.len - x75').toNat < (x4.len - (i : Int)).toNat) (some ⟨B, 0, none⟩) w8 := by
          intro w8 h1 h2 h3 h4
          unfold V_events_Append_j6
          refine S.ldA agg_api_Event (⟨s, (cnt l s : Int) + 1 + i, (l.length : Int) + i + 1, if i = 0 then mark else noB, d⟩ : Ev) rfl h4.at rfl ?_
          refine ev_app1 (w0 := w) h3 h1 hwb h2 (by rw [List.length_append, List.length_take, news_len]; omega) fun o' w9 hO9 hb9 hg9 => ?_
          rw [wr64 (by omega) (by omega)]
          refine ⟨⟨i + 1, by omega, by omega, hb9, Nat.le_trans h2 hg9.size, ?_⟩, by omega⟩
          rw [news_take hdn', ← List.append_assoc, show (l.length : Int) + 1 + i = (l.length : Int) + i + 1 by omega]
          exact hO9
        refine ⟨fun h0 => ?_, fun h0 => ?_⟩
        · have h00 : i = 0 := by omega
          refine ⟨_, w7, fld_api_Event_Mark _ w7, ?_⟩
          refine S.st1 one_string (off := 3) hrow rfl (by show 3 < 5; decide) rfl fun w8 h8 g8 => ?_
          refine j6 w8 (hb7.grown g8 fun r hr => by cases hr; omega) (Nat.le_trans hba6 (Nat.le_trans hb67.le g8.size)) (hO7.kept g8 ?_) (by rw [if_pos h00]; exact h8)
          cases hq : (Sl.v o).ownBlock with
          | none => exact .inl rfl
          | some q => exact .inr (by rw [← hq]; exact hBo)
        · have h00 : ¬ i = 0 := by omega
          exact j6 w7 hb7 (Nat.le_trans hba6 hb67.le) hO7 (by rw [if_neg h00]; exact hrow)
      · obtain rfl : i = data.length := by omega
        rw [← news_len s mark (cnt l s) l.length data, List.take_length] at hO6
        have := H o w6 (EvOwn.rd hO6) hb6
        rw [hrl, wr64 (by omega) (by omega), ← dlen]
        exact this
    refine ⟨fun h0 => r4 _ ?_, fun h0 => r4 false ?_⟩
    · rw [hrl]; simp [h0]
    · simp; omega
  have r2 : ∀ (b : Bool) (w5 : World), Bel w4 w5 → (b = true ↔ (s = noB ∨ 1024 < s.size ∨ 1024 < mark.size)) → V_events_Append_r2 x0 s x mark x4 k (mkd l s mark) r c b w5 := by
    intro b w5 hb45 hb
    unfold V_events_Append_r2
    refine ⟨fun ht => r3 true w5 hb45 ?_, fun hf => ?_⟩
    · simp only [true_iff]; unfold LongIn
      rcases hb.1 ht with h | h | h
      · exact .inl h
      · exact .inr (.inl h)
      · exact .inr (.inr (.inl h))
    · refine longs_ok (hd.bel (hb4.trans hb45)) fun q w6 hq hb6 => r3 q w6 (hb45.trans hb6) ?_
      rw [hq]; unfold LongIn
      have : ¬ (s = noB ∨ 1024 < s.size ∨ 1024 < mark.size) := fun h => by rw [hb.2 h] at hf; cases hf
      constructor
      · intro h; exact .inr (.inr (.inr h))
      · rintro (h | h | h | h)
        · exact absurd (.inl h) this
        · exact absurd (.inr (.inl h)) this
        · exact absurd (.inr (.inr h)) this
        · exact h
  have r1 : ∀ (b : Bool) (w5 : World), Bel w4 w5 → (b = true ↔ (s = noB ∨ 1024 < s.size)) → V_events_Append_r1 x0 s x mark x4 k (mkd l s mark) r c b w5 := by
    intro b w5 hb45 hb
    unfold V_events_Append_r1
    refine ⟨fun ht => r2 true w5 hb45 ?_, fun hf => long_ok _ _ (r2 _ w5 hb45 ?_)⟩
    · rcases hb.1 ht with h | h <;> simp [h]
    · have : ¬ (s = noB ∨ 1024 < s.size) := fun h => by rw [hb.2 h] at hf; cases hf
      simp only [decide_eq_true_eq]
      constructor
      · intro h; exact .inr (.inr (by omega))
      · rintro (h | h | h)
        · exact absurd (.inl h) this
        · exact absurd (.inr h) this
        · omega
  refine ⟨fun h0 => r1 true w4 (Bel.refl _) (by simp [h0]), fun h0 => long_ok _ _ (r1 _ w4 (Bel.refl _) ?_)⟩
  simp only [decide_eq_true_eq]
  constructor
  · intro h; exact .inr (by omega)
  · rintro (h | h)
    · exact absurd h h0
    · omega

theorem part_ok {w : World} {x0 : Sl} {l : List Ev} (h : EvRd w x0 l) (hl : l.length ≤ 2199023255552) (a m : Int) (ham : a ≤ 9223372036854775807) {k : Sl → Int → World → Prop}
    (H1 : (a < 1 ∨ m < 0) → ∀ w', Bel w w' → k Sl.none 2 w') (H2 : ¬ (a < 1 ∨ m < 0) → ∀ r w', EvRd w' r (page l a m) → Bel w w' → k r 0 w') :
    Cl Try.prog fn_events_part [Sl.v x0, .int .i64 a, .int .i64 m].toArray w (fun e w' => ∃ (r0 : Sl) (r1 : Int), e = .returned (.tuple [Sl.v r0, .int .i64 r1].toArray) ∧ k r0 r1 w') := by
  refine L1_events_part x0 a m w k ?_
  have hbig := h.big; have hcap := h.cap; have hlen := h.len
  unfold V_events_part
  refine ⟨fun h1 => ⟨fun _ => H1 (.inl h1) w (Bel.refl _), fun h => (nomatch h)⟩, fun h1 => ?_⟩
  by_cases h2 : m < 0
  · rw [decide_eq_true h2]
    exact ⟨fun _ => H1 (.inr h2) w (Bel.refl _), fun h => (nomatch h)⟩
  rw [decide_eq_false h2]
  refine ⟨fun h => (nomatch h), fun _ => ?_⟩
  have H2 := H2 (by omega)
  rw [wr64 (by omega) (by omega)]
  obtain ⟨n, hn, hn'⟩ : ∃ n : Nat, (if (x0.len : Int) < a - 1 then (x0.len : Int) else a - 1) = (n : Int) ∧ n = min (a - 1).toNat x0.len := by
    refine ⟨_, ?_, rfl⟩; split <;> omega
  rw [hn]
  refine ⟨_, _, run_from und_L_api_Event esz_L_api_Event (by omega), ?_⟩
  have hR := h.sub (l := n) (h := x0.len) (by omega) (by omega)
  have hR' : EvRd w (x0.sub n x0.len 5) (l.drop (a - 1).toNat) := by
    have : (l.drop (a - 1).toNat) = (l.drop n).take (x0.len - n) := by
      rw [List.take_of_length_le (by simp; omega)]
      rcases Nat.le_total (a - 1).toNat x0.len with h1 | h1
      · rw [hn', Nat.min_eq_left h1]
      · rw [hn', Nat.min_eq_right h1, List.drop_of_length_le (by omega), List.drop_of_length_le (by omega)]
    rw [this]; exact hR
  generalize (x0.sub n x0.len 5) = y at hR' ⊢
  have ycap := hR'.cap; have ylen := hR'.len
  obtain ⟨q, hq, hq'⟩ : ∃ q : Nat, (if (y.len : Int) < m then (y.len : Int) else m) = (q : Int) ∧ q = min m.toNat y.len := by
    refine ⟨_, ?_, rfl⟩; split <;> omega
  dsimp only
  rw [hq]
  refine ⟨_, _, run_upto und_L_api_Event esz_L_api_Event (by omega), ?_⟩
  have hQ := hR'.sub (l := 0) (h := q) (by omega) (by omega)
  have hQ' : EvRd w (y.sub 0 q 5) (page l a m) := by
    have : page l a m = ((l.drop (a - 1).toNat).drop 0).take (q - 0) := by
      unfold page
      rw [List.drop_zero, Nat.sub_zero, hq']
      rcases Nat.le_total m.toNat y.len with h3 | h3
      · rw [Nat.min_eq_left h3]
      · rw [Nat.min_eq_right h3, List.take_of_length_le (by omega), List.take_of_length_le (by omega)]
    rw [this]; exact hQ
  have hpl : (page l a m).length ≤ l.length := by unfold page; rw [List.length_take, List.length_drop]; omega
  exact clone_ok hQ' (by omega) fun r w' base _ _ h3 h4 => H2 r w' (EvOwn.rd h3) h4

theorem eread_ok {w : World} {x0 : Sl} {l : List Ev} (h : EvRd w x0 l) (s : ByteArray) (a m : Int) (ham : a ≤ 9223372036854775807) {k : Sl → Int → World → Prop}
    (H : ∀ r w', EvRd w' r (rdS l s a m).1 → Bel w w' → k r (rdS l s a m).2 w') :
    Cl Try.prog fn_events_Read [Sl.v x0, .string s, .int .i64 a, .int .i64 m].toArray w (fun e w' => ∃ (r0 : Sl) (r1 : Int), e = .returned (.tuple [Sl.v r0, .int .i64 r1].toArray) ∧ k r0 r1 w') := by
  refine L1_events_Read x0 s a m w k ?_
  unfold V_events_Read
  refine echeck_ok h fun w1 hb1 => ?_
  unfold rdS at H
  refine ⟨fun hc => ?_, fun hc => ?_⟩
  · rw [if_pos hc] at H
    rw [chk_ne hc]
    exact H Sl.none w1 (Rd.nil _ _ _) hb1
  rw [if_neg hc] at H
  have hG := (chk_zero.1 (Classical.not_not.1 hc)).1
  refine of_fn_ok (h.bel hb1) s fun v w2 hs hb2 => ?_
  refine collect_ok hs (Nat.le_refl _) (by omega) fun r w3 xs hxs hr hb3 => ?_
  subst hxs
  have hb03 := (hb1.trans hb2).trans hb3
  have hcl := cnt_le l s
  unfold cnt at hcl
  refine part_ok hr (by omega) a m ham (fun hx w' hb => ?_) (fun hx r w' hp hb => ?_)
  · rw [if_pos hx] at H; exact H Sl.none w' (Rd.nil _ _ _) (hb03.trans hb)
  · rw [if_neg hx] at H; exact H r w' hp (hb03.trans hb)

theorem eall_ok {w : World} {x0 : Sl} {l : List Ev} (h : EvRd w x0 l) (a m : Int) (ham : a ≤ 9223372036854775807) {k : Sl → Int → World → Prop}
    (H : ∀ r w', EvRd w' r (rdA l a m).1 → Bel w w' → k r (rdA l a m).2 w') :
    Cl Try.prog fn_events_All [Sl.v x0, .int .i64 a, .int .i64 m].toArray w (fun e w' => ∃ (r0 : Sl) (r1 : Int), e = .returned (.tuple [Sl.v r0, .int .i64 r1].toArray) ∧ k r0 r1 w') := by
  refine L1_events_All x0 a m w k ?_
  unfold V_events_All
  refine echeck_ok h fun w1 hb1 => ?_
  unfold rdA at H
  refine ⟨fun hc => ?_, fun hc => ?_⟩
  · rw [if_pos hc] at H
    rw [chk_ne hc]
    exact H Sl.none w1 (Rd.nil _ _ _) hb1
  rw [if_neg hc] at H
  have hG := (chk_zero.1 (Classical.not_not.1 hc)).1
  refine part_ok (h.bel hb1) (by omega) a m ham (fun hx w' hb => ?_) (fun hx r w' hp hb => ?_)
  · rw [if_pos hx] at H; exact H Sl.none w' (Rd.nil _ _ _) (hb1.trans hb)
  · rw [if_neg hx] at H; exact H r w' hp (hb1.trans hb)
end Go.Proofs.Ytlghlmoifjcgoaa.VG
