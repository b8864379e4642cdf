/- The document's answers for events, as calls of the program: Streams; no condition. -/
import Derived.Test.YtlghlmoifjcgoaaEvRefC
set_option linter.unusedVariables false
namespace Go.VB
open Go.RowKit
theorem flat_take {α : Type} {c : α → List Value} {n : Nat} (hc : ∀ x, (c x).length = n) (xs : List α) (h : Nat) : (xs.take h).flatMap c = (xs.flatMap c).take (h * n) := by
  induction xs generalizing h with
  | nil => simp
  | cons x r ih =>
    cases h with
    | zero => simp
    | succ h => rw [List.take_succ_cons, List.flatMap_cons, List.flatMap_cons, ih, List.take_append, hc, List.take_of_length_le (l := c x) (by rw [hc, Nat.add_mul]; omega), Nat.add_mul]; congr 2; omega
theorem OwnS.cut {α : Type} {c : α → List Value} {n e base : Nat} {w : World} {s : Sl} {xs : List α} (hO : OwnS c n e base w s xs) (hc : ∀ x, (c x).length = n) {h : Nat} (h1 : h ≤ xs.length) :
    OwnS c n e base w (s.sub 0 h n) (xs.take h) ∧ (Sl.v (s.sub 0 h n)).ownBlock = (Sl.v s).ownBlock := by
  obtain ⟨hl, hs, hr⟩ := hO
  obtain ⟨a, len, cap⟩ := s
  rcases hr.2 with ⟨h2, h3⟩ | ⟨g, cap', cur, h2, hb, hh, hcap, hm, hsz, htk⟩
  · injection h2 with h4 h5 h6
    subst h4; subst h6
    simp only at h3 hl; subst h3
    obtain rfl : h = 0 := by omega
    refine ⟨⟨by simp [Sl.sub], by simp [Sl.sub], ?_⟩, rfl⟩
    simpa [Sl.sub] using World.ownsRow_nil w base e n
  · injection h2 with h4 h5 h6
    subst h4; subst h6
    simp only at hl hcap htk
    have hsub : (Sl.sub ⟨some ⟨g, 0, none⟩, len, cap⟩ 0 h n) = ⟨some ⟨g, 0, none⟩, h, cap⟩ := by
      unfold Sl.sub
      simp [Addr.add]
    rw [hsub]
    refine ⟨⟨by simp; omega, by simp at hs ⊢; omega, ?_, .inr ⟨g, cap, cur, rfl, hb, hh, by simp; omega, hm, hsz, ?_⟩⟩, rfl⟩
    · rw [flat_len hc, List.length_take, Nat.min_eq_left h1]
    · rw [flat_take hc, ← htk, List.take_take, Nat.min_eq_left]
      exact Nat.mul_le_mul_right _ (by omega)
end Go.VB
namespace Go.Proofs.Ytlghlmoifjcgoaa.VG
open Go.VB Go.Proofs
theorem str_app1 {base : Nat} {w0 w : World} {s : Sl} {l : List ByteArray} {x : ByteArray} {k : Sl → World → Prop} (hO : StrOwn base w s l) (hB : Bel w0 w) (hb : w0.heap.size ≤ base) (hbw : base ≤ w.heap.size) (room : l.length + 1 ≤ 8796093022208)
    (H : ∀ s' w', StrOwn base w' s' (l ++ [x]) → Bel w0 w' → w.grownBy w' (Sl.v s).ownBlock → k s' w') :
    opE Try.prog Sl.v (Instr.buildSlice ty_L_string 1 [(0, Value.string x)].toArray) w (fun y w => opE Try.prog Sl.v (Builtin.append_ #[ty_L_string, ty_L_string] ty_L_string [Sl.v s, Sl.v y].toArray) w k) :=
  S.app1 hO (fun _ => rfl) (fun _ => rfl) (by decide) und_L_string einf_L_string rfl (by decide) (bs1_L_string x) hB hb hbw (by omega) H
theorem str_app {base : Nat} {w0 w : World} {s y : Sl} {l m : List ByteArray} {k : Sl → World → Prop} (hO : StrOwn base w s l) (hy : StrRd w y m) (hB : Bel w0 w) (hb : w0.heap.size ≤ base) (hbw : base ≤ w.heap.size) (room : l.length + m.length ≤ 8796093022208)
    (H : ∀ s' w', StrOwn base w' s' (l ++ m) → Bel w0 w' → w.grownBy w' (Sl.v s).ownBlock → k s' w') :
    opE Try.prog Sl.v (Builtin.append_ #[ty_L_string, ty_L_string] ty_L_string [Sl.v s, Sl.v y].toArray) w k :=
  S.app hO hy (fun _ => rfl) (fun _ => rfl) (by decide) und_L_string einf_L_string rfl (by decide) hB hb hbw (by omega) H

theorem streams_ok {w : World} {x0 : Sl} {l : List Ev} (h : EvRd w x0 l) {k : Sl → Int → World → Prop}
    (H : ∀ r w' t, StrRd w' r t → (if chk l = 0 then IsStr l t else t = []) → Bel w w' → k r (chk l) w') :
    Cl Try.prog fn_ladingref12_Streams [Sl.v x0].toArray w (fun e w' => ∃ (r0 : Sl) (r1 : Int), e = .returned (.tuple [Sl.v r0, .int .i64 r1].toArray) ∧ k r0 r1 w') := by
  refine L1_ladingref12_Streams x0 w k ?_
  have hbig := h.big; have hcap := h.cap; have hlen := h.len
  unfold V_ladingref12_Streams
  refine check_ok h fun w1 hb1 => ?_
  refine ⟨fun hc => H Sl.none w1 [] (Rd.nil _ _ _) (by rw [if_neg hc]) hb1, fun hc => ?_⟩
  have hc0 : chk l = 0 := Classical.not_not.1 hc
  have hG := (chk_zero.1 hc0).1
  refine ⟨fun y i w2 => ∃ (n : Nat) (t : List ByteArray), i = (n : Int) ∧ n ≤ l.length ∧ Bel w1 w2 ∧ IsStr (l.take n) t ∧ StrOwn w1.heap.size w2 y t, fun _ i _ => (x0.len - i).toNat, ?_, ?_⟩
  · exact ⟨0, [], rfl, by omega, Bel.refl _, IsStr.nil, OwnS.nil _ _ _ _ _⟩
  rintro y i w2 ⟨n, t, rfl, hn, hb2, hS, hO⟩
  have hb02 := hb1.trans hb2
  unfold V_ladingref12_Streams_l1b
  refine ⟨fun hc => ?_, fun hc => ?_⟩
  · obtain ⟨e, he⟩ := getL (l := l) (i := (n : Int)) (by omega) (by omega)
    have he' : l[n]? = some e := by simpa using he
    have hlt : n < l.length := (List.getElem?_eq_some_iff.1 he').1
    have htk : l.take (n + 1) = l.take n ++ [e] := by rw [List.take_add_one, he']; rfl
    have htl := hS.len
    rw [List.length_take] at htl
    have hol := hO.len
    refine S.idx (h.bel hb02) und_L_api_Event esz_L_api_Event (by omega) he fun ad hA => ?_
    refine S.ldA agg_api_Event e rfl hA rfl ?_
    refine S.new new_api_Event rfl agg_api_Event (cs := e.cells) rfl rfl rfl ?_
    have hbox := At.new w2 e.cells ty_api_Event
    have hb3 : Bel w2 (w2.alloc (.cells e.cells.toArray ty_api_Event)) := Bel.alloc _ _
    generalize w2.heap.size = B at hbox ⊢
    generalize (w2.alloc (.cells e.cells.toArray ty_api_Event)) = w3 at hbox hb3 ⊢
    refine ⟨fun x w4 => ∃ m : Nat, x = (m : Int) ∧ m ≤ t.length ∧ Bel w3 w4 ∧ ∀ j z, j < m → t[j]? = some z → sLt z e.Stream = true, fun x _ => (y.len - x).toNat, ?_, ?_⟩
    · exact ⟨0, rfl, by omega, Bel.refl _, fun j z h => by omega⟩
    rintro x w4 ⟨m, rfl, hm, hb4, hlow⟩
    have hb24 := hb3.trans hb4
    have hbox4 := hbox.bel hb4
    have hO4 := hO.bel hb24
    -- the end of a round
    have fin : ∀ (o : Sl) (t' : List ByteArray) (w5 : World), Bel w1 w5 → IsStr (l.take (n + 1)) t' → StrOwn w1.heap.size w5 o t' →
        V_ladingref12_Streams_j2 n (fun x5' x17' w' => (∃ (n : Nat) (t : List ByteArray), x17' = (n : Int) ∧ n ≤ l.length ∧ Bel w1 w' ∧ IsStr (l.take n) t ∧ StrOwn w1.heap.size w' x5' t) ∧ (x0.len - x17').toNat < (x0.len - (n : Int)).toNat) o w5 := by
      intro o t' w5 h1 h2 h3
      unfold V_ladingref12_Streams_j2
      rw [wr64 (by omega) (by omega)]
      exact ⟨⟨n + 1, t', by omega, by omega, h1, h2, h3⟩, by omega⟩
    have r5 : ∀ (b : Bool) (w5 : World), Bel w4 w5 → (b = true → e.Stream ∈ t) → (b = false → ∀ z, t[m]? = some z → sLt e.Stream z = true) →
        V_ladingref12_Streams_r5 y n (fun x5' x17' w' => (∃ (n : Nat) (t : List ByteArray), x17' = (n : Int) ∧ n ≤ l.length ∧ Bel w1 w' ∧ IsStr (l.take n) t ∧ StrOwn w1.heap.size w' x5' t) ∧ (x0.len - x17').toNat < (x0.len - (n : Int)).toNat) (some ⟨B, 0, none⟩) m b w5 := by
      intro b w5 hb5 ht hf
      unfold V_ladingref12_Streams_r5
      intro w6 hb6
      have hb46 := hb5.trans hb6
      have hb16 := (hb2.trans hb24).trans hb46
      have hO6 := hO4.bel hb46
      refine ⟨fun h0 => fin y t w6 hb16 (by rw [htk]; exact hS.old (ht h0)) hO6, fun h0 => ?_⟩
      refine ⟨_, _, bs0_L_string w6, ?_⟩
      have hR6 : StrRd (w6.alloc (.cells #[] 9)) y t := StrOwn.rd (hO6.bel (Bel.alloc _ _))
      refine ⟨_, _, run_from und_L_string esz_L_string (l := m) (by omega), ?_⟩
      refine str_app (w0 := w6) (base := w6.heap.size) (l := []) (m := t.drop m) (OwnS.lit0 (Nat.le_refl _)) (by
        have := hR6.sub (l := m) (h := y.len) (by omega) (by omega)
        rw [List.take_of_length_le (by simp; omega)] at this
        exact this) (Bel.alloc _ _) (Nat.le_refl _) (by rw [size_alloc']; omega) (by simp; omega) fun rest w7 hrest hb7 _ => ?_
      rw [List.nil_append] at hrest
      intro w8 hb8
      have hb68 := hb7.trans hb8
      have hO8 := hO6.bel hb68
      refine ⟨_, fun w => run_upto und_L_string esz_L_string (h := m) ?_, ?_⟩
      · have := hR6.cap; omega
      obtain ⟨hcut, hblk⟩ := hO8.cut (fun _ => rfl) (h := m) (by omega)
      refine ⟨_, fun w => fld_api_Event_Stream _ w, ?_⟩
      have hbox8 := hbox4.bel (hb46.trans hb68)
      refine S.ld1 one_string e.Stream (hbox8 0 _ rfl) ?_
      have hb18 := hb16.trans hb68
      refine str_app1 (w0 := w1) hcut hb18 (Nat.le_refl _) hb18.le (by simp; omega) fun s' w9 hO9 hb9 hg9 => ?_
      have hrest9 : StrOwn w6.heap.size w9 rest (t.drop m) := (hrest.bel hb8).kept hg9 (by
        rw [hblk]
        cases hrb : (Sl.v rest).ownBlock with
        | none => exact .inl rfl
        | some q =>
          refine .inr fun hq => ?_
          have h1 := hrest.lo hrb
          have h2 := hO6.row.lt q hq.symm
          omega)
      refine str_app (w0 := w1) hO9 (StrOwn.rd hrest9) hb9 (Nat.le_refl _) hb9.le (by simp; omega) fun s'' w10 hO10 hb10 hg10 => ?_
      exact fin s'' _ w10 hb10 (by rw [htk]; exact hS.ins hlow (hf h0)) hO10
    unfold V_ladingref12_Streams_l3b
    refine ⟨fun hc => ?_, fun hc => ?_⟩
    · obtain ⟨z, hz⟩ := getL (l := t) (i := (m : Int)) (by omega) (by omega)
      have hz' : t[m]? = some z := by simpa using hz
      refine Q.idx (StrOwn.rd hO4) und_L_string esz_L_string (by omega) hz fun ad hA => ?_
      refine Q.ld1 one_string z (by have := hA 0 (.string z) rfl; simpa [Addr.add] using this) ?_
      refine Q.fld fld_api_Event_Stream one_string hbox4 e.Stream rfl ?_
      unfold V_ladingref12_Streams_r4
      intro w5 hb5
      have hbox5 := hbox4.bel hb5
      refine ⟨fun hl => ?_, fun hl => ?_⟩
      · rw [wr64 (by omega) (by omega)]
        refine ⟨⟨m + 1, by omega, by omega, hb4.trans hb5, fun j u h1 h2 => ?_⟩, by dsimp only; omega⟩
        rcases Nat.lt_or_ge j m with h3 | h3
        · exact hlow j u h3 h2
        · obtain rfl : j = m := by omega
          rw [hz'] at h2; cases h2; exact hl
      · refine ⟨fun _ => ?_, fun h => absurd hc h⟩
        refine Q.idx (StrOwn.rd (hO4.bel hb5)) und_L_string esz_L_string (by omega) hz fun ad hA => ?_
        refine Q.ld1 one_string z (by have := hA 0 (.string z) rfl; simpa [Addr.add] using this) ?_
        refine Q.fld fld_api_Event_Stream one_string hbox5 e.Stream rfl ?_
        refine r5 _ w5 hb5 (fun hq => ?_) (fun hq u hu => ?_)
        · have := of_decide_eq_true hq
          rw [← this]; exact List.mem_of_getElem? hz'
        · rw [hz'] at hu; cases hu
          exact sLt_tot (by rw [hl]; simp) (of_decide_eq_false hq)
    · unfold V_ladingref12_Streams_r4
      intro w5 hb5
      refine ⟨fun h => (nomatch h), fun _ => ⟨fun h => absurd h hc, fun _ => r5 false w5 hb5 (fun h => (nomatch h)) fun _ z hz => ?_⟩⟩
      have := (List.getElem?_eq_some_iff.1 hz).1
      omega
  · obtain rfl : n = l.length := by omega
    rw [List.take_length] at hS
    have := H y w2 t (StrOwn.rd hO) (by rw [if_pos hc0]; exact hS) hb02
    rw [hc0] at this; exact this
end Go.Proofs.Ytlghlmoifjcgoaa.VG
