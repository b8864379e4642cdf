/- EventsReads answers true at whatever it is called with; no condition. -/
import Derived.Test.YtlghlmoifjcgoaaVLr
import Derived.Test.YtlghlmoifjcgoaaEvLives
import Derived.Test.YtlghlmoifjcgoaaEvStr
set_option linter.unusedVariables false
namespace Go.Proofs.Ytlghlmoifjcgoaa.VG
open Go.VB Go.Proofs Go.RowKit

theorem sameS_ok {w : World} {x0 x1 : Sl} {l m : List ByteArray} (h : StrRd w x0 l) (h' : StrRd w x1 m) {k : Bool → World → Prop} (H : ∀ r w', (r = true ↔ l = m) → Bel w w' → k r w') :
    Cl Try.prog fn_ladingref05_Same [Sl.v x0, Sl.v x1].toArray w (fun e w' => ∃ r0 : Bool, e = .returned (.bool r0) ∧ k r0 w') := by
  refine L1_ladingref05_Same x0 x1 w k ?_
  have hbig := h.big; have hcap := h.cap; have hlen := h.len; have hlen' := h'.len
  unfold V_ladingref05_Same
  refine ⟨fun hc => H false w ⟨fun h => (nomatch h), fun h => ?_⟩ (Bel.refl _), fun hc => ?_⟩
  · subst h; omega
  have hc' : (x0.len : Int) = x1.len := Classical.not_not.1 hc
  refine ⟨fun x w1 => ∃ n : Nat, x = (n : Int) ∧ n ≤ l.length ∧ Bel w w1 ∧ l.take n = m.take n, fun x _ => (x0.len - x).toNat, ?_, ?_⟩
  · exact ⟨0, rfl, by omega, Bel.refl _, rfl⟩
  · rintro x w1 ⟨n, rfl, hn, hb, hq⟩
    unfold V_ladingref05_Same_l1b
    refine ⟨fun hc => ?_, fun hc => ?_⟩
    · have hnl : n < l.length := by omega
      have hnm : n < m.length := by omega
      obtain ⟨e, he⟩ : ∃ e, l[(n : Int).toNat]? = some e := ⟨l[(n : Int).toNat]'(by omega), by simp⟩
      obtain ⟨f, hf⟩ : ∃ f, m[(n : Int).toNat]? = some f := ⟨m[(n : Int).toNat]'(by omega), by simp⟩
      have he' : l[n]? = some e := by simpa using he
      have hf' : m[n]? = some f := by simpa using hf
      refine Q.idx (h.bel hb) und_L_string esz_L_string (by omega) he fun ad hA => ?_
      refine Q.ld1 one_string e (by have := hA 0 (.string e) rfl; simpa [Addr.add] using this) ?_
      refine Q.idx (h'.bel hb) und_L_string esz_L_string (by omega) hf fun ad' hA' => ?_
      refine Q.ld1 one_string f (by have := hA' 0 (.string f) rfl; simpa [Addr.add] using this) ?_
      intro w2 hb2
      refine ⟨fun ht => H false w2 ⟨fun h => (nomatch h), fun h => ?_⟩ (hb.trans hb2), fun hf0 => ?_⟩
      · subst h
        rw [he] at hf; exact absurd (Option.some.inj hf) ht
      · rw [wr64 (by omega) (by omega)]
        have hef : e = f := Classical.not_not.1 hf0
        refine ⟨⟨n + 1, by omega, by omega, hb.trans hb2, ?_⟩, by dsimp only; omega⟩
        rw [List.take_succ_eq_append_getElem hnl, List.take_succ_eq_append_getElem hnm, hq]
        congr 2
        rw [(List.getElem?_eq_some_iff.1 he').2, (List.getElem?_eq_some_iff.1 hf').2, hef]
    · obtain rfl : n = l.length := by omega
      refine H true w1 ⟨fun _ => ?_, fun _ => rfl⟩ hb
      rw [List.take_length, List.take_of_length_le (by omega)] at hq
      exact hq
theorem strs_eq {l : List Ev} {s t : List ByteArray} (hs : if chk l = 0 then IsStr l s else s = []) (ht : if chk l = 0 then IsStr l t else t = []) : s = t := by
  by_cases h : chk l = 0
  · rw [if_pos h] at hs ht
    exact sorted_eq hs.up ht.up fun x => (hs.mem x).trans (ht.mem x).symm
  · rw [if_neg h] at hs ht
    rw [hs, ht]
theorem reads_ok {w : World} {x0 : Sl} {l : List Ev} (h : EvRd w x0 l) (s mark : ByteArray) (a m : Int) (ham : a ≤ 9223372036854775807) :
    Cl Try.prog fn_ladinglaw12_EventsReads [Sl.v x0, .string s, .int .i64 a, .int .i64 m, .string mark].toArray w (fun e w' => ∃ r0 : Bool, e = .returned (.bool r0) ∧ (r0 = true ∧ Bel w w')) := by
  refine L1_ladinglaw12_EventsReads x0 s a m mark w (fun b w' => b = true ∧ Bel w w') ?_
  unfold V_ladinglaw12_EventsReads
  refine eread_ok h s a m ham fun r1 w1 hr1 hb1 => ?_
  refine read_ok (h.bel hb1) s a m ham fun r2 w2 hr2 hb2 => ?_
  have c2 := hb1.trans hb2
  refine eall_ok (h.bel c2) a m ham fun r3 w3 hr3 hb3 => ?_
  have c3 := c2.trans hb3
  refine all_ok (h.bel c3) a m ham fun r4 w4 hr4 hb4 => ?_
  have c4 := c3.trans hb4
  refine emarked_ok (h.bel c4) s mark fun w5 hb5 => ?_
  have c5 := c4.trans hb5
  refine marked_ok (h.bel c5) s mark fun w6 hb6 => ?_
  have c6 := c5.trans hb6
  refine estreams_ok (h.bel c6) fun r7 w7 t7 hr7 ht7 hb7 => ?_
  have c7 := c6.trans hb7
  refine streams_ok (h.bel c7) fun r8 w8 t8 hr8 ht8 hb8 => ?_
  have c8 := c7.trans hb8
  refine lives_ok w8 fun w9 hb9 => ?_
  have c9 := c8.trans hb9
  have q7 := hb8.trans hb9
  have q4 := ((hb5.trans hb6).trans hb7).trans q7
  have q3 := hb4.trans q4
  have q2 := hb3.trans q3
  have q1 := hb2.trans q2
  refine ⟨fun _ => ?_, fun h => (nomatch h)⟩
  refine same_ok (hr1.bel q1) (hr2.bel q2) fun b wa hb hba => ?_
  obtain rfl : b = true := hb.2 rfl
  refine ⟨fun _ => ?_, fun h => (nomatch h)⟩
  rw [decide_eq_true (p := (rdS l s a m).2 = (rdS l s a m).2) rfl]
  refine ⟨fun _ => ?_, fun h => (nomatch h)⟩
  refine same_ok (hr3.bel (q3.trans hba)) (hr4.bel (q4.trans hba)) fun b wb hb hbb => ?_
  obtain rfl : b = true := hb.2 rfl
  refine ⟨fun _ => ?_, fun h => (nomatch h)⟩
  rw [decide_eq_true (p := (rdA l a m).2 = (rdA l a m).2) rfl]
  refine ⟨fun _ => ?_, fun h => (nomatch h)⟩
  rw [decide_eq_true rfl]
  refine ⟨fun _ => ?_, fun h => (nomatch h)⟩
  rw [decide_eq_true rfl]
  refine ⟨fun _ => ?_, fun h => (nomatch h)⟩
  have qb := hba.trans hbb
  refine sameS_ok (hr7.bel (q7.trans qb)) (hr8.bel (hb9.trans qb)) fun b wc hb hbc => ?_
  obtain rfl : b = true := hb.2 (strs_eq ht7 ht8)
  refine ⟨fun _ => ?_, fun h => (nomatch h)⟩
  exact ⟨decide_eq_true rfl, (c9.trans qb).trans hbc⟩
end Go.Proofs.Ytlghlmoifjcgoaa.VG
