/- EventsParts answers true at whatever it is called with; no condition. -/
import Derived.Test.YtlghlmoifjcgoaaVLp
import Derived.Test.YtlghlmoifjcgoaaEvLives
import Derived.Test.YtlghlmoifjcgoaaEvFactsB
set_option linter.unusedVariables false
namespace Go.Proofs.Ytlghlmoifjcgoaa.VG
open Go.VB Go.Proofs Go.RowKit

theorem parts_ok {w : World} {x0 x2 : Sl} {l : List Ev} {data : List ByteArray} (h : EvRd w x0 l) (hl : l.length ≤ 2199023255552) (hd : StrRd w x2 data) (s : ByteArray) (k : Int) :
    Cl Try.prog fn_ladinglaw12_EventsParts [Sl.v x0, .string s, Sl.v x2, .int .i64 k].toArray w (fun e w' => ∃ r0 : Bool, e = .returned (.bool r0) ∧ (r0 = true ∧ Bel w w')) := by
  refine L1_ladinglaw12_EventsParts x0 s x2 k w (fun b w' => b = true ∧ Bel w w') ?_
  have dcap := hd.cap; have dlen := hd.len
  unfold V_ladinglaw12_EventsParts
  refine lives_ok w fun w1 hb1 => ?_
  refine ⟨fun h => (nomatch h), fun _ => ?_⟩
  refine ⟨fun _ => ⟨fun _ => ⟨rfl, hb1⟩, fun h => (nomatch h)⟩, fun hk0 => ?_⟩
  by_cases hk1 : (x2.len : Int) < k
  · rw [decide_eq_true hk1]; exact ⟨fun _ => ⟨rfl, hb1⟩, fun h => (nomatch h)⟩
  rw [decide_eq_false hk1]
  refine ⟨fun h => (nomatch h), fun _ => ?_⟩
  obtain ⟨q, rfl⟩ : ∃ q : Nat, k = (q : Int) := ⟨k.toNat, by omega⟩
  refine eappend_ok (h.bel hb1) hl (hd.bel hb1) s noB (-1) fun r w2 hr hb2 => ?_
  have hb02 := hb1.trans hb2
  refine ⟨_, _, run_upto und_L_string esz_L_string (by omega), ?_⟩
  have hd1 := (hd.bel hb02).sub (l := 0) (h := q) (by omega) (by omega)
  rw [List.drop_zero, Nat.sub_zero] at hd1
  refine eappend_ok (h.bel hb02) hl hd1 s noB (-1) fun r' w3 hr' hb3 => ?_
  have hb03 := hb02.trans hb3
  by_cases ha : (app l s (-1) noB data).2.2 = 0
  case neg =>
    refine ⟨fun _ => ⟨fun _ => ⟨decide_eq_true ha, hb03⟩, fun h => (nomatch h)⟩, fun h => absurd ha h⟩
  obtain ⟨hp1, hp2⟩ := app_parts (k := q) (show q ≤ data.length by omega) ha
  refine ⟨fun h => absurd ha h, fun _ => ?_⟩
  rw [decide_eq_false (p := (app l s (-1) noB (data.take q)).2.2 ≠ 0) (fun h => h hp1)]
  refine ⟨fun h => (nomatch h), fun _ => ?_⟩
  refine ⟨_, _, run_from und_L_string esz_L_string (by omega), ?_⟩
  have hd2 := (hd.bel hb03).sub (l := q) (h := x2.len) (by omega) (Nat.le_refl _)
  rw [List.take_of_length_le (by rw [List.length_drop]; omega)] at hd2
  have hgB := (app_good hp1).1
  refine eappend_ok hr' (by omega) hd2 s noB (-1) fun r'' w4 hr'' hb4 => ?_
  rw [hp2] at hr'' ⊢
  have hb04 := hb03.trans hb4
  refine ⟨fun _ => ?_, fun h => absurd ha h⟩
  rw [decide_eq_true (p := (app l s (-1) noB data).2.1 = (app l s (-1) noB data).2.1) rfl]
  refine ⟨fun _ => ?_, fun h => (nomatch h)⟩
  refine same_ok (hr.bel (hb3.trans hb4)) hr'' fun b w5 hb hb5 => ?_
  exact ⟨hb.2 rfl, hb04.trans hb5⟩
end Go.Proofs.Ytlghlmoifjcgoaa.VG
