/- EventsPages answers true at whatever it is called with; no condition. -/
import Derived.Test.YtlghlmoifjcgoaaVLg
import Derived.Test.YtlghlmoifjcgoaaEvLives
import Derived.Test.YtlghlmoifjcgoaaEvFactsB
set_option linter.unusedVariables false
namespace Go.Proofs.Ytlghlmoifjcgoaa.VG
open Go.VB Go.Proofs Go.RowKit

theorem page_len (l : List Ev) {a m : Int} : (page l a m).length = min m.toNat (l.length - (a - 1).toNat) := by
  unfold page; rw [List.length_take, List.length_drop]
theorem page_next (l : List Ev) {a m : Int} (ha : 1 ≤ a) : l.take (a - 1).toNat ++ page l a m = l.take (a + (page l a m).length - 1).toNat := by
  have h := @page_len l a m
  have e : (a + (page l a m).length - 1).toNat = (a - 1).toNat + (page l a m).length := by omega
  rw [e, List.take_add]
  congr 1
  rw [h]
  unfold page
  rcases Nat.le_total m.toNat (l.length - (a - 1).toNat) with h1 | h1
  · rw [Nat.min_eq_left h1]
  · rw [Nat.min_eq_right h1, List.take_of_length_le (by rw [List.length_drop]; exact h1), List.take_of_length_le (by rw [List.length_drop]; exact Nat.le_refl _)]

theorem pages_ok {w : World} {x0 : Sl} {l : List Ev} (h : EvRd w x0 l) (hl : l.length ≤ 2199023255552) (s : ByteArray) (k : Int) (hk : k ≤ 9223372036854775807) :
    Cl Try.prog fn_ladinglaw12_EventsPages [Sl.v x0, .string s, .int .i64 k].toArray w (fun e w' => ∃ r0 : Bool, e = .returned (.bool r0) ∧ (r0 = true ∧ Bel w w')) := by
  refine L1_ladinglaw12_EventsPages x0 s k w (fun b w' => b = true ∧ Bel w w') ?_
  unfold V_ladinglaw12_EventsPages
  refine lives_ok w fun w1 hb1 => ?_
  refine ⟨fun h => (nomatch h), fun _ => ?_⟩
  refine eread_ok (h.bel hb1) s 1 16384 (by decide) fun r w2 hr hb2 => ?_
  have hb02 := hb1.trans hb2
  by_cases he : (rdS l s 1 16384).2 = 0
  case neg =>
    refine ⟨fun _ => ⟨decide_eq_true ?_, hb02⟩, fun h => absurd he h⟩
    have := hr.len
    rw [rdS_err he] at this
    simp at this; omega
  have hg := rdS_zero he
  rw [rdS_all hg] at hr ⊢
  refine ⟨fun h => absurd rfl h, fun _ => ⟨fun _ => ⟨rfl, hb02⟩, fun hk1 => ?_⟩⟩
  have hcl : (ofS l s).length ≤ l.length := cnt_le l s
  have hgl := hg.1
  refine ⟨fun y x w3 => 1 ≤ x ∧ (x - 1).toNat ≤ (ofS l s).length ∧ Bel w w3 ∧ w2.heap.size ≤ w3.heap.size ∧ Bel w2 w3 ∧ EvOwn w2.heap.size w3 y ((ofS l s).take (x - 1).toNat), fun _ x _ => ((ofS l s).length + 1 - x).toNat, ?_, ?_⟩
  · exact ⟨by decide, by simp, hb02, Nat.le_refl _, Bel.refl _, by simpa using OwnS.nil _ _ _ _ _⟩
  rintro y x w3 ⟨hx1, hx2, hb3, hsz3, hb23, hO⟩
  unfold V_ladinglaw12_EventsPages_l1b
  refine eread_ok (h.bel hb3) s x k (by omega) fun p w4 hp hb4 => ?_
  rw [rdS_good hg hx1 (by omega)] at hp ⊢
  refine ⟨fun h => absurd rfl h, fun _ => ?_⟩
  have hp : EvRd w4 p (page (ofS l s) x k) := hp
  have hpl : (p.len : Int) = ((page (ofS l s) x k).length : Int) := by have := hp.len; omega
  have hpn := @page_len (ofS l s) x k
  rw [hpl, decide_eq_false (by omega)]
  unfold V_ladinglaw12_EventsPages_r2
  rw [hpl]
  have hb04 := hb3.trans hb4
  refine ⟨fun h => (nomatch h), fun _ => ⟨fun h0 => ?_, fun h0 => ?_⟩⟩
  · refine same_ok (EvOwn.rd (hO.bel hb4)) (hr.bel (hb23.trans hb4)) fun b w5 hb hb5 => ⟨hb.2 ?_, hb04.trans hb5⟩
    rw [List.take_of_length_le (by omega)]
  · have htl : ((ofS l s).take (x - 1).toNat).length ≤ (ofS l s).length := by rw [List.length_take]; omega
    refine ev_app (w0 := w2) (hO.bel hb4) hp (hb23.trans hb4) (Nat.le_refl _) (Nat.le_trans hsz3 hb4.le) (by omega) fun o w5 hO5 hb5 hg5 => ?_
    rw [wr64 (by omega) (by omega)]
    refine ⟨⟨by omega, by omega, hb02.trans hb5, hb5.le, hb5, ?_⟩, by dsimp only; omega⟩
    rw [← page_next (ofS l s) hx1]; exact hO5
end Go.Proofs.Ytlghlmoifjcgoaa.VG
