/- EventsAppends answers true at whatever it is called with; no condition. -/
import Derived.Test.YtlghlmoifjcgoaaVLa
import Derived.Test.YtlghlmoifjcgoaaEvLives
set_option linter.unusedVariables false
namespace Go.Proofs.Ytlghlmoifjcgoaa.VG
open Go.VB Go.Proofs Go.RowKit

theorem appends_ok {w : World} {x0 x4 : Sl} {l : List Ev} {data : List ByteArray} (h : EvRd w x0 l) (hl : l.length ≤ 2199023255552) (hd : StrRd w x4 data) (s mark : ByteArray) (x : Int) :
    Cl Try.prog fn_ladinglaw12_EventsAppends [Sl.v x0, .string s, .int .i64 x, .string mark, Sl.v x4].toArray w (fun e w' => ∃ r0 : Bool, e = .returned (.bool r0) ∧ (r0 = true ∧ Bel w w')) := by
  refine L1_ladinglaw12_EventsAppends x0 s x mark x4 w (fun b w' => b = true ∧ Bel w w') ?_
  unfold V_ladinglaw12_EventsAppends
  refine ev_copy h hl fun c w1 hC hb1 => ?_
  have hc := hC.rd
  refine eappend_ok hc hl (hd.bel hb1) s mark x fun r w2 hr hb2 => ?_
  have hb02 := hb1.trans hb2
  refine append_ok (h.bel hb02) (hd.bel hb02) s mark x fun q w3 hq hb3 => ?_
  have hb03 := hb02.trans hb3
  refine lives_ok w3 fun w4 hb4 => ?_
  have hb04 := hb03.trans hb4
  refine ⟨fun _ => ?_, fun h => (nomatch h)⟩
  refine same_ok (hr.bel (hb3.trans hb4)) (hq.bel hb4) fun b w5 hb hb5 => ?_
  obtain rfl : b = true := hb.2 rfl
  have hb05 := hb04.trans hb5
  refine ⟨fun _ => ?_, fun h => (nomatch h)⟩
  rw [decide_eq_true (p := (app l s x mark data).2.1 = (app l s x mark data).2.1) rfl]
  refine ⟨fun _ => ?_, fun h => (nomatch h)⟩
  rw [decide_eq_true (p := (app l s x mark data).2.2 = (app l s x mark data).2.2) rfl]
  refine ⟨fun _ => ?_, fun h => (nomatch h)⟩
  refine same_ok (hc.bel (((hb2.trans hb3).trans hb4).trans hb5)) (h.bel hb05) fun b w6 hb hb6 => ?_
  obtain rfl : b = true := hb.2 rfl
  have hb06 := hb05.trans hb6
  refine ⟨fun _ => ?_, fun h => (nomatch h)⟩
  refine echeck_ok (h.bel hb06) fun w7 hb7 => ?_
  have hb07 := hb06.trans hb7
  refine check_ok (h.bel hb07) fun w8 hb8 => ?_
  exact ⟨decide_eq_true rfl, hb07.trans hb8⟩
end Go.Proofs.Ytlghlmoifjcgoaa.VG
