/- EventsMarks answers true at whatever it is called with; no condition. -/
import Derived.Test.YtlghlmoifjcgoaaVLm
import Derived.Test.YtlghlmoifjcgoaaEvLives
import Derived.Test.YtlghlmoifjcgoaaEvFactsB
set_option linter.unusedVariables false
namespace Go.Proofs.Ytlghlmoifjcgoaa.VG
open Go.VB Go.Proofs Go.RowKit

theorem marks_ok {w : World} {x0 : Sl} {l : List Ev} (h : EvRd w x0 l) (s mark : ByteArray) :
    Cl Try.prog fn_ladinglaw12_EventsMarks [Sl.v x0, .string s, .string mark].toArray w (fun e w' => ∃ r0 : Bool, e = .returned (.bool r0) ∧ (r0 = true ∧ Bel w w')) := by
  refine L1_ladinglaw12_EventsMarks x0 s mark w (fun b w' => b = true ∧ Bel w w') ?_
  have hbig := h.big; have hcap := h.cap; have hlen := h.len
  unfold V_ladinglaw12_EventsMarks
  refine lives_ok w fun w1 hb1 => ?_
  refine ⟨fun h => (nomatch h), fun _ => ?_⟩
  refine emarked_ok (h.bel hb1) s mark fun w2 hb2 => ?_
  have hb02 := hb1.trans hb2
  have loop : ∀ n : Int, n = 0 → (chk l = 0 → mark ≠ noB → ∀ x ∈ l, x.Stream = s → x.Mark ≠ mark) → V_ladinglaw12_EventsMarks_r1 x0 s mark (fun b w' => b = true ∧ Bel w w') n (chk l) true w2 := by
    intro n hn0 hno
    unfold V_ladinglaw12_EventsMarks_r1
    refine ⟨fun _ => ?_, fun h => (nomatch h)⟩
    refine ⟨fun x w3 => ∃ i : Nat, x = (i : Int) ∧ i ≤ l.length ∧ Bel w w3, fun x _ => (x0.len - x).toNat, ⟨0, rfl, by omega, hb02⟩, ?_⟩
    rintro x w3 ⟨i, rfl, hi, hb3⟩
    unfold V_ladinglaw12_EventsMarks_l2b
    refine ⟨fun hc => ?_, fun hc => ⟨decide_eq_true hn0, hb3⟩⟩
    obtain ⟨e, he⟩ := getL (l := l) (i := (i : Int)) (by omega) (by omega)
    have he' : l[i]? = some e := by simpa using he
    have hmem := List.mem_of_getElem? he'
    refine S.idx (h.bel hb3) und_L_api_Event esz_L_api_Event (by omega) he fun ad hA => ?_
    refine S.ldA agg_api_Event e rfl hA rfl ?_
    refine S.new new_api_Event rfl agg_api_Event (cs := e.cells) rfl rfl rfl ?_
    have hbox := At.new w3 e.cells ty_api_Event
    have hb34 : Bel w3 (w3.alloc (.cells e.cells.toArray ty_api_Event)) := Bel.alloc _ _
    generalize w3.heap.size = B at hbox ⊢
    generalize (w3.alloc (.cells e.cells.toArray ty_api_Event)) = w4 at hbox hb34 ⊢
    have hb4 := hb3.trans hb34
    have r5f : V_ladinglaw12_EventsMarks_r5 (fun b w' => b = true ∧ Bel w w') i (fun x29' w' => (∃ i : Nat, x29' = (i : Int) ∧ i ≤ l.length ∧ Bel w w') ∧ (x0.len - x29').toNat < (x0.len - (i : Int)).toNat) false w4 := by
      refine ⟨fun h => (nomatch h), fun _ => ?_⟩
      rw [wr64 (by omega) (by omega)]
      exact ⟨⟨i + 1, by omega, by omega, hb4⟩, by omega⟩
    have r4f : V_ladinglaw12_EventsMarks_r4 mark (fun b w' => b = true ∧ Bel w w') i (fun x29' w' => (∃ i : Nat, x29' = (i : Int) ∧ i ≤ l.length ∧ Bel w w') ∧ (x0.len - x29').toNat < (x0.len - (i : Int)).toNat) (some ⟨B, 0, none⟩) false w4 := ⟨fun h => (nomatch h), fun _ => r5f⟩
    have r3f : V_ladinglaw12_EventsMarks_r3 s mark (fun b w' => b = true ∧ Bel w w') i (fun x29' w' => (∃ i : Nat, x29' = (i : Int) ∧ i ≤ l.length ∧ Bel w w') ∧ (x0.len - x29').toNat < (x0.len - (i : Int)).toNat) (some ⟨B, 0, none⟩) false w4 := ⟨fun h => (nomatch h), fun _ => r4f⟩
    refine ⟨fun hc0 => ?_, fun _ => r3f⟩
    by_cases hm : mark = noB
    · rw [decide_eq_false (p := mark ≠ _) (fun h => h hm)]; exact r3f
    rw [decide_eq_true (p := mark ≠ _) hm]
    refine ⟨fun _ => ?_, fun h => (nomatch h)⟩
    refine S.fld fld_api_Event_Stream one_string hbox e.Stream rfl ?_
    by_cases hs : e.Stream = s
    case neg => rw [decide_eq_false hs]; exact r4f
    rw [decide_eq_true hs]
    refine ⟨fun _ => ?_, fun h => (nomatch h)⟩
    refine S.fld fld_api_Event_Mark one_string hbox e.Mark rfl ?_
    rw [decide_eq_false (hno hc0 hm e hmem hs)]
    exact r5f
  by_cases hc : chk l = 0
  case neg =>
    refine ⟨fun _ => loop _ (if_neg hc) (fun h => absurd h hc), fun h => absurd hc h⟩
  have hg := chk_zero.1 hc
  refine ⟨fun h => absurd hc h, fun _ => ?_⟩
  by_cases hz : mkd l s mark = 0
  · rw [if_pos hc, decide_eq_true hz]
    exact loop _ hz (fun _ hm x hx hs => mark_none hg hz hm hx hs)
  rw [if_pos hc, decide_eq_false hz]
  obtain ⟨hm, h1, x, hp, hx, hxn⟩ := mark_page hg hz
  unfold V_ladinglaw12_EventsMarks_r1
  refine ⟨fun h => (nomatch h), fun _ => ?_⟩
  have hml : mkd l s mark ≤ 9223372036854775807 := by
    have hx' : x ∈ ofS l s := by
      have : x ∈ page (ofS l s) (mkd l s mark) 1 := by rw [hp]; simp
      unfold page at this
      exact List.mem_of_mem_drop (List.mem_of_mem_take this)
    obtain ⟨j, hj⟩ := List.getElem?_of_mem hx'
    have := ofS_at hg hj
    have hjl := (List.getElem?_eq_some_iff.1 hj).1
    have hcl : (ofS l s).length ≤ l.length := cnt_le l s
    omega
  refine eread_ok (h.bel hb02) s (mkd l s mark) 1 hml fun r w3 hr hb3 => ?_
  rw [rdS_good hg h1 (by decide), hp] at hr ⊢
  have hb03 := hb02.trans hb3
  have hrl : r.len = 1 := hr.len.symm
  refine ⟨fun _ => ?_, fun h => absurd rfl h⟩
  rw [decide_eq_true (p := (r.len : Int) = 1) (by omega)]
  refine ⟨fun _ => ?_, fun h => (nomatch h)⟩
  refine S.idx (i := 0) hr und_L_api_Event esz_L_api_Event (by decide) (x := x) rfl fun ad hA => ?_
  refine S.fld fld_api_Event_Mark one_string hA x.Mark rfl ?_
  rw [decide_eq_true hx]
  refine ⟨fun _ => ?_, fun h => (nomatch h)⟩
  refine S.idx (i := 0) hr und_L_api_Event esz_L_api_Event (by decide) (x := x) rfl fun ad hA => ?_
  refine S.fld fld_api_Event_Num one_int hA x.Num rfl ?_
  rw [decide_eq_true hxn]
  refine ⟨fun _ => ?_, fun h => (nomatch h)⟩
  exact ⟨decide_eq_true hm, hb03⟩
end Go.Proofs.Ytlghlmoifjcgoaa.VG
