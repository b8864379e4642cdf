/- EventsApart answers true at whatever it is called with; no condition. -/
import Derived.Test.YtlghlmoifjcgoaaVLx
import Derived.Test.YtlghlmoifjcgoaaEvLives
import Derived.Test.YtlghlmoifjcgoaaEvStr
import Derived.Test.YtlghlmoifjcgoaaEvFactsC
set_option linter.unusedVariables false
namespace Go.Proofs.Ytlghlmoifjcgoaa.VG
open Go.VB Go.Proofs Go.RowKit

theorem apart_ok {w : World} {x0 x3 : Sl} {l : List Ev} {data : List ByteArray} (h : EvRd w x0 l) (hl : l.length ≤ 2199023255552) (hd : StrRd w x3 data) (s o : ByteArray) :
    Cl Try.prog fn_ladinglaw12_EventsApart [Sl.v x0, .string s, .string o, Sl.v x3].toArray w (fun e w' => ∃ r0 : Bool, e = .returned (.bool r0) ∧ (r0 = true ∧ Bel w w')) := by
  refine L1_ladinglaw12_EventsApart x0 s o x3 w (fun b w' => b = true ∧ Bel w w') ?_
  have hbig := h.big; have hcap := h.cap; have hlen := h.len
  unfold V_ladinglaw12_EventsApart
  refine lives_ok w fun w1 hb1 => ?_
  refine ⟨fun h => (nomatch h), fun _ => ?_⟩
  refine estreams_ok (h.bel hb1) fun r1 w2 t hr1 ht hb2 => ?_
  have hb02 := hb1.trans hb2
  have rlen := hr1.len; have rbig := hr1.big; have rcap := hr1.cap
  refine ⟨fun hc => ?_, fun hc => ?_⟩
  · rw [if_neg hc] at ht
    subst ht
    exact ⟨decide_eq_true (by simp at rlen; omega), hb02⟩
  have hc0 : chk l = 0 := Classical.not_not.1 hc
  rw [if_pos hc0] at ht
  have hgood := chk_zero.1 hc0
  have hgl := hgood.1
  have hsum := sum_cnt ht.nodup l ht.all
  have hsle := sum_le ht.nodup l ht.all
  refine ⟨fun x11 x38 W => ∃ n : Nat, x38 = (n : Int) ∧ n ≤ t.length ∧ x11 = (((t.take n).map (cnt l)).sum : Int) ∧ Bel w2 W, fun _ x38 _ => (r1.len - x38).toNat, ⟨0, rfl, by omega, rfl, Bel.refl _⟩, ?_⟩
  rintro x11 x38 w3 ⟨n, rfl, hn, rfl, hb3⟩
  have hb03 := hb02.trans hb3
  have hsn := hsle n
  unfold V_ladinglaw12_EventsApart_l1b
  refine ⟨fun hlt => ?_, fun hlt => ?_⟩
  · obtain ⟨x, hx⟩ := getL (l := t) (i := (n : Int)) (by omega) (by omega)
    have hx' : t[n]? = some x := by simpa using hx
    refine S.idx (hr1.bel hb3) und_L_string esz_L_string (by omega) hx fun ad hA => ?_
    refine S.ld1 one_string x (by have := hA 0 (.string x) rfl; simpa [Addr.add] using this) ?_
    refine eread_ok (h.bel hb03) x 1 16384 (by omega) fun r w4 hr hb4 => ?_
    rw [rdS_all hgood] at hr ⊢
    dsimp only at hr ⊢
    have hb04 := hb03.trans hb4
    have qlen := hr.len; have qbig := hr.big
    have hcl := cnt_le l x
    have hpos : 0 < (ofS l x).length := by
      obtain ⟨e, he, hes⟩ := (ht.mem x).1 (List.mem_of_getElem? hx')
      exact List.length_pos_of_mem (mem_ofS.2 ⟨he, hes⟩)
    refine ⟨fun hc => absurd rfl hc, fun _ => ?_⟩
    rw [decide_eq_false (p := (r.len : Int) = 0) (by omega)]
    have again : ∀ w7, Bel w4 w7 → (fun (x11' x38' : Int) (w' : World) => (∃ n : Nat, x38' = (n : Int) ∧ n ≤ t.length ∧ x11' = (((t.take n).map (cnt l)).sum : Int) ∧ Bel w2 w') ∧ (r1.len - x38').toNat < (r1.len - (n : Int)).toNat) (IntKind.wrap .i64 ((((t.take n).map (cnt l)).sum : Int) + (r.len : Int))) (IntKind.wrap .i64 ((n : Int) + 1)) w7 := by
      intro w7 hb7
      have hst := sum_take l hx'
      unfold cnt at hcl
      rw [wr64 (by omega) (by omega), wr64 (by omega) (by omega)]
      refine ⟨⟨n + 1, by omega, by omega, ?_, (hb3.trans hb4).trans hb7⟩, by omega⟩
      rw [hst]; unfold cnt; omega
    have r3 : V_ladinglaw12_EventsApart_r3 x0 (fun b w' => b = true ∧ Bel w w') (((t.take n).map (cnt l)).sum : Int) n (fun (x11' x38' : Int) (w' : World) => (∃ n : Nat, x38' = (n : Int) ∧ n ≤ t.length ∧ x11' = (((t.take n).map (cnt l)).sum : Int) ∧ Bel w2 w') ∧ (r1.len - x38').toNat < (r1.len - (n : Int)).toNat) x r false w4 := by
      unfold V_ladinglaw12_EventsApart_r3
      refine ⟨fun h => (nomatch h), fun _ => ?_⟩
      refine ⟨fun i w5 => ∃ k : Nat, i = (k : Int) ∧ k ≤ (ofS l x).length ∧ Bel w4 w5, fun i _ => (r.len - i).toNat, ⟨0, rfl, by omega, Bel.refl _⟩, ?_⟩
      rintro i w5 ⟨k, rfl, hk, hb5⟩
      have hb05 := hb04.trans hb5
      unfold V_ladinglaw12_EventsApart_l4b
      refine ⟨fun hlt => ?_, fun hlt => again w5 hb5⟩
      obtain ⟨e, he⟩ := getL (l := ofS l x) (i := (k : Int)) (by omega) (by omega)
      have he' : (ofS l x)[k]? = some e := by simpa using he
      obtain ⟨f1, f2, g, f3, f4, f5⟩ := ofS_glob hgood he'
      refine S.idx (hr.bel hb5) und_L_api_Event esz_L_api_Event (by omega) he fun ad hA => ?_
      refine S.ldA agg_api_Event e rfl hA rfl ?_
      refine S.new new_api_Event rfl agg_api_Event (cs := e.cells) rfl rfl rfl ?_
      have hbox := At.new w5 e.cells ty_api_Event
      have hb56 : Bel w5 (w5.alloc (.cells e.cells.toArray ty_api_Event)) := Bel.alloc _ _
      generalize w5.heap.size = B at hbox ⊢
      generalize (w5.alloc (.cells e.cells.toArray ty_api_Event)) = w6 at hbox hb56 ⊢
      have hb06 := hb05.trans hb56
      refine Q.fld fld_api_Event_Stream one_string hbox e.Stream rfl ?_
      refine ⟨fun hq => absurd f1 hq, fun _ => ?_⟩
      refine Q.fld fld_api_Event_Num one_int hbox e.Num rfl ?_
      rw [wr64 (n := (k : Int) + 1) (by omega) (by omega), decide_eq_false (p := e.Num ≠ (k : Int) + 1) (fun h => h f2)]
      unfold V_ladinglaw12_EventsApart_r5
      refine ⟨fun h => (nomatch h), fun _ => ?_⟩
      refine Q.fld fld_api_Event_Global one_int hbox e.Global rfl ?_
      rw [decide_eq_false (p := e.Global < 1) (by omega)]
      unfold V_ladinglaw12_EventsApart_r6
      refine ⟨fun h => (nomatch h), fun _ => ?_⟩
      refine Q.fld fld_api_Event_Global one_int hbox e.Global rfl ?_
      rw [decide_eq_false (p := (x0.len : Int) < e.Global) (by omega)]
      unfold V_ladinglaw12_EventsApart_r7
      refine ⟨fun h => (nomatch h), fun _ => ?_⟩
      refine Q.fld fld_api_Event_Global one_int hbox e.Global rfl ?_
      rw [wr64 (n := e.Global - 1) (by omega) (by omega)]
      have hgi : (e.Global - 1).toNat = g := by omega
      refine Q.idx (h.bel hb06) und_L_api_Event esz_L_api_Event (by omega) (x := e) (by rw [hgi]; exact f3) fun ad2 hA2 => ?_
      refine Q.ldA agg_api_Event e rfl hA2 rfl ?_
      refine Q.ldA agg_api_Event e rfl hbox rfl ?_
      refine Q.neq fun b hb => ?_
      obtain rfl : b = false := by
        cases b with
        | false => rfl
        | true => exact absurd rfl (hb.1 rfl)
      unfold V_ladinglaw12_EventsApart_r8
      intro w7 hb7
      refine ⟨fun h => (nomatch h), fun _ => ?_⟩
      rw [wr64 (n := (k : Int) + 1) (by omega) (by omega)]
      exact ⟨⟨k + 1, by omega, by omega, (hb5.trans hb56).trans hb7⟩, by dsimp only; omega⟩
    unfold V_ladinglaw12_EventsApart_r2
    refine ⟨fun h => (nomatch h), fun _ => ⟨fun h0 => ?_, fun h0 => r3⟩⟩
    rw [wr64 (n := (n : Int) - 1) (by omega) (by omega)]
    obtain ⟨y, hy⟩ := getL (l := t) (i := (n : Int) - 1) (by omega) (by omega)
    have hy' : t[n - 1]? = some y := by rw [show ((n : Int) - 1).toNat = n - 1 by omega] at hy; exact hy
    refine S.idx ((hr1.bel hb3).bel hb4) und_L_string esz_L_string (by omega) hy fun ad hA => ?_
    refine S.ld1 one_string y (by have := hA 0 (.string y) rfl; simpa [Addr.add] using this) ?_
    have hlt' : sLt y x = true := by
      have h1 := (List.getElem?_eq_some_iff.1 hy'); have h2 := (List.getElem?_eq_some_iff.1 hx')
      have := List.pairwise_iff_getElem.1 ht.up (n - 1) n h1.1 h2.1 (by omega)
      rw [h1.2, h2.2] at this; exact this
    rw [hlt']
    exact r3
  · obtain rfl : n = t.length := by omega
    rw [List.take_length] at hsn ⊢
    rw [hsum]
    have hdec : decide ((l.length : Int) = (x0.len : Int)) = true := decide_eq_true (by omega)
    refine eappend_ok (h.bel hb03) hl (hd.bel hb03) s noB (-1) fun a w4 ha hb4 => ?_
    have hb04 := hb03.trans hb4
    have r10 : V_ladinglaw12_EventsApart_r10 x0 o (fun b w' => b = true ∧ Bel w w') (l.length : Int) a true w4 := by
      unfold V_ladinglaw12_EventsApart_r10
      exact ⟨fun _ => ⟨hdec, hb04⟩, fun h => (nomatch h)⟩
    refine ⟨fun _ => r10, fun hz => ?_⟩
    have hz0 : (app l s (-1) noB data).2.2 = 0 := Classical.not_not.1 hz
    by_cases hos : o = s
    · rw [decide_eq_true hos]; exact r10
    rw [decide_eq_false hos]
    unfold V_ladinglaw12_EventsApart_r10
    refine ⟨fun h => (nomatch h), fun _ => ?_⟩
    refine eread_ok (h.bel hb04) o 1 16384 (by omega) fun r w5 hr hb5 => ?_
    rw [rdS_all hgood] at hr ⊢
    refine eread_ok (ha.bel hb5) o 1 16384 (by omega) fun q w6 hq hb6 => ?_
    rw [rdS_all (app_good hz0), app_other hz0 hos] at hq
    rw [rdS_all (app_good hz0)]
    refine ⟨fun _ => ?_, fun h => absurd (of_decide_eq_true hdec) h⟩
    unfold V_ladinglaw12_EventsApart_r11
    refine ⟨fun _ => ?_, fun h => (nomatch h)⟩
    unfold V_ladinglaw12_EventsApart_r12
    refine ⟨fun _ => ?_, fun h => (nomatch h)⟩
    refine same_ok (hr.bel hb6) hq fun b w7 hb hb7 => ?_
    unfold V_ladinglaw12_EventsApart_r13
    exact ⟨hb.2 rfl, ((hb04.trans hb5).trans hb6).trans hb7⟩
end Go.Proofs.Ytlghlmoifjcgoaa.VG
