/- EventsKept answers true at whatever it is called with; no condition. -/
import Derived.Test.YtlghlmoifjcgoaaVLk
import Derived.Test.YtlghlmoifjcgoaaEvLives
import Derived.Test.YtlghlmoifjcgoaaEvFactsB
set_option linter.unusedVariables false
namespace Go.Proofs.Ytlghlmoifjcgoaa.VG
open Go.VB Go.Proofs Go.RowKit

abbrev tMore : ByteArray := ByteArray.mk #[109, 111, 114, 101]
theorem kept_ok {w : World} {x0 x4 : Sl} {l : List Ev} {data : List ByteArray} (h : EvRd w x0 l) (hl : l.length ≤ 2199023255552) (hd : StrRd w x4 data) (s mark : ByteArray) (x : Int) :
    Cl Try.prog fn_ladinglaw12_EventsKept [Sl.v x0, .string s, .int .i64 x, .string mark, Sl.v x4].toArray w (fun e w' => ∃ r0 : Bool, e = .returned (.bool r0) ∧ (r0 = true ∧ Bel w w')) := by
  refine L1_ladinglaw12_EventsKept x0 s x mark x4 w (fun b w' => b = true ∧ Bel w w') ?_
  have hbig := h.big; have hcap := h.cap; have hlen := h.len
  have dbig := hd.big; have dcap := hd.cap; have dlen := hd.len
  unfold V_ladinglaw12_EventsKept
  refine lives_ok w fun w1 hb1 => ?_
  refine ⟨fun h => (nomatch h), fun _ => ?_⟩
  refine eappend_ok (h.bel hb1) hl (hd.bel hb1) s mark x fun r w2 hr hb2 => ?_
  have hb02 := hb1.trans hb2
  have hrlen := hr.len
  by_cases ha : (app l s x mark data).2.2 = 0
  case neg =>
    refine ⟨fun _ => ?_, fun h => absurd ha h⟩
    obtain ⟨e1, e2⟩ := app_err ha
    rw [e1] at hrlen
    refine ⟨fun _ => ⟨decide_eq_true e2, hb02⟩, fun h => absurd ?_ h⟩
    simp at hrlen; omega
  refine ⟨fun h => absurd ha h, fun _ => ?_⟩
  have hgA := app_good ha
  obtain ⟨hg, hnl, hor⟩ := app_ok ha
  -- what stands behind the old events
  obtain ⟨N, hN1, hN2, hN3⟩ : ∃ N : List Ev, (app l s x mark data).1 = l ++ N ∧ (N = [] ∨ N = news s mark (cnt l s) l.length data) ∧ (N ≠ [] → N.length = data.length ∧ ¬ (0 ≤ x ∧ x ≠ (cnt l s : Int))) := by
    rcases hor with ⟨_, h2⟩ | ⟨_, h3, _, h5⟩
    · exact ⟨[], by rw [h2]; simp, .inl rfl, fun h => absurd rfl h⟩
    · exact ⟨_, by rw [h5], .inr rfl, fun _ => ⟨news_len _ _ _ _ _, h3⟩⟩
  have hlA : (app l s x mark data).1.length = l.length + N.length := by rw [hN1, List.length_append]
  have hNl : N.length = 0 ∨ N.length = data.length := by
    rcases hN2 with h | h
    · left; rw [h]; rfl
    · right; rw [h, news_len]
  have hgl := hgA.1
  refine ⟨fun hc => absurd hc (by omega), fun _ => ?_⟩
  refine ⟨_, _, run_upto und_L_api_Event esz_L_api_Event (by have := hr.cap; omega), ?_⟩
  have hcut := hr.sub (l := 0) (h := x0.len) (by omega) (by omega)
  refine same_ok hcut (h.bel hb02) fun b w3 hb hb3 => ?_
  have : b = true := hb.2 (by rw [List.drop_zero, Nat.sub_zero, hN1, ← hlen, List.take_append_of_le_length (Nat.le_refl _), List.take_length])
  subst this
  have hb03 := hb02.trans hb3
  have hr3 := hr.bel hb3
  unfold V_ladinglaw12_EventsKept_r2
  refine ⟨fun h => (nomatch h), fun _ => ?_⟩
  refine echeck_ok hr3 fun w4 hb4 => ?_
  rw [chk_good hgA, decide_eq_false (p := (0 : Int) ≠ 0) (by decide)]
  have hb04 := hb03.trans hb4
  have hr4 := hr3.bel hb4
  unfold V_ladinglaw12_EventsKept_r3
  refine ⟨fun h => (nomatch h), fun _ => ?_⟩
  have j9 : ∀ w5, Bel w4 w5 → V_ladinglaw12_EventsKept_j9 x0 s x (fun b w' => b = true ∧ Bel w w') r w5 := by
    intro w5 hb5
    have hb05 := hb04.trans hb5
    unfold V_ladinglaw12_EventsKept_j9
    refine ⟨fun _ => ⟨fun _ => ⟨rfl, hb05⟩, fun h => (nomatch h)⟩, fun hx0 => ?_⟩
    by_cases hq : (r.len : Int) = x0.len
    · rw [decide_eq_true hq]; exact ⟨fun _ => ⟨rfl, hb05⟩, fun h => (nomatch h)⟩
    rw [decide_eq_false hq]
    refine ⟨fun h => (nomatch h), fun _ => ?_⟩
    have hne : N ≠ [] := fun e => by rw [e] at hlA; simp at hlA; omega
    obtain ⟨h1, h2⟩ := hN3 hne
    refine ⟨⟨some ⟨w5.heap.size, 0, none⟩, 1, 1⟩, _, bs1_L_string tMore w5, ?_⟩
    have hdm : StrRd (w5.alloc (.cells [.string tMore].toArray ty_string)) ⟨some ⟨w5.heap.size, 0, none⟩, 1, 1⟩ [tMore] := (strLit (w := w5) (ss := [tMore])).resolve_right (by simp)
    have hb6 : Bel w5 (w5.alloc (.cells [.string tMore].toArray ty_string)) := Bel.alloc _ _
    have hcA : cnt (app l s x mark data).1 s = cnt l s + data.length := by
      rcases hN2 with e | e
      · exact absurd e hne
      · rw [hN1, e, cnt_append, cnt_news]
    have hNp : N.length ≠ 0 := fun e => hne (List.eq_nil_of_length_eq_zero e)
    have hcf := app_conflict (x := x) (chk_good hgA) (s := s) (mark := noB) (data := [tMore]) (fun hL => by
      rcases hL with h3 | h3 | h3 | ⟨d, h3, h4⟩
      · exact hnl (.inl h3)
      · exact hnl (.inr (.inl h3))
      · exact absurd h3 (by decide)
      · simp at h3; subst h3; exact absurd h4 (by decide)) (by rw [mkd_none]; decide) ⟨by omega, by rw [hcA]; omega⟩
    refine eappend_ok ((hr4.bel hb5).bel hb6) (by omega) hdm s noB x fun q w7 hq hb7 => ?_
    rw [hcf]
    exact ⟨decide_eq_true rfl, (hb05.trans hb6).trans hb7⟩
  have r4 : V_ladinglaw12_EventsKept_r4 x0 s x mark x4 (fun b w' => b = true ∧ Bel w w') r (app l s x mark data).2.1 false w4 := by
    unfold V_ladinglaw12_EventsKept_r4
    refine ⟨fun h => (nomatch h), fun _ => ?_⟩
    refine ⟨_, _, run_from und_L_api_Event esz_L_api_Event (by omega), ?_⟩
    have hn4 := hr4.sub (l := x0.len) (h := r.len) (by omega) (Nat.le_refl _)
    have hNe : ((app l s x mark data).1.drop x0.len).take (r.len - x0.len) = N := by
      rw [hN1, ← hlen, List.drop_append_of_le_length (Nat.le_refl _), List.drop_length, List.nil_append, List.take_of_length_le (by omega)]
    rw [hNe] at hn4
    generalize (r.sub x0.len r.len 5) = y at hn4 ⊢
    have ylen := hn4.len
    refine ⟨fun i w5 => ∃ n : Nat, i = (n : Int) ∧ n ≤ N.length ∧ Bel w4 w5, fun i _ => (y.len - i).toNat, ⟨0, rfl, by omega, Bel.refl _⟩, ?_⟩
    rintro i w5 ⟨n, rfl, hn, hb5⟩
    have hb05 := hb04.trans hb5
    unfold V_ladinglaw12_EventsKept_l5b
    refine ⟨fun hc => ?_, fun hc => ?_⟩
    · obtain ⟨e, he⟩ := getL (l := N) (i := (n : Int)) (by omega) (by omega)
      have he' : N[n]? = some e := by simpa using he
      have hNn : N = news s mark (cnt l s) l.length data := hN2.resolve_left (fun e => by rw [e] at he'; simp at he')
      rw [hNn] at he'
      obtain ⟨d, hdn, hev⟩ := news_get he'
      refine S.idx (hn4.bel hb5) und_L_api_Event esz_L_api_Event (by omega) he fun ad hA => ?_
      refine S.ldA agg_api_Event e rfl hA rfl ?_
      refine S.new new_api_Event rfl agg_api_Event (cs := e.cells) rfl rfl rfl ?_
      have hbox := At.new w5 e.cells ty_api_Event
      have hb56 : Bel w5 (w5.alloc (.cells e.cells.toArray ty_api_Event)) := Bel.alloc _ _
      generalize w5.heap.size = B at hbox ⊢
      generalize (w5.alloc (.cells e.cells.toArray ty_api_Event)) = w6 at hbox hb56 ⊢
      have hb06 := hb05.trans hb56
      have r7f : ∀ K, (∀ w7, Bel w6 w7 → K (IntKind.wrap .i64 ((n : Int) + 1)) w7) → V_ladinglaw12_EventsKept_r7 (fun b w' => b = true ∧ Bel w w') n K false w6 := fun K hK w7 hb7 => ⟨fun h => (nomatch h), fun _ => hK w7 hb7⟩
      have again : ∀ w7, Bel w6 w7 → (fun (x84' : Int) (w' : World) => (∃ n : Nat, x84' = (n : Int) ∧ n ≤ N.length ∧ Bel w4 w') ∧ (y.len - x84').toNat < (y.len - (n : Int)).toNat) (IntKind.wrap .i64 ((n : Int) + 1)) w7 := by
        intro w7 hb7
        rw [wr64 (by omega) (by omega)]
        exact ⟨⟨n + 1, by omega, by omega, (hb5.trans hb56).trans hb7⟩, by omega⟩
      refine Q.fld fld_api_Event_Stream one_string hbox e.Stream rfl ?_
      refine ⟨fun hq => absurd (by rw [hev]) hq, fun _ => ?_⟩
      refine Q.fld fld_api_Event_Data one_string hbox e.Data rfl ?_
      refine Q.idx (hd.bel hb06) und_L_string esz_L_string (by omega) (x := d) (by simpa using hdn) fun ad2 hA2 => ?_
      refine Q.ld1 one_string d (by have := hA2 0 (.string d) rfl; simpa [Addr.add] using this) ?_
      rw [decide_eq_false (p := e.Data ≠ d) (fun h => h (by rw [hev]))]
      unfold V_ladinglaw12_EventsKept_r6
      refine ⟨fun h => (nomatch h), fun _ => ⟨fun h0 => ?_, fun h0 => r7f _ again⟩⟩
      refine Q.fld fld_api_Event_Mark one_string hbox e.Mark rfl ?_
      rw [decide_eq_false (p := e.Mark ≠ _) (fun h => h (by rw [hev]; simp only; rw [if_neg (by omega)]))]
      exact r7f _ again
    · have r11f : V_ladinglaw12_EventsKept_r11 x0 s x mark x4 (fun b w' => b = true ∧ Bel w w') r (app l s x mark data).2.1 false w5 := ⟨fun h => (nomatch h), fun _ => j9 w5 hb5⟩
      refine ⟨fun hm => ?_, fun _ => r11f⟩
      by_cases hd0 : (0 : Int) < x4.len
      case neg => rw [decide_eq_false hd0]; exact r11f
      rw [decide_eq_true hd0]
      refine ⟨fun _ => ?_, fun h => (nomatch h)⟩
      -- done once more it changes nothing
      have hagain : app (app l s x mark data).1 s x mark data = ((app l s x mark data).1, (app l s x mark data).2.1, 0) := by
        rcases hor with ⟨h2, h3⟩ | ⟨h2, h3, h4, h5⟩
        · rw [h3]; exact h3
        · have hpos : 0 < mkd (app l s x mark data).1 s mark := by
            refine (mkd_pos hgA).2 ⟨hm, ⟨s, (cnt l s : Int) + 1 + (0 : Nat), (l.length : Int) + 1 + (0 : Nat), mark, data[0]'(by omega)⟩, ?_, rfl, rfl⟩
            rw [h5]
            refine List.mem_append_right _ (List.mem_of_getElem? (i := 0) ?_)
            unfold news
            rw [List.getElem?_mapIdx]
            simp [show 0 < data.length by omega]
          rw [app_there (chk_good hgA) hnl hpos]
          refine Prod.ext rfl (Prod.ext ?_ rfl)
          show (cnt (app l s x mark data).1 s : Int) = (app l s x mark data).2.1
          rw [h5]
          show ((cnt (l ++ news s mark (cnt l s) l.length data) s : Nat) : Int) = (cnt l s : Int) + data.length
          rw [cnt_append, cnt_news]; omega
      refine eappend_ok (hr4.bel hb5) (by omega) (hd.bel hb05) s mark x fun q w6 hq hb6 => ?_
      rw [hagain] at hq ⊢
      have hb06 := hb05.trans hb6
      refine ⟨fun h => absurd rfl h, fun _ => ?_⟩
      rw [decide_eq_false (p := (app l s x mark data).2.1 ≠ (app l s x mark data).2.1) (fun h => h rfl)]
      refine ⟨fun h => (nomatch h), fun _ => ?_⟩
      refine same_ok ((hr4.bel hb5).bel hb6) hq fun b w7 hb hb7 => ?_
      obtain rfl : b = true := hb.2 rfl
      exact ⟨fun h => (nomatch h), fun _ => j9 w7 ((hb5.trans hb6).trans hb7)⟩
  unfold V_ladinglaw12_EventsKept_r14
  refine ⟨fun hne => ?_, fun _ => r4⟩
  rw [wr64 (by omega) (by omega), decide_eq_false (by omega)]
  exact r4
end Go.Proofs.Ytlghlmoifjcgoaa.VG
