/- The document's answers for events, as calls of the program: last, twice, Check; no condition. -/
import Derived.Test.YtlghlmoifjcgoaaVGr
import Derived.Test.YtlghlmoifjcgoaaVGe
import Derived.Test.YtlghlmoifjcgoaaVT
import Derived.Test.YtlghlmoifjcgoaaEvPure
set_option linter.unusedVariables false
namespace Go.Proofs.Ytlghlmoifjcgoaa.VG
open Go.VB Go.Proofs

abbrev EvRd (w : World) (s : Sl) (l : List Ev) : Prop := Rd T_api_Event.cells 5 w s l

theorem long_ok (x : ByteArray) (w : World) {k : Bool → World → Prop} (H : k (decide (1024 < (x.size : Int))) w) :
    Cl Try.prog fn_events_long [.string x].toArray w (fun e w' => ∃ r0 : Bool, e = .returned (.bool r0) ∧ k r0 w') :=
  L1_events_long x w k H

theorem last_ok {w : World} {x0 : Sl} {l : List Ev} (h : EvRd w x0 l) {a : Int} (h0 : 0 ≤ a) {e : Ev} (he : l[a.toNat]? = some e) {k : Int → World → Prop}
    (H : ∀ r w', LastOf l a.toNat e.Stream r → Bel w w' → k r w') :
    Cl Try.prog fn_ladingref12_last [Sl.v x0, .int .i64 a].toArray w (fun e w' => ∃ r0 : Int, e = .returned (.int .i64 r0) ∧ k r0 w') := by
  refine L1_ladingref12_last x0 a w k ?_
  unfold V_ladingref12_last
  have hlt : a.toNat < l.length := (List.getElem?_eq_some_iff.1 he).1
  have hbig := h.big; have hcap := h.cap; have hlen := h.len
  refine ⟨fun x w1 => ∃ n : Nat, x = (n : Int) - 1 ∧ n ≤ a.toNat ∧ Bel w w1 ∧ ∀ j y, n ≤ j → j < a.toNat → l[j]? = some y → y.Stream ≠ e.Stream, fun x _ => (x + 1).toNat, ?_, ?_⟩
  · exact ⟨a.toNat, by rw [wr64 (by omega) (by omega)]; omega, Nat.le_refl _, Bel.refl _, fun j y h1 h2 => by omega⟩
  · rintro x w1 ⟨n, rfl, hn, hb, hno⟩
    unfold V_ladingref12_last_l1b
    refine ⟨fun hc => ?_, fun hc => ?_⟩
    · obtain ⟨y, hy⟩ : ∃ y, l[((n : Int) - 1).toNat]? = some y := ⟨l[((n : Int) - 1).toNat]'(by omega), by simp⟩
      refine Q.idx (h.bel hb) und_L_api_Event esz_L_api_Event hc hy fun ad hA => ?_
      refine Q.fld fld_api_Event_Stream one_string hA y.Stream rfl ?_
      refine Q.idx (h.bel hb) und_L_api_Event esz_L_api_Event h0 he fun ad' hA' => ?_
      refine Q.fld fld_api_Event_Stream one_string hA' e.Stream rfl ?_
      intro w2 hb2
      refine ⟨fun hs => H _ _ (.inr ⟨((n : Int) - 1).toNat, y, by omega, by omega, hy, hs, fun j z h1 h2 => hno j z (by omega) h2⟩) (hb.trans hb2), fun hs => ?_⟩
      rw [wr64 (by omega) (by omega)]
      refine ⟨⟨n - 1, by omega, by omega, hb.trans hb2, fun j z h1 h2 hz => ?_⟩, by dsimp only; omega⟩
      rcases Nat.lt_or_ge j n with h3 | h3
      · have : j = ((n : Int) - 1).toNat := by omega
        subst this
        rw [hy] at hz; cases hz; exact hs
      · exact hno j z h3 h2 hz
    · obtain rfl : n = 0 := by omega
      exact H _ _ (.inl ⟨rfl, fun j y hj hy => hno j y (by omega) hj hy⟩) hb

theorem boolCl {P : Program} {f : FuncId} {args : Array Value} {w : World} {b : Bool} {k : Bool → World → Prop} (h : Cl P f args w (fun e w' => ∃ r0 : Bool, e = .returned (.bool r0) ∧ k r0 w')) : Cl P f args w (fun e w' => ∃ r0 : Bool, e = .returned (.bool r0) ∧ k r0 w') := h

def TwiceP (p : List Ev) (e : Ev) : Prop := e.Mark ≠ noB ∧ ∃ x ∈ p, x.Stream = e.Stream ∧ x.Mark = e.Mark
theorem mem_take_of {l : List Ev} {n j : Nat} {x : Ev} (h : l[j]? = some x) (hj : j < n) : x ∈ l.take n := by
  refine List.mem_of_getElem? (i := j) ?_
  rw [List.getElem?_take_of_lt hj]; exact h
theorem take_mem {l : List Ev} {n : Nat} {x : Ev} (h : x ∈ l.take n) : ∃ j, j < n ∧ l[j]? = some x := by
  obtain ⟨j, hj⟩ := List.getElem?_of_mem h
  have : j < n := by have := (List.getElem?_eq_some_iff.1 hj).1; simp at this; omega
  exact ⟨j, this, by rw [List.getElem?_take_of_lt this] at hj; exact hj⟩

theorem twice_ok {w : World} {x0 : Sl} {l : List Ev} (h : EvRd w x0 l) {a : Int} (h0 : 0 ≤ a) {e : Ev} (he : l[a.toNat]? = some e) {k : Bool → World → Prop}
    (H : ∀ r w', (r = true ↔ TwiceP (l.take a.toNat) e) → Bel w w' → k r w') :
    Cl Try.prog fn_ladingref12_twice [Sl.v x0, .int .i64 a].toArray w (fun e w' => ∃ r0 : Bool, e = .returned (.bool r0) ∧ k r0 w') := by
  refine L1_ladingref12_twice x0 a w k ?_
  unfold V_ladingref12_twice
  have hlt : a.toNat < l.length := (List.getElem?_eq_some_iff.1 he).1
  have hbig := h.big; have hcap := h.cap; have hlen := h.len
  refine ⟨fun x w1 => ∃ n : Nat, x = (n : Int) ∧ n ≤ a.toNat ∧ Bel w w1 ∧ ∀ j y, j < n → l[j]? = some y → y.Stream = e.Stream → y.Mark ≠ e.Mark, fun x _ => (a - x).toNat, ?_, ?_⟩
  · exact ⟨0, rfl, by omega, Bel.refl _, fun j y h1 => by omega⟩
  · rintro x w1 ⟨n, rfl, hn, hb, hno⟩
    unfold V_ladingref12_twice_l1b
    refine ⟨fun hc => ?_, fun hc => ?_⟩
    · refine S.idx (h.bel hb) und_L_api_Event esz_L_api_Event h0 he fun ad hA => ?_
      refine S.fld fld_api_Event_Mark one_string hA e.Mark rfl ?_
      unfold V_ladingref12_twice_r2
      refine ⟨fun hm => ?_, fun hm => ?_⟩
      · have hm' : e.Mark ≠ noB := of_decide_eq_true hm
        obtain ⟨y, hy⟩ : ∃ y, l[(n : Int).toNat]? = some y := ⟨l[(n : Int).toNat]'(by omega), by simp⟩
        have hy' : l[n]? = some y := by simpa using hy
        refine Q.idx (h.bel hb) und_L_api_Event esz_L_api_Event (by omega) hy fun ad1 hA1 => ?_
        refine Q.fld fld_api_Event_Stream one_string hA1 y.Stream rfl ?_
        refine Q.idx (h.bel hb) und_L_api_Event esz_L_api_Event h0 he fun ad2 hA2 => ?_
        refine Q.fld fld_api_Event_Stream one_string hA2 e.Stream rfl ?_
        have go : ∀ w2, Bel w1 w2 → (y.Stream = e.Stream → y.Mark ≠ e.Mark) → ∃ n' : Nat, (n : Int) + 1 = (n' : Int) ∧ n' ≤ a.toNat ∧ Bel w w2 ∧ ∀ j y, j < n' → l[j]? = some y → y.Stream = e.Stream → y.Mark ≠ e.Mark := by
          intro w2 hb2 hq
          refine ⟨n + 1, by omega, by omega, hb.trans hb2, fun j z h1 h2 => ?_⟩
          rcases Nat.lt_or_ge j n with h3 | h3
          · exact hno j z h3 h2
          · obtain rfl : j = n := by omega
            rw [hy'] at h2; cases h2; exact hq
        refine ⟨fun hs => ?_, fun hs => ?_⟩
        · refine Q.idx (h.bel hb) und_L_api_Event esz_L_api_Event (by omega) hy fun ad3 hA3 => ?_
          refine Q.fld fld_api_Event_Mark one_string hA3 y.Mark rfl ?_
          refine Q.idx (h.bel hb) und_L_api_Event esz_L_api_Event h0 he fun ad4 hA4 => ?_
          refine Q.fld fld_api_Event_Mark one_string hA4 e.Mark rfl ?_
          unfold V_ladingref12_twice_r3
          intro w2 hb2
          refine ⟨fun hq => ?_, fun hq => ?_⟩
          · exact H true w2 (by simp only [true_iff]; exact ⟨hm', y, mem_take_of hy' (by omega), hs, of_decide_eq_true hq⟩) (hb.trans hb2)
          · rw [wr64 (by omega) (by omega)]
            exact ⟨go w2 hb2 (fun _ => of_decide_eq_false hq), by dsimp only; omega⟩
        · unfold V_ladingref12_twice_r3
          intro w2 hb2
          refine ⟨fun hq => (nomatch hq), fun _ => ?_⟩
          rw [wr64 (by omega) (by omega)]
          exact ⟨go w2 hb2 (fun h => absurd h hs), by dsimp only; omega⟩
      · have hm' : e.Mark = noB := by have := of_decide_eq_false hm; exact Classical.not_not.1 this
        exact H false w1 ⟨fun h => (nomatch h), fun h => absurd hm' h.1⟩ hb
    · unfold V_ladingref12_twice_r2
      refine ⟨fun h => (nomatch h), fun _ => ?_⟩
      refine H false w1 ⟨fun h => (nomatch h), fun ⟨h1, x, hx, h2, h3⟩ => ?_⟩ hb
      obtain ⟨j, hj, hxj⟩ := take_mem hx
      exact absurd h3 (hno j x (by omega) hxj h2)

theorem check_ok {w : World} {x0 : Sl} {l : List Ev} (h : EvRd w x0 l) {k : Int → World → Prop} (H : ∀ w', Bel w w' → k (chk l) w') :
    Cl Try.prog fn_ladingref12_Check [Sl.v x0].toArray w (fun e w' => ∃ r0 : Int, e = .returned (.int .i64 r0) ∧ k r0 w') := by
  refine L1_ladingref12_Check x0 w k ?_
  have hbig := h.big; have hcap := h.cap; have hlen := h.len
  have bad : ∀ w', Bel w w' → ¬ Good l → k 2 w' := fun w' hb hn => by rw [← chk_bad hn]; exact H w' hb
  unfold V_ladingref12_Check
  refine ⟨fun hc => bad w (Bel.refl _) (fun hg => by have := hg.1; omega), fun hc => ?_⟩
  refine ⟨fun x w1 => ∃ n : Nat, x = (n : Int) ∧ n ≤ l.length ∧ Bel w w1 ∧ GoodTo l n, fun x _ => (x0.len - x).toNat, ?_, ?_⟩
  · exact ⟨0, rfl, by omega, Bel.refl _, GoodTo.zero l⟩
  · rintro x w1 ⟨n, rfl, hn, hb, hg⟩
    unfold V_ladingref12_Check_l1b
    refine ⟨fun hc => ?_, fun hc => ?_⟩
    · obtain ⟨e, he⟩ : ∃ e, l[(n : Int).toNat]? = some e := ⟨l[(n : Int).toNat]'(by omega), by simp⟩
      have he' : l[n]? = some e := by simpa using he
      have badAt : ∀ w', Bel w w' → ¬ GoodAt (l.take n) n e → k 2 w' := fun w' hb hn => bad w' hb fun hG => hn (hG.2 n e (by omega) he')
      refine S.idx (h.bel hb) und_L_api_Event esz_L_api_Event (by omega) he fun ad hA => ?_
      refine S.ldA agg_api_Event e rfl hA rfl ?_
      refine S.new new_api_Event rfl agg_api_Event (cs := e.cells) rfl rfl rfl ?_
      have hbox := At.new w1 e.cells ty_api_Event
      have hb1 : Bel w (w1.alloc (.cells e.cells.toArray ty_api_Event)) := hb.trans (Bel.alloc _ _)
      generalize w1.heap.size = B at hbox ⊢
      generalize (w1.alloc (.cells e.cells.toArray ty_api_Event)) = w2 at hbox hb1 ⊢
      refine last_ok (h.bel hb1) (by omega) he fun r w3 hr hb3 => ?_
      rw [show (n : Int).toNat = n from by omega] at hr
      obtain ⟨hr1, hr2⟩ := lastOf_num hg hn hr
      have hb03 := hb1.trans hb3
      have hbox3 := hbox.bel hb3
      have key : ∀ w4, Bel w3 w4 → ∀ q : Int, q = (cnt (l.take n) e.Stream : Int) + 1 → V_ladingref12_Check_j2 x0 k n (fun x' w' => (∃ n : Nat, x' = (n : Int) ∧ n ≤ l.length ∧ Bel w w' ∧ GoodTo l n) ∧ (x0.len - x').toNat < (x0.len - (n : Int)).toNat) (some ⟨B, 0, none⟩) q w4 := by
        intro w4 hb4 q hq
        have hB4 := hb03.trans hb4
        have hx4 := hbox3.bel hb4
        have r8t : ∀ K : Int → World → Prop, ¬ GoodAt (l.take n) n e → V_ladingref12_Check_r8 k n K true w4 := fun K hng => ⟨fun _ => badAt _ hB4 hng, fun h => (nomatch h)⟩
        have r7t : ∀ K : Int → World → Prop, ¬ GoodAt (l.take n) n e → V_ladingref12_Check_r7 x0 k n K true w4 := fun K hng => ⟨fun _ => r8t K hng, fun h => (nomatch h)⟩
        have r6t : ∀ K : Int → World → Prop, ¬ GoodAt (l.take n) n e → V_ladingref12_Check_r6 x0 k n K (some ⟨B, 0, none⟩) true w4 := fun K hng => ⟨fun _ => r7t K hng, fun h => (nomatch h)⟩
        have r5t : ∀ K : Int → World → Prop, ¬ GoodAt (l.take n) n e → V_ladingref12_Check_r5 x0 k n K (some ⟨B, 0, none⟩) true w4 := fun K hng => ⟨fun _ => r6t K hng, fun h => (nomatch h)⟩
        have r4t : ∀ K : Int → World → Prop, ¬ GoodAt (l.take n) n e → V_ladingref12_Check_r4 x0 k n K (some ⟨B, 0, none⟩) true w4 := fun K hng => ⟨fun _ => r5t K hng, fun h => (nomatch h)⟩
        have r3t : ∀ K : Int → World → Prop, ¬ GoodAt (l.take n) n e → V_ladingref12_Check_r3 x0 k n K (some ⟨B, 0, none⟩) true w4 := fun K hng => ⟨fun _ => r4t K hng, fun h => (nomatch h)⟩
        unfold V_ladingref12_Check_j2
        refine S.fld fld_api_Event_Global one_int hx4 e.Global rfl ?_
        rw [wr64 (by omega) (by omega)]
        refine ⟨fun hgl => r3t _ (fun hG => hgl hG.glob), fun hgl => ?_⟩
        have hgl' : e.Global = (n : Int) + 1 := Classical.not_not.1 hgl
        refine S.fld fld_api_Event_Num one_int hx4 e.Num rfl ?_
        by_cases hnum : e.Num = q
        case neg => rw [show decide (e.Num ≠ q) = true from by simp [hnum]]; exact r3t _ (fun hG => hnum (by rw [hG.num, hq]))
        rw [show decide (e.Num ≠ q) = false from by simp [hnum]]
        refine ⟨fun h => (nomatch h), fun _ => ?_⟩
        refine S.fld fld_api_Event_Stream one_string hx4 e.Stream rfl ?_
        by_cases hstr : e.Stream = noB
        case pos => rw [show decide (e.Stream = noB) = true from by simp [hstr]]; exact r4t _ (fun hG => hG.str hstr)
        rw [show decide (e.Stream = noB) = false from by simp [hstr]]
        refine ⟨fun h => (nomatch h), fun _ => ?_⟩
        refine S.fld fld_api_Event_Stream one_string hx4 e.Stream rfl ?_
        by_cases hsl : 1024 < (e.Stream.size : Int)
        case pos => rw [decide_eq_true hsl]; exact r5t _ (fun hG => by have := hG.strl; omega)
        rw [decide_eq_false hsl]
        refine ⟨fun h => (nomatch h), fun _ => ?_⟩
        refine S.fld fld_api_Event_Mark one_string hx4 e.Mark rfl ?_
        by_cases hml : 1024 < (e.Mark.size : Int)
        case pos => rw [decide_eq_true hml]; exact r6t _ (fun hG => by have := hG.markl; omega)
        rw [decide_eq_false hml]
        refine ⟨fun h => (nomatch h), fun _ => ?_⟩
        refine S.fld fld_api_Event_Data one_string hx4 e.Data rfl ?_
        by_cases hdl : 1024 < (e.Data.size : Int)
        case pos => rw [decide_eq_true hdl]; exact r7t _ (fun hG => by have := hG.datal; omega)
        rw [decide_eq_false hdl]
        refine ⟨fun h => (nomatch h), fun _ => ?_⟩
        refine twice_ok (h.bel hB4) (by omega) he fun r5 w5 h5 hb5 => ?_
        rw [show (n : Int).toNat = n from by omega] at h5
        refine ⟨fun ht => ?_, fun hf => ?_⟩
        · obtain ⟨h6, x, hx, h7, h8⟩ := h5.1 ht
          exact badAt _ (hB4.trans hb5) (fun hG => hG.mark h6 x hx h7 h8)
        · rw [wr64 (by omega) (by omega)]
          refine ⟨⟨n + 1, by omega, by omega, hB4.trans hb5, hg.succ he' ⟨hgl', by rw [hnum, hq], hstr, by omega, by omega, by omega, fun h6 x hx h7 h8 => ?_⟩⟩, by omega⟩
          have := h5.2 ⟨h6, x, hx, h7, h8⟩
          rw [hf] at this; cases this
      refine ⟨fun hr0 => ?_, fun hr0 => ?_⟩
      · obtain ⟨y, hy, hy2⟩ := hr2 hr0
        refine S.idx (h.bel hb03) und_L_api_Event esz_L_api_Event hr0 hy fun ad2 hA2 => ?_
        refine S.fld fld_api_Event_Num one_int hA2 y.Num rfl ?_
        have hcl := cnt_le (l.take n) e.Stream
        have : (l.take n).length ≤ n := List.length_take_le _ _
        rw [wr64 (by omega) (by omega)]
        exact key w3 (Bel.refl _) _ hy2
      · have hr' : r = -1 := by
          rcases hr with ⟨h1, _⟩ | ⟨k', y, _, h1, _⟩ <;> omega
        exact key w3 (Bel.refl _) 1 (by rw [hr1 hr']; simp)
    · have hG : Good l := ⟨by omega, by rw [show l.length = n from by omega]; exact hg⟩
      rw [← chk_good hG]
      exact H w1 hb
end Go.Proofs.Ytlghlmoifjcgoaa.VG
