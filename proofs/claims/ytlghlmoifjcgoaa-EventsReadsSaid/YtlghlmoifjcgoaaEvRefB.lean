/- The document's answers for events, as calls of the program: Of, Same, Marked, some, Read, All, Append; no condition. -/
import Derived.Test.YtlghlmoifjcgoaaEvRefA
set_option linter.unusedVariables false
namespace Go.Proofs.Ytlghlmoifjcgoaa.VG
open Go.VB Go.Proofs

abbrev EvOwn (base : Nat) (w : World) (s : Sl) (l : List Ev) : Prop := OwnS T_api_Event.cells 5 ty_api_Event base w s l
theorem EvOwn.rd {base : Nat} {w : World} {s : Sl} {l : List Ev} (h : EvOwn base w s l) : EvRd w s l := OwnS.rd h (fun _ => rfl)
theorem ev_app1 {base : Nat} {w0 w : World} {s : Sl} {l : List Ev} {x : Ev} {k : Sl → World → Prop} (hO : EvOwn base w s l) (hB : Bel w0 w) (hb : w0.heap.size ≤ base) (hbw : base ≤ w.heap.size) (room : l.length + 1 ≤ 2199023255552)
    (H : ∀ s' w', EvOwn base w' s' (l ++ [x]) → Bel w0 w' → w.grownBy w' (Sl.v s).ownBlock → k s' w') :
    opE Try.prog Sl.v (Instr.buildSlice ty_L_api_Event 1 [(0, T_api_Event.v x)].toArray) w (fun y w => opE Try.prog Sl.v (Builtin.append_ #[ty_L_api_Event, ty_L_api_Event] ty_L_api_Event [Sl.v s, Sl.v y].toArray) w k) :=
  S.app1 hO (fun _ => rfl) (fun _ => rfl) (by decide) und_L_api_Event einf_L_api_Event rfl (by decide) (bs1_L_api_Event x) hB hb hbw (by omega) H
theorem ev_app {base : Nat} {w0 w : World} {s y : Sl} {l m : List Ev} {k : Sl → World → Prop} (hO : EvOwn base w s l) (hy : EvRd w y m) (hB : Bel w0 w) (hb : w0.heap.size ≤ base) (hbw : base ≤ w.heap.size) (room : l.length + m.length ≤ 2199023255552)
    (H : ∀ s' w', EvOwn base w' s' (l ++ m) → Bel w0 w' → w.grownBy w' (Sl.v s).ownBlock → k s' w') :
    opE Try.prog Sl.v (Builtin.append_ #[ty_L_api_Event, ty_L_api_Event] ty_L_api_Event [Sl.v s, Sl.v y].toArray) w k :=
  S.app hO hy (fun _ => rfl) (fun _ => rfl) (by decide) und_L_api_Event einf_L_api_Event rfl (by decide) hB hb hbw (by omega) H
/-- A copy: append([]T{}, l..). -/
theorem ev_copy {w : World} {y : Sl} {m : List Ev} {k : Sl → World → Prop} (hy : EvRd w y m) (room : m.length ≤ 2199023255552)
    (H : ∀ s' w', EvOwn w.heap.size w' s' m → Bel w w' → k s' w') :
    opE Try.prog Sl.v (Instr.buildSlice ty_L_api_Event 0 [].toArray) w (fun x w => opE Try.prog Sl.v (Builtin.append_ #[ty_L_api_Event, ty_L_api_Event] ty_L_api_Event [Sl.v x, Sl.v y].toArray) w k) := by
  refine ⟨_, _, bs0_L_api_Event w, ?_⟩
  refine ev_app (w0 := w) (OwnS.lit0 (Nat.le_refl _)) (hy.bel (Bel.alloc _ _)) (Bel.alloc _ _) (Nat.le_refl _) (by rw [size_alloc']; omega) (by simpa using room) fun s' w' h1 h2 _ => H s' w' (by simpa using h1) h2

theorem of_ok {w : World} {x0 : Sl} {l : List Ev} (h : EvRd w x0 l) (hl : l.length ≤ 2199023255552) (s : ByteArray) {k : Sl → World → Prop} (H : ∀ r w', EvOwn w.heap.size w' r (ofS l s) → Bel w w' → k r w') :
    Cl Try.prog fn_ladingref12_Of [Sl.v x0, .string s].toArray w (fun e w' => ∃ r0 : Sl, e = .returned (Sl.v r0) ∧ k r0 w') := by
  refine L1_ladingref12_Of x0 s w k ?_
  have hbig := h.big; have hcap := h.cap; have hlen := h.len
  unfold V_ladingref12_Of
  refine ⟨fun y x w1 => ∃ n : Nat, x = (n : Int) ∧ n ≤ l.length ∧ Bel w w1 ∧ EvOwn w.heap.size w1 y (ofS (l.take n) s), fun _ x _ => (x0.len - x).toNat, ?_, ?_⟩
  · exact ⟨0, rfl, by omega, Bel.refl _, OwnS.nil _ _ _ _ _⟩
  · rintro y x w1 ⟨n, rfl, hn, hb, hO⟩
    unfold V_ladingref12_Of_l1b
    refine ⟨fun hc => ?_, fun hc => ?_⟩
    · obtain ⟨e, he⟩ : ∃ e, l[(n : Int).toNat]? = some e := ⟨l[(n : Int).toNat]'(by omega), by simp⟩
      have he' : l[n]? = some e := by simpa using he
      have hs := ofS_take_succ he' s
      refine S.idx (h.bel hb) und_L_api_Event esz_L_api_Event (by omega) he fun ad hA => ?_
      refine S.ldA agg_api_Event e rfl hA rfl ?_
      refine S.new new_api_Event rfl agg_api_Event (cs := e.cells) rfl rfl rfl ?_
      have hbox := At.new w1 e.cells ty_api_Event
      have hb1 : Bel w1 (w1.alloc (.cells e.cells.toArray ty_api_Event)) := Bel.alloc _ _
      generalize w1.heap.size = B at hbox ⊢
      generalize (w1.alloc (.cells e.cells.toArray ty_api_Event)) = w2 at hbox hb1 ⊢
      refine S.fld fld_api_Event_Stream one_string hbox e.Stream rfl ?_
      refine ⟨fun hq => ?_, fun hq => ?_⟩
      · refine S.ldA agg_api_Event e rfl hbox rfl ?_
        have hcl := cnt_le (l.take n) s
        have : (l.take n).length ≤ n := List.length_take_le _ _
        refine ev_app1 (hO.bel hb1) (hb.trans hb1) (Nat.le_refl _) (hb.trans hb1).le (by unfold cnt at hcl; omega) fun s' w' h1 h2 h3 => ?_
        unfold V_ladingref12_Of_j2
        rw [wr64 (by omega) (by omega)]
        exact ⟨⟨n + 1, by omega, by omega, h2, by rw [hs, if_pos hq]; exact h1⟩, by dsimp only; omega⟩
      · unfold V_ladingref12_Of_j2
        rw [wr64 (by omega) (by omega)]
        exact ⟨⟨n + 1, by omega, by omega, hb.trans hb1, by rw [hs, if_neg hq, List.append_nil]; exact hO.bel hb1⟩, by dsimp only; omega⟩
    · obtain rfl : n = l.length := by omega
      exact H y w1 (by simpa using hO) hb

theorem Q.neq {w : World} {x y : Ev} {o1 o2 : Operand} {k : Bool → Prop} (H : ∀ b : Bool, (b = true ↔ ¬ x = y) → k b) :
    opB Try.prog Value.bool (do eqGuard .neq ty_api_Event o1 o2 (T_api_Event.v x) (T_api_Event.v y); binOp .neq ty_api_Event (T_api_Event.v x) (T_api_Event.v y)) w k := by
  obtain ⟨r, h1, h2⟩ := neq_api_Event x y o1 o2
  exact ⟨r, fun w' _ => h1 w', H r h2⟩

theorem same_ok {w : World} {x0 x1 : Sl} {l m : List Ev} (h : EvRd w x0 l) (h' : EvRd w x1 m) {k : Bool → World → Prop} (H : ∀ r w', (r = true ↔ l = m) → Bel w w' → k r w') :
    Cl Try.prog fn_ladingref12_Same [Sl.v x0, Sl.v x1].toArray w (fun e w' => ∃ r0 : Bool, e = .returned (.bool r0) ∧ k r0 w') := by
  refine L1_ladingref12_Same x0 x1 w k ?_
  have hbig := h.big; have hcap := h.cap; have hlen := h.len; have hlen' := h'.len
  unfold V_ladingref12_Same
  refine ⟨fun hc => H false w ⟨fun h => (nomatch h), fun h => ?_⟩ (Bel.refl _), fun hc => ?_⟩
  · subst h; omega
  have hc' : (x0.len : Int) = x1.len := Classical.not_not.1 hc
  refine ⟨fun x w1 => ∃ n : Nat, x = (n : Int) ∧ n ≤ l.length ∧ Bel w w1 ∧ l.take n = m.take n, fun x _ => (x0.len - x).toNat, ?_, ?_⟩
  · exact ⟨0, rfl, by omega, Bel.refl _, rfl⟩
  · rintro x w1 ⟨n, rfl, hn, hb, hq⟩
    unfold V_ladingref12_Same_l1b
    refine ⟨fun hc => ?_, fun hc => ?_⟩
    · have hnl : n < l.length := by omega
      have hnm : n < m.length := by omega
      obtain ⟨e, he⟩ : ∃ e, l[(n : Int).toNat]? = some e := ⟨l[(n : Int).toNat]'(by omega), by simp⟩
      obtain ⟨f, hf⟩ : ∃ f, m[(n : Int).toNat]? = some f := ⟨m[(n : Int).toNat]'(by omega), by simp⟩
      have he' : l[n]? = some e := by simpa using he
      have hf' : m[n]? = some f := by simpa using hf
      refine Q.idx (h.bel hb) und_L_api_Event esz_L_api_Event (by omega) he fun ad hA => ?_
      refine Q.ldA agg_api_Event e rfl hA rfl ?_
      refine Q.idx (h'.bel hb) und_L_api_Event esz_L_api_Event (by omega) hf fun ad' hA' => ?_
      refine Q.ldA agg_api_Event f rfl hA' rfl ?_
      refine Q.neq fun b hbb => ?_
      intro w2 hb2
      refine ⟨fun ht => H false w2 ⟨fun h => (nomatch h), fun h => ?_⟩ (hb.trans hb2), fun hf0 => ?_⟩
      · subst h
        rw [he] at hf; exact absurd (Option.some.inj hf) (hbb.1 ht)
      · rw [wr64 (by omega) (by omega)]
        have hef : e = f := Classical.not_not.1 fun h => by rw [hbb.2 h] at hf0; cases hf0
        refine ⟨⟨n + 1, by omega, by omega, hb.trans hb2, ?_⟩, by dsimp only; omega⟩
        rw [List.take_succ_eq_append_getElem hnl, List.take_succ_eq_append_getElem hnm, hq]
        congr 2
        rw [(List.getElem?_eq_some_iff.1 he').2, (List.getElem?_eq_some_iff.1 hf').2, hef]
    · obtain rfl : n = l.length := by omega
      refine H true w1 ⟨fun _ => ?_, fun _ => rfl⟩ hb
      rw [List.take_length, List.take_of_length_le (by omega)] at hq
      exact hq

/-- Where a mark is: the number of the stream's first event that bears it; 0: there is none. -/
def mkF (m : List Ev) (mark : ByteArray) : Int := ((m.find? fun e => decide (e.Mark = mark)).map (·.Num)).getD 0
def mkd (l : List Ev) (s mark : ByteArray) : Int := if mark = noB then 0 else mkF (ofS l s) mark
theorem mkF_hit {m : List Ev} {mark : ByteArray} {n : Nat} {e : Ev} (he : m[n]? = some e) (hno : ∀ j x, j < n → m[j]? = some x → x.Mark ≠ mark) (hm : e.Mark = mark) : mkF m mark = e.Num := by
  have : m.find? (fun e => decide (e.Mark = mark)) = some e := by
    rw [List.find?_eq_some_iff_getElem]
    refine ⟨by simpa using hm, n, (List.getElem?_eq_some_iff.1 he).1, (List.getElem?_eq_some_iff.1 he).2, fun j hj => ?_⟩
    simpa using hno j _ hj (by simp)
  simp [mkF, this]
theorem mkF_none {m : List Ev} {mark : ByteArray} (hno : ∀ x ∈ m, x.Mark ≠ mark) : mkF m mark = 0 := by
  have : m.find? (fun e => decide (e.Mark = mark)) = none := by
    rw [List.find?_eq_none]; intro x hx; simpa using hno x hx
  simp [mkF, this]

theorem marked_ok {w : World} {x0 : Sl} {l : List Ev} (h : EvRd w x0 l) (s mark : ByteArray) {k : Int → Int → World → Prop}
    (H : ∀ w', Bel w w' → k (if chk l = 0 then mkd l s mark else 0) (chk l) w') :
    Cl Try.prog fn_ladingref12_Marked [Sl.v x0, .string s, .string mark].toArray w (fun e w' => ∃ (r0 : Int) (r1 : Int), e = .returned (.tuple [(.int .i64 r0), (.int .i64 r1)].toArray) ∧ k r0 r1 w') := by
  refine L1_ladingref12_Marked x0 s mark w k ?_
  have hbig := h.big; have hcap := h.cap; have hlen := h.len
  unfold V_ladingref12_Marked
  refine check_ok h fun w1 hb1 => ?_
  refine ⟨fun hc => ?_, fun hc => ?_⟩
  · refine ⟨fun _ => ?_, fun h => (nomatch h)⟩
    have := H w1 hb1
    rw [if_neg hc] at this; exact this
  · have hc0 : chk l = 0 := Classical.not_not.1 hc
    rw [if_pos hc0] at H
    by_cases hm : mark = noB
    · rw [show decide (mark = noB) = true from by simp [hm]]
      refine ⟨fun _ => ?_, fun h => (nomatch h)⟩
      have := H w1 hb1
      unfold mkd at this; rw [if_pos hm] at this; exact this
    · rw [show decide (mark = noB) = false from by simp [hm]]
      refine ⟨fun h => (nomatch h), fun _ => ?_⟩
      have hG := (chk_zero.1 hc0).1
      refine of_ok (h.bel hb1) (by omega) s fun r w2 hO hb2 => ?_
      have hR := hO.rd
      have hRl := hR.len; have hRb := hR.big
      have hb02 := hb1.trans hb2
      rw [hc0] at H
      unfold mkd at H; rw [if_neg hm] at H
      refine ⟨fun x w3 => ∃ n : Nat, x = (n : Int) ∧ n ≤ (ofS l s).length ∧ Bel w2 w3 ∧ ∀ j x, j < n → (ofS l s)[j]? = some x → x.Mark ≠ mark, fun x _ => (r.len - x).toNat, ?_, ?_⟩
      · exact ⟨0, rfl, by omega, Bel.refl _, fun j x h => by omega⟩
      · rintro x w3 ⟨n, rfl, hn, hb3, hno⟩
        unfold V_ladingref12_Marked_l2b
        refine ⟨fun hc => ?_, fun hc => ?_⟩
        · obtain ⟨e, he⟩ : ∃ e, (ofS l s)[(n : Int).toNat]? = some e := ⟨(ofS l s)[(n : Int).toNat]'(by omega), by simp⟩
          have he' : (ofS l s)[n]? = some e := by simpa using he
          refine S.idx (hR.bel hb3) und_L_api_Event esz_L_api_Event (by omega) he fun ad hA => ?_
          refine S.ldA agg_api_Event e rfl hA rfl ?_
          refine S.new new_api_Event rfl agg_api_Event (cs := e.cells) rfl rfl rfl ?_
          have hbox := At.new w3 e.cells ty_api_Event
          have hb4 : Bel w3 (w3.alloc (.cells e.cells.toArray ty_api_Event)) := Bel.alloc _ _
          generalize w3.heap.size = B at hbox ⊢
          generalize (w3.alloc (.cells e.cells.toArray ty_api_Event)) = w4 at hbox hb4 ⊢
          refine S.fld fld_api_Event_Mark one_string hbox e.Mark rfl ?_
          refine ⟨fun hq => ?_, fun hq => ?_⟩
          · refine S.fld fld_api_Event_Num one_int hbox e.Num rfl ?_
            have := H w4 (hb02.trans (hb3.trans hb4))
            rw [mkF_hit he' hno hq] at this; exact this
          · rw [wr64 (by omega) (by omega)]
            refine ⟨⟨n + 1, by omega, by omega, hb3.trans hb4, fun j x h1 h2 => ?_⟩, by dsimp only; omega⟩
            rcases Nat.lt_or_ge j n with h3 | h3
            · exact hno j x h3 h2
            · obtain rfl : j = n := by omega
              rw [he'] at h2; cases h2; exact hq
        · have := H w3 (hb02.trans hb3)
          rw [mkF_none (fun x hx => ?_)] at this
          · exact this
          · obtain ⟨j, hj⟩ := List.getElem?_of_mem hx
            exact hno j x (by have := (List.getElem?_eq_some_iff.1 hj).1; omega) hj
end Go.Proofs.Ytlghlmoifjcgoaa.VG
