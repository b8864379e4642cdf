/- Facts on events as lists: what is put keeps them right; no condition. -/
import Derived.Test.YtlghlmoifjcgoaaEvSpec
set_option linter.unusedVariables false
namespace Go.Proofs.Ytlghlmoifjcgoaa.VG
open Go.VB Go.Proofs

theorem good_nil : Good [] := ⟨by simp, fun i e hi => by simp at hi⟩
theorem cnt_append (l m : List Ev) (s : ByteArray) : cnt (l ++ m) s = cnt l s + cnt m s := by
  unfold cnt ofS; rw [List.filter_append, List.length_append]
theorem ofS_append (l m : List Ev) (s : ByteArray) : ofS (l ++ m) s = ofS l s ++ ofS m s := by
  unfold ofS; rw [List.filter_append]
theorem news_get {s mark : ByteArray} {n g j : Nat} {data : List ByteArray} {e : Ev} (h : (news s mark n g data)[j]? = some e) :
    ∃ d, data[j]? = some d ∧ e = ⟨s, (n : Int) + 1 + j, (g : Int) + 1 + j, if j = 0 then mark else noB, d⟩ := by
  unfold news at h
  rw [List.getElem?_mapIdx] at h
  cases hd : data[j]? with
  | none => rw [hd] at h; simp at h
  | some d => rw [hd] at h; simp at h; exact ⟨d, rfl, h.symm⟩
theorem news_stream {s mark : ByteArray} {n g : Nat} {data : List ByteArray} {e : Ev} (h : e ∈ news s mark n g data) : e.Stream = s := by
  obtain ⟨j, hj⟩ := List.getElem?_of_mem h
  obtain ⟨d, _, rfl⟩ := news_get hj
  rfl
theorem ofS_news (s mark : ByteArray) (n g : Nat) (data : List ByteArray) : ofS (news s mark n g data) s = news s mark n g data := by
  unfold ofS; rw [List.filter_eq_self]; intro e he; simpa using news_stream he
theorem ofS_news_other {s t mark : ByteArray} (n g : Nat) (data : List ByteArray) (h : t ≠ s) : ofS (news s mark n g data) t = [] := by
  unfold ofS; rw [List.filter_eq_nil_iff]; intro e he; have := news_stream he; simp [this]; exact fun e => h e.symm
theorem cnt_same {m : List Ev} {s : ByteArray} (h : ∀ e ∈ m, e.Stream = s) : cnt m s = m.length := by
  unfold cnt ofS; rw [List.filter_eq_self.2]; intro e he; simpa using h e he
theorem cnt_news (s mark : ByteArray) (n g : Nat) (data : List ByteArray) : cnt (news s mark n g data) s = data.length := by
  rw [cnt_same fun e he => news_stream he, news_len]
theorem good_news {l : List Ev} {s mark : ByteArray} {data : List ByteArray} (hg : Good l) (hl : ¬ LongIn s mark data) (hm : mark ≠ noB → ∀ y ∈ l, y.Stream = s → y.Mark ≠ mark) (hn : l.length + data.length ≤ 16384) :
    Good (l ++ news s mark (cnt l s) l.length data) := by
  have hs0 : s ≠ noB := fun h => hl (.inl h)
  have hs1 : s.size ≤ 1024 := Nat.le_of_not_lt fun h => hl (.inr (.inl h))
  have hm1 : mark.size ≤ 1024 := Nat.le_of_not_lt fun h => hl (.inr (.inr (.inl h)))
  have hd1 : ∀ d ∈ data, d.size ≤ 1024 := fun d hd => Nat.le_of_not_lt fun h => hl (.inr (.inr (.inr ⟨d, hd, h⟩)))
  refine ⟨by rw [List.length_append, news_len]; exact hn, fun i e hi he => ?_⟩
  rcases Nat.lt_or_ge i l.length with h1 | h1
  · rw [List.getElem?_append_left h1] at he
    rw [List.take_append_of_le_length (by omega)]
    exact hg.2 i e h1 he
  · obtain ⟨j, rfl⟩ : ∃ j, i = l.length + j := ⟨i - l.length, by omega⟩
    rw [List.getElem?_append_right h1, show l.length + j - l.length = j by omega] at he
    have hjl : j < data.length := by have := (List.getElem?_eq_some_iff.1 he).1; rwa [news_len] at this
    obtain ⟨d, hd, rfl⟩ := news_get he
    have htk : (l ++ news s mark (cnt l s) l.length data).take (l.length + j) = l ++ (news s mark (cnt l s) l.length data).take j := by rw [List.take_append, List.take_of_length_le (by omega), show l.length + j - l.length = j by omega]
    have hc : cnt (l ++ (news s mark (cnt l s) l.length data).take j) s = cnt l s + j := by
      rw [cnt_append, cnt_same fun e he => news_stream (List.mem_of_mem_take he), List.length_take, news_len]; omega
    rw [htk]
    refine ⟨by simp; omega, by simp only; rw [hc]; omega, hs0, hs1, ?_, hd1 d (List.mem_of_getElem? hd), fun hmk x hx hxs => ?_⟩
    · simp only; split
      · exact hm1
      · exact Nat.zero_le _
    · simp only at hmk hxs ⊢
      by_cases h0 : j = 0
      · subst h0
        simp at hmk hx ⊢
        exact hm hmk x hx hxs
      · rw [if_neg h0] at hmk; exact absurd rfl hmk
theorem good_num {l : List Ev} (hg : Good l) {e : Ev} (he : e ∈ l) : 1 ≤ e.Num := by
  obtain ⟨i, hi⟩ := List.getElem?_of_mem he
  have := (hg.2 i e (List.getElem?_eq_some_iff.1 hi).1 hi).num
  omega
theorem mem_ofS {l : List Ev} {s : ByteArray} {e : Ev} : e ∈ ofS l s ↔ e ∈ l ∧ e.Stream = s := by
  unfold ofS; rw [List.mem_filter]; simp
theorem mkF_cases (m : List Ev) (mark : ByteArray) : (mkF m mark = 0 ∧ ∀ x ∈ m, x.Mark ≠ mark) ∨ ∃ x ∈ m, x.Mark = mark ∧ mkF m mark = x.Num := by
  unfold mkF
  cases h : m.find? (fun e => decide (e.Mark = mark)) with
  | none => rw [List.find?_eq_none] at h; exact .inl ⟨rfl, fun x hx => by simpa using h x hx⟩
  | some x => exact .inr ⟨x, List.mem_of_find?_eq_some h, by simpa using List.find?_some h, rfl⟩
theorem mkd_pos {l : List Ev} (hg : Good l) {s mark : ByteArray} : 0 < mkd l s mark ↔ mark ≠ noB ∧ ∃ y ∈ l, y.Stream = s ∧ y.Mark = mark := by
  unfold mkd
  by_cases hm : mark = noB
  · rw [if_pos hm]; simp [hm]
  · rw [if_neg hm]
    rcases mkF_cases (ofS l s) mark with ⟨h1, h2⟩ | ⟨x, h1, h2, h3⟩
    · rw [h1]
      exact ⟨fun h => absurd h (by omega), fun ⟨_, y, h3, h4, h5⟩ => absurd h5 (h2 y (mem_ofS.2 ⟨h3, h4⟩))⟩
    · rw [h3]
      have h4 := mem_ofS.1 h1
      exact ⟨fun _ => ⟨hm, x, h4.1, h4.2, h2⟩, fun _ => by have := good_num hg h4.1; omega⟩
theorem mkd_nonneg {l : List Ev} (hg : Good l) (s mark : ByteArray) : 0 ≤ mkd l s mark := by
  unfold mkd
  split
  · omega
  · rcases mkF_cases (ofS l s) mark with ⟨h1, _⟩ | ⟨x, h1, _, h3⟩
    · omega
    · have := good_num hg (mem_ofS.1 h1).1; omega
theorem app_bad {l : List Ev} (h : chk l ≠ 0) (s : ByteArray) (x : Int) (mark : ByteArray) (data : List ByteArray) : app l s x mark data = ([], 0, 2) := by unfold app; rw [if_pos h]
theorem app_there {l : List Ev} (h : chk l = 0) {s : ByteArray} {x : Int} {mark : ByteArray} {data : List ByteArray} (h1 : ¬ LongIn s mark data) (h2 : 0 < mkd l s mark) : app l s x mark data = (l, (cnt l s : Int), 0) := by
  unfold app; rw [if_neg (by simp [h]), if_neg h1, if_pos h2]
theorem app_conflict {l : List Ev} (h : chk l = 0) {s : ByteArray} {x : Int} {mark : ByteArray} {data : List ByteArray} (h1 : ¬ LongIn s mark data) (h2 : ¬ 0 < mkd l s mark) (h3 : 0 ≤ x ∧ x ≠ (cnt l s : Int)) : app l s x mark data = ([], 0, 10) := by
  unfold app; rw [if_neg (by simp [h]), if_neg h1, if_neg h2, if_pos h3]
theorem app_put {l : List Ev} (h : chk l = 0) {s : ByteArray} {x : Int} {mark : ByteArray} {data : List ByteArray} (h1 : ¬ LongIn s mark data) (h2 : ¬ 0 < mkd l s mark) (h3 : ¬ (0 ≤ x ∧ x ≠ (cnt l s : Int))) (h4 : l.length + data.length ≤ 16384) :
    app l s x mark data = (l ++ news s mark (cnt l s) l.length data, (cnt l s : Int) + data.length, 0) := by
  unfold app; rw [if_neg (by simp [h]), if_neg h1, if_neg h2, if_neg h3, if_neg (by omega)]
/-- What an Append that is done has seen. -/
theorem app_ok {l : List Ev} {s : ByteArray} {x : Int} {mark : ByteArray} {data : List ByteArray} (h : (app l s x mark data).2.2 = 0) :
    Good l ∧ ¬ LongIn s mark data ∧ ((0 < mkd l s mark ∧ app l s x mark data = (l, (cnt l s : Int), 0)) ∨
      (¬ 0 < mkd l s mark ∧ ¬ (0 ≤ x ∧ x ≠ (cnt l s : Int)) ∧ l.length + data.length ≤ 16384 ∧ app l s x mark data = (l ++ news s mark (cnt l s) l.length data, (cnt l s : Int) + data.length, 0))) := by
  by_cases h0 : chk l = 0
  case neg => rw [app_bad h0] at h; exact absurd h (by decide)
  have hg := chk_zero.1 h0
  by_cases h1 : LongIn s mark data
  · unfold app at h; rw [if_neg (by simp [h0]), if_pos h1] at h; exact absurd h (by decide)
  by_cases h2 : 0 < mkd l s mark
  · exact ⟨hg, h1, .inl ⟨h2, app_there h0 h1 h2⟩⟩
  by_cases h3 : 0 ≤ x ∧ x ≠ (cnt l s : Int)
  · rw [app_conflict h0 h1 h2 h3] at h; exact absurd h (by decide)
  by_cases h4 : (16384 : Int) - l.length < data.length
  · unfold app at h; rw [if_neg (by simp [h0]), if_neg h1, if_neg h2, if_neg h3, if_pos h4] at h; exact absurd h (by decide)
  have hl := hg.1
  exact ⟨hg, h1, .inr ⟨h2, h3, by omega, app_put h0 h1 h2 h3 (by omega)⟩⟩
theorem app_err {l : List Ev} {s : ByteArray} {x : Int} {mark : ByteArray} {data : List ByteArray} (h : (app l s x mark data).2.2 ≠ 0) : (app l s x mark data).1 = [] ∧ (app l s x mark data).2.1 = 0 := by
  by_cases h0 : chk l = 0
  case neg => rw [app_bad h0]; exact ⟨rfl, rfl⟩
  by_cases h1 : LongIn s mark data
  · have : app l s x mark data = ([], 0, 4) := by unfold app; rw [if_neg (by simp [h0]), if_pos h1]
    rw [this]; exact ⟨rfl, rfl⟩
  by_cases h2 : 0 < mkd l s mark
  · rw [app_there h0 h1 h2] at h; exact absurd rfl h
  by_cases h3 : 0 ≤ x ∧ x ≠ (cnt l s : Int)
  · rw [app_conflict h0 h1 h2 h3]; exact ⟨rfl, rfl⟩
  by_cases h4 : (16384 : Int) - l.length < data.length
  · have : app l s x mark data = ([], 0, 3) := by unfold app; rw [if_neg (by simp [h0]), if_neg h1, if_neg h2, if_neg h3, if_pos h4]
    rw [this]; exact ⟨rfl, rfl⟩
  have hl := (chk_zero.1 h0).1
  rw [app_put h0 h1 h2 h3 (by omega)] at h; exact absurd rfl h
/-- Events after an Append that is done are right. -/
theorem app_good {l : List Ev} {s : ByteArray} {x : Int} {mark : ByteArray} {data : List ByteArray} (h : (app l s x mark data).2.2 = 0) : Good (app l s x mark data).1 := by
  obtain ⟨hg, h1, ⟨_, h2⟩ | ⟨h2, h3, h4, h5⟩⟩ := app_ok h
  · rw [h2]; exact hg
  · rw [h5]
    refine good_news hg h1 (fun hm y hy hys hym => h2 ((mkd_pos hg).2 ⟨hm, y, hy, hys, hym⟩)) h4
end Go.Proofs.Ytlghlmoifjcgoaa.VG
