/- More facts on events as lists: parts, pages, marks; no condition. -/
import Derived.Test.YtlghlmoifjcgoaaEvFacts
set_option linter.unusedVariables false
namespace Go.Proofs.Ytlghlmoifjcgoaa.VG
open Go.VB Go.Proofs

theorem mkd_none (l : List Ev) (s : ByteArray) : mkd l s noB = 0 := by unfold mkd; rw [if_pos rfl]
theorem news_append (s : ByteArray) (n g : Nat) (d e : List ByteArray) : news s noB n g (d ++ e) = news s noB n g d ++ news s noB (n + d.length) (g + d.length) e := by
  unfold news
  rw [List.mapIdx_append]
  congr 1
  apply List.ext_getElem?
  intro i
  rw [List.getElem?_mapIdx, List.getElem?_mapIdx]
  cases e[i]? with
  | none => rfl
  | some x =>
    simp only [Option.map_some, ite_self]
    congr 2 <;> omega
theorem longIn_sub {s mark : ByteArray} {d e : List ByteArray} (h : ¬ LongIn s mark e) (hs : ∀ x ∈ d, x ∈ e) : ¬ LongIn s mark d := fun hl => h (by
  rcases hl with h1 | h1 | h1 | ⟨x, h1, h2⟩
  · exact .inl h1
  · exact .inr (.inl h1)
  · exact .inr (.inr (.inl h1))
  · exact .inr (.inr (.inr ⟨x, hs x h1, h2⟩)))
theorem app_parts {l : List Ev} {s : ByteArray} {data : List ByteArray} {k : Nat} (hk : k ≤ data.length) (h : (app l s (-1) noB data).2.2 = 0) :
    (app l s (-1) noB (data.take k)).2.2 = 0 ∧ app (app l s (-1) noB (data.take k)).1 s (-1) noB (data.drop k) = app l s (-1) noB data := by
  obtain ⟨hg, h1, ⟨h2, _⟩ | ⟨h2, h3, h4, h5⟩⟩ := app_ok h
  · rw [mkd_none] at h2; exact absurd h2 (by decide)
  have hB := app_put (x := -1) (chk_good hg) (longIn_sub h1 fun x hx => List.mem_of_mem_take hx) (by rw [mkd_none]; decide) (by omega) (show l.length + (data.take k).length ≤ 16384 by rw [List.length_take]; omega)
  rw [hB]
  refine ⟨rfl, ?_⟩
  have hgB : Good (l ++ news s noB (cnt l s) l.length (data.take k)) := by
    have := app_good (l := l) (s := s) (x := -1) (mark := noB) (data := data.take k) (by rw [hB])
    rw [hB] at this; exact this
  have hcB : cnt (l ++ news s noB (cnt l s) l.length (data.take k)) s = cnt l s + k := by rw [cnt_append, cnt_news, List.length_take]; omega
  have hlB : (l ++ news s noB (cnt l s) l.length (data.take k)).length = l.length + k := by rw [List.length_append, news_len, List.length_take]; omega
  have hC := app_put (x := -1) (chk_good hgB) (longIn_sub h1 fun x hx => List.mem_of_mem_drop hx) (by rw [mkd_none]; decide) (by omega) (show (l ++ news s noB (cnt l s) l.length (data.take k)).length + (data.drop k).length ≤ 16384 by rw [hlB, List.length_drop]; omega)
  rw [hC, h5, hcB, hlB]
  have hn := news_append s (cnt l s) l.length (data.take k) (data.drop k)
  rw [List.take_append_drop, List.length_take, Nat.min_eq_left hk] at hn
  rw [hn, List.append_assoc, List.length_drop]
  refine Prod.ext rfl (Prod.ext ?_ rfl)
  show ((cnt l s + k : Nat) : Int) + ((data.length - k : Nat) : Int) = (cnt l s : Int) + data.length
  omega
theorem ofS_num {l : List Ev} (hg : Good l) (s : ByteArray) : ∀ n, n ≤ l.length → ∀ (j : Nat) (e : Ev), (ofS (l.take n) s)[j]? = some e → e.Num = (j : Int) + 1
  | 0, _, j, e, h => by simp [ofS] at h
  | n + 1, hn, j, e, h => by
    obtain ⟨y, hy⟩ : ∃ y, l[n]? = some y := ⟨l[n]'(by omega), by simp⟩
    rw [ofS_take_succ hy] at h
    rcases Nat.lt_or_ge j (ofS (l.take n) s).length with h1 | h1
    · rw [List.getElem?_append_left h1] at h
      exact ofS_num hg s n (by omega) j e h
    · rw [List.getElem?_append_right h1] at h
      by_cases hq : y.Stream = s
      · rw [if_pos hq] at h
        have hj : j - (ofS (l.take n) s).length = 0 := by
          have := (List.getElem?_eq_some_iff.1 h).1; simp at this; omega
        rw [hj] at h; simp at h; subst h
        have := (hg.2 n y (by omega) hy).num
        rw [this, hq]; unfold cnt; omega
      · rw [if_neg hq] at h; simp at h
theorem ofS_at {l : List Ev} (hg : Good l) {s : ByteArray} {j : Nat} {e : Ev} (h : (ofS l s)[j]? = some e) : e.Num = (j : Int) + 1 := ofS_num hg s l.length (Nat.le_refl _) j e (by rw [List.take_length]; exact h)
/-- The event that bears a mark is what is read at its number. -/
theorem mark_page {l : List Ev} (hg : Good l) {s mark : ByteArray} (h : mkd l s mark ≠ 0) : mark ≠ noB ∧ 1 ≤ mkd l s mark ∧ ∃ x : Ev, page (ofS l s) (mkd l s mark) 1 = [x] ∧ x.Mark = mark ∧ x.Num = mkd l s mark := by
  have hp := mkd_nonneg hg s mark
  have hm := ((mkd_pos hg).1 (show 0 < mkd l s mark by omega)).1
  refine ⟨hm, by omega, ?_⟩
  have hd : mkd l s mark = mkF (ofS l s) mark := by unfold mkd; rw [if_neg hm]
  rcases mkF_cases (ofS l s) mark with ⟨h1, _⟩ | ⟨x, h1, h2, h3⟩
  · rw [hd] at h; exact absurd h1 h
  · obtain ⟨j, hj⟩ := List.getElem?_of_mem h1
    have hn := ofS_at hg hj
    refine ⟨x, ?_, h2, by rw [hd, h3]⟩
    unfold page
    rw [hd, h3, hn, show ((j : Int) + 1 - 1).toNat = j by omega, show (1 : Int).toNat = 1 from rfl]
    have hjl : j < (ofS l s).length := (List.getElem?_eq_some_iff.1 hj).1
    rw [List.drop_eq_getElem_cons hjl, (List.getElem?_eq_some_iff.1 hj).2]
    rfl
theorem mark_none {l : List Ev} (hg : Good l) {s mark : ByteArray} (h : mkd l s mark = 0) (hm : mark ≠ noB) {x : Ev} (hx : x ∈ l) (hs : x.Stream = s) : x.Mark ≠ mark := fun e => by
  have := (mkd_pos hg).2 ⟨hm, x, hx, hs, e⟩
  omega
theorem rdS_all {l : List Ev} (hg : Good l) (s : ByteArray) : rdS l s 1 16384 = (ofS l s, 0) := by
  unfold rdS
  rw [if_neg (by simp [chk_good hg]), if_neg (by decide)]
  have h1 : (ofS l s).length ≤ l.length := cnt_le l s
  have := hg.1
  unfold page
  rw [show ((1 : Int) - 1).toNat = 0 from rfl, List.drop_zero, List.take_of_length_le (by show _ ≤ 16384; omega)]
theorem rdS_err {l : List Ev} {s : ByteArray} {a m : Int} (h : (rdS l s a m).2 ≠ 0) : (rdS l s a m).1 = [] := by
  unfold rdS at h ⊢
  by_cases h0 : chk l ≠ 0
  · rw [if_pos h0]
  rw [if_neg h0] at h ⊢
  by_cases h1 : a < 1 ∨ m < 0
  · rw [if_pos h1]
  rw [if_neg h1] at h; exact absurd rfl h
theorem rdS_good {l : List Ev} (hg : Good l) {s : ByteArray} {a m : Int} (ha : 1 ≤ a) (hm : 0 ≤ m) : rdS l s a m = (page (ofS l s) a m, 0) := by
  unfold rdS; rw [if_neg (by simp [chk_good hg]), if_neg (by omega)]
theorem rdS_zero {l : List Ev} {s : ByteArray} {a m : Int} (h : (rdS l s a m).2 = 0) : Good l := by
  by_cases h0 : chk l = 0
  · exact chk_zero.1 h0
  · unfold rdS at h; rw [if_pos h0] at h; exact absurd h (by decide)
end Go.Proofs.Ytlghlmoifjcgoaa.VG
