/- Facts on events as lists: all streams together are all events; no condition. -/
import Derived.Test.YtlghlmoifjcgoaaEvFactsB
set_option linter.unusedVariables false
namespace Go.Proofs.Ytlghlmoifjcgoaa.VG
open Go.VB Go.Proofs

theorem ind_none (a : ByteArray) : ∀ (t : List ByteArray), a ∉ t → (t.map fun x => if a = x then 1 else 0).sum = 0
  | [], _ => rfl
  | x :: t, h => by
    rw [List.map_cons, List.sum_cons, if_neg (fun e => h (by simp [e])), ind_none a t (fun e => h (List.mem_cons_of_mem _ e))]
theorem ind_one (a : ByteArray) : ∀ (t : List ByteArray), t.Nodup → a ∈ t → (t.map fun x => if a = x then 1 else 0).sum = 1
  | [], _, h => by simp at h
  | x :: t, hn, h => by
    rw [List.nodup_cons] at hn
    rw [List.map_cons, List.sum_cons]
    by_cases e : a = x
    · subst e; rw [if_pos rfl, ind_none a t hn.1]
    · rw [if_neg e, ind_one a t hn.2 ((List.mem_cons.1 h).resolve_left e)]
theorem cnt_cons (e : Ev) (r : List Ev) (x : ByteArray) : cnt (e :: r) x = (if e.Stream = x then 1 else 0) + cnt r x := by
  unfold cnt ofS
  rw [List.filter_cons]
  by_cases h : e.Stream = x
  · simp [h]; omega
  · simp [h]
theorem sum_add (f g : ByteArray → Nat) : ∀ t : List ByteArray, (t.map fun x => f x + g x).sum = (t.map f).sum + (t.map g).sum
  | [] => rfl
  | x :: t => by simp only [List.map_cons, List.sum_cons]; rw [sum_add f g t]; omega
theorem sum_zero (t : List ByteArray) : (t.map (cnt [])).sum = 0 := by
  induction t with
  | nil => rfl
  | cons x t ih => rw [List.map_cons, List.sum_cons, ih]; rfl
theorem sum_cnt {t : List ByteArray} (hn : t.Nodup) : ∀ l : List Ev, (∀ e ∈ l, e.Stream ∈ t) → (t.map (cnt l)).sum = l.length
  | [], _ => sum_zero t
  | e :: r, h => by
    have h1 : (t.map (cnt (e :: r))) = t.map fun x => (if e.Stream = x then 1 else 0) + cnt r x := by
      apply List.map_congr_left; intro x _; exact cnt_cons e r x
    rw [h1, sum_add, ind_one _ t hn (h e (by simp)), sum_cnt hn r (fun x hx => h x (List.mem_cons_of_mem _ hx)), List.length_cons]; omega
theorem sum_take {t : List ByteArray} {n : Nat} {x : ByteArray} (l : List Ev) (h : t[n]? = some x) : ((t.take (n + 1)).map (cnt l)).sum = ((t.take n).map (cnt l)).sum + cnt l x := by
  rw [List.take_add_one, h, List.map_append, List.sum_append]; simp
theorem sum_le {t : List ByteArray} (hn : t.Nodup) (l : List Ev) (h : ∀ e ∈ l, e.Stream ∈ t) (n : Nat) : ((t.take n).map (cnt l)).sum ≤ l.length := by
  rw [← sum_cnt hn l h]
  conv => rhs; rw [← List.take_append_drop n t, List.map_append, List.sum_append]
  omega
theorem IsStr.nodup {l : List Ev} {t : List ByteArray} (h : IsStr l t) : t.Nodup := h.up.imp fun {a b} hab e => by subst e; exact sLt_irr _ hab
theorem IsStr.all {l : List Ev} {t : List ByteArray} (h : IsStr l t) : ∀ e ∈ l, e.Stream ∈ t := fun e he => (h.mem _).2 ⟨e, he, rfl⟩
theorem ofS_glob {l : List Ev} (hg : Good l) {s : ByteArray} {j : Nat} {e : Ev} (h : (ofS l s)[j]? = some e) : e.Stream = s ∧ e.Num = (j : Int) + 1 ∧ ∃ i : Nat, l[i]? = some e ∧ i < l.length ∧ e.Global = (i : Int) + 1 := by
  have hm := mem_ofS.1 (List.mem_of_getElem? h)
  obtain ⟨i, hi⟩ := List.getElem?_of_mem hm.1
  have hil := (List.getElem?_eq_some_iff.1 hi).1
  exact ⟨hm.2, ofS_at hg h, i, hi, hil, (hg.2 i e hil hi).glob⟩
theorem app_other {l : List Ev} {s o : ByteArray} {x : Int} {mark : ByteArray} {data : List ByteArray} (h : (app l s x mark data).2.2 = 0) (hn : o ≠ s) : ofS (app l s x mark data).1 o = ofS l o := by
  obtain ⟨_, _, ⟨_, h5⟩ | ⟨_, _, _, h5⟩⟩ := app_ok h
  · rw [h5]
  · rw [h5, ofS_append, ofS_news_other _ _ _ hn, List.append_nil]
end Go.Proofs.Ytlghlmoifjcgoaa.VG
