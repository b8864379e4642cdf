/- What events are right, in plain words on lists; no condition. -/
import Derived.Test.YtlghlmoifjcgoaaVS
set_option linter.unusedVariables false
namespace Go.Proofs.Ytlghlmoifjcgoaa.VG
open Go.VB Go.Proofs

abbrev Ev := T_api_Event
abbrev noB : ByteArray := ByteArray.mk #[]
def ofS (l : List Ev) (s : ByteArray) : List Ev := l.filter fun e => decide (e.Stream = s)
def cnt (l : List Ev) (s : ByteArray) : Nat := (ofS l s).length
/-- The event at place i, p ahead of it, is right. -/
structure GoodAt (p : List Ev) (i : Nat) (e : Ev) : Prop where
  glob : e.Global = (i : Int) + 1
  num : e.Num = (cnt p e.Stream : Int) + 1
  str : e.Stream ≠ noB
  strl : e.Stream.size ≤ 1024
  markl : e.Mark.size ≤ 1024
  datal : e.Data.size ≤ 1024
  mark : e.Mark ≠ noB → ∀ x ∈ p, x.Stream = e.Stream → x.Mark ≠ e.Mark
def GoodTo (l : List Ev) (n : Nat) : Prop := ∀ i e, i < n → l[i]? = some e → GoodAt (l.take i) i e
def Good (l : List Ev) : Prop := l.length ≤ 16384 ∧ GoodTo l l.length
open Classical in
noncomputable def chk (l : List Ev) : Int := if Good l then 0 else 2
theorem chk_good {l : List Ev} (h : Good l) : chk l = 0 := by unfold chk; rw [if_pos h]
theorem chk_bad {l : List Ev} (h : ¬ Good l) : chk l = 2 := by unfold chk; rw [if_neg h]
theorem chk_zero {l : List Ev} : chk l = 0 ↔ Good l := by
  unfold chk; split <;> simp_all
theorem GoodTo.zero (l : List Ev) : GoodTo l 0 := fun i e h => by omega
theorem GoodTo.succ {l : List Ev} {n : Nat} (h : GoodTo l n) {e : Ev} (he : l[n]? = some e) (hg : GoodAt (l.take n) n e) : GoodTo l (n + 1) := by
  intro i x hi hx
  rcases Nat.lt_or_ge i n with h1 | h1
  · exact h i x h1 hx
  · obtain rfl : i = n := by omega
    rw [he] at hx; cases hx; exact hg
theorem ofS_take_succ {l : List Ev} {n : Nat} {e : Ev} (he : l[n]? = some e) (s : ByteArray) : ofS (l.take (n + 1)) s = ofS (l.take n) s ++ (if e.Stream = s then [e] else []) := by
  unfold ofS
  have hlt : n < l.length := (List.getElem?_eq_some_iff.1 he).1
  have he' : l[n] = e := (List.getElem?_eq_some_iff.1 he).2
  rw [List.take_succ_eq_append_getElem hlt, List.filter_append, he']
  by_cases h : e.Stream = s <;> simp [List.filter_cons, h]
theorem cnt_succ {l : List Ev} {n : Nat} {e : Ev} (he : l[n]? = some e) (s : ByteArray) : cnt (l.take (n + 1)) s = cnt (l.take n) s + (if e.Stream = s then 1 else 0) := by
  unfold cnt
  rw [ofS_take_succ he]
  split <;> simp
/-- The last one of a stream ahead of a place. -/
def LastOf (l : List Ev) (n : Nat) (s : ByteArray) (r : Int) : Prop :=
  (r = -1 ∧ ∀ j y, j < n → l[j]? = some y → y.Stream ≠ s) ∨ (∃ k y, k < n ∧ r = (k : Int) ∧ l[k]? = some y ∧ y.Stream = s ∧ ∀ j z, k < j → j < n → l[j]? = some z → z.Stream ≠ s)
theorem cnt_none {l : List Ev} {s : ByteArray} : ∀ (n k : Nat), k ≤ n → n ≤ l.length → (∀ j y, k ≤ j → j < n → l[j]? = some y → y.Stream ≠ s) → cnt (l.take n) s = cnt (l.take k) s := by
  intro n
  induction n with
  | zero => intro k hk _ _; obtain rfl : k = 0 := by omega
            rfl
  | succ n ih =>
    intro k hk hn h
    rcases Nat.lt_or_ge n k with h1 | h1
    · obtain rfl : k = n + 1 := by omega
      rfl
    · obtain ⟨y, hy⟩ : ∃ y, l[n]? = some y := ⟨l[n]'(by omega), by simp⟩
      rw [cnt_succ hy, if_neg (h n y h1 (by omega) hy), ih k h1 (by omega) (fun j z hj hj' => h j z hj (by omega))]
      rfl
/-- The number that comes next is one more than the last one's. -/
theorem lastOf_num {l : List Ev} {n : Nat} {s : ByteArray} (hg : GoodTo l n) (hn : n ≤ l.length) {r : Int} (h : LastOf l n s r) :
    (r = -1 → cnt (l.take n) s = 0) ∧ (0 ≤ r → ∃ y, l[r.toNat]? = some y ∧ y.Num + 1 = (cnt (l.take n) s : Int) + 1) := by
  rcases h with ⟨rfl, h⟩ | ⟨k, y, hk, rfl, hy, hs, h⟩
  · refine ⟨fun _ => ?_, fun h => by omega⟩
    rw [cnt_none n 0 (by omega) hn (fun j y _ hj hy => h j y hj hy)]
    simp [cnt, ofS]
  · refine ⟨fun h => by omega, fun _ => ⟨y, by simpa using hy, ?_⟩⟩
    have h1 := (hg k y hk hy).num
    rw [cnt_none n (k + 1) (by omega) hn (fun j z hj hj' hz => h j z (by omega) hj' hz), cnt_succ hy, if_pos hs, h1, hs]
    simp
theorem cnt_le (l : List Ev) (s : ByteArray) : cnt l s ≤ l.length := List.length_filter_le _ _
end Go.Proofs.Ytlghlmoifjcgoaa.VG
