/- Versions in plain words on lists; no condition. -/
import Derived.Test.YtealcoghiaeiiaaVStr
set_option linter.unusedVariables false
namespace Go.Proofs.Ytealcoghiaeiiaa.VG
open Go.VB Go.Proofs

abbrev Ver := T_api_Version
abbrev Wri := T_api_Write
abbrev Pai := T_api_Pair
abbrev noB : ByteArray := ByteArray.mk #[]

def vlt (a b : Ver) : Prop := sLt a.Key b.Key = true ∨ (a.Key = b.Key ∧ a.At < b.At)
theorem vlt_irr (a : Ver) : ¬ vlt a a := fun h => by
  rcases h with h | h
  · exact sLt_irr _ h
  · omega
theorem vlt_tr {a b c : Ver} (h : vlt a b) (k : vlt b c) : vlt a c := by
  rcases h with h | ⟨h1, h2⟩ <;> rcases k with k | ⟨k1, k2⟩
  · exact .inl (sLt_tr h k)
  · exact .inl (k1 ▸ h)
  · exact .inl (h1 ▸ k)
  · exact .inr ⟨h1.trans k1, by omega⟩
theorem vlt_asy {a b : Ver} (h : vlt a b) : ¬ vlt b a := fun k => vlt_irr a (vlt_tr h k)
theorem vlt_tot {a b : Ver} (h : ¬ vlt a b) (hn : ¬ (a.Key = b.Key ∧ a.At = b.At)) : vlt b a := by
  by_cases hk : a.Key = b.Key
  · refine .inr ⟨hk.symm, ?_⟩
    have h1 : ¬ a.At < b.At := fun h2 => h (.inr ⟨hk, h2⟩)
    have h2 : a.At ≠ b.At := fun h2 => hn ⟨hk, h2⟩
    omega
  · exact .inl (sLt_tot (fun h1 => h (.inl h1)) hk)
theorem vlt_key {a b : Ver} (h : vlt a b) : ¬ sLt b.Key a.Key = true := fun k => by
  rcases h with h | h
  · exact sLt_asy h k
  · rw [h.1] at k; exact sLt_irr _ k
structure Made (x : Ver) : Prop where
  lo : 1 ≤ x.At
  hi : x.At ≤ 2305843009213693952
  gone : x.Gone = true → x.Val = noB
  keyl : x.Key.size ≤ 256
  vall : x.Val.size ≤ 512
def OkAt (l : List Ver) (i : Nat) (x : Ver) : Prop := Made x ∧ ∀ j y, i = j + 1 → l[j]? = some y → vlt y x
def OkTo (l : List Ver) (n : Nat) : Prop := ∀ i x, i < n → l[i]? = some x → OkAt l i x
structure GoodV (l : List Ver) (low : Int) : Prop where
  len : l.length ≤ 4096
  low : low ≤ 2305843009213693952
  ok : OkTo l l.length
open Classical in
noncomputable def vchk (l : List Ver) (low : Int) : Int := if GoodV l low then 0 else 2
theorem vchk_good {l : List Ver} {low : Int} (h : GoodV l low) : vchk l low = 0 := by unfold vchk; rw [if_pos h]
theorem vchk_bad {l : List Ver} {low : Int} (h : ¬ GoodV l low) : vchk l low = 2 := by unfold vchk; rw [if_neg h]
theorem vchk_zero {l : List Ver} {low : Int} : vchk l low = 0 ↔ GoodV l low := by
  unfold vchk; split <;> simp_all
theorem vchk_ne {l : List Ver} {low : Int} (h : vchk l low ≠ 0) : vchk l low = 2 := by
  unfold vchk at h ⊢; split <;> simp_all
theorem OkTo.zero (l : List Ver) : OkTo l 0 := fun i x h => by omega
theorem OkTo.succ {l : List Ver} {n : Nat} (h : OkTo l n) {x : Ver} (hx : l[n]? = some x) (hg : OkAt l n x) : OkTo l (n + 1) := by
  intro i y hi hy
  rcases Nat.lt_or_ge i n with h1 | h1
  · exact h i y h1 hy
  · obtain rfl : i = n := by omega
    rw [hx] at hy; cases hy; exact hg
theorem GoodV.made {l : List Ver} {low : Int} (h : GoodV l low) {x : Ver} (hx : x ∈ l) : Made x := by
  obtain ⟨i, hi⟩ := List.getElem?_of_mem hx
  exact (h.ok i x (List.getElem?_eq_some_iff.1 hi).1 hi).1
theorem sorted_of {l : List Ver} (h : ∀ j x y, l[j]? = some x → l[j + 1]? = some y → vlt x y) : ∀ d i x y, l[i]? = some x → l[i + d + 1]? = some y → vlt x y
  | 0, i, x, y, hx, hy => h i x y hx hy
  | d + 1, i, x, y, hx, hy => by
    have hl := (List.getElem?_eq_some_iff.1 hy).1
    obtain ⟨z, hz⟩ : ∃ z, l[i + d + 1]? = some z := ⟨l[i + d + 1]'(by omega), by simp⟩
    exact vlt_tr (sorted_of h d i x z hx hz) (h _ z y hz hy)
theorem GoodV.sorted {l : List Ver} {low : Int} (h : GoodV l low) : l.Pairwise vlt := by
  rw [List.pairwise_iff_getElem]
  intro i j hi hj hij
  refine sorted_of (l := l) (fun j x y hx hy => (h.ok (j + 1) y (List.getElem?_eq_some_iff.1 hy).1 hy).2 j x rfl hx) (j - i - 1) i _ _ (by simp) ?_
  rw [show i + (j - i - 1) + 1 = j by omega]; simp
theorem good_of {l : List Ver} {low : Int} (h1 : l.length ≤ 4096) (h2 : low ≤ 2305843009213693952) (h3 : ∀ x ∈ l, Made x) (h4 : l.Pairwise vlt) : GoodV l low :=
  ⟨h1, h2, fun i x hi hx => ⟨h3 x (List.mem_of_getElem? hx), fun j y hj hy => by
    subst hj
    have a := List.getElem?_eq_some_iff.1 hx; have b := List.getElem?_eq_some_iff.1 hy
    have := List.pairwise_iff_getElem.1 h4 j (j + 1) b.1 a.1 (by omega)
    rw [a.2, b.2] at this; exact this⟩⟩
theorem good_nil {low : Int} (h : low ≤ 2305843009213693952) : GoodV [] low := good_of (by simp) h (by simp) (by simp)
noncomputable def vask (l : List Ver) (low t : Int) : Int := if vchk l low ≠ 0 then 2 else if t < low then 9 else 0
theorem vask_zero {l : List Ver} {low t : Int} : vask l low t = 0 ↔ GoodV l low ∧ low ≤ t := by
  unfold vask
  by_cases h : vchk l low = 0
  · rw [if_neg (by simp [h])]
    rw [vchk_zero] at h
    split
    · exact ⟨fun h => absurd h (by decide), fun h => by omega⟩
    · exact ⟨fun _ => ⟨h, by omega⟩, fun _ => rfl⟩
  · rw [if_pos h]
    exact ⟨fun h => absurd h (by decide), fun h2 => absurd (vchk_zero.2 h2.1) h⟩
/-- The last version of a key as of a time. -/
def sees (l : List Ver) (key : ByteArray) (t : Int) : Option Ver := (l.filter fun x => decide (x.Key = key) && decide (x.At ≤ t)).getLast?
def outV : Option Ver → ByteArray × Bool
  | none => (noB, false)
  | some x => (x.Val, !x.Gone)
noncomputable def vget (l : List Ver) (low : Int) (key : ByteArray) (t : Int) : ByteArray × Bool × Int :=
  if vask l low t ≠ 0 then (noB, false, vask l low t) else ((outV (sees l key t)).1, (outV (sees l key t)).2, 0)
def lastAt (l : List Ver) (key : ByteArray) : Int := ((l.filter fun x => decide (x.Key = key)).getLast?.map (·.At)).getD 0
noncomputable def vlast (l : List Ver) (low : Int) (key : ByteArray) : Int × Int := if vchk l low ≠ 0 then (0, vchk l low) else (lastAt l key, 0)
theorem sees_nil (key : ByteArray) (t : Int) : sees [] key t = none := rfl
theorem sees_append (l m : List Ver) (key : ByteArray) (t : Int) : sees (l ++ m) key t = (sees m key t).or (sees l key t) := by
  unfold sees
  rw [List.filter_append, List.getLast?_append]
theorem sees_one (x : Ver) (key : ByteArray) (t : Int) : sees [x] key t = if x.Key = key ∧ x.At ≤ t then some x else none := by
  unfold sees
  by_cases h : x.Key = key ∧ x.At ≤ t
  · rw [if_pos h]; simp [h.1, h.2]
  · rw [if_neg h]
    have : ([x].filter fun x => decide (x.Key = key) && decide (x.At ≤ t)) = [] := by
      rw [List.filter_eq_nil_iff]; intro y hy; simp at hy; subst hy; simpa using fun h1 => Int.not_le.1 fun h2 => h ⟨h1, h2⟩
    rw [this]; rfl
theorem take_one {α : Type} {l : List α} {n : Nat} {x : α} (h : l[n]? = some x) : l.take (n + 1) = l.take n ++ [x] := by
  rw [List.take_add_one, h]; rfl
theorem sees_succ {l : List Ver} {n : Nat} {x : Ver} (h : l[n]? = some x) (key : ByteArray) (t : Int) : sees (l.take (n + 1)) key t = if x.Key = key ∧ x.At ≤ t then some x else sees (l.take n) key t := by
  rw [take_one h, sees_append, sees_one]
  split <;> rfl
theorem sees_mem {l : List Ver} {key : ByteArray} {t : Int} {x : Ver} (h : sees l key t = some x) : x ∈ l ∧ x.Key = key ∧ x.At ≤ t := by
  unfold sees at h
  have := List.mem_of_getLast? h
  rw [List.mem_filter] at this
  simp at this
  exact ⟨this.1, this.2.1, this.2.2⟩
theorem sees_none {l : List Ver} {key : ByteArray} {t : Int} : sees l key t = none ↔ ∀ x ∈ l, ¬ (x.Key = key ∧ x.At ≤ t) := by
  unfold sees
  rw [List.getLast?_eq_none_iff, List.filter_eq_nil_iff]
  simp
/-- Of versions in order: what is seen is the greatest of its key up to the time. -/
theorem sees_max {l : List Ver} (hs : l.Pairwise vlt) {key : ByteArray} {t : Int} {x : Ver} (hx : x ∈ l) (hk : x.Key = key) (ht : x.At ≤ t) (hm : ∀ y ∈ l, y.Key = key → y.At ≤ t → y.At ≤ x.At) : sees l key t = some x := by
  cases h : sees l key t with
  | none => exact absurd ⟨hk, ht⟩ (sees_none.1 h x hx)
  | some y =>
    obtain ⟨h1, h2, h3⟩ := sees_mem h
    have h4 := hm y h1 h2 h3
    have hsort : (l.filter fun x => decide (x.Key = key) && decide (x.At ≤ t)).Pairwise vlt := hs.sublist List.filter_sublist
    have hxf : x ∈ l.filter fun x => decide (x.Key = key) && decide (x.At ≤ t) := by rw [List.mem_filter]; exact ⟨hx, by simp [hk, ht]⟩
    unfold sees at h
    obtain ⟨ys, hys⟩ := List.getLast?_eq_some_iff.1 h
    rw [hys] at hxf hsort
    rcases List.mem_append.1 hxf with h5 | h5
    · have h6 := (List.pairwise_append.1 hsort).2.2 x h5 y (by simp)
      rcases h6 with h6 | h6
      · rw [hk, h2] at h6; exact absurd h6 (sLt_irr _)
      · omega
    · simp at h5; rw [h5]
theorem sees_ge {l : List Ver} (hs : l.Pairwise vlt) {key : ByteArray} {t : Int} {x : Ver} (h : sees l key t = some x) : ∀ y ∈ l, y.Key = key → y.At ≤ t → y.At ≤ x.At := by
  intro y hy hk ht
  obtain ⟨h1, h2, h3⟩ := sees_mem h
  have hsort : (l.filter fun x => decide (x.Key = key) && decide (x.At ≤ t)).Pairwise vlt := hs.sublist List.filter_sublist
  have hyf : y ∈ l.filter fun x => decide (x.Key = key) && decide (x.At ≤ t) := by rw [List.mem_filter]; exact ⟨hy, by simp [hk, ht]⟩
  unfold sees at h
  obtain ⟨ys, hys⟩ := List.getLast?_eq_some_iff.1 h
  rw [hys] at hyf hsort
  rcases List.mem_append.1 hyf with h5 | h5
  · have h6 := (List.pairwise_append.1 hsort).2.2 y h5 x (by simp)
    rcases h6 with h6 | h6
    · rw [hk, h2] at h6; exact absurd h6 (sLt_irr _)
    · omega
  · simp at h5; rw [h5]; omega
end Go.Proofs.Ytealcoghiaeiiaa.VG
