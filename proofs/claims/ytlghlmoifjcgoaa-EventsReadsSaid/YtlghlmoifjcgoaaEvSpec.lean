/- What is put to events, read, told: in plain words on lists; no condition. -/
import Derived.Test.YtlghlmoifjcgoaaEvRefB
import Derived.Sort.Walk0
set_option linter.unusedVariables false
namespace Go.Proofs.Ytlghlmoifjcgoaa.VG
open Go.VB Go.Proofs

def LongIn (s mark : ByteArray) (data : List ByteArray) : Prop := s = noB ∨ 1024 < s.size ∨ 1024 < mark.size ∨ ∃ d ∈ data, 1024 < d.size
def news (s mark : ByteArray) (n g : Nat) (data : List ByteArray) : List Ev := data.mapIdx fun i d => ⟨s, (n : Int) + 1 + i, (g : Int) + 1 + i, if i = 0 then mark else noB, d⟩
open Classical in
/-- The events, the number, the error that an Append gives. -/
noncomputable def app (l : List Ev) (s : ByteArray) (x : Int) (mark : ByteArray) (data : List ByteArray) : List Ev × Int × Int :=
  if chk l ≠ 0 then ([], 0, 2)
  else if LongIn s mark data then ([], 0, 4)
  else if 0 < mkd l s mark then (l, (cnt l s : Int), 0)
  else if 0 ≤ x ∧ x ≠ (cnt l s : Int) then ([], 0, 10)
  else if (16384 : Int) - l.length < data.length then ([], 0, 3)
  else (l ++ news s mark (cnt l s) l.length data, (cnt l s : Int) + data.length, 0)
def page (l : List Ev) (a m : Int) : List Ev := (l.drop (a - 1).toNat).take m.toNat
open Classical in
noncomputable def rdS (l : List Ev) (s : ByteArray) (a m : Int) : List Ev × Int :=
  if chk l ≠ 0 then ([], 2) else if a < 1 ∨ m < 0 then ([], 2) else (page (ofS l s) a m, 0)
open Classical in
noncomputable def rdA (l : List Ev) (a m : Int) : List Ev × Int :=
  if chk l ≠ 0 then ([], 2) else if a < 1 ∨ m < 0 then ([], 2) else (page l a m, 0)
theorem chk_ne {l : List Ev} (h : chk l ≠ 0) : chk l = 2 := by
  unfold chk at h ⊢; split <;> simp_all
theorem news_len (s mark : ByteArray) (n g : Nat) (data : List ByteArray) : (news s mark n g data).length = data.length := by simp [news]
theorem news_take {s mark : ByteArray} {n g i : Nat} {data : List ByteArray} {d : ByteArray} (h : data[i]? = some d) :
    (news s mark n g data).take (i + 1) = (news s mark n g data).take i ++ [⟨s, (n : Int) + 1 + i, (g : Int) + 1 + i, if i = 0 then mark else noB, d⟩] := by
  have hlt : i < data.length := (List.getElem?_eq_some_iff.1 h).1
  have he : data[i] = d := (List.getElem?_eq_some_iff.1 h).2
  rw [List.take_succ_eq_append_getElem (by simpa [news] using hlt)]
  simp [news, he]

/-! ### Streams: the order of texts -/
theorem sLt_iff {x y : ByteArray} : sLt x y = true ↔ x.data.toList < y.data.toList := by
  unfold sLt; rw [bytesLess_eq, decide_eq_true_eq]; rw [ByteArray.toList_eq, ByteArray.toList_eq]
theorem data_ext {x y : ByteArray} (h : x.data.toList = y.data.toList) : x = y := by
  exact ByteArray.ext (Array.toList_inj.1 h)
theorem sLt_irr (x : ByteArray) : ¬ sLt x x = true := by rw [sLt_iff]; exact List.lt_irrefl _
theorem sLt_tr {x y z : ByteArray} (h : sLt x y = true) (k : sLt y z = true) : sLt x z = true := by
  rw [sLt_iff] at *; exact List.lt_trans h k
theorem sLt_tot {x y : ByteArray} (h : ¬ sLt x y = true) (hn : x ≠ y) : sLt y x = true := by
  rw [sLt_iff] at *
  have h1 : y.data.toList ≤ x.data.toList := List.not_lt.1 h
  rcases Classical.em (y.data.toList < x.data.toList) with h2 | h2
  · exact h2
  · exact absurd (data_ext (List.le_antisymm (List.not_lt.1 h2) h1)) hn
structure IsStr (l : List Ev) (t : List ByteArray) : Prop where
  up : t.Pairwise (fun x y => sLt x y = true)
  mem : ∀ x, x ∈ t ↔ ∃ e ∈ l, e.Stream = x
theorem sorted_eq : ∀ {s t : List ByteArray}, s.Pairwise (fun x y => sLt x y = true) → t.Pairwise (fun x y => sLt x y = true) → (∀ x, x ∈ s ↔ x ∈ t) → s = t
  | [], [], _, _, _ => rfl
  | [], y :: t, _, _, h => absurd ((h y).2 (by simp)) (by simp)
  | x :: s, [], _, _, h => absurd ((h x).1 (by simp)) (by simp)
  | x :: s, y :: t, hs, ht, h => by
    rw [List.pairwise_cons] at hs ht
    have hxy : x = y := by
      rcases List.mem_cons.1 ((h x).1 (by simp)) with h1 | h1
      · exact h1
      · rcases List.mem_cons.1 ((h y).2 (by simp)) with h2 | h2
        · exact h2.symm
        · exact absurd (sLt_tr (hs.1 y h2) (ht.1 x h1)) (sLt_irr x)
    subst hxy
    have hst : s = t := sorted_eq hs.2 ht.2 fun z => by
      constructor
      · intro hz
        rcases List.mem_cons.1 ((h z).1 (by simp [hz])) with h1 | h1
        · subst h1; exact absurd (hs.1 z hz) (sLt_irr z)
        · exact h1
      · intro hz
        rcases List.mem_cons.1 ((h z).2 (by simp [hz])) with h1 | h1
        · subst h1; exact absurd (ht.1 z hz) (sLt_irr z)
        · exact h1
    rw [hst]
theorem IsStr.eq {l : List Ev} {s t : List ByteArray} (h : IsStr l s) (k : IsStr l t) : s = t := sorted_eq h.up k.up fun x => (h.mem x).trans (k.mem x).symm
theorem IsStr.nil : IsStr [] [] := ⟨by simp, by simp⟩
theorem IsStr.old {l : List Ev} {t : List ByteArray} (h : IsStr l t) {e : Ev} (he : e.Stream ∈ t) : IsStr (l ++ [e]) t := by
  refine ⟨h.up, fun x => ?_⟩
  rw [h.mem]
  constructor
  · rintro ⟨y, hy, rfl⟩; exact ⟨y, by simp [hy], rfl⟩
  · rintro ⟨y, hy, rfl⟩
    rcases List.mem_append.1 hy with h1 | h1
    · exact ⟨y, h1, rfl⟩
    · simp at h1; subst h1; exact (h.mem _).1 he
theorem IsStr.ins {l : List Ev} {t : List ByteArray} (h : IsStr l t) {e : Ev} {n : Nat} (h1 : ∀ j x, j < n → t[j]? = some x → sLt x e.Stream = true) (h2 : ∀ x, t[n]? = some x → sLt e.Stream x = true) :
    IsStr (l ++ [e]) (t.take n ++ [e.Stream] ++ t.drop n) := by
  have hs := h.up
  have hd : ∀ y ∈ t.drop n, sLt e.Stream y = true := by
    intro y hy
    cases hx : t.drop n with
    | nil => rw [hx] at hy; simp at hy
    | cons a r =>
      have h0 : t[n]? = some a := by
        have : (t.drop n)[0]? = some a := by rw [hx]; rfl
        simpa using this
      have h3 := h2 a h0
      have hp : (t.drop n).Pairwise (fun x y => sLt x y = true) := hs.sublist (List.drop_sublist n t)
      rw [hx, List.pairwise_cons] at hp
      rw [hx] at hy
      rcases List.mem_cons.1 hy with h4 | h4
      · subst h4; exact h3
      · exact sLt_tr h3 (hp.1 y h4)
  have ht : ∀ y ∈ t.take n, sLt y e.Stream = true := by
    intro y hy
    obtain ⟨j, hj⟩ := List.getElem?_of_mem hy
    have hjn : j < n := by have := (List.getElem?_eq_some_iff.1 hj).1; simp at this; omega
    rw [List.getElem?_take_of_lt hjn] at hj
    exact h1 j y hjn hj
  refine ⟨?_, fun x => ?_⟩
  · rw [List.pairwise_append, List.pairwise_append]
    refine ⟨⟨hs.sublist (List.take_sublist n t), by simp, fun a ha b hb => ?_⟩, hs.sublist (List.drop_sublist n t), fun a ha b hb => ?_⟩
    · simp at hb; subst hb; exact ht a ha
    · rcases List.mem_append.1 ha with h4 | h4
      · exact sLt_tr (ht a h4) (hd b hb)
      · simp at h4; subst h4; exact hd b hb
  · have : x ∈ t.take n ++ [e.Stream] ++ t.drop n ↔ x ∈ t ∨ x = e.Stream := by
      have h0 : x ∈ t ↔ x ∈ t.take n ∨ x ∈ t.drop n := by rw [← List.mem_append, List.take_append_drop]
      rw [h0]
      simp only [List.mem_append, List.mem_singleton]
      constructor
      · rintro ((h | h) | h) <;> simp [h]
      · rintro ((h | h) | h) <;> simp [h]
    rw [this, h.mem]
    constructor
    · rintro (⟨y, hy, rfl⟩ | rfl)
      · exact ⟨y, by simp [hy], rfl⟩
      · exact ⟨e, by simp, rfl⟩
    · rintro ⟨y, hy, rfl⟩
      rcases List.mem_append.1 hy with h1 | h1
      · exact .inl ⟨y, h1, rfl⟩
      · simp at h1; subst h1; exact .inr rfl
theorem IsStr.len {l : List Ev} {t : List ByteArray} (h : IsStr l t) : t.length ≤ l.length := by
  have hnd : t.Nodup := h.up.imp fun {a b} hab e => by subst e; exact sLt_irr _ hab
  have : t.length ≤ (l.map (·.Stream)).length := List.Nodup.length_le_of_subset hnd fun x hx => by
    obtain ⟨e, he, rfl⟩ := (h.mem x).1 hx
    exact List.mem_map.2 ⟨e, he, rfl⟩
  simpa using this
end Go.Proofs.Ytlghlmoifjcgoaa.VG
