/- Plain facts on rows parted about a value, and on what is left to sort; no condition. -/
import Derived.Test.YtealcoghiaeiiaaVSortP
set_option linter.unusedVariables false
namespace Go.VB.Srt
section
variable {α : Type} {lt : α → α → Bool}
theorem Sorted.snoc (O : SWO lt) {a i : Nat} {g : Nat → α} (h : Sorted lt a i g) (hai : a < i) (hl : Le lt (g (i - 1)) (g i)) : Sorted lt a (i + 1) g := by
  intro p q h1 h2 h3
  by_cases hq : q = i
  · subst hq
    by_cases hp : p = q - 1
    · rw [hp]; exact hl
    · exact O.trans (h p (q - 1) h1 (by omega) (by omega)) hl
  · exact h p q h1 h2 (by omega)
/-- Parted about the one at a: Q holds of what was walked from below, not of what was walked from above. -/
structure Pt (Q : α → α → Bool) (a b i j : Nat) (g : Nat → α) : Prop where
  lo : ∀ k, a < k → k < i → Q (g a) (g k) = true
  hi : ∀ k, j < k → k < b → Q (g a) (g k) = false
theorem Pt.start (Q : α → α → Bool) (a b : Nat) (g : Nat → α) : Pt Q a b (a + 1) (b - 1) g := ⟨fun k h1 h2 => by omega, fun k h1 h2 => by omega⟩
theorem Pt.incr {Q : α → α → Bool} {a b i j : Nat} {g : Nat → α} (h : Pt Q a b i j g) (hq : Q (g a) (g i) = true) : Pt Q a b (i + 1) j g := ⟨fun k h1 h2 => by
  by_cases hk : k = i
  · subst hk; exact hq
  · exact h.lo k h1 (by omega), h.hi⟩
theorem Pt.decr {Q : α → α → Bool} {a b i j : Nat} {g : Nat → α} (h : Pt Q a b i j g) (hq : Q (g a) (g j) = false) : Pt Q a b i (j - 1) g := ⟨h.lo, fun k h1 h2 => by
  by_cases hk : k = j
  · subst hk; exact hq
  · exact h.hi k (by omega) h2⟩
theorem Pt.swap {Q : α → α → Bool} {a b i j : Nat} {g : Nat → α} (h : Pt Q a b i j g) (hai : a < i) (hij : i < j) (h1 : Q (g a) (g i) = false) (h2 : Q (g a) (g j) = true) : Pt Q a b (i + 1) (j - 1) (swp g i j) := by
  have e : swp g i j a = g a := swp_o g (by omega) (by omega)
  refine ⟨fun k hk hk' => ?_, fun k hk hk' => ?_⟩
  · rw [e]
    by_cases h3 : k = i
    · rw [h3, swp_i]; exact h2
    · rw [swp_o g h3 (by omega)]; exact h.lo k hk (by omega)
  · rw [e]
    by_cases h3 : k = j
    · rw [h3, swp_j]; exact h1
    · rw [swp_o g (by omega) h3]; exact h.hi k (by omega) hk'
structure PartOk (lt : α → α → Bool) (a b m : Nat) (h : Nat → α) : Prop where
  lo : ∀ k, a ≤ k → k < m → Le lt (h k) (h m)
  hi : ∀ k, m < k → k < b → Le lt (h m) (h k)
theorem Pt.done (O : SWO lt) {a b i j : Nat} {g : Nat → α} (h : Pt (fun p z => lt z p) a b i j g) (haj : a ≤ j) (hji : j < i) : PartOk lt a b j (swp g j a) := by
  have em : swp g j a j = g a := swp_i g j a
  refine ⟨fun k h1 h2 => ?_, fun k h1 h2 => ?_⟩
  · rw [em]
    by_cases hk : k = a
    · rw [hk, swp_j]; exact O.of_lt (h.lo j (by omega) hji)
    · rw [swp_o g (by omega) hk]; exact O.of_lt (h.lo k (by omega) (by omega))
  · rw [em, swp_o g (by omega) (by omega)]; exact h.hi k h1 h2
theorem PartOk.left {a b m : Nat} {g h : Nat → α} (p : PartOk lt a b m g) (s : Seg a m g h) : PartOk lt a b m h := by
  have e : h m = g m := s.out m (.inr (Nat.le_refl _))
  refine ⟨fun k h1 h2 => ?_, fun k h1 h2 => ?_⟩
  · rw [e]; exact s.all (Q := fun z => Le lt z (g m)) p.lo k h1 h2
  · rw [e, s.out k (.inr (by omega))]; exact p.hi k h1 h2
theorem PartOk.right {a b m : Nat} {g h : Nat → α} (p : PartOk lt a b m g) (s : Seg (m + 1) b g h) : PartOk lt a b m h := by
  have e : h m = g m := s.out m (.inl (Nat.lt_succ_self _))
  refine ⟨fun k h1 h2 => ?_, fun k h1 h2 => ?_⟩
  · rw [e, s.out k (.inl (by omega))]; exact p.lo k h1 h2
  · rw [e]; exact s.all (Q := fun z => Le lt (g m) z) (fun k h1 h2 => p.hi k (by omega) h2) k (by omega) h2
/-- What is done of a sort of [a, b): [a1, b1) is left. -/
structure Inv (lt : α → α → Bool) (a b a1 b1 : Nat) (f g : Nat → α) : Prop where
  ha : a ≤ a1
  hb : b1 ≤ b
  seg : Seg a b f g
  s1 : Sorted lt a a1 g
  s2 : Sorted lt b1 b g
  l1 : ∀ k q, a ≤ k → k < a1 → a1 ≤ q → q < b → Le lt (g k) (g q)
  l2 : ∀ k q, a ≤ k → k < b1 → b1 ≤ q → q < b → Le lt (g k) (g q)
def Pre (lt : α → α → Bool) (a b : Nat) (f : Nat → α) : Prop := a = 0 ∨ ∀ k, a ≤ k → k < b → Le lt (f (a - 1)) (f k)
theorem Pre.seg {a b : Nat} {f g : Nat → α} (h : Pre lt a b f) (s : Seg a b f g) : Pre lt a b g := by
  rcases h with h | h
  · exact .inl h
  · by_cases h0 : a = 0
    · exact .inl h0
    · refine .inr ?_
      rw [s.out (a - 1) (.inl (by omega))]
      exact s.all (Q := fun z => Le lt (f (a - 1)) z) h
theorem Inv.start (a b : Nat) (f : Nat → α) : Inv lt a b a b f f := ⟨Nat.le_refl _, Nat.le_refl _, .refl f, fun i j h1 h2 h3 => by omega, fun i j h1 h2 h3 => by omega, fun k q h1 h2 => by omega, fun k q h1 h2 h3 h4 => by omega⟩
theorem Inv.turn {a b a1 b1 : Nat} {f g h : Nat → α} (p : Inv lt a b a1 b1 f g) (s : Seg a1 b1 g h) : Inv lt a b a1 b1 f h := by
  have hA := p.ha; have hB := p.hb
  refine ⟨hA, hB, p.seg.trans (s.mono hA hB), p.s1.congr fun k h1 h2 => s.out k (.inl h2), p.s2.congr fun k h1 h2 => s.out k (.inr h1), fun k q h1 h2 h3 h4 => ?_, fun k q h1 h2 h3 h4 => ?_⟩
  · rw [s.out k (.inl h2)]
    rcases Nat.lt_or_ge q b1 with h5 | h5
    · exact s.all (Q := fun z => Le lt (g k) z) (fun q h6 h7 => p.l1 k q h1 h2 h6 (by omega)) q h3 h5
    · rw [s.out q (.inr h5)]; exact p.l1 k q h1 h2 h3 h4
  · rw [s.out q (.inr h3)]
    rcases Nat.lt_or_ge k a1 with h5 | h5
    · rw [s.out k (.inl h5)]; exact p.l2 k q h1 h2 h3 h4
    · exact s.all (Q := fun z => Le lt z (g q)) (fun k h6 h7 => p.l2 k q (by omega) h7 h3 h4) k h5 h2
theorem Inv.fin {a b a1 b1 : Nat} {f g : Nat → α} (p : Inv lt a b a1 b1 f g) (s : Sorted lt a1 b1 g) : Sorted lt a b g := fun i j h1 h2 h3 => by
  rcases Nat.lt_or_ge i a1 with h4 | h4
  · rcases Nat.lt_or_ge j a1 with h5 | h5
    · exact p.s1 i j h1 h2 h5
    · exact p.l1 i j h1 h4 h5 h3
  · rcases Nat.lt_or_ge j b1 with h5 | h5
    · exact s i j h4 h2 h5
    · rcases Nat.lt_or_ge i b1 with h6 | h6
      · exact p.l2 i j h1 h6 h5 h3
      · exact p.s2 i j h6 h2 h3
theorem Inv.pre {a b a1 b1 : Nat} {f g : Nat → α} (p : Inv lt a b a1 b1 f g) (h : Pre lt a b f) : Pre lt a1 b1 g := by
  have hA := p.ha; have hB := p.hb
  by_cases h0 : a1 = a
  · subst h0
    rcases h.seg p.seg with h1 | h1
    · exact .inl h1
    · exact .inr fun k h2 h3 => h1 k h2 (by omega)
  · exact .inr fun k h2 h3 => p.l1 (a1 - 1) k (by omega) (by omega) h2 (by omega)
/-- The left one is sorted; the right one is left. -/
theorem Inv.goRight {a b a1 b1 m : Nat} {f g : Nat → α} (p : Inv lt a b a1 b1 f g) (hm1 : a1 ≤ m) (hm2 : m < b1) (O : SWO lt) (q : PartOk lt a1 b1 m g) (s : Sorted lt a1 m g) : Inv lt a b (m + 1) b1 f g := by
  have hA := p.ha; have hB := p.hb
  refine ⟨by omega, hB, p.seg, fun i j h1 h2 h3 => ?_, p.s2, fun k r h1 h2 h3 h4 => ?_, p.l2⟩
  · rcases Nat.lt_or_ge i a1 with h4 | h4
    · rcases Nat.lt_or_ge j a1 with h5 | h5
      · exact p.s1 i j h1 h2 h5
      · exact p.l1 i j h1 h4 h5 (by omega)
    · by_cases h5 : j = m
      · rw [h5]; exact q.lo i h4 (by omega)
      · exact s i j h4 h2 (by omega)
  · rcases Nat.lt_or_ge k a1 with h5 | h5
    · exact p.l1 k r h1 h5 (by omega) h4
    · rcases Nat.lt_or_ge r b1 with h6 | h6
      · have e1 : Le lt (g m) (g r) := q.hi r (by omega) h6
        by_cases h7 : k = m
        · rw [h7]; exact e1
        · exact O.trans (q.lo k h5 (by omega)) e1
      · exact p.l2 k r h1 (by omega) h6 h4
theorem Inv.goLeft {a b a1 b1 m : Nat} {f g : Nat → α} (p : Inv lt a b a1 b1 f g) (hm1 : a1 ≤ m) (hm2 : m < b1) (O : SWO lt) (q : PartOk lt a1 b1 m g) (s : Sorted lt (m + 1) b1 g) : Inv lt a b a1 m f g := by
  have hA := p.ha; have hB := p.hb
  refine ⟨hA, by omega, p.seg, p.s1, fun i j h1 h2 h3 => ?_, p.l1, fun k r h1 h2 h3 h4 => ?_⟩
  · rcases Nat.lt_or_ge j b1 with h5 | h5
    · by_cases h6 : i = m
      · rw [h6]; exact q.hi j (by omega) h5
      · exact s i j (by omega) h2 h5
    · rcases Nat.lt_or_ge i b1 with h6 | h6
      · exact p.l2 i j (by omega) h6 h5 h3
      · exact p.s2 i j h6 h2 h3
  · rcases Nat.lt_or_ge r b1 with h5 | h5
    · rcases Nat.lt_or_ge k a1 with h6 | h6
      · exact p.l1 k r h1 h6 (by omega) h4
      · have e1 : Le lt (g k) (g m) := q.lo k h6 h2
        by_cases h7 : r = m
        · rw [h7]; exact e1
        · exact O.trans e1 (q.hi r (by omega) h5)
    · exact p.l2 k r h1 (by omega) h5 h4
/-- What is no greater than the one at a1 - 1, and so all alike, is sorted. -/
theorem Inv.goEqual {a b a1 b1 m : Nat} {f g : Nat → α} (p : Inv lt a b a1 b1 f g) (hm1 : a1 ≤ m) (hm2 : m ≤ b1) (O : SWO lt) {v : α} (hv : ∀ k, a1 ≤ k → k < m → Le lt (g k) v) (hv2 : ∀ k, a1 ≤ k → k < b1 → Le lt v (g k)) : Inv lt a b m b1 f g := by
  have hA := p.ha; have hB := p.hb
  refine ⟨by omega, hB, p.seg, fun i j h1 h2 h3 => ?_, p.s2, fun k r h1 h2 h3 h4 => ?_, p.l2⟩
  · rcases Nat.lt_or_ge i a1 with h4 | h4
    · rcases Nat.lt_or_ge j a1 with h5 | h5
      · exact p.s1 i j h1 h2 h5
      · exact p.l1 i j h1 h4 h5 (by omega)
    · exact O.trans (hv i h4 (by omega)) (hv2 j (by omega) (by omega))
  · rcases Nat.lt_or_ge k a1 with h5 | h5
    · exact p.l1 k r h1 h5 (by omega) h4
    · rcases Nat.lt_or_ge r b1 with h6 | h6
      · exact O.trans (hv k h5 h2) (hv2 r (by omega) h6)
      · exact p.l2 k r h1 (by omega) h6 h4
end
end Go.VB.Srt
