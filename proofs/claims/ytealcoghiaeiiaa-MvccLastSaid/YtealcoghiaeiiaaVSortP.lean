/- Plain facts on rows that are turned by swaps alone, and on what makes them sorted; no condition. -/
import Derived.Test.YtealcoghiaeiiaaVBase
set_option linter.unusedVariables false
namespace Go.VB.Srt

structure SWO {α : Type} (lt : α → α → Bool) : Prop where
  irr : ∀ x, lt x x = false
  neg : ∀ x y z, lt x z = true → lt x y = true ∨ lt y z = true
  asy : ∀ x y, lt x y = true → lt y x = false
section
variable {α : Type} {lt : α → α → Bool}
def Le (lt : α → α → Bool) (x y : α) : Prop := lt y x = false
theorem SWO.refl (O : SWO lt) (x : α) : Le lt x x := O.irr x
theorem SWO.trans (O : SWO lt) {x y z : α} (h : Le lt x y) (k : Le lt y z) : Le lt x z := by
  unfold Le at *
  cases hz : lt z x with
  | false => rfl
  | true =>
    rcases O.neg z y x hz with h1 | h1
    · rw [h1] at k; cases k
    · rw [h1] at h; cases h
theorem SWO.of_lt (O : SWO lt) {x y : α} (h : lt x y = true) : Le lt x y := O.asy x y h

def swp (f : Nat → α) (i j : Nat) : Nat → α := fun k => if k = i then f j else if k = j then f i else f k
theorem swp_i (f : Nat → α) (i j : Nat) : swp f i j i = f j := by simp [swp]
theorem swp_j (f : Nat → α) (i j : Nat) : swp f i j j = f i := by
  unfold swp; split
  · rename_i h; rw [h]
  · simp
theorem swp_o (f : Nat → α) {i j k : Nat} (hi : k ≠ i) (hj : k ≠ j) : swp f i j k = f k := by simp [swp, hi, hj]
inductive Seg (a b : Nat) : (Nat → α) → (Nat → α) → Prop
  | refl (f : Nat → α) : Seg a b f f
  | step {f g : Nat → α} (i j : Nat) (hi : a ≤ i) (hi' : i < b) (hj : a ≤ j) (hj' : j < b) (h : Seg a b f g) : Seg a b f (swp g i j)
theorem Seg.trans {a b : Nat} {f g h : Nat → α} (p : Seg a b f g) (q : Seg a b g h) : Seg a b f h := by
  induction q with
  | refl => exact p
  | step i j h1 h2 h3 h4 _ ih => exact .step i j h1 h2 h3 h4 ih
theorem Seg.mono {a b a' b' : Nat} (ha : a' ≤ a) (hb : b ≤ b') {f g : Nat → α} (p : Seg a b f g) : Seg a' b' f g := by
  induction p with
  | refl => exact .refl _
  | step i j h1 h2 h3 h4 _ ih => exact .step i j (by omega) (by omega) (by omega) (by omega) ih
theorem Seg.one {a b : Nat} (f : Nat → α) {i j : Nat} (h1 : a ≤ i) (h2 : i < b) (h3 : a ≤ j) (h4 : j < b) : Seg a b f (swp f i j) := .step i j h1 h2 h3 h4 (.refl f)
theorem Seg.all {a b : Nat} {f g : Nat → α} (p : Seg a b f g) {Q : α → Prop} (h : ∀ k, a ≤ k → k < b → Q (f k)) : ∀ k, a ≤ k → k < b → Q (g k) := by
  induction p with
  | refl => exact h
  | step i j h1 h2 h3 h4 _ ih =>
    intro k hk hk'
    unfold swp
    split
    · exact ih j h3 h4
    · split
      · exact ih i h1 h2
      · exact ih k hk hk'
theorem Seg.out {a b : Nat} {f g : Nat → α} (p : Seg a b f g) : ∀ k, k < a ∨ b ≤ k → g k = f k := by
  induction p with
  | refl => exact fun _ _ => rfl
  | step i j h1 h2 h3 h4 _ ih =>
    intro k hk
    rw [swp_o _ (by omega) (by omega)]
    exact ih k hk
def tab (f : Nat → α) (n : Nat) : List α := (List.range n).map f
theorem tab_len (f : Nat → α) (n : Nat) : (tab f n).length = n := by simp [tab]
theorem tab_get (f : Nat → α) {n k : Nat} (h : k < n) : (tab f n)[k]? = some (f k) := by simp [tab, h]
theorem tab_of (l : List α) (f : Nat → α) (h : ∀ k x, l[k]? = some x → f k = x) : tab f l.length = l := by
  apply List.ext_getElem?
  intro k
  rcases Nat.lt_or_ge k l.length with h1 | h1
  · rw [tab_get f h1]
    have : l[k]? = some l[k] := by simp [h1]
    rw [h k _ this, this]
  · rw [List.getElem?_eq_none (by rw [tab_len]; exact h1), List.getElem?_eq_none h1]
theorem tab_set (f : Nat → α) {n i : Nat} (h : i < n) (x : α) : (tab f n).set i x = tab (fun k => if k = i then x else f k) n := by
  apply List.ext_getElem?
  intro k
  rcases Nat.lt_or_ge k n with h1 | h1
  · rw [tab_get (fun k => if k = i then x else f k) h1, List.getElem?_set]
    by_cases hk : i = k
    · subst hk; simp [tab_len, h]
    · rw [if_neg hk, tab_get f h1, if_neg (fun e => hk e.symm)]
  · rw [List.getElem?_eq_none (by rw [List.length_set, tab_len]; exact h1), List.getElem?_eq_none (by rw [tab_len]; exact h1)]
theorem tab_swp (f : Nat → α) {n i j : Nat} (hi : i < n) (hj : j < n) : ((tab f n).set i (f j)).set j (f i) = tab (swp f i j) n := by
  rw [tab_set f hi, tab_set _ hj]
  congr 1
  funext k
  unfold swp
  by_cases h1 : k = i <;> by_cases h2 : k = j
  · subst h1; subst h2; simp
  · simp [h1, h2]; intro e; exact absurd (h1.trans e) (fun e' => h2 e')
  · simp [h1, h2]; intro e; rw [← e]
  · simp [h1, h2]
theorem perm_swp (f : Nat → α) {n i j : Nat} (hi : i < n) (hj : j < n) : (tab (swp f i j) n).Perm (tab f n) := by
  rw [← tab_swp f hi hj]
  have h1 := List.set_set_perm (as := tab f n) (i := i) (j := j) (by rw [tab_len]; exact hi) (by rw [tab_len]; exact hj)
  simpa [tab] using h1
theorem Seg.perm {a b n : Nat} (hb : b ≤ n) {f g : Nat → α} (p : Seg a b f g) : (tab g n).Perm (tab f n) := by
  induction p with
  | refl => exact .refl _
  | step i j h1 h2 h3 h4 _ ih => exact (perm_swp _ (by omega) (by omega)).trans ih

def Sorted (lt : α → α → Bool) (a b : Nat) (f : Nat → α) : Prop := ∀ i j, a ≤ i → i < j → j < b → Le lt (f i) (f j)
theorem Sorted.small {a b : Nat} {f : Nat → α} (h : b ≤ a + 1) : Sorted lt a b f := fun i j h1 h2 h3 => by omega
theorem Sorted.congr {a b : Nat} {f g : Nat → α} (h : Sorted lt a b f) (hg : ∀ k, a ≤ k → k < b → g k = f k) : Sorted lt a b g := fun i j h1 h2 h3 => by
  rw [hg i h1 (by omega), hg j (by omega) h3]; exact h i j h1 h2 h3
/-- Sorted, but for the one at j, which is no greater than what stands behind it. -/
def Hole (lt : α → α → Bool) (a i j : Nat) (f : Nat → α) : Prop := (∀ p q, a ≤ p → p < q → q ≤ i → p ≠ j → q ≠ j → Le lt (f p) (f q)) ∧ ∀ q, j < q → q ≤ i → Le lt (f j) (f q)
theorem Hole.start {a i : Nat} {f : Nat → α} (h : Sorted lt a i f) : Hole lt a i i f := ⟨fun p q h1 h2 h3 h4 h5 => h p q h1 h2 (by omega), fun q h1 h2 => by omega⟩
theorem Hole.done (O : SWO lt) {a i j : Nat} {f : Nat → α} (h : Hole lt a i j f) (hj : j ≤ a ∨ Le lt (f (j - 1)) (f j)) : Sorted lt a (i + 1) f := by
  intro p q h1 h2 h3
  by_cases hp : p = j
  · subst hp; exact h.2 q h2 (by omega)
  by_cases hq : q = j
  · subst hq
    rcases hj with hj | hj
    · omega
    · by_cases hpj : p = q - 1
      · rw [hpj]; exact hj
      · exact O.trans (h.1 p (q - 1) h1 (by omega) (by omega) hp (by omega)) hj
  · exact h.1 p q h1 h2 (by omega) hp hq
theorem Hole.step (O : SWO lt) {a i j : Nat} {f : Nat → α} (h : Hole lt a i j f) (ha : a < j) (hi : j ≤ i) (hl : lt (f j) (f (j - 1)) = true) : Hole lt a i (j - 1) (swp f j (j - 1)) := by
  refine ⟨fun p q h1 h2 h3 h4 h5 => ?_, fun q h1 h2 => ?_⟩
  · have e : ∀ k, k ≠ j - 1 → swp f j (j - 1) k = f (if k = j then j - 1 else k) := fun k hk => by
      unfold swp
      by_cases h : k = j
      · simp [h]
      · simp [h, hk]
    rw [e p h4, e q h5]
    by_cases hp : p = j
    · rw [if_pos hp, if_neg (by omega)]
      exact h.1 (j - 1) q (by omega) (by omega) h3 (by omega) (by omega)
    · rw [if_neg hp]
      by_cases hq : q = j
      · rw [if_pos hq]
        exact h.1 p (j - 1) h1 (by omega) (by omega) hp (by omega)
      · rw [if_neg hq]; exact h.1 p q h1 h2 h3 hp hq
  · rw [swp_j]
    by_cases hq : q = j
    · rw [hq, swp_i]; exact O.of_lt hl
    · rw [swp_o f hq (by omega)]; exact h.2 q (by omega) h2

/-! ### Heaps -/
def Child (c i : Nat) : Prop := c = 2 * i + 1 ∨ c = 2 * i + 2
def Hp (lt : α → α → Bool) (o lo hi : Nat) (f : Nat → α) : Prop := ∀ i c, lo ≤ i → Child c i → c < hi → Le lt (f (o + c)) (f (o + i))
structure HpX (lt : α → α → Bool) (o lo hi r : Nat) (f : Nat → α) : Prop where
  up : ∀ i c, lo ≤ i → i ≠ r → Child c i → c < hi → Le lt (f (o + c)) (f (o + i))
  over : ∀ p c, lo ≤ p → Child r p → Child c r → c < hi → Le lt (f (o + c)) (f (o + p))
theorem HpX.start {o lo hi : Nat} {f : Nat → α} (h : Hp lt o (lo + 1) hi f) : HpX lt o lo hi lo f :=
  ⟨fun i c h1 h2 h3 h4 => h i c (by omega) h3 h4, fun p c h1 h2 => by unfold Child at h2; omega⟩
theorem HpX.done (O : SWO lt) {o lo hi r : Nat} {f : Nat → α} (h : HpX lt o lo hi r f) (hr : ∀ c, Child c r → c < hi → Le lt (f (o + c)) (f (o + r))) : Hp lt o lo hi f := fun i c h1 h2 h3 => by
  by_cases hi : i = r
  · subst hi; exact hr c h2 h3
  · exact h.up i c h1 hi h2 h3
theorem HpX.step (O : SWO lt) {o lo hi r b : Nat} {f : Nat → α} (h : HpX lt o lo hi r f) (hlo : lo ≤ r) (hb : Child b r) (hbh : b < hi) (hmax : ∀ c, Child c r → c < hi → Le lt (f (o + c)) (f (o + b))) (hl : lt (f (o + r)) (f (o + b)) = true) :
    HpX lt o lo hi b (swp f (o + r) (o + b)) := by
  have hrb : r < b := by unfold Child at hb; omega
  have oth : ∀ k, k ≠ r → k ≠ b → swp f (o + r) (o + b) (o + k) = f (o + k) := fun k h1 h2 => swp_o f (by omega) (by omega)
  have er : swp f (o + r) (o + b) (o + r) = f (o + b) := swp_i f _ _
  have eb : swp f (o + r) (o + b) (o + b) = f (o + r) := swp_j f _ _
  refine ⟨fun i c h1 h2 h3 h4 => ?_, fun p c h1 h2 h3 h4 => ?_⟩
  · by_cases hi : i = r
    · subst hi
      rw [er]
      by_cases hc : c = b
      · subst hc; rw [eb]; exact O.of_lt hl
      · rw [oth c (by unfold Child at h3; omega) hc]; exact hmax c h3 h4
    · rw [oth i hi h2]
      by_cases hc : c = r
      · subst hc; rw [er]; exact h.over i b h1 h3 hb hbh
      · rw [oth c hc (by unfold Child at h3 hb; omega)]; exact h.up i c h1 hi h3 h4
  · obtain rfl : p = r := by unfold Child at h2 hb; omega
    rw [er, oth c (by unfold Child at h3 h2; omega) (by unfold Child at h3; omega)]
    exact h.up b c (by omega) (by omega) h3 h4
theorem Hp.root (O : SWO lt) {o hi : Nat} {f : Nat → α} (h : Hp lt o 0 hi f) : ∀ n k, k ≤ n → k < hi → Le lt (f (o + k)) (f o)
  | 0, k, hk, _ => by obtain rfl : k = 0 := by omega
                      exact O.refl _
  | n + 1, k, hk, hk' => by
    by_cases h0 : k = 0
    · subst h0; exact O.refl _
    · exact O.trans (h ((k - 1) / 2) k (by omega) (by unfold Child; omega) hk') (Hp.root O h n ((k - 1) / 2) (by omega) (by omega))
/-- One turn of the sort by a heap: the root behind, what is left sifted. -/
structure HS (lt : α → α → Bool) (a b i : Nat) (g : Nat → α) : Prop where
  hp : Hp lt a 0 i g
  so : Sorted lt (a + i) b g
  le : ∀ k q, a ≤ k → k < a + i → a + i ≤ q → q < b → Le lt (g k) (g q)
theorem HS.step (O : SWO lt) {a b i : Nat} {g h : Nat → α} (hs : HS lt a b (i + 1) g) (hib : a + i + 1 ≤ b) (hseg : Seg a (a + i) (swp g a (a + i)) h) (hp : Hp lt a 0 i h) : HS lt a b i h := by
  have hroot : ∀ k, k < i + 1 → Le lt (g (a + k)) (g a) := fun k hk => Hp.root O hs.hp k k (Nat.le_refl _) hk
  have out : ∀ q, a + i ≤ q → h q = swp g a (a + i) q := fun q hq => hseg.out q (.inr hq)
  have oi : h (a + i) = g a := by rw [out _ (Nat.le_refl _), swp_j]
  have oq : ∀ q, a + i < q → h q = g q := fun q hq => by rw [out q (by omega), swp_o g (by omega) (by omega)]
  refine ⟨hp, fun p q h1 h2 h3 => ?_, ?_⟩
  · rw [oq q (by omega)]
    by_cases hpi : p = a + i
    · rw [hpi, oi]; exact hs.le a q (Nat.le_refl _) (by omega) (by omega) h3
    · rw [oq p (by omega)]; exact hs.so p q (by omega) h2 h3
  · intro k q hk hk' hq hq'
    refine Seg.all hseg (Q := fun z => ∀ q, a + i ≤ q → q < b → Le lt z (h q)) (fun k hk hk' q hq hq' => ?_) k hk hk' q hq hq'
    have hz : ∃ m, m < i + 1 ∧ swp g a (a + i) k = g (a + m) := by
      by_cases hka : k = a
      · exact ⟨i, by omega, by rw [hka, swp_i]⟩
      · exact ⟨k - a, by omega, by rw [swp_o g hka (by omega)]; congr 1; omega⟩
    obtain ⟨m, hm, e⟩ := hz
    rw [e]
    by_cases hqi : q = a + i
    · rw [hqi, oi]; exact hroot m hm
    · rw [oq q (by omega)]; exact hs.le (a + m) q (by omega) (by omega) (by omega) hq'
end
end Go.VB.Srt
