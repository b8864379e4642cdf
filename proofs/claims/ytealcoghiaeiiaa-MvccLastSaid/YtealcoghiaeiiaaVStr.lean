/- The order of texts; small words on memory; no condition. -/
import Derived.Test.YtealcoghiaeiiaaVT
import Derived.Test.YtealcoghiaeiiaaVCell
import Derived.Test.YtealcoghiaeiiaaVOrd
import Derived.Sort.Walk0
set_option linter.unusedVariables false
namespace Go.VB
open Go.RowKit Go.Proofs
theorem sLt_iff {x y : ByteArray} : sLt x y = true ↔ x.data.toList < y.data.toList := by
  unfold sLt; rw [bytesLess_eq, decide_eq_true_eq]; rw [ByteArray.toList_eq, ByteArray.toList_eq]
theorem data_ext {x y : ByteArray} (h : x.data.toList = y.data.toList) : x = y := by
  exact ByteArray.ext (Array.toList_inj.1 h)
theorem sLt_irr (x : ByteArray) : ¬ sLt x x = true := by rw [sLt_iff]; exact List.lt_irrefl _
theorem sLt_tr {x y z : ByteArray} (h : sLt x y = true) (k : sLt y z = true) : sLt x z = true := by
  rw [sLt_iff] at *; exact List.lt_trans h k
theorem sLt_tot {x y : ByteArray} (h : ¬ sLt x y = true) (hn : x ≠ y) : sLt y x = true := by
  rw [sLt_iff] at *
  have h1 : y.data.toList ≤ x.data.toList := List.not_lt.1 h
  rcases Classical.em (y.data.toList < x.data.toList) with h2 | h2
  · exact h2
  · exact absurd (data_ext (List.le_antisymm (List.not_lt.1 h2) h1)) hn
theorem sorted_eq : ∀ {s t : List ByteArray}, s.Pairwise (fun x y => sLt x y = true) → t.Pairwise (fun x y => sLt x y = true) → (∀ x, x ∈ s ↔ x ∈ t) → s = t
  | [], [], _, _, _ => rfl
  | [], y :: t, _, _, h => absurd ((h y).2 (by simp)) (by simp)
  | x :: s, [], _, _, h => absurd ((h x).1 (by simp)) (by simp)
  | x :: s, y :: t, hs, ht, h => by
    rw [List.pairwise_cons] at hs ht
    have hxy : x = y := by
      rcases List.mem_cons.1 ((h x).1 (by simp)) with h1 | h1
      · exact h1
      · rcases List.mem_cons.1 ((h y).2 (by simp)) with h2 | h2
        · exact h2.symm
        · exact absurd (sLt_tr (hs.1 y h2) (ht.1 x h1)) (sLt_irr x)
    subst hxy
    have hst : s = t := sorted_eq hs.2 ht.2 fun z => by
      constructor
      · intro hz
        rcases List.mem_cons.1 ((h z).1 (by simp [hz])) with h1 | h1
        · subst h1; exact absurd (hs.1 z hz) (sLt_irr z)
        · exact h1
      · intro hz
        rcases List.mem_cons.1 ((h z).2 (by simp [hz])) with h1 | h1
        · subst h1; exact absurd (ht.1 z hz) (sLt_irr z)
        · exact h1
    rw [hst]

theorem sLt_asy {x y : ByteArray} (h : sLt x y = true) : ¬ sLt y x = true := fun k => sLt_irr x (sLt_tr h k)
theorem sLt_ne {x y : ByteArray} (h : sLt x y = true) : x ≠ y := fun e => by subst e; exact sLt_irr _ h
theorem sLe_iff {x y : ByteArray} : (sLt x y || decide (x = y)) = true ↔ ¬ sLt y x = true := by
  constructor
  · intro h k
    rcases Bool.or_eq_true _ _ ▸ h with h | h
    · exact sLt_asy h k
    · have := of_decide_eq_true h; subst this; exact sLt_irr _ k
  · intro h
    by_cases e : x = y
    · rw [decide_eq_true e, Bool.or_true]
    · rw [sLt_tot h (fun h' => e h'.symm), Bool.true_or]
theorem sGt_eq (x y : ByteArray) : (!(sLt x y || decide (x = y))) = sLt y x := by
  cases h : sLt y x with
  | true =>
    cases h2 : (sLt x y || decide (x = y)) with
    | true => exact absurd h (sLe_iff.1 h2)
    | false => rfl
  | false => rw [sLe_iff.2 (by rw [h]; decide)]; rfl
theorem sLe_eq (x y : ByteArray) : (sLt x y || decide (x = y)) = !sLt y x := by rw [← sGt_eq x y, Bool.not_not]
theorem Rd.lit {α : Type} {c : α → List Value} {n : Nat} (hc : ∀ x, (c x).length = n) (xs : List α) (hl : xs.length ≤ 140737488355328) (w : World) (t : TypeId) :
    Rd c n (w.alloc (.cells (xs.flatMap c).toArray t)) ⟨some ⟨w.heap.size, 0, none⟩, xs.length, xs.length⟩ xs := by
  refine ⟨rfl, Nat.le_refl _, by show xs.length ≤ _; omega, hl, fun h => by simp at h, fun i x hx => ⟨_, rfl, fun j v hj => ?_⟩⟩
  have hA : At (w.alloc (.cells (xs.flatMap c).toArray t)) ⟨w.heap.size, 0, none⟩ (xs.flatMap c) := At.new w _ _
  rw [add_add]
  refine hA _ _ ?_
  rw [flat_at hc xs i j x hx (by have := (List.getElem?_eq_some_iff.1 hj).1; rw [hc] at this; exact this), hj]
section
variable {P : Program} {w : World} {C : World → Prop}
theorem S.boxA {t : Nat} {v : Value} {cs : List Value} (hv : v.cells = cs.toArray) {k : Option Addr → World → Prop} (H : k (some ⟨w.heap.size, 0, none⟩) (w.alloc (.cells cs.toArray t))) : opE P Value.pointer (Instr.box t v) w k := by
  refine ⟨_, w.alloc (.cells v.cells t), rfl, ?_⟩
  rw [hv]; exact H
theorem S.boxW {t : Nat} {v : Value} {cs : List Value} (hv : v.cells = cs.toArray) {k : Option Addr → World → Prop} (H : ∀ b w', Bel w w' → Row w' b cs t → w.heap.size ≤ b → k (some ⟨b, 0, none⟩) w') : opE P Value.pointer (Instr.box t v) w k :=
  S.boxA hv (H _ _ (Bel.alloc _ _) (Row.new _ _ _) (Nat.le_refl _))
theorem S.newW {t n : Nat} {z : List Value} (hz : ∀ w, (Instr.alloc t true (.tuple #[])).run P w = .ok (.pointer (some ⟨w.heap.size, 0, none⟩)) (w.alloc (.cells z.toArray t))) (hzn : z.length = n)
    (hA : Agg P t n) {cs : List Value} (hn : cs.length = n) (h1 : cs.all (·.oneCell') = true) {v : Value} (hv : v = .agg cs.toArray) {k : Option Addr → World → Prop}
    (H : ∀ b w', Bel w w' → Row w' b cs t → w.heap.size ≤ b → k (some ⟨b, 0, none⟩) w') :
    opE P Value.pointer (Instr.alloc t true (.tuple #[])) w (fun p w => opU P (Instr.storeAt t (.pointer p) v) w (k p)) :=
  S.new hz hzn hA hn h1 hv (H _ _ (Bel.alloc _ _) (Row.new _ _ _) (Nat.le_refl _))
theorem S.new1W {t : Nat} {z : List Value} (hz : ∀ w, (Instr.alloc t true (.tuple #[])).run P w = .ok (.pointer (some ⟨w.heap.size, 0, none⟩)) (w.alloc (.cells z.toArray t))) {k : Option Addr → World → Prop}
    (H : ∀ b w', Bel w w' → Row w' b z t → w.heap.size ≤ b → k (some ⟨b, 0, none⟩) w') : opE P Value.pointer (Instr.alloc t true (.tuple #[])) w k :=
  S.new1 hz (H _ _ (Bel.alloc _ _) (Row.new _ _ _) (Nat.le_refl _))
theorem K.fa {s f off : Nat} (hf : ∀ p w, (Instr.fieldAt s (.pointer (some p)) f).run P w = .ok (.pointer (some (p.add off))) w) {p : Addr} {k : Option Addr → Prop} (H : k (some (p.add off))) :
    opC C P Value.pointer (Instr.fieldAt s (.pointer (some p)) f) k := ⟨_, fun w _ => hf p w, H⟩
theorem K.ld1 {τ : Type} {enc : τ → Value} {t : Nat} (hA : One P t) {ad : Addr} {k : τ → Prop} (x : τ) (h : ∀ w, C w → w.cell? ad = some (enc x)) (H : k x) : opC C P enc (Instr.loadAt t (.pointer (some ad))) k :=
  ⟨x, fun w hw => run_ld_one hA (h w hw), H⟩
theorem K.ldA {τ : Type} {enc : τ → Value} {t n : Nat} (hA : Agg P t n) {ad : Addr} {cs : List Value} {k : τ → Prop} (x : τ) (hx : enc x = .agg cs.toArray) (h : ∀ w, C w → At w ad cs) (hn : cs.length = n) (H : k x) : opC C P enc (Instr.loadAt t (.pointer (some ad))) k :=
  ⟨x, fun w hw => by rw [hx]; exact run_ld_agg hA (h w hw) hn, H⟩
/-- A field's cell. -/
theorem At.fld {w : World} {p : Addr} {cs : List Value} (h : At w p cs) {j : Nat} {v : Value} (hj : cs[j]? = some v) : w.cell? (p.add j) = some v := h j v hj
theorem R.agg {τ : Type} {enc : τ → Value} {t n : Nat} (hA : Agg P t n) {ad : Addr} {cs : List Value} {k : τ → Prop} (x : τ) (hx : enc x = .agg cs.toArray) (h : At w ad cs) (hn : cs.length = n) (H : k x) : opR P enc t (some ad) w k := by
  refine ⟨x, _, rfl, ?_, H⟩
  have := run_ld_agg hA h hn
  rw [hx]
  simpa [Instr.loadAt, Instr.sureAddr] using this
end
end Go.VB
