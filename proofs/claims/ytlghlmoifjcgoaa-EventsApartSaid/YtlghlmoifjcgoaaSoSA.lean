/- The library's sort of a row of ordered ones: insertion; no condition. -/
import Derived.Test.YtlghlmoifjcgoaaVSo
import Derived.Test.YtlghlmoifjcgoaaVT
import Derived.Test.YtlghlmoifjcgoaaVSort
import Derived.Test.YtlghlmoifjcgoaaEvOrd
import Derived.Test.YtlghlmoifjcgoaaVSp
set_option linter.unusedVariables false
namespace Go.Proofs.Ytlghlmoifjcgoaa.VG
open Go.VB Go.VB.Srt Go.Proofs

namespace SoOrdered_string
abbrev cel (x : ByteArray) : List Value := [Value.string x]
theorem elemOk : ElemOk Try.prog ty_L_string ty_string 1 cel Value.string := ElemOk.single one_string und_L_string (fun _ => rfl) (fun _ => rfl)
abbrev Ow (base : Nat) (w : World) (s : Sl) (l : List ByteArray) : Prop := OwnS cel 1 ty_string base w s l
abbrev lt : ByteArray → ByteArray → Bool := sLt
theorem O : SWO lt := ⟨sSWO.irr, sSWO.neg, sSWO.asy⟩
theorem lss (x y : ByteArray) (w : World) : Cl Try.prog fn_cmp_Less_string [Value.string x, Value.string y].toArray w (fun e w' => e = .returned (.bool (lt x y)) ∧ Bel w w') := sLss x y w
section
variable {base : Nat} {w : World} {s : Sl} {L : Nat} {f : Nat → ByteArray}
theorem insertion_ok (hO : Ow base w s (tab f L)) {a b : Nat} (hA : a ≤ b) (hb : b ≤ L) {k : World → Prop}
    (H : ∀ g w', Seg a b f g → Sorted lt a b g → Ow base w' s (tab g L) → w.grownBy w' (Sl.v s).ownBlock → k w') :
    Cl Try.prog fn_slices_insertionSortOrdered_string [Sl.v s, .int .i64 (a : Int), .int .i64 (b : Int)].toArray w (fun e w' => e = .returned (.tuple [].toArray) ∧ k w') := by
  refine L1_slices_insertionSortOrdered_string s a b w k ?_
  have hlen := hO.len; have hsm := hO.small
  rw [tab_len] at hlen
  by_cases hab : b ≤ a
  · unfold V_slices_insertionSortOrdered_string
    refine ⟨fun i w1 => i = (a : Int) + 1 ∧ w1 = w, fun _ _ => 0, ⟨wr64 (by omega) (by omega), rfl⟩, ?_⟩
    rintro i w1 ⟨rfl, rfl⟩
    unfold V_slices_insertionSortOrdered_string_l1b
    exact ⟨fun hc => by omega, fun _ => H f w1 (.refl f) (Sorted.small (by omega)) hO (World.grownBy.refl _ _)⟩
  unfold V_slices_insertionSortOrdered_string
  refine ⟨fun x w1 => ∃ (i : Nat) (g : Nat → ByteArray), x = (i : Int) ∧ a + 1 ≤ i ∧ i ≤ b ∧ Seg a b f g ∧ Sorted lt a i g ∧ Ow base w1 s (tab g L) ∧ w.grownBy w1 (Sl.v s).ownBlock, fun x _ => (b - x).toNat, ?_, ?_⟩
  · exact ⟨a + 1, f, by rw [wr64 (by omega) (by omega)]; omega, by omega, by omega, .refl f, Sorted.small (by omega), hO, World.grownBy.refl _ _⟩
  rintro x w1 ⟨i, g, rfl, hi1, hi2, hsg, hso, hO1, hg1⟩
  unfold V_slices_insertionSortOrdered_string_l1b
  refine ⟨fun hc => ?_, fun hc => ?_⟩
  rotate_left
  · obtain rfl : i = b := by omega
    exact H g w1 hsg hso hO1 hg1
  refine ⟨fun y w2 => ∃ (j : Nat) (g : Nat → ByteArray), y = (j : Int) ∧ a ≤ j ∧ j ≤ i ∧ Seg a b f g ∧ Hole lt a i j g ∧ Ow base w2 s (tab g L) ∧ w.grownBy w2 (Sl.v s).ownBlock, fun y _ => y.toNat, ?_, ?_⟩
  · exact ⟨i, g, rfl, by omega, by omega, hsg, Hole.start hso, hO1, hg1⟩
  rintro y w2 ⟨j, g, rfl, hj1, hj2, hsg, hho, hO2, hg2⟩
  unfold V_slices_insertionSortOrdered_string_l2b
  have fin : ∀ w3, Bel w2 w3 → (j ≤ a ∨ Le lt (g (j - 1)) (g j)) → (fun (x8' : Int) (w' : World) => (∃ (i : Nat) (g : Nat → ByteArray), x8' = (i : Int) ∧ a + 1 ≤ i ∧ i ≤ b ∧ Seg a b f g ∧ Sorted lt a i g ∧ Ow base w' s (tab g L) ∧ w.grownBy w' (Sl.v s).ownBlock) ∧ (b - x8').toNat < (b - (i : Int)).toNat) (IntKind.wrap .i64 ((i : Int) + 1)) w3 := by
    intro w3 hb3 hd
    rw [wr64 (by omega) (by omega)]
    exact ⟨⟨i + 1, g, by omega, by omega, by omega, hsg, hho.done O hd, hO2.bel hb3, grown_trans hg2 (grown_bel hb3 _)⟩, by omega⟩
  refine ⟨fun hc => ?_, fun hc => ?_⟩
  · refine Q.elem elemOk hO2 rfl (by omega) ?_
    refine Q.elem elemOk hO2 (i' := j - 1) (by rw [wr64 (by omega) (by omega)]; omega) (by omega) ?_
    refine ⟨lt (g j) (g (j - 1)), fun w' _ => lss (g j) (g (j - 1)) w', ?_⟩
    unfold V_slices_insertionSortOrdered_string_r3
    intro w3 hb3
    refine ⟨fun hlt => ?_, fun hlt => fin w3 hb3 (.inr hlt)⟩
    refine S.swap elemOk (hO2.bel hb3) (i' := j) (j' := j - 1) rfl (by rw [wr64 (by omega) (by omega)]; omega) (by omega) (by omega) fun w4 hO4 hg4 => ?_
    unfold V_slices_insertionSortOrdered_string_j4
    rw [wr64 (by omega) (by omega)]
    exact ⟨⟨j - 1, _, by omega, by omega, by omega, .step j (j - 1) (by omega) (by omega) (by omega) (by omega) hsg, hho.step O (by omega) hj2 hlt, hO4, grown_trans (grown_trans hg2 (grown_bel hb3 _)) hg4⟩, by dsimp only; omega⟩
  · unfold V_slices_insertionSortOrdered_string_r3
    intro w3 hb3
    exact ⟨fun h => (nomatch h), fun _ => fin w3 hb3 (.inl (by omega))⟩
end
end SoOrdered_string
end Go.Proofs.Ytlghlmoifjcgoaa.VG
