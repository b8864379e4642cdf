/- The library's sort of a row by a function that compares: insertion; no condition. -/
import Derived.Test.YtealcoghiaeiiaaVSo
import Derived.Test.YtealcoghiaeiiaaVSp
import Derived.Test.YtealcoghiaeiiaaVT
import Derived.Test.YtealcoghiaeiiaaVSort
set_option linter.unusedVariables false
namespace Go.Proofs.Ytealcoghiaeiiaa.VG
open Go.VB Go.VB.Srt Go.Proofs

namespace SoCmpFunc_api_Version
theorem elemOk : ElemOk Try.prog ty_L_api_Version ty_api_Version 4 T_api_Version.cells T_api_Version.v := ElemOk.agg agg_api_Version und_L_api_Version (fun _ => rfl) (fun _ => rfl) (by decide)
abbrev Ow (base : Nat) (w : World) (s : Sl) (l : List T_api_Version) : Prop := OwnS T_api_Version.cells 4 ty_api_Version base w s l
/-- The function that compares. -/
def Cmps (cmp : Value) (lt : T_api_Version → T_api_Version → Bool) : Prop := ∀ w x y, ∃ r : Int, CallQ Try.prog cmp [T_api_Version.v x, T_api_Version.v y] w (.int .i64 r) ∧ (lt x y = true ↔ r < 0)
theorem dec_lt {lt : T_api_Version → T_api_Version → Bool} {x y : T_api_Version} {r : Int} (h : lt x y = true ↔ r < 0) : decide (r < 0) = lt x y := by
  cases hl : lt x y with
  | true => rw [decide_eq_true (h.1 hl)]
  | false => rw [decide_eq_false (fun e => by rw [h.2 e] at hl; cases hl)]
section
variable {cmp : Value} {lt : T_api_Version → T_api_Version → Bool} (O : SWO lt) (hcmp : Cmps cmp lt) {base : Nat} {w : World} {s : Sl} {L : Nat} {f : Nat → T_api_Version}
include O hcmp
theorem insertion_ok (hO : Ow base w s (tab f L)) {a b : Nat} (hA : a ≤ b) (hb : b ≤ L) {k : World → Prop}
    (H : ∀ g w', Seg a b f g → Sorted lt a b g → Ow base w' s (tab g L) → w.grownBy w' (Sl.v s).ownBlock → k w') :
    Cl Try.prog fn_slices_insertionSortCmpFunc_api_Version [Sl.v s, .int .i64 (a : Int), .int .i64 (b : Int), cmp].toArray w (fun e w' => e = .returned (.tuple [].toArray) ∧ k w') := by
  refine L1_slices_insertionSortCmpFunc_api_Version s a b cmp w k ?_
  have hlen := hO.len; have hsm := hO.small
  rw [tab_len] at hlen
  by_cases hab : b ≤ a
  · unfold V_slices_insertionSortCmpFunc_api_Version
    refine ⟨fun i w1 => i = (a : Int) + 1 ∧ w1 = w, fun _ _ => 0, ⟨wr64 (by omega) (by omega), rfl⟩, ?_⟩
    rintro i w1 ⟨rfl, rfl⟩
    unfold V_slices_insertionSortCmpFunc_api_Version_l1b
    exact ⟨fun hc => by omega, fun _ => H f w1 (.refl f) (Sorted.small (by omega)) hO (World.grownBy.refl _ _)⟩
  unfold V_slices_insertionSortCmpFunc_api_Version
  refine ⟨fun x w1 => ∃ (i : Nat) (g : Nat → T_api_Version), x = (i : Int) ∧ a + 1 ≤ i ∧ i ≤ b ∧ Seg a b f g ∧ Sorted lt a i g ∧ Ow base w1 s (tab g L) ∧ w.grownBy w1 (Sl.v s).ownBlock, fun x _ => (b - x).toNat, ?_, ?_⟩
  · exact ⟨a + 1, f, by rw [wr64 (by omega) (by omega)]; omega, by omega, by omega, .refl f, Sorted.small (by omega), hO, World.grownBy.refl _ _⟩
  rintro x w1 ⟨i, g, rfl, hi1, hi2, hsg, hso, hO1, hg1⟩
  unfold V_slices_insertionSortCmpFunc_api_Version_l1b
  refine ⟨fun hc => ?_, fun hc => ?_⟩
  rotate_left
  · obtain rfl : i = b := by omega
    exact H g w1 hsg hso hO1 hg1
  refine ⟨fun y w2 => ∃ (j : Nat) (g : Nat → T_api_Version), y = (j : Int) ∧ a ≤ j ∧ j ≤ i ∧ Seg a b f g ∧ Hole lt a i j g ∧ Ow base w2 s (tab g L) ∧ w.grownBy w2 (Sl.v s).ownBlock, fun y _ => y.toNat, ?_, ?_⟩
  · exact ⟨i, g, rfl, by omega, by omega, hsg, Hole.start hso, hO1, hg1⟩
  rintro y w2 ⟨j, g, rfl, hj1, hj2, hsg, hho, hO2, hg2⟩
  unfold V_slices_insertionSortCmpFunc_api_Version_l2b
  have fin : ∀ w3, Bel w2 w3 → (j ≤ a ∨ Le lt (g (j - 1)) (g j)) → (fun (x8' : Int) (w' : World) => (∃ (i : Nat) (g : Nat → T_api_Version), x8' = (i : Int) ∧ a + 1 ≤ i ∧ i ≤ b ∧ Seg a b f g ∧ Sorted lt a i g ∧ Ow base w' s (tab g L) ∧ w.grownBy w' (Sl.v s).ownBlock) ∧ (b - x8').toNat < (b - (i : Int)).toNat) (IntKind.wrap .i64 ((i : Int) + 1)) w3 := by
    intro w3 hb3 hd
    rw [wr64 (by omega) (by omega)]
    exact ⟨⟨i + 1, g, by omega, by omega, by omega, hsg, hho.done O hd, hO2.bel hb3, grown_trans hg2 (grown_bel hb3 _)⟩, by omega⟩
  refine ⟨fun hc => ?_, fun hc => ?_⟩
  · refine Q.elem elemOk hO2 rfl (by omega) ?_
    refine Q.elem elemOk hO2 (i' := j - 1) (by rw [wr64 (by omega) (by omega)]; omega) (by omega) ?_
    obtain ⟨r, hr, hl⟩ := hcmp w2 (g j) (g (j - 1))
    refine ⟨r, hr, ?_⟩
    rw [dec_lt hl]
    unfold V_slices_insertionSortCmpFunc_api_Version_r3
    intro w3 hb3
    refine ⟨fun hlt => ?_, fun hlt => fin w3 hb3 (.inr hlt)⟩
    refine S.swap elemOk (hO2.bel hb3) (i' := j) (j' := j - 1) rfl (by rw [wr64 (by omega) (by omega)]; omega) (by omega) (by omega) fun w4 hO4 hg4 => ?_
    unfold V_slices_insertionSortCmpFunc_api_Version_j4
    rw [wr64 (by omega) (by omega)]
    exact ⟨⟨j - 1, _, by omega, by omega, by omega, .step j (j - 1) (by omega) (by omega) (by omega) (by omega) hsg, hho.step O (by omega) hj2 hlt, hO4, grown_trans (grown_trans hg2 (grown_bel hb3 _)) hg4⟩, by dsimp only; omega⟩
  · unfold V_slices_insertionSortCmpFunc_api_Version_r3
    intro w3 hb3
    exact ⟨fun h => (nomatch h), fun _ => fin w3 hb3 (.inl (by omega))⟩
end
end SoCmpFunc_api_Version
end Go.Proofs.Ytealcoghiaeiiaa.VG
