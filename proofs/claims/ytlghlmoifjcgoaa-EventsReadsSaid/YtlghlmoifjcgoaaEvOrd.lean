/- The order of texts, and the library's cmp.Less at texts. -/
import Derived.Test.YtlghlmoifjcgoaaVSo
import Derived.Test.YtlghlmoifjcgoaaVT
import Derived.Test.YtlghlmoifjcgoaaVSortP
import Derived.Test.YtlghlmoifjcgoaaEvSpec
set_option linter.unusedVariables false
namespace Go.Proofs.Ytlghlmoifjcgoaa.VG
open Go.VB Go.VB.Srt Go.Proofs
theorem sSWO : SWO sLt := by
  refine ⟨fun x => Bool.eq_false_iff.2 (sLt_irr x), fun x y z h => ?_, fun x y h => Bool.eq_false_iff.2 fun k => sLt_irr x (sLt_tr h k)⟩
  by_cases hxy : sLt x y = true
  · exact .inl hxy
  refine .inr ?_
  by_cases he : x = y
  · exact he ▸ h
  · exact sLt_tr (sLt_tot hxy he) h
theorem sNan (x : ByteArray) (w : World) : Cl Try.prog fn_cmp_isNaN_string [.string x].toArray w (fun e w' => e = .returned (.bool false) ∧ w' = w) := by
  refine (L1_cmp_isNaN_string x w (fun r w' => r = false ∧ w' = w) ?_).mono ?_
  · unfold V_cmp_isNaN_string; exact ⟨by simp, rfl⟩
  · rintro e w' ⟨r, rfl, rfl, rfl⟩; exact ⟨rfl, rfl⟩
theorem sLss (x y : ByteArray) (w : World) : Cl Try.prog fn_cmp_Less_string [.string x, .string y].toArray w (fun e w' => e = .returned (.bool (sLt x y)) ∧ Bel w w') := by
  refine (L1_cmp_Less_string x y w (fun r w' => r = sLt x y ∧ Bel w w') ?_).mono ?_
  · unfold V_cmp_Less_string
    refine (sNan x w).mono ?_
    rintro e w' ⟨rfl, rfl⟩
    refine ⟨false, rfl, ⟨fun h => (nomatch h), fun _ => ?_⟩⟩
    unfold V_cmp_Less_string_r1
    refine ⟨fun h => (nomatch h), fun _ => ?_⟩
    unfold V_cmp_Less_string_r2
    exact ⟨rfl, Bel.refl _⟩
  · rintro e w' ⟨r, rfl, rfl, h⟩; exact ⟨rfl, h⟩
end Go.Proofs.Ytlghlmoifjcgoaa.VG
