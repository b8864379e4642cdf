/- slices.Sorted of a map's keys; no condition. -/
import Derived.Test.YtlghlmoifjcgoaaEvKeysB
import Derived.Test.YtlghlmoifjcgoaaSoSG
set_option linter.unusedVariables false
namespace Go.Proofs.Ytlghlmoifjcgoaa.VG
open Go.VB Go.VB.Srt Go.Proofs Go.RowKit

theorem sortedKeys_ok {v : Value} {Sq Sp : List ByteArray → Prop} {Num : Nat} {w : World} (hs : SeqAt Try.prog v encS KeepsWalks Sq Sp Num w) (hN : Num ≤ 8796093022208) {k : Sl → World → Prop}
    (H : ∀ r w' xs ys base, w.heap.size ≤ base → Sq xs → ys.Perm xs → ys.Pairwise (fun x y => Le sLt x y) → StrOwn base w' r ys → Bel w w' → k r w') : Cl Try.prog fn_slices_Sorted_string [v].toArray w (fun e w' => ∃ r0 : Sl, e = .returned (Sl.v r0) ∧ k r0 w') := by
  refine L1_slices_Sorted_string v w k ?_
  unfold V_slices_Sorted_string
  refine collectS_ok hs hN fun r w1 xs base hb hS hO hbel => ?_
  refine SoOrdered_string.sort_ok hO fun ys w2 hp hpw hO2 hg => ?_
  exact H r w2 xs ys base hb hS hp hpw hO2 (hbel.grown hg fun q hq => Nat.le_trans hb (hO.lo hq))
end Go.Proofs.Ytlghlmoifjcgoaa.VG
