/- Texts by which the law's calls are walked (part 8): rules, printed conditions, contracts; no condition. -/
import Derived.TacticsIn
import Derived.TacticsInMore
import Derived.Deep.LoopGhost
import Derived.Sort.QuietThIn
import Derived.RangeFuncCalls
import Derived.RangeFuncNested
import Derived.RangeFuncLeaves
import Derived.WalkKit
import Derived.StillTail
import Derived.Test.YtealcoghiaeiiaaGreatProg
import Derived.KernelRfl
import Derived.Deep.WholeRow
import Derived.Laws.StructEq
import Derived.MapFrom
import Derived.Laws.CopyRow
import Derived.Maps.RangeRun
import Derived.Sort.Walk0
import Derived.RangeFuncBound
import Derived.Deep.Slices
import Derived.SizedLaws
import Derived.ChangeArms
import Derived.OpenShut
import Derived.ShutString
import Derived.ProofKit
import Derived.ChangeOld
import Derived.Test.YtealcoghiaeiiaaGreatPkTxnNilG
set_option linter.unusedVariables false
namespace Go.VB
open Go.RowKit Go.ChangeShapes Go.WideShapes
theorem cell_at {cs : List Value} {k n : Nat} {v : Value} (h : (cs.drop k).take n = [v]) (hn : n = 1) : cs[k]? = some v := by
  subst hn
  have : ((cs.drop k).take 1)[0]? = some v := by rw [h]; rfl
  simpa using this
end Go.VB
