/-
  No cell of these rows narrows 'for every input' (looked for: loops, veiled, ifaces, maps, wideKeys, modest, calm, conditions, laid).
  DERIVED. THE GIVEN ROWS OF THIS SEAT. 7 by the template 'for every input the law returns true; each argument reads behind the call as it read before'; 0 by the template 'total and deterministic' (their statements: YtealcoghiaeiiaaTotals.lean).
  GIVEN WITH THE SEED: the statements are not yours to turn. If you find one false, say at which input.
  Laid BY PROGRAM, IN A SANDBOX (cutbox-rows.mjs): the forced cells as the released guide's own fill.sh prints them over the translation 9242a07b3647f99b… (all of the seat's roots in one cut). By AI agents, Wed Nov 11 2026. No macro, syntax, notation, axiom, sorry.
-/
import Derived.Test.YtealcoghiaeiiaaChecked
import GoSem.Claim
import GoSem.ClaimJoined
import GoSem.ClaimMapViews
import Derived.JoinedTies
import Derived.KernelRfl
namespace Go.Proofs.Ytealcoghiaeiiaa
/- THE CELL 'sum', in the pinned program and in every row, IS THE sha256 OF THE DUMP (.gsa) THAT YtealcoghiaeiiaaProg.lean LOADS. Nothing in Lean hashes anything: it is a label: what it is worth is what the hold of that sum in a sandbox is worth. -/
noncomputable def Try.pinned : Pinned := { name := "ytealcoghiaeiiaa", sum := "9242a07b3647f99b6bce6a737f20f04dc40a1343fc76ae36f0bb52fb0efdc41f", checked := Try.checked }
namespace Rows
def none {H : Type} : Left H := { results := [], args := [] }

/-- 'ladinglaw09.MvccPuts': WHATEVER THE INPUT: true; the input reads as it did. -/
def mvccPutsSpec : ChangeSpec := { name := "mvccPuts", fn := fun _ => fun
  | [d1, d2, d3] => { results := [.lit (.bool true)], args := [d1, d2, d3] }
  | _ => none }
def mvccPutsRow : OpenClaim := { program := "ytealcoghiaeiiaa", sum := "9242a07b3647f99b6bce6a737f20f04dc40a1343fc76ae36f0bb52fb0efdc41f", func := "lading/ladinglaw09.MvccPuts", spec := "mvccPuts", unfollowed := true, recurses := true, apart := false }
def MvccPutsSaid : Prop := mvccPutsRow.holds Try.pinned (OpenSpec.ofChange mvccPutsSpec)

/-- ITS FALSE NEIGHBOUR: 'it returns false'. Refute it at one input. -/
def mvccPutsWrong : ChangeSpec := { name := "mvccPuts", fn := fun _ => fun
  | [d1, d2, d3] => { results := [.lit (.bool false)], args := [d1, d2, d3] }
  | _ => none }
def MvccPutsWrongFalsely : Prop := mvccPutsRow.holds Try.pinned (OpenSpec.ofChange mvccPutsWrong)

/-- 'ladinglaw09.MvccSwept': WHATEVER THE INPUT: true; the input reads as it did. -/
def mvccSweptSpec : ChangeSpec := { name := "mvccSwept", fn := fun _ => fun
  | [d1, d2, d3, d4] => { results := [.lit (.bool true)], args := [d1, d2, d3, d4] }
  | _ => none }
def mvccSweptRow : OpenClaim := { program := "ytealcoghiaeiiaa", sum := "9242a07b3647f99b6bce6a737f20f04dc40a1343fc76ae36f0bb52fb0efdc41f", func := "lading/ladinglaw09.MvccSwept", spec := "mvccSwept", unfollowed := true, recurses := true, apart := false }
def MvccSweptSaid : Prop := mvccSweptRow.holds Try.pinned (OpenSpec.ofChange mvccSweptSpec)

/-- ITS FALSE NEIGHBOUR: 'it returns false'. Refute it at one input. -/
def mvccSweptWrong : ChangeSpec := { name := "mvccSwept", fn := fun _ => fun
  | [d1, d2, d3, d4] => { results := [.lit (.bool false)], args := [d1, d2, d3, d4] }
  | _ => none }
def MvccSweptWrongFalsely : Prop := mvccSweptRow.holds Try.pinned (OpenSpec.ofChange mvccSweptWrong)

/-- 'ladinglaw09.MvccScans': WHATEVER THE INPUT: true; the input reads as it did. -/
def mvccScansSpec : ChangeSpec := { name := "mvccScans", fn := fun _ => fun
  | [d1, d2, d3, d4] => { results := [.lit (.bool true)], args := [d1, d2, d3, d4] }
  | _ => none }
def mvccScansRow : OpenClaim := { program := "ytealcoghiaeiiaa", sum := "9242a07b3647f99b6bce6a737f20f04dc40a1343fc76ae36f0bb52fb0efdc41f", func := "lading/ladinglaw09.MvccScans", spec := "mvccScans", unfollowed := true, recurses := true, apart := false }
def MvccScansSaid : Prop := mvccScansRow.holds Try.pinned (OpenSpec.ofChange mvccScansSpec)

/-- ITS FALSE NEIGHBOUR: 'it returns false'. Refute it at one input. -/
def mvccScansWrong : ChangeSpec := { name := "mvccScans", fn := fun _ => fun
  | [d1, d2, d3, d4] => { results := [.lit (.bool false)], args := [d1, d2, d3, d4] }
  | _ => none }
def MvccScansWrongFalsely : Prop := mvccScansRow.holds Try.pinned (OpenSpec.ofChange mvccScansWrong)

/-- 'ladinglaw09.MvccSteps': WHATEVER THE INPUT: true; the input reads as it did. -/
def mvccStepsSpec : ChangeSpec := { name := "mvccSteps", fn := fun _ => fun
  | [d1, d2, d3] => { results := [.lit (.bool true)], args := [d1, d2, d3] }
  | _ => none }
def mvccStepsRow : OpenClaim := { program := "ytealcoghiaeiiaa", sum := "9242a07b3647f99b6bce6a737f20f04dc40a1343fc76ae36f0bb52fb0efdc41f", func := "lading/ladinglaw09.MvccSteps", spec := "mvccSteps", unfollowed := true, recurses := true, apart := false }
def MvccStepsSaid : Prop := mvccStepsRow.holds Try.pinned (OpenSpec.ofChange mvccStepsSpec)

/-- ITS FALSE NEIGHBOUR: 'it returns false'. Refute it at one input. -/
def mvccStepsWrong : ChangeSpec := { name := "mvccSteps", fn := fun _ => fun
  | [d1, d2, d3] => { results := [.lit (.bool false)], args := [d1, d2, d3] }
  | _ => none }
def MvccStepsWrongFalsely : Prop := mvccStepsRow.holds Try.pinned (OpenSpec.ofChange mvccStepsWrong)

/-- 'ladinglaw09.MvccAsks': WHATEVER THE INPUT: true; the input reads as it did. -/
def mvccAsksSpec : ChangeSpec := { name := "mvccAsks", fn := fun _ => fun
  | [d1, d2, d3, d4] => { results := [.lit (.bool true)], args := [d1, d2, d3, d4] }
  | _ => none }
def mvccAsksRow : OpenClaim := { program := "ytealcoghiaeiiaa", sum := "9242a07b3647f99b6bce6a737f20f04dc40a1343fc76ae36f0bb52fb0efdc41f", func := "lading/ladinglaw09.MvccAsks", spec := "mvccAsks", unfollowed := true, recurses := true, apart := false }
def MvccAsksSaid : Prop := mvccAsksRow.holds Try.pinned (OpenSpec.ofChange mvccAsksSpec)

/-- ITS FALSE NEIGHBOUR: 'it returns false'. Refute it at one input. -/
def mvccAsksWrong : ChangeSpec := { name := "mvccAsks", fn := fun _ => fun
  | [d1, d2, d3, d4] => { results := [.lit (.bool false)], args := [d1, d2, d3, d4] }
  | _ => none }
def MvccAsksWrongFalsely : Prop := mvccAsksRow.holds Try.pinned (OpenSpec.ofChange mvccAsksWrong)

/-- 'ladinglaw09.MvccPast': WHATEVER THE INPUT: true; the input reads as it did. -/
def mvccPastSpec : ChangeSpec := { name := "mvccPast", fn := fun _ => fun
  | [d1, d2, d3, d4, d5] => { results := [.lit (.bool true)], args := [d1, d2, d3, d4, d5] }
  | _ => none }
def mvccPastRow : OpenClaim := { program := "ytealcoghiaeiiaa", sum := "9242a07b3647f99b6bce6a737f20f04dc40a1343fc76ae36f0bb52fb0efdc41f", func := "lading/ladinglaw09.MvccPast", spec := "mvccPast", unfollowed := true, recurses := true, apart := false }
def MvccPastSaid : Prop := mvccPastRow.holds Try.pinned (OpenSpec.ofChange mvccPastSpec)

/-- ITS FALSE NEIGHBOUR: 'it returns false'. Refute it at one input. -/
def mvccPastWrong : ChangeSpec := { name := "mvccPast", fn := fun _ => fun
  | [d1, d2, d3, d4, d5] => { results := [.lit (.bool false)], args := [d1, d2, d3, d4, d5] }
  | _ => none }
def MvccPastWrongFalsely : Prop := mvccPastRow.holds Try.pinned (OpenSpec.ofChange mvccPastWrong)

/-- 'ladinglaw09.MvccLast': WHATEVER THE INPUT: true; the input reads as it did. -/
def mvccLastSpec : ChangeSpec := { name := "mvccLast", fn := fun _ => fun
  | [d1, d2, d3] => { results := [.lit (.bool true)], args := [d1, d2, d3] }
  | _ => none }
def mvccLastRow : OpenClaim := { program := "ytealcoghiaeiiaa", sum := "9242a07b3647f99b6bce6a737f20f04dc40a1343fc76ae36f0bb52fb0efdc41f", func := "lading/ladinglaw09.MvccLast", spec := "mvccLast", unfollowed := true, recurses := true, apart := false }
def MvccLastSaid : Prop := mvccLastRow.holds Try.pinned (OpenSpec.ofChange mvccLastSpec)

/-- ITS FALSE NEIGHBOUR: 'it returns false'. Refute it at one input. -/
def mvccLastWrong : ChangeSpec := { name := "mvccLast", fn := fun _ => fun
  | [d1, d2, d3] => { results := [.lit (.bool false)], args := [d1, d2, d3] }
  | _ => none }
def MvccLastWrongFalsely : Prop := mvccLastRow.holds Try.pinned (OpenSpec.ofChange mvccLastWrong)

/- THE SECOND FORM. 'bulk': how many values and letters a reading holds, each counted each time it is reached (what is shared counts as often as it is met; a slice's spare places count too). A statement '..UptoSaid' is the law's where the arguments, and the package variables that the reading takes, are together of bulk at most 1048576: NARROWER than '..Said'. Prove '..Said' where nothing that the law and all that it calls make is longer than what came in: it says more and counts as full. Else prove '..UptoSaid'. A law counts once. -/
mutual
def uptoBulk {H : Type} : DataW H → Nat
  | .lit (.string bytes) => bytes.length + 1
  | .lit _ => 1
  | .nil => 1
  | .ptr d => uptoBulk d + 1
  | .slice elems spare => uptoBulkAll elems + uptoBulkAll spare + 1
  | .agg parts => uptoBulkAll parts + 1
  | .iface _ d => uptoBulk d + 1
  | .map entries => uptoBulkEntries entries + 1
  | .held _ => 1
def uptoBulkAll {H : Type} : List (DataW H) → Nat
  | [] => 0
  | d :: r => uptoBulk d + uptoBulkAll r
def uptoBulkEntries {H : Type} : List (Lit × DataW H) → Nat
  | [] => 0
  | x :: r => uptoBulkEntry x + uptoBulkEntries r
def uptoBulkEntry {H : Type} : Lit × DataW H → Nat
  | (.string bytes, d) => bytes.length + uptoBulk d + 1
  | (_, d) => uptoBulk d + 1
 end
def uptoSmall : (H : Type) → List (DataW H) → Bool := fun _ ds => decide (uptoBulkAll ds ≤ 1048576)
def OpenSpec.upto (s : _root_.Go.ChangeSpec) : _root_.Go.OpenSpec := { _root_.Go.OpenSpec.ofChange s with cond := some uptoSmall }

/-- 'ladinglaw09.MvccPuts', WHERE WHAT IT READS IS OF BULK AT MOST 1048576: true; the input reads as it did. -/
def mvccPutsUptoRow : OpenClaim := { program := "ytealcoghiaeiiaa", sum := "9242a07b3647f99b6bce6a737f20f04dc40a1343fc76ae36f0bb52fb0efdc41f", func := "lading/ladinglaw09.MvccPuts", spec := "mvccPuts", unfollowed := true, recurses := true, apart := false, narrowed := true }
def MvccPutsUptoSaid : Prop := mvccPutsUptoRow.holds Try.pinned (OpenSpec.upto mvccPutsSpec)

/-- 'ladinglaw09.MvccSwept', WHERE WHAT IT READS IS OF BULK AT MOST 1048576: true; the input reads as it did. -/
def mvccSweptUptoRow : OpenClaim := { program := "ytealcoghiaeiiaa", sum := "9242a07b3647f99b6bce6a737f20f04dc40a1343fc76ae36f0bb52fb0efdc41f", func := "lading/ladinglaw09.MvccSwept", spec := "mvccSwept", unfollowed := true, recurses := true, apart := false, narrowed := true }
def MvccSweptUptoSaid : Prop := mvccSweptUptoRow.holds Try.pinned (OpenSpec.upto mvccSweptSpec)

/-- 'ladinglaw09.MvccScans', WHERE WHAT IT READS IS OF BULK AT MOST 1048576: true; the input reads as it did. -/
def mvccScansUptoRow : OpenClaim := { program := "ytealcoghiaeiiaa", sum := "9242a07b3647f99b6bce6a737f20f04dc40a1343fc76ae36f0bb52fb0efdc41f", func := "lading/ladinglaw09.MvccScans", spec := "mvccScans", unfollowed := true, recurses := true, apart := false, narrowed := true }
def MvccScansUptoSaid : Prop := mvccScansUptoRow.holds Try.pinned (OpenSpec.upto mvccScansSpec)

/-- 'ladinglaw09.MvccSteps', WHERE WHAT IT READS IS OF BULK AT MOST 1048576: true; the input reads as it did. -/
def mvccStepsUptoRow : OpenClaim := { program := "ytealcoghiaeiiaa", sum := "9242a07b3647f99b6bce6a737f20f04dc40a1343fc76ae36f0bb52fb0efdc41f", func := "lading/ladinglaw09.MvccSteps", spec := "mvccSteps", unfollowed := true, recurses := true, apart := false, narrowed := true }
def MvccStepsUptoSaid : Prop := mvccStepsUptoRow.holds Try.pinned (OpenSpec.upto mvccStepsSpec)

/-- 'ladinglaw09.MvccAsks', WHERE WHAT IT READS IS OF BULK AT MOST 1048576: true; the input reads as it did. -/
def mvccAsksUptoRow : OpenClaim := { program := "ytealcoghiaeiiaa", sum := "9242a07b3647f99b6bce6a737f20f04dc40a1343fc76ae36f0bb52fb0efdc41f", func := "lading/ladinglaw09.MvccAsks", spec := "mvccAsks", unfollowed := true, recurses := true, apart := false, narrowed := true }
def MvccAsksUptoSaid : Prop := mvccAsksUptoRow.holds Try.pinned (OpenSpec.upto mvccAsksSpec)

/-- 'ladinglaw09.MvccPast', WHERE WHAT IT READS IS OF BULK AT MOST 1048576: true; the input reads as it did. -/
def mvccPastUptoRow : OpenClaim := { program := "ytealcoghiaeiiaa", sum := "9242a07b3647f99b6bce6a737f20f04dc40a1343fc76ae36f0bb52fb0efdc41f", func := "lading/ladinglaw09.MvccPast", spec := "mvccPast", unfollowed := true, recurses := true, apart := false, narrowed := true }
def MvccPastUptoSaid : Prop := mvccPastUptoRow.holds Try.pinned (OpenSpec.upto mvccPastSpec)

/-- 'ladinglaw09.MvccLast', WHERE WHAT IT READS IS OF BULK AT MOST 1048576: true; the input reads as it did. -/
def mvccLastUptoRow : OpenClaim := { program := "ytealcoghiaeiiaa", sum := "9242a07b3647f99b6bce6a737f20f04dc40a1343fc76ae36f0bb52fb0efdc41f", func := "lading/ladinglaw09.MvccLast", spec := "mvccLast", unfollowed := true, recurses := true, apart := false, narrowed := true }
def MvccLastUptoSaid : Prop := mvccLastUptoRow.holds Try.pinned (OpenSpec.upto mvccLastSpec)

end Rows
end Go.Proofs.Ytealcoghiaeiiaa
