/-
  No cell of these rows narrows 'for every input' (looked for: loops, veiled, ifaces, maps, wideKeys, modest, calm, conditions, laid).
  DERIVED. THE GIVEN ROWS OF THIS SEAT. 7 by the template 'for every input the law returns true; each argument reads behind the call as it read before'; 0 by the template 'total and deterministic' (their statements: YtealcoghiaeiiaaGreatTotals.lean).
  GIVEN WITH THE SEED: the statements are not yours to turn. If you find one false, say at which input.
  Laid BY PROGRAM, IN A SANDBOX (cutbox-rows.mjs): the forced cells as the released guide's own fill.sh prints them over the translation de466c020f87d8b8… (all of the seat's roots in one cut). By AI agents, Wed Nov 11 2026. No macro, syntax, notation, axiom, sorry.
-/
import Derived.Test.YtealcoghiaeiiaaGreatChecked
import GoSem.Claim
import GoSem.ClaimJoined
import GoSem.ClaimMapViews
import Derived.JoinedTies
import Derived.KernelRfl
namespace Go.Proofs.YtealcoghiaeiiaaGreat
/- THE CELL 'sum', in the pinned program and in every row, IS THE sha256 OF THE DUMP (.gsa) THAT YtealcoghiaeiiaaGreatProg.lean LOADS. Nothing in Lean hashes anything: it is a label: what it is worth is what the hold of that sum in a sandbox is worth. -/
noncomputable def Tryz.pinned : Pinned := { name := "ytealcoghiaeiiaagreat", sum := "de466c020f87d8b8e4e7c5fba4e368db20ddcb76090f993189903c08f9e3bfa9", checked := Tryz.checked }
namespace Rows
def none {H : Type} : Left H := { results := [], args := [] }

/-- 'ladinglaw10.TxnBlind': WHATEVER THE INPUT: true; the input reads as it did. -/
def txnBlindSpec : ChangeSpec := { name := "txnBlind", fn := fun _ => fun
  | [d1, d2, d3] => { results := [.lit (.bool true)], args := [d1, d2, d3] }
  | _ => none }
def txnBlindRow : OpenClaim := { program := "ytealcoghiaeiiaagreat", sum := "de466c020f87d8b8e4e7c5fba4e368db20ddcb76090f993189903c08f9e3bfa9", func := "lading/ladinglaw10.TxnBlind", spec := "txnBlind", unfollowed := true, recurses := true, apart := false }
def TxnBlindSaid : Prop := txnBlindRow.holds Tryz.pinned (OpenSpec.ofChange txnBlindSpec)

/-- ITS FALSE NEIGHBOUR: 'it returns false'. Refute it at one input. -/
def txnBlindWrong : ChangeSpec := { name := "txnBlind", fn := fun _ => fun
  | [d1, d2, d3] => { results := [.lit (.bool false)], args := [d1, d2, d3] }
  | _ => none }
def TxnBlindWrongFalsely : Prop := txnBlindRow.holds Tryz.pinned (OpenSpec.ofChange txnBlindWrong)

/-- 'ladinglaw10.TxnSerial': WHATEVER THE INPUT: true; the input reads as it did. -/
def txnSerialSpec : ChangeSpec := { name := "txnSerial", fn := fun _ => fun
  | [d1, d2] => { results := [.lit (.bool true)], args := [d1, d2] }
  | _ => none }
def txnSerialRow : OpenClaim := { program := "ytealcoghiaeiiaagreat", sum := "de466c020f87d8b8e4e7c5fba4e368db20ddcb76090f993189903c08f9e3bfa9", func := "lading/ladinglaw10.TxnSerial", spec := "txnSerial", unfollowed := true, recurses := true, apart := false }
def TxnSerialSaid : Prop := txnSerialRow.holds Tryz.pinned (OpenSpec.ofChange txnSerialSpec)

/-- ITS FALSE NEIGHBOUR: 'it returns false'. Refute it at one input. -/
def txnSerialWrong : ChangeSpec := { name := "txnSerial", fn := fun _ => fun
  | [d1, d2] => { results := [.lit (.bool false)], args := [d1, d2] }
  | _ => none }
def TxnSerialWrongFalsely : Prop := txnSerialRow.holds Tryz.pinned (OpenSpec.ofChange txnSerialWrong)

/-- 'ladinglaw10.TxnAlone': WHATEVER THE INPUT: true; the input reads as it did. -/
def txnAloneSpec : ChangeSpec := { name := "txnAlone", fn := fun _ => fun
  | [d1, d2] => { results := [.lit (.bool true)], args := [d1, d2] }
  | _ => none }
def txnAloneRow : OpenClaim := { program := "ytealcoghiaeiiaagreat", sum := "de466c020f87d8b8e4e7c5fba4e368db20ddcb76090f993189903c08f9e3bfa9", func := "lading/ladinglaw10.TxnAlone", spec := "txnAlone", unfollowed := true, recurses := true, apart := false }
def TxnAloneSaid : Prop := txnAloneRow.holds Tryz.pinned (OpenSpec.ofChange txnAloneSpec)

/-- ITS FALSE NEIGHBOUR: 'it returns false'. Refute it at one input. -/
def txnAloneWrong : ChangeSpec := { name := "txnAlone", fn := fun _ => fun
  | [d1, d2] => { results := [.lit (.bool false)], args := [d1, d2] }
  | _ => none }
def TxnAloneWrongFalsely : Prop := txnAloneRow.holds Tryz.pinned (OpenSpec.ofChange txnAloneWrong)

/-- 'ladinglaw10.TxnApart': WHATEVER THE INPUT: true; the input reads as it did. -/
def txnApartSpec : ChangeSpec := { name := "txnApart", fn := fun _ => fun
  | [d1, d2, d3] => { results := [.lit (.bool true)], args := [d1, d2, d3] }
  | _ => none }
def txnApartRow : OpenClaim := { program := "ytealcoghiaeiiaagreat", sum := "de466c020f87d8b8e4e7c5fba4e368db20ddcb76090f993189903c08f9e3bfa9", func := "lading/ladinglaw10.TxnApart", spec := "txnApart", unfollowed := true, recurses := true, apart := false }
def TxnApartSaid : Prop := txnApartRow.holds Tryz.pinned (OpenSpec.ofChange txnApartSpec)

/-- ITS FALSE NEIGHBOUR: 'it returns false'. Refute it at one input. -/
def txnApartWrong : ChangeSpec := { name := "txnApart", fn := fun _ => fun
  | [d1, d2, d3] => { results := [.lit (.bool false)], args := [d1, d2, d3] }
  | _ => none }
def TxnApartWrongFalsely : Prop := txnApartRow.holds Tryz.pinned (OpenSpec.ofChange txnApartWrong)

/-- 'ladinglaw10.TxnCalls': WHATEVER THE INPUT: true; the input reads as it did. -/
def txnCallsSpec : ChangeSpec := { name := "txnCalls", fn := fun _ => fun
  | [d1, d2] => { results := [.lit (.bool true)], args := [d1, d2] }
  | _ => none }
def txnCallsRow : OpenClaim := { program := "ytealcoghiaeiiaagreat", sum := "de466c020f87d8b8e4e7c5fba4e368db20ddcb76090f993189903c08f9e3bfa9", func := "lading/ladinglaw10.TxnCalls", spec := "txnCalls", unfollowed := true, recurses := true, apart := false }
def TxnCallsSaid : Prop := txnCallsRow.holds Tryz.pinned (OpenSpec.ofChange txnCallsSpec)

/-- ITS FALSE NEIGHBOUR: 'it returns false'. Refute it at one input. -/
def txnCallsWrong : ChangeSpec := { name := "txnCalls", fn := fun _ => fun
  | [d1, d2] => { results := [.lit (.bool false)], args := [d1, d2] }
  | _ => none }
def TxnCallsWrongFalsely : Prop := txnCallsRow.holds Tryz.pinned (OpenSpec.ofChange txnCallsWrong)

/-- 'ladinglaw10.TxnPeeks': WHATEVER THE INPUT: true; the input reads as it did. -/
def txnPeeksSpec : ChangeSpec := { name := "txnPeeks", fn := fun _ => fun
  | [d1, d2, d3] => { results := [.lit (.bool true)], args := [d1, d2, d3] }
  | _ => none }
def txnPeeksRow : OpenClaim := { program := "ytealcoghiaeiiaagreat", sum := "de466c020f87d8b8e4e7c5fba4e368db20ddcb76090f993189903c08f9e3bfa9", func := "lading/ladinglaw10.TxnPeeks", spec := "txnPeeks", unfollowed := true, recurses := true, apart := false }
def TxnPeeksSaid : Prop := txnPeeksRow.holds Tryz.pinned (OpenSpec.ofChange txnPeeksSpec)

/-- ITS FALSE NEIGHBOUR: 'it returns false'. Refute it at one input. -/
def txnPeeksWrong : ChangeSpec := { name := "txnPeeks", fn := fun _ => fun
  | [d1, d2, d3] => { results := [.lit (.bool false)], args := [d1, d2, d3] }
  | _ => none }
def TxnPeeksWrongFalsely : Prop := txnPeeksRow.holds Tryz.pinned (OpenSpec.ofChange txnPeeksWrong)

/-- 'ladinglaw10.TxnNil': WHATEVER THE INPUT: true; the input reads as it did. -/
def txnNilSpec : ChangeSpec := { name := "txnNil", fn := fun _ => fun
  | [d] => { results := [.lit (.bool true)], args := [d] }
  | _ => none }
def txnNilRow : OpenClaim := { program := "ytealcoghiaeiiaagreat", sum := "de466c020f87d8b8e4e7c5fba4e368db20ddcb76090f993189903c08f9e3bfa9", func := "lading/ladinglaw10.TxnNil", spec := "txnNil", unfollowed := true, recurses := true, apart := false }
def TxnNilSaid : Prop := txnNilRow.holds Tryz.pinned (OpenSpec.ofChange txnNilSpec)

/-- ITS FALSE NEIGHBOUR: 'it returns false'. Refute it at one input. -/
def txnNilWrong : ChangeSpec := { name := "txnNil", fn := fun _ => fun
  | [d] => { results := [.lit (.bool false)], args := [d] }
  | _ => none }
def TxnNilWrongFalsely : Prop := txnNilRow.holds Tryz.pinned (OpenSpec.ofChange txnNilWrong)

/- THE SECOND FORM. 'bulk': how many values and letters a reading holds, each counted each time it is reached (what is shared counts as often as it is met; a slice's spare places count too). A statement '..UptoSaid' is the law's where the arguments, and the package variables that the reading takes, are together of bulk at most 1048576: NARROWER than '..Said'. Prove '..Said' where nothing that the law and all that it calls make is longer than what came in: it says more and counts as full. Else prove '..UptoSaid'. A law counts once. -/
mutual
def uptoBulk {H : Type} : DataW H → Nat
  | .lit (.string bytes) => bytes.length + 1
  | .lit _ => 1
  | .nil => 1
  | .ptr d => uptoBulk d + 1
  | .slice elems spare => uptoBulkAll elems + uptoBulkAll spare + 1
  | .agg parts => uptoBulkAll parts + 1
  | .iface _ d => uptoBulk d + 1
  | .map entries => uptoBulkEntries entries + 1
  | .held _ => 1
def uptoBulkAll {H : Type} : List (DataW H) → Nat
  | [] => 0
  | d :: r => uptoBulk d + uptoBulkAll r
def uptoBulkEntries {H : Type} : List (Lit × DataW H) → Nat
  | [] => 0
  | x :: r => uptoBulkEntry x + uptoBulkEntries r
def uptoBulkEntry {H : Type} : Lit × DataW H → Nat
  | (.string bytes, d) => bytes.length + uptoBulk d + 1
  | (_, d) => uptoBulk d + 1
 end
def uptoSmall : (H : Type) → List (DataW H) → Bool := fun _ ds => decide (uptoBulkAll ds ≤ 1048576)
def OpenSpec.upto (s : _root_.Go.ChangeSpec) : _root_.Go.OpenSpec := { _root_.Go.OpenSpec.ofChange s with cond := some uptoSmall }

/-- 'ladinglaw10.TxnBlind', WHERE WHAT IT READS IS OF BULK AT MOST 1048576: true; the input reads as it did. -/
def txnBlindUptoRow : OpenClaim := { program := "ytealcoghiaeiiaagreat", sum := "de466c020f87d8b8e4e7c5fba4e368db20ddcb76090f993189903c08f9e3bfa9", func := "lading/ladinglaw10.TxnBlind", spec := "txnBlind", unfollowed := true, recurses := true, apart := false, narrowed := true }
def TxnBlindUptoSaid : Prop := txnBlindUptoRow.holds Tryz.pinned (OpenSpec.upto txnBlindSpec)

/-- 'ladinglaw10.TxnSerial', WHERE WHAT IT READS IS OF BULK AT MOST 1048576: true; the input reads as it did. -/
def txnSerialUptoRow : OpenClaim := { program := "ytealcoghiaeiiaagreat", sum := "de466c020f87d8b8e4e7c5fba4e368db20ddcb76090f993189903c08f9e3bfa9", func := "lading/ladinglaw10.TxnSerial", spec := "txnSerial", unfollowed := true, recurses := true, apart := false, narrowed := true }
def TxnSerialUptoSaid : Prop := txnSerialUptoRow.holds Tryz.pinned (OpenSpec.upto txnSerialSpec)

/-- 'ladinglaw10.TxnAlone', WHERE WHAT IT READS IS OF BULK AT MOST 1048576: true; the input reads as it did. -/
def txnAloneUptoRow : OpenClaim := { program := "ytealcoghiaeiiaagreat", sum := "de466c020f87d8b8e4e7c5fba4e368db20ddcb76090f993189903c08f9e3bfa9", func := "lading/ladinglaw10.TxnAlone", spec := "txnAlone", unfollowed := true, recurses := true, apart := false, narrowed := true }
def TxnAloneUptoSaid : Prop := txnAloneUptoRow.holds Tryz.pinned (OpenSpec.upto txnAloneSpec)

/-- 'ladinglaw10.TxnApart', WHERE WHAT IT READS IS OF BULK AT MOST 1048576: true; the input reads as it did. -/
def txnApartUptoRow : OpenClaim := { program := "ytealcoghiaeiiaagreat", sum := "de466c020f87d8b8e4e7c5fba4e368db20ddcb76090f993189903c08f9e3bfa9", func := "lading/ladinglaw10.TxnApart", spec := "txnApart", unfollowed := true, recurses := true, apart := false, narrowed := true }
def TxnApartUptoSaid : Prop := txnApartUptoRow.holds Tryz.pinned (OpenSpec.upto txnApartSpec)

/-- 'ladinglaw10.TxnCalls', WHERE WHAT IT READS IS OF BULK AT MOST 1048576: true; the input reads as it did. -/
def txnCallsUptoRow : OpenClaim := { program := "ytealcoghiaeiiaagreat", sum := "de466c020f87d8b8e4e7c5fba4e368db20ddcb76090f993189903c08f9e3bfa9", func := "lading/ladinglaw10.TxnCalls", spec := "txnCalls", unfollowed := true, recurses := true, apart := false, narrowed := true }
def TxnCallsUptoSaid : Prop := txnCallsUptoRow.holds Tryz.pinned (OpenSpec.upto txnCallsSpec)

/-- 'ladinglaw10.TxnPeeks', WHERE WHAT IT READS IS OF BULK AT MOST 1048576: true; the input reads as it did. -/
def txnPeeksUptoRow : OpenClaim := { program := "ytealcoghiaeiiaagreat", sum := "de466c020f87d8b8e4e7c5fba4e368db20ddcb76090f993189903c08f9e3bfa9", func := "lading/ladinglaw10.TxnPeeks", spec := "txnPeeks", unfollowed := true, recurses := true, apart := false, narrowed := true }
def TxnPeeksUptoSaid : Prop := txnPeeksUptoRow.holds Tryz.pinned (OpenSpec.upto txnPeeksSpec)

/-- 'ladinglaw10.TxnNil', WHERE WHAT IT READS IS OF BULK AT MOST 1048576: true; the input reads as it did. -/
def txnNilUptoRow : OpenClaim := { program := "ytealcoghiaeiiaagreat", sum := "de466c020f87d8b8e4e7c5fba4e368db20ddcb76090f993189903c08f9e3bfa9", func := "lading/ladinglaw10.TxnNil", spec := "txnNil", unfollowed := true, recurses := true, apart := false, narrowed := true }
def TxnNilUptoSaid : Prop := txnNilUptoRow.holds Tryz.pinned (OpenSpec.upto txnNilSpec)

end Rows
end Go.Proofs.YtealcoghiaeiiaaGreat
