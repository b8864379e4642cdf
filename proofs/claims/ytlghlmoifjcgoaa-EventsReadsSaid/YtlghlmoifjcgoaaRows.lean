/-
  No cell of these rows narrows 'for every input' (looked for: loops, veiled, ifaces, maps, wideKeys, modest, calm, conditions, laid).
  DERIVED. THE GIVEN ROWS OF THIS SEAT. 7 by the template 'for every input the law returns true; each argument reads behind the call as it read before'; 0 by the template 'total and deterministic' (their statements: YtlghlmoifjcgoaaTotals.lean).
  GIVEN WITH THE SEED: the statements are not yours to turn. If you find one false, say at which input.
  Laid BY PROGRAM, IN A SANDBOX (cutbox-rows.mjs): the forced cells as the released guide's own fill.sh prints them over the translation bfa4f829139bc0dc… (all of the seat's roots in one cut). By AI agents, Wed Nov 11 2026. No macro, syntax, notation, axiom, sorry.
-/
import Derived.Test.YtlghlmoifjcgoaaChecked
import GoSem.Claim
import GoSem.ClaimJoined
import GoSem.ClaimMapViews
import Derived.JoinedTies
import Derived.KernelRfl
namespace Go.Proofs.Ytlghlmoifjcgoaa
/- THE CELL 'sum', in the pinned program and in every row, IS THE sha256 OF THE DUMP (.gsa) THAT YtlghlmoifjcgoaaProg.lean LOADS. Nothing in Lean hashes anything: it is a label: what it is worth is what the hold of that sum in a sandbox is worth. -/
noncomputable def Try.pinned : Pinned := { name := "ytlghlmoifjcgoaa", sum := "bfa4f829139bc0dc89d090bf128e995a6b681a1b55880e973e43439c3e1bb2aa", checked := Try.checked }
namespace Rows
def none {H : Type} : Left H := { results := [], args := [] }

/-- 'ladinglaw12.EventsAppends': WHATEVER THE INPUT: true; the input reads as it did. -/
def eventsAppendsSpec : ChangeSpec := { name := "eventsAppends", fn := fun _ => fun
  | [d1, d2, d3, d4, d5] => { results := [.lit (.bool true)], args := [d1, d2, d3, d4, d5] }
  | _ => none }
def eventsAppendsRow : OpenClaim := { program := "ytlghlmoifjcgoaa", sum := "bfa4f829139bc0dc89d090bf128e995a6b681a1b55880e973e43439c3e1bb2aa", func := "lading/ladinglaw12.EventsAppends", spec := "eventsAppends", unfollowed := true, recurses := true, plainKeys := false, apart := false }
def EventsAppendsSaid : Prop := eventsAppendsRow.holds Try.pinned (OpenSpec.ofChange eventsAppendsSpec)

/-- ITS FALSE NEIGHBOUR: 'it returns false'. Refute it at one input. -/
def eventsAppendsWrong : ChangeSpec := { name := "eventsAppends", fn := fun _ => fun
  | [d1, d2, d3, d4, d5] => { results := [.lit (.bool false)], args := [d1, d2, d3, d4, d5] }
  | _ => none }
def EventsAppendsWrongFalsely : Prop := eventsAppendsRow.holds Try.pinned (OpenSpec.ofChange eventsAppendsWrong)

/-- 'ladinglaw12.EventsKept': WHATEVER THE INPUT: true; the input reads as it did. -/
def eventsKeptSpec : ChangeSpec := { name := "eventsKept", fn := fun _ => fun
  | [d1, d2, d3, d4, d5] => { results := [.lit (.bool true)], args := [d1, d2, d3, d4, d5] }
  | _ => none }
def eventsKeptRow : OpenClaim := { program := "ytlghlmoifjcgoaa", sum := "bfa4f829139bc0dc89d090bf128e995a6b681a1b55880e973e43439c3e1bb2aa", func := "lading/ladinglaw12.EventsKept", spec := "eventsKept", unfollowed := true, recurses := true, plainKeys := false, apart := false }
def EventsKeptSaid : Prop := eventsKeptRow.holds Try.pinned (OpenSpec.ofChange eventsKeptSpec)

/-- ITS FALSE NEIGHBOUR: 'it returns false'. Refute it at one input. -/
def eventsKeptWrong : ChangeSpec := { name := "eventsKept", fn := fun _ => fun
  | [d1, d2, d3, d4, d5] => { results := [.lit (.bool false)], args := [d1, d2, d3, d4, d5] }
  | _ => none }
def EventsKeptWrongFalsely : Prop := eventsKeptRow.holds Try.pinned (OpenSpec.ofChange eventsKeptWrong)

/-- 'ladinglaw12.EventsParts': WHATEVER THE INPUT: true; the input reads as it did. -/
def eventsPartsSpec : ChangeSpec := { name := "eventsParts", fn := fun _ => fun
  | [d1, d2, d3, d4] => { results := [.lit (.bool true)], args := [d1, d2, d3, d4] }
  | _ => none }
def eventsPartsRow : OpenClaim := { program := "ytlghlmoifjcgoaa", sum := "bfa4f829139bc0dc89d090bf128e995a6b681a1b55880e973e43439c3e1bb2aa", func := "lading/ladinglaw12.EventsParts", spec := "eventsParts", unfollowed := true, recurses := true, plainKeys := false, apart := false }
def EventsPartsSaid : Prop := eventsPartsRow.holds Try.pinned (OpenSpec.ofChange eventsPartsSpec)

/-- ITS FALSE NEIGHBOUR: 'it returns false'. Refute it at one input. -/
def eventsPartsWrong : ChangeSpec := { name := "eventsParts", fn := fun _ => fun
  | [d1, d2, d3, d4] => { results := [.lit (.bool false)], args := [d1, d2, d3, d4] }
  | _ => none }
def EventsPartsWrongFalsely : Prop := eventsPartsRow.holds Try.pinned (OpenSpec.ofChange eventsPartsWrong)

/-- 'ladinglaw12.EventsPages': WHATEVER THE INPUT: true; the input reads as it did. -/
def eventsPagesSpec : ChangeSpec := { name := "eventsPages", fn := fun _ => fun
  | [d1, d2, d3] => { results := [.lit (.bool true)], args := [d1, d2, d3] }
  | _ => none }
def eventsPagesRow : OpenClaim := { program := "ytlghlmoifjcgoaa", sum := "bfa4f829139bc0dc89d090bf128e995a6b681a1b55880e973e43439c3e1bb2aa", func := "lading/ladinglaw12.EventsPages", spec := "eventsPages", unfollowed := true, recurses := true, plainKeys := false, apart := false }
def EventsPagesSaid : Prop := eventsPagesRow.holds Try.pinned (OpenSpec.ofChange eventsPagesSpec)

/-- ITS FALSE NEIGHBOUR: 'it returns false'. Refute it at one input. -/
def eventsPagesWrong : ChangeSpec := { name := "eventsPages", fn := fun _ => fun
  | [d1, d2, d3] => { results := [.lit (.bool false)], args := [d1, d2, d3] }
  | _ => none }
def EventsPagesWrongFalsely : Prop := eventsPagesRow.holds Try.pinned (OpenSpec.ofChange eventsPagesWrong)

/-- 'ladinglaw12.EventsMarks': WHATEVER THE INPUT: true; the input reads as it did. -/
def eventsMarksSpec : ChangeSpec := { name := "eventsMarks", fn := fun _ => fun
  | [d1, d2, d3] => { results := [.lit (.bool true)], args := [d1, d2, d3] }
  | _ => none }
def eventsMarksRow : OpenClaim := { program := "ytlghlmoifjcgoaa", sum := "bfa4f829139bc0dc89d090bf128e995a6b681a1b55880e973e43439c3e1bb2aa", func := "lading/ladinglaw12.EventsMarks", spec := "eventsMarks", unfollowed := true, recurses := true, plainKeys := false, apart := false }
def EventsMarksSaid : Prop := eventsMarksRow.holds Try.pinned (OpenSpec.ofChange eventsMarksSpec)

/-- ITS FALSE NEIGHBOUR: 'it returns false'. Refute it at one input. -/
def eventsMarksWrong : ChangeSpec := { name := "eventsMarks", fn := fun _ => fun
  | [d1, d2, d3] => { results := [.lit (.bool false)], args := [d1, d2, d3] }
  | _ => none }
def EventsMarksWrongFalsely : Prop := eventsMarksRow.holds Try.pinned (OpenSpec.ofChange eventsMarksWrong)

/-- 'ladinglaw12.EventsApart': WHATEVER THE INPUT: true; the input reads as it did. -/
def eventsApartSpec : ChangeSpec := { name := "eventsApart", fn := fun _ => fun
  | [d1, d2, d3, d4] => { results := [.lit (.bool true)], args := [d1, d2, d3, d4] }
  | _ => none }
def eventsApartRow : OpenClaim := { program := "ytlghlmoifjcgoaa", sum := "bfa4f829139bc0dc89d090bf128e995a6b681a1b55880e973e43439c3e1bb2aa", func := "lading/ladinglaw12.EventsApart", spec := "eventsApart", unfollowed := true, recurses := true, plainKeys := false, apart := false }
def EventsApartSaid : Prop := eventsApartRow.holds Try.pinned (OpenSpec.ofChange eventsApartSpec)

/-- ITS FALSE NEIGHBOUR: 'it returns false'. Refute it at one input. -/
def eventsApartWrong : ChangeSpec := { name := "eventsApart", fn := fun _ => fun
  | [d1, d2, d3, d4] => { results := [.lit (.bool false)], args := [d1, d2, d3, d4] }
  | _ => none }
def EventsApartWrongFalsely : Prop := eventsApartRow.holds Try.pinned (OpenSpec.ofChange eventsApartWrong)

/-- 'ladinglaw12.EventsReads': WHATEVER THE INPUT: true; the input reads as it did. -/
def eventsReadsSpec : ChangeSpec := { name := "eventsReads", fn := fun _ => fun
  | [d1, d2, d3, d4, d5] => { results := [.lit (.bool true)], args := [d1, d2, d3, d4, d5] }
  | _ => none }
def eventsReadsRow : OpenClaim := { program := "ytlghlmoifjcgoaa", sum := "bfa4f829139bc0dc89d090bf128e995a6b681a1b55880e973e43439c3e1bb2aa", func := "lading/ladinglaw12.EventsReads", spec := "eventsReads", unfollowed := true, recurses := true, plainKeys := false, apart := false }
def EventsReadsSaid : Prop := eventsReadsRow.holds Try.pinned (OpenSpec.ofChange eventsReadsSpec)

/-- ITS FALSE NEIGHBOUR: 'it returns false'. Refute it at one input. -/
def eventsReadsWrong : ChangeSpec := { name := "eventsReads", fn := fun _ => fun
  | [d1, d2, d3, d4, d5] => { results := [.lit (.bool false)], args := [d1, d2, d3, d4, d5] }
  | _ => none }
def EventsReadsWrongFalsely : Prop := eventsReadsRow.holds Try.pinned (OpenSpec.ofChange eventsReadsWrong)

/- THE SECOND FORM. 'bulk': how many values and letters a reading holds, each counted each time it is reached (what is shared counts as often as it is met; a slice's spare places count too). A statement '..UptoSaid' is the law's where the arguments, and the package variables that the reading takes, are together of bulk at most 1048576: NARROWER than '..Said'. Prove '..Said' where nothing that the law and all that it calls make is longer than what came in: it says more and counts as full. Else prove '..UptoSaid'. A law counts once. -/
mutual
def uptoBulk {H : Type} : DataW H → Nat
  | .lit (.string bytes) => bytes.length + 1
  | .lit _ => 1
  | .nil => 1
  | .ptr d => uptoBulk d + 1
  | .slice elems spare => uptoBulkAll elems + uptoBulkAll spare + 1
  | .agg parts => uptoBulkAll parts + 1
  | .iface _ d => uptoBulk d + 1
  | .map entries => uptoBulkEntries entries + 1
  | .held _ => 1
def uptoBulkAll {H : Type} : List (DataW H) → Nat
  | [] => 0
  | d :: r => uptoBulk d + uptoBulkAll r
def uptoBulkEntries {H : Type} : List (Lit × DataW H) → Nat
  | [] => 0
  | x :: r => uptoBulkEntry x + uptoBulkEntries r
def uptoBulkEntry {H : Type} : Lit × DataW H → Nat
  | (.string bytes, d) => bytes.length + uptoBulk d + 1
  | (_, d) => uptoBulk d + 1
 end
def uptoSmall : (H : Type) → List (DataW H) → Bool := fun _ ds => decide (uptoBulkAll ds ≤ 1048576)
def OpenSpec.upto (s : _root_.Go.ChangeSpec) : _root_.Go.OpenSpec := { _root_.Go.OpenSpec.ofChange s with cond := some uptoSmall }

/-- 'ladinglaw12.EventsAppends', WHERE WHAT IT READS IS OF BULK AT MOST 1048576: true; the input reads as it did. -/
def eventsAppendsUptoRow : OpenClaim := { program := "ytlghlmoifjcgoaa", sum := "bfa4f829139bc0dc89d090bf128e995a6b681a1b55880e973e43439c3e1bb2aa", func := "lading/ladinglaw12.EventsAppends", spec := "eventsAppends", unfollowed := true, recurses := true, plainKeys := false, apart := false, narrowed := true }
def EventsAppendsUptoSaid : Prop := eventsAppendsUptoRow.holds Try.pinned (OpenSpec.upto eventsAppendsSpec)

/-- 'ladinglaw12.EventsKept', WHERE WHAT IT READS IS OF BULK AT MOST 1048576: true; the input reads as it did. -/
def eventsKeptUptoRow : OpenClaim := { program := "ytlghlmoifjcgoaa", sum := "bfa4f829139bc0dc89d090bf128e995a6b681a1b55880e973e43439c3e1bb2aa", func := "lading/ladinglaw12.EventsKept", spec := "eventsKept", unfollowed := true, recurses := true, plainKeys := false, apart := false, narrowed := true }
def EventsKeptUptoSaid : Prop := eventsKeptUptoRow.holds Try.pinned (OpenSpec.upto eventsKeptSpec)

/-- 'ladinglaw12.EventsParts', WHERE WHAT IT READS IS OF BULK AT MOST 1048576: true; the input reads as it did. -/
def eventsPartsUptoRow : OpenClaim := { program := "ytlghlmoifjcgoaa", sum := "bfa4f829139bc0dc89d090bf128e995a6b681a1b55880e973e43439c3e1bb2aa", func := "lading/ladinglaw12.EventsParts", spec := "eventsParts", unfollowed := true, recurses := true, plainKeys := false, apart := false, narrowed := true }
def EventsPartsUptoSaid : Prop := eventsPartsUptoRow.holds Try.pinned (OpenSpec.upto eventsPartsSpec)

/-- 'ladinglaw12.EventsPages', WHERE WHAT IT READS IS OF BULK AT MOST 1048576: true; the input reads as it did. -/
def eventsPagesUptoRow : OpenClaim := { program := "ytlghlmoifjcgoaa", sum := "bfa4f829139bc0dc89d090bf128e995a6b681a1b55880e973e43439c3e1bb2aa", func := "lading/ladinglaw12.EventsPages", spec := "eventsPages", unfollowed := true, recurses := true, plainKeys := false, apart := false, narrowed := true }
def EventsPagesUptoSaid : Prop := eventsPagesUptoRow.holds Try.pinned (OpenSpec.upto eventsPagesSpec)

/-- 'ladinglaw12.EventsMarks', WHERE WHAT IT READS IS OF BULK AT MOST 1048576: true; the input reads as it did. -/
def eventsMarksUptoRow : OpenClaim := { program := "ytlghlmoifjcgoaa", sum := "bfa4f829139bc0dc89d090bf128e995a6b681a1b55880e973e43439c3e1bb2aa", func := "lading/ladinglaw12.EventsMarks", spec := "eventsMarks", unfollowed := true, recurses := true, plainKeys := false, apart := false, narrowed := true }
def EventsMarksUptoSaid : Prop := eventsMarksUptoRow.holds Try.pinned (OpenSpec.upto eventsMarksSpec)

/-- 'ladinglaw12.EventsApart', WHERE WHAT IT READS IS OF BULK AT MOST 1048576: true; the input reads as it did. -/
def eventsApartUptoRow : OpenClaim := { program := "ytlghlmoifjcgoaa", sum := "bfa4f829139bc0dc89d090bf128e995a6b681a1b55880e973e43439c3e1bb2aa", func := "lading/ladinglaw12.EventsApart", spec := "eventsApart", unfollowed := true, recurses := true, plainKeys := false, apart := false, narrowed := true }
def EventsApartUptoSaid : Prop := eventsApartUptoRow.holds Try.pinned (OpenSpec.upto eventsApartSpec)

/-- 'ladinglaw12.EventsReads', WHERE WHAT IT READS IS OF BULK AT MOST 1048576: true; the input reads as it did. -/
def eventsReadsUptoRow : OpenClaim := { program := "ytlghlmoifjcgoaa", sum := "bfa4f829139bc0dc89d090bf128e995a6b681a1b55880e973e43439c3e1bb2aa", func := "lading/ladinglaw12.EventsReads", spec := "eventsReads", unfollowed := true, recurses := true, plainKeys := false, apart := false, narrowed := true }
def EventsReadsUptoSaid : Prop := eventsReadsUptoRow.holds Try.pinned (OpenSpec.upto eventsReadsSpec)

end Rows
end Go.Proofs.Ytlghlmoifjcgoaa
