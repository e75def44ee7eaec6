/-
  No cell of these rows narrows 'for every input' (looked for: loops, veiled, ifaces, maps, wideKeys, modest, calm, conditions, laid).
  DERIVED. THE GIVEN ROWS OF THIS SEAT. 5 by the template 'for every input the law returns true; each argument reads behind the call as it read before'; 0 by the template 'total and deterministic' (their statements: YtfdfbpaibdgidaaTotals.lean).
  GIVEN WITH THE SEED: the statements are not yours to turn. If you find one false, say at which input.
  Laid BY PROGRAM, IN A SANDBOX (cutbox-rows.mjs): the forced cells as the released guide's own fill.sh prints them over the translation 31dda25b01fc1ad1… (all of the seat's roots in one cut). By AI agents, Wed Nov 11 2026. No macro, syntax, notation, axiom, sorry.
-/
import Derived.Test.YtfdfbpaibdgidaaChecked
import GoSem.Claim
import GoSem.ClaimJoined
import GoSem.ClaimMapViews
import Derived.JoinedTies
import Derived.KernelRfl
namespace Go.Proofs.Ytfdfbpaibdgidaa
/- THE CELL 'sum', in the pinned program and in every row, IS THE sha256 OF THE DUMP (.gsa) THAT YtfdfbpaibdgidaaProg.lean LOADS. Nothing in Lean hashes anything: it is a label: what it is worth is what the hold of that sum in a sandbox is worth. -/
noncomputable def Try.pinned : Pinned := { name := "ytfdfbpaibdgidaa", sum := "31dda25b01fc1ad1cb640323e50b51a1cd974f1af3c8d566892852e72c56565b", checked := Try.checked }
namespace Rows
def none {H : Type} : Left H := { results := [], args := [] }

/-- 'laws.FnVarFrom': WHATEVER THE INPUT: true; the input reads as it did. -/
def fnVarFromSpec : ChangeSpec := { name := "fnVarFrom", fn := fun _ => fun
  | [d] => { results := [.lit (.bool true)], args := [d] }
  | _ => none }
def fnVarFromRow : OpenClaim := { program := "ytfdfbpaibdgidaa", sum := "31dda25b01fc1ad1cb640323e50b51a1cd974f1af3c8d566892852e72c56565b", func := "loop.example/recordbatches/laws.FnVarFrom", spec := "fnVarFrom", apart := false }
def FnVarFromSaid : Prop := fnVarFromRow.holds Try.pinned (OpenSpec.ofChange fnVarFromSpec)

/-- ITS FALSE NEIGHBOUR: 'it returns false'. Refute it at one input. -/
def fnVarFromWrong : ChangeSpec := { name := "fnVarFrom", fn := fun _ => fun
  | [d] => { results := [.lit (.bool false)], args := [d] }
  | _ => none }
def FnVarFromWrongFalsely : Prop := fnVarFromRow.holds Try.pinned (OpenSpec.ofChange fnVarFromWrong)

/-- 'laws.FnExactRecordBytes': WHATEVER THE INPUT: true; the input reads as it did. -/
def fnExactRecordBytesSpec : ChangeSpec := { name := "fnExactRecordBytes", fn := fun _ => fun
  | [d1, d2, d3] => { results := [.lit (.bool true)], args := [d1, d2, d3] }
  | _ => none }
def fnExactRecordBytesRow : OpenClaim := { program := "ytfdfbpaibdgidaa", sum := "31dda25b01fc1ad1cb640323e50b51a1cd974f1af3c8d566892852e72c56565b", func := "loop.example/recordbatches/laws.FnExactRecordBytes", spec := "fnExactRecordBytes", apart := false }
def FnExactRecordBytesSaid : Prop := fnExactRecordBytesRow.holds Try.pinned (OpenSpec.ofChange fnExactRecordBytesSpec)

/-- ITS FALSE NEIGHBOUR: 'it returns false'. Refute it at one input. -/
def fnExactRecordBytesWrong : ChangeSpec := { name := "fnExactRecordBytes", fn := fun _ => fun
  | [d1, d2, d3] => { results := [.lit (.bool false)], args := [d1, d2, d3] }
  | _ => none }
def FnExactRecordBytesWrongFalsely : Prop := fnExactRecordBytesRow.holds Try.pinned (OpenSpec.ofChange fnExactRecordBytesWrong)

/-- 'laws.FnExactBatchValid': WHATEVER THE INPUT: true; the input reads as it did. -/
def fnExactBatchValidSpec : ChangeSpec := { name := "fnExactBatchValid", fn := fun _ => fun
  | [d] => { results := [.lit (.bool true)], args := [d] }
  | _ => none }
def fnExactBatchValidRow : OpenClaim := { program := "ytfdfbpaibdgidaa", sum := "31dda25b01fc1ad1cb640323e50b51a1cd974f1af3c8d566892852e72c56565b", func := "loop.example/recordbatches/laws.FnExactBatchValid", spec := "fnExactBatchValid", apart := false }
def FnExactBatchValidSaid : Prop := fnExactBatchValidRow.holds Try.pinned (OpenSpec.ofChange fnExactBatchValidSpec)

/-- ITS FALSE NEIGHBOUR: 'it returns false'. Refute it at one input. -/
def fnExactBatchValidWrong : ChangeSpec := { name := "fnExactBatchValid", fn := fun _ => fun
  | [d] => { results := [.lit (.bool false)], args := [d] }
  | _ => none }
def FnExactBatchValidWrongFalsely : Prop := fnExactBatchValidRow.holds Try.pinned (OpenSpec.ofChange fnExactBatchValidWrong)

/-- 'laws.FnRecordLength': WHATEVER THE INPUT: true; the input reads as it did. -/
def fnRecordLengthSpec : ChangeSpec := { name := "fnRecordLength", fn := fun _ => fun
  | [d] => { results := [.lit (.bool true)], args := [d] }
  | _ => none }
def fnRecordLengthRow : OpenClaim := { program := "ytfdfbpaibdgidaa", sum := "31dda25b01fc1ad1cb640323e50b51a1cd974f1af3c8d566892852e72c56565b", func := "loop.example/recordbatches/laws.FnRecordLength", spec := "fnRecordLength", apart := false }
def FnRecordLengthSaid : Prop := fnRecordLengthRow.holds Try.pinned (OpenSpec.ofChange fnRecordLengthSpec)

/-- ITS FALSE NEIGHBOUR: 'it returns false'. Refute it at one input. -/
def fnRecordLengthWrong : ChangeSpec := { name := "fnRecordLength", fn := fun _ => fun
  | [d] => { results := [.lit (.bool false)], args := [d] }
  | _ => none }
def FnRecordLengthWrongFalsely : Prop := fnRecordLengthRow.holds Try.pinned (OpenSpec.ofChange fnRecordLengthWrong)

/-- 'laws.FnExactBatchSpan': WHATEVER THE INPUT: true; the input reads as it did. -/
def fnExactBatchSpanSpec : ChangeSpec := { name := "fnExactBatchSpan", fn := fun _ => fun
  | [d] => { results := [.lit (.bool true)], args := [d] }
  | _ => none }
def fnExactBatchSpanRow : OpenClaim := { program := "ytfdfbpaibdgidaa", sum := "31dda25b01fc1ad1cb640323e50b51a1cd974f1af3c8d566892852e72c56565b", func := "loop.example/recordbatches/laws.FnExactBatchSpan", spec := "fnExactBatchSpan", apart := false }
def FnExactBatchSpanSaid : Prop := fnExactBatchSpanRow.holds Try.pinned (OpenSpec.ofChange fnExactBatchSpanSpec)

/-- ITS FALSE NEIGHBOUR: 'it returns false'. Refute it at one input. -/
def fnExactBatchSpanWrong : ChangeSpec := { name := "fnExactBatchSpan", fn := fun _ => fun
  | [d] => { results := [.lit (.bool false)], args := [d] }
  | _ => none }
def FnExactBatchSpanWrongFalsely : Prop := fnExactBatchSpanRow.holds Try.pinned (OpenSpec.ofChange fnExactBatchSpanWrong)

/- THE SECOND FORM. 'bulk': how many values and letters a reading holds, each counted each time it is reached (what is shared counts as often as it is met; a slice's spare places count too). A statement '..UptoSaid' is the law's where the arguments, and the package variables that the reading takes, are together of bulk at most 1048576: NARROWER than '..Said'. Prove '..Said' where nothing that the law and all that it calls make is longer than what came in: it says more and counts as full. Else prove '..UptoSaid'. A law counts once. -/
mutual
def uptoBulk {H : Type} : DataW H → Nat
  | .lit (.string bytes) => bytes.length + 1
  | .lit _ => 1
  | .nil => 1
  | .ptr d => uptoBulk d + 1
  | .slice elems spare => uptoBulkAll elems + uptoBulkAll spare + 1
  | .agg parts => uptoBulkAll parts + 1
  | .iface _ d => uptoBulk d + 1
  | .map entries => uptoBulkEntries entries + 1
  | .held _ => 1
def uptoBulkAll {H : Type} : List (DataW H) → Nat
  | [] => 0
  | d :: r => uptoBulk d + uptoBulkAll r
def uptoBulkEntries {H : Type} : List (Lit × DataW H) → Nat
  | [] => 0
  | x :: r => uptoBulkEntry x + uptoBulkEntries r
def uptoBulkEntry {H : Type} : Lit × DataW H → Nat
  | (.string bytes, d) => bytes.length + uptoBulk d + 1
  | (_, d) => uptoBulk d + 1
 end
def uptoSmall : (H : Type) → List (DataW H) → Bool := fun _ ds => decide (uptoBulkAll ds ≤ 1048576)
def OpenSpec.upto (s : _root_.Go.ChangeSpec) : _root_.Go.OpenSpec := { _root_.Go.OpenSpec.ofChange s with cond := some uptoSmall }

/-- 'laws.FnVarFrom', WHERE WHAT IT READS IS OF BULK AT MOST 1048576: true; the input reads as it did. -/
def fnVarFromUptoRow : OpenClaim := { program := "ytfdfbpaibdgidaa", sum := "31dda25b01fc1ad1cb640323e50b51a1cd974f1af3c8d566892852e72c56565b", func := "loop.example/recordbatches/laws.FnVarFrom", spec := "fnVarFrom", apart := false, narrowed := true }
def FnVarFromUptoSaid : Prop := fnVarFromUptoRow.holds Try.pinned (OpenSpec.upto fnVarFromSpec)

/-- 'laws.FnExactRecordBytes', WHERE WHAT IT READS IS OF BULK AT MOST 1048576: true; the input reads as it did. -/
def fnExactRecordBytesUptoRow : OpenClaim := { program := "ytfdfbpaibdgidaa", sum := "31dda25b01fc1ad1cb640323e50b51a1cd974f1af3c8d566892852e72c56565b", func := "loop.example/recordbatches/laws.FnExactRecordBytes", spec := "fnExactRecordBytes", apart := false, narrowed := true }
def FnExactRecordBytesUptoSaid : Prop := fnExactRecordBytesUptoRow.holds Try.pinned (OpenSpec.upto fnExactRecordBytesSpec)

/-- 'laws.FnExactBatchValid', WHERE WHAT IT READS IS OF BULK AT MOST 1048576: true; the input reads as it did. -/
def fnExactBatchValidUptoRow : OpenClaim := { program := "ytfdfbpaibdgidaa", sum := "31dda25b01fc1ad1cb640323e50b51a1cd974f1af3c8d566892852e72c56565b", func := "loop.example/recordbatches/laws.FnExactBatchValid", spec := "fnExactBatchValid", apart := false, narrowed := true }
def FnExactBatchValidUptoSaid : Prop := fnExactBatchValidUptoRow.holds Try.pinned (OpenSpec.upto fnExactBatchValidSpec)

/-- 'laws.FnRecordLength', WHERE WHAT IT READS IS OF BULK AT MOST 1048576: true; the input reads as it did. -/
def fnRecordLengthUptoRow : OpenClaim := { program := "ytfdfbpaibdgidaa", sum := "31dda25b01fc1ad1cb640323e50b51a1cd974f1af3c8d566892852e72c56565b", func := "loop.example/recordbatches/laws.FnRecordLength", spec := "fnRecordLength", apart := false, narrowed := true }
def FnRecordLengthUptoSaid : Prop := fnRecordLengthUptoRow.holds Try.pinned (OpenSpec.upto fnRecordLengthSpec)

/-- 'laws.FnExactBatchSpan', WHERE WHAT IT READS IS OF BULK AT MOST 1048576: true; the input reads as it did. -/
def fnExactBatchSpanUptoRow : OpenClaim := { program := "ytfdfbpaibdgidaa", sum := "31dda25b01fc1ad1cb640323e50b51a1cd974f1af3c8d566892852e72c56565b", func := "loop.example/recordbatches/laws.FnExactBatchSpan", spec := "fnExactBatchSpan", apart := false, narrowed := true }
def FnExactBatchSpanUptoSaid : Prop := fnExactBatchSpanUptoRow.holds Try.pinned (OpenSpec.upto fnExactBatchSpanSpec)

end Rows
end Go.Proofs.Ytfdfbpaibdgidaa
