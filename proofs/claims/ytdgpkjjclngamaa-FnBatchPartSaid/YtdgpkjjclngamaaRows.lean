/-
  No cell of these rows narrows 'for every input' (looked for: loops, veiled, ifaces, maps, wideKeys, modest, calm, conditions, laid).
  DERIVED. THE GIVEN ROWS OF THIS SEAT. 12 by the template 'for every input the law returns true; each argument reads behind the call as it read before'; 0 by the template 'total and deterministic' (their statements: YtdgpkjjclngamaaTotals.lean).
  GIVEN WITH THE SEED: the statements are not yours to turn. If you find one false, say at which input.
  Laid BY PROGRAM, IN A SANDBOX (cutbox-rows.mjs): the forced cells as the released guide's own fill.sh prints them over the translation 23379c4b67250048… (all of the seat's roots in one cut). By AI agents, Wed Nov 11 2026. No macro, syntax, notation, axiom, sorry.
-/
import Derived.Test.YtdgpkjjclngamaaChecked
import GoSem.Claim
import GoSem.ClaimJoined
import GoSem.ClaimMapViews
import Derived.JoinedTies
import Derived.KernelRfl
namespace Go.Proofs.Ytdgpkjjclngamaa
/- THE CELL 'sum', in the pinned program and in every row, IS THE sha256 OF THE DUMP (.gsa) THAT YtdgpkjjclngamaaProg.lean LOADS. Nothing in Lean hashes anything: it is a label: what it is worth is what the hold of that sum in a sandbox is worth. -/
noncomputable def Try.pinned : Pinned := { name := "ytdgpkjjclngamaa", sum := "23379c4b67250048af8ca1db87c9cba40dce7da95f9b1eb70899d6a37c641581", checked := Try.checked }
namespace Rows
def none {H : Type} : Left H := { results := [], args := [] }

/-- 'laws.FnExactRecordValid': WHATEVER THE INPUT: true; the input reads as it did. -/
def fnExactRecordValidSpec : ChangeSpec := { name := "fnExactRecordValid", fn := fun _ => fun
  | [d] => { results := [.lit (.bool true)], args := [d] }
  | _ => none }
def fnExactRecordValidRow : OpenClaim := { program := "ytdgpkjjclngamaa", sum := "23379c4b67250048af8ca1db87c9cba40dce7da95f9b1eb70899d6a37c641581", func := "loop.example/recordbatches/laws.FnExactRecordValid", spec := "fnExactRecordValid", apart := false }
def FnExactRecordValidSaid : Prop := fnExactRecordValidRow.holds Try.pinned (OpenSpec.ofChange fnExactRecordValidSpec)

/-- ITS FALSE NEIGHBOUR: 'it returns false'. Refute it at one input. -/
def fnExactRecordValidWrong : ChangeSpec := { name := "fnExactRecordValid", fn := fun _ => fun
  | [d] => { results := [.lit (.bool false)], args := [d] }
  | _ => none }
def FnExactRecordValidWrongFalsely : Prop := fnExactRecordValidRow.holds Try.pinned (OpenSpec.ofChange fnExactRecordValidWrong)

/-- 'laws.FnBytesText': WHATEVER THE INPUT: true; the input reads as it did. -/
def fnBytesTextSpec : ChangeSpec := { name := "fnBytesText", fn := fun _ => fun
  | [d1, d2] => { results := [.lit (.bool true)], args := [d1, d2] }
  | _ => none }
def fnBytesTextRow : OpenClaim := { program := "ytdgpkjjclngamaa", sum := "23379c4b67250048af8ca1db87c9cba40dce7da95f9b1eb70899d6a37c641581", func := "loop.example/recordbatches/laws.FnBytesText", spec := "fnBytesText", inPlace := ["internal/abi.NoEscape"], apart := false }
def FnBytesTextSaid : Prop := fnBytesTextRow.holds Try.pinned (OpenSpec.ofChange fnBytesTextSpec)

/-- ITS FALSE NEIGHBOUR: 'it returns false'. Refute it at one input. -/
def fnBytesTextWrong : ChangeSpec := { name := "fnBytesText", fn := fun _ => fun
  | [d1, d2] => { results := [.lit (.bool false)], args := [d1, d2] }
  | _ => none }
def FnBytesTextWrongFalsely : Prop := fnBytesTextRow.holds Try.pinned (OpenSpec.ofChange fnBytesTextWrong)

/-- 'laws.FnIntFrom': WHATEVER THE INPUT: true; the input reads as it did. -/
def fnIntFromSpec : ChangeSpec := { name := "fnIntFrom", fn := fun _ => fun
  | [d] => { results := [.lit (.bool true)], args := [d] }
  | _ => none }
def fnIntFromRow : OpenClaim := { program := "ytdgpkjjclngamaa", sum := "23379c4b67250048af8ca1db87c9cba40dce7da95f9b1eb70899d6a37c641581", func := "loop.example/recordbatches/laws.FnIntFrom", spec := "fnIntFrom", apart := false }
def FnIntFromSaid : Prop := fnIntFromRow.holds Try.pinned (OpenSpec.ofChange fnIntFromSpec)

/-- ITS FALSE NEIGHBOUR: 'it returns false'. Refute it at one input. -/
def fnIntFromWrong : ChangeSpec := { name := "fnIntFrom", fn := fun _ => fun
  | [d] => { results := [.lit (.bool false)], args := [d] }
  | _ => none }
def FnIntFromWrongFalsely : Prop := fnIntFromRow.holds Try.pinned (OpenSpec.ofChange fnIntFromWrong)

/-- 'laws.FnExactUnpackBytes': WHATEVER THE INPUT: true; the input reads as it did. -/
def fnExactUnpackBytesSpec : ChangeSpec := { name := "fnExactUnpackBytes", fn := fun _ => fun
  | [d] => { results := [.lit (.bool true)], args := [d] }
  | _ => none }
def fnExactUnpackBytesRow : OpenClaim := { program := "ytdgpkjjclngamaa", sum := "23379c4b67250048af8ca1db87c9cba40dce7da95f9b1eb70899d6a37c641581", func := "loop.example/recordbatches/laws.FnExactUnpackBytes", spec := "fnExactUnpackBytes", apart := false }
def FnExactUnpackBytesSaid : Prop := fnExactUnpackBytesRow.holds Try.pinned (OpenSpec.ofChange fnExactUnpackBytesSpec)

/-- ITS FALSE NEIGHBOUR: 'it returns false'. Refute it at one input. -/
def fnExactUnpackBytesWrong : ChangeSpec := { name := "fnExactUnpackBytes", fn := fun _ => fun
  | [d] => { results := [.lit (.bool false)], args := [d] }
  | _ => none }
def FnExactUnpackBytesWrongFalsely : Prop := fnExactUnpackBytesRow.holds Try.pinned (OpenSpec.ofChange fnExactUnpackBytesWrong)

/-- 'laws.FnVar': WHATEVER THE INPUT: true; the input reads as it did. -/
def fnVarSpec : ChangeSpec := { name := "fnVar", fn := fun _ => fun
  | [d] => { results := [.lit (.bool true)], args := [d] }
  | _ => none }
def fnVarRow : OpenClaim := { program := "ytdgpkjjclngamaa", sum := "23379c4b67250048af8ca1db87c9cba40dce7da95f9b1eb70899d6a37c641581", func := "loop.example/recordbatches/laws.FnVar", spec := "fnVar", apart := false }
def FnVarSaid : Prop := fnVarRow.holds Try.pinned (OpenSpec.ofChange fnVarSpec)

/-- ITS FALSE NEIGHBOUR: 'it returns false'. Refute it at one input. -/
def fnVarWrong : ChangeSpec := { name := "fnVar", fn := fun _ => fun
  | [d] => { results := [.lit (.bool false)], args := [d] }
  | _ => none }
def FnVarWrongFalsely : Prop := fnVarRow.holds Try.pinned (OpenSpec.ofChange fnVarWrong)

/-- 'laws.FnBatchPart': WHATEVER THE INPUT: true; the input reads as it did. -/
def fnBatchPartSpec : ChangeSpec := { name := "fnBatchPart", fn := fun _ => fun
  | [d] => { results := [.lit (.bool true)], args := [d] }
  | _ => none }
def fnBatchPartRow : OpenClaim := { program := "ytdgpkjjclngamaa", sum := "23379c4b67250048af8ca1db87c9cba40dce7da95f9b1eb70899d6a37c641581", func := "loop.example/recordbatches/laws.FnBatchPart", spec := "fnBatchPart", apart := false }
def FnBatchPartSaid : Prop := fnBatchPartRow.holds Try.pinned (OpenSpec.ofChange fnBatchPartSpec)

/-- ITS FALSE NEIGHBOUR: 'it returns false'. Refute it at one input. -/
def fnBatchPartWrong : ChangeSpec := { name := "fnBatchPart", fn := fun _ => fun
  | [d] => { results := [.lit (.bool false)], args := [d] }
  | _ => none }
def FnBatchPartWrongFalsely : Prop := fnBatchPartRow.holds Try.pinned (OpenSpec.ofChange fnBatchPartWrong)

/-- 'laws.FnVarTorn': WHATEVER THE INPUT: true; the input reads as it did. -/
def fnVarTornSpec : ChangeSpec := { name := "fnVarTorn", fn := fun _ => fun
  | [d] => { results := [.lit (.bool true)], args := [d] }
  | _ => none }
def fnVarTornRow : OpenClaim := { program := "ytdgpkjjclngamaa", sum := "23379c4b67250048af8ca1db87c9cba40dce7da95f9b1eb70899d6a37c641581", func := "loop.example/recordbatches/laws.FnVarTorn", spec := "fnVarTorn", apart := false }
def FnVarTornSaid : Prop := fnVarTornRow.holds Try.pinned (OpenSpec.ofChange fnVarTornSpec)

/-- ITS FALSE NEIGHBOUR: 'it returns false'. Refute it at one input. -/
def fnVarTornWrong : ChangeSpec := { name := "fnVarTorn", fn := fun _ => fun
  | [d] => { results := [.lit (.bool false)], args := [d] }
  | _ => none }
def FnVarTornWrongFalsely : Prop := fnVarTornRow.holds Try.pinned (OpenSpec.ofChange fnVarTornWrong)

/-- 'laws.FnBatchSpan': WHATEVER THE INPUT: true; the input reads as it did. -/
def fnBatchSpanSpec : ChangeSpec := { name := "fnBatchSpan", fn := fun _ => fun
  | [d] => { results := [.lit (.bool true)], args := [d] }
  | _ => none }
def fnBatchSpanRow : OpenClaim := { program := "ytdgpkjjclngamaa", sum := "23379c4b67250048af8ca1db87c9cba40dce7da95f9b1eb70899d6a37c641581", func := "loop.example/recordbatches/laws.FnBatchSpan", spec := "fnBatchSpan", apart := false }
def FnBatchSpanSaid : Prop := fnBatchSpanRow.holds Try.pinned (OpenSpec.ofChange fnBatchSpanSpec)

/-- ITS FALSE NEIGHBOUR: 'it returns false'. Refute it at one input. -/
def fnBatchSpanWrong : ChangeSpec := { name := "fnBatchSpan", fn := fun _ => fun
  | [d] => { results := [.lit (.bool false)], args := [d] }
  | _ => none }
def FnBatchSpanWrongFalsely : Prop := fnBatchSpanRow.holds Try.pinned (OpenSpec.ofChange fnBatchSpanWrong)

/-- 'laws.FnRecordSize': WHATEVER THE INPUT: true; the input reads as it did. -/
def fnRecordSizeSpec : ChangeSpec := { name := "fnRecordSize", fn := fun _ => fun
  | [d] => { results := [.lit (.bool true)], args := [d] }
  | _ => none }
def fnRecordSizeRow : OpenClaim := { program := "ytdgpkjjclngamaa", sum := "23379c4b67250048af8ca1db87c9cba40dce7da95f9b1eb70899d6a37c641581", func := "loop.example/recordbatches/laws.FnRecordSize", spec := "fnRecordSize", apart := false }
def FnRecordSizeSaid : Prop := fnRecordSizeRow.holds Try.pinned (OpenSpec.ofChange fnRecordSizeSpec)

/-- ITS FALSE NEIGHBOUR: 'it returns false'. Refute it at one input. -/
def fnRecordSizeWrong : ChangeSpec := { name := "fnRecordSize", fn := fun _ => fun
  | [d] => { results := [.lit (.bool false)], args := [d] }
  | _ => none }
def FnRecordSizeWrongFalsely : Prop := fnRecordSizeRow.holds Try.pinned (OpenSpec.ofChange fnRecordSizeWrong)

/-- 'laws.FnRecordMissing': WHATEVER THE INPUT: true; the input reads as it did. -/
def fnRecordMissingSpec : ChangeSpec := { name := "fnRecordMissing", fn := fun _ => fun
  | [d] => { results := [.lit (.bool true)], args := [d] }
  | _ => none }
def fnRecordMissingRow : OpenClaim := { program := "ytdgpkjjclngamaa", sum := "23379c4b67250048af8ca1db87c9cba40dce7da95f9b1eb70899d6a37c641581", func := "loop.example/recordbatches/laws.FnRecordMissing", spec := "fnRecordMissing", apart := false }
def FnRecordMissingSaid : Prop := fnRecordMissingRow.holds Try.pinned (OpenSpec.ofChange fnRecordMissingSpec)

/-- ITS FALSE NEIGHBOUR: 'it returns false'. Refute it at one input. -/
def fnRecordMissingWrong : ChangeSpec := { name := "fnRecordMissing", fn := fun _ => fun
  | [d] => { results := [.lit (.bool false)], args := [d] }
  | _ => none }
def FnRecordMissingWrongFalsely : Prop := fnRecordMissingRow.holds Try.pinned (OpenSpec.ofChange fnRecordMissingWrong)

/-- 'laws.FnRecordShift': WHATEVER THE INPUT: true; the input reads as it did. -/
def fnRecordShiftSpec : ChangeSpec := { name := "fnRecordShift", fn := fun _ => fun
  | [d] => { results := [.lit (.bool true)], args := [d] }
  | _ => none }
def fnRecordShiftRow : OpenClaim := { program := "ytdgpkjjclngamaa", sum := "23379c4b67250048af8ca1db87c9cba40dce7da95f9b1eb70899d6a37c641581", func := "loop.example/recordbatches/laws.FnRecordShift", spec := "fnRecordShift", apart := false }
def FnRecordShiftSaid : Prop := fnRecordShiftRow.holds Try.pinned (OpenSpec.ofChange fnRecordShiftSpec)

/-- ITS FALSE NEIGHBOUR: 'it returns false'. Refute it at one input. -/
def fnRecordShiftWrong : ChangeSpec := { name := "fnRecordShift", fn := fun _ => fun
  | [d] => { results := [.lit (.bool false)], args := [d] }
  | _ => none }
def FnRecordShiftWrongFalsely : Prop := fnRecordShiftRow.holds Try.pinned (OpenSpec.ofChange fnRecordShiftWrong)

/-- 'laws.FnExactRecordSize': WHATEVER THE INPUT: true; the input reads as it did. -/
def fnExactRecordSizeSpec : ChangeSpec := { name := "fnExactRecordSize", fn := fun _ => fun
  | [d1, d2, d3] => { results := [.lit (.bool true)], args := [d1, d2, d3] }
  | _ => none }
def fnExactRecordSizeRow : OpenClaim := { program := "ytdgpkjjclngamaa", sum := "23379c4b67250048af8ca1db87c9cba40dce7da95f9b1eb70899d6a37c641581", func := "loop.example/recordbatches/laws.FnExactRecordSize", spec := "fnExactRecordSize", apart := false }
def FnExactRecordSizeSaid : Prop := fnExactRecordSizeRow.holds Try.pinned (OpenSpec.ofChange fnExactRecordSizeSpec)

/-- ITS FALSE NEIGHBOUR: 'it returns false'. Refute it at one input. -/
def fnExactRecordSizeWrong : ChangeSpec := { name := "fnExactRecordSize", fn := fun _ => fun
  | [d1, d2, d3] => { results := [.lit (.bool false)], args := [d1, d2, d3] }
  | _ => none }
def FnExactRecordSizeWrongFalsely : Prop := fnExactRecordSizeRow.holds Try.pinned (OpenSpec.ofChange fnExactRecordSizeWrong)

/- THE SECOND FORM. 'bulk': how many values and letters a reading holds, each counted each time it is reached (what is shared counts as often as it is met; a slice's spare places count too). A statement '..UptoSaid' is the law's where the arguments, and the package variables that the reading takes, are together of bulk at most 1048576: NARROWER than '..Said'. Prove '..Said' where nothing that the law and all that it calls make is longer than what came in: it says more and counts as full. Else prove '..UptoSaid'. A law counts once. -/
mutual
def uptoBulk {H : Type} : DataW H → Nat
  | .lit (.string bytes) => bytes.length + 1
  | .lit _ => 1
  | .nil => 1
  | .ptr d => uptoBulk d + 1
  | .slice elems spare => uptoBulkAll elems + uptoBulkAll spare + 1
  | .agg parts => uptoBulkAll parts + 1
  | .iface _ d => uptoBulk d + 1
  | .map entries => uptoBulkEntries entries + 1
  | .held _ => 1
def uptoBulkAll {H : Type} : List (DataW H) → Nat
  | [] => 0
  | d :: r => uptoBulk d + uptoBulkAll r
def uptoBulkEntries {H : Type} : List (Lit × DataW H) → Nat
  | [] => 0
  | x :: r => uptoBulkEntry x + uptoBulkEntries r
def uptoBulkEntry {H : Type} : Lit × DataW H → Nat
  | (.string bytes, d) => bytes.length + uptoBulk d + 1
  | (_, d) => uptoBulk d + 1
 end
def uptoSmall : (H : Type) → List (DataW H) → Bool := fun _ ds => decide (uptoBulkAll ds ≤ 1048576)
def OpenSpec.upto (s : _root_.Go.ChangeSpec) : _root_.Go.OpenSpec := { _root_.Go.OpenSpec.ofChange s with cond := some uptoSmall }

/-- 'laws.FnExactRecordValid', WHERE WHAT IT READS IS OF BULK AT MOST 1048576: true; the input reads as it did. -/
def fnExactRecordValidUptoRow : OpenClaim := { program := "ytdgpkjjclngamaa", sum := "23379c4b67250048af8ca1db87c9cba40dce7da95f9b1eb70899d6a37c641581", func := "loop.example/recordbatches/laws.FnExactRecordValid", spec := "fnExactRecordValid", apart := false, narrowed := true }
def FnExactRecordValidUptoSaid : Prop := fnExactRecordValidUptoRow.holds Try.pinned (OpenSpec.upto fnExactRecordValidSpec)

/-- 'laws.FnBytesText', WHERE WHAT IT READS IS OF BULK AT MOST 1048576: true; the input reads as it did. -/
def fnBytesTextUptoRow : OpenClaim := { program := "ytdgpkjjclngamaa", sum := "23379c4b67250048af8ca1db87c9cba40dce7da95f9b1eb70899d6a37c641581", func := "loop.example/recordbatches/laws.FnBytesText", spec := "fnBytesText", inPlace := ["internal/abi.NoEscape"], apart := false, narrowed := true }
def FnBytesTextUptoSaid : Prop := fnBytesTextUptoRow.holds Try.pinned (OpenSpec.upto fnBytesTextSpec)

/-- 'laws.FnIntFrom', WHERE WHAT IT READS IS OF BULK AT MOST 1048576: true; the input reads as it did. -/
def fnIntFromUptoRow : OpenClaim := { program := "ytdgpkjjclngamaa", sum := "23379c4b67250048af8ca1db87c9cba40dce7da95f9b1eb70899d6a37c641581", func := "loop.example/recordbatches/laws.FnIntFrom", spec := "fnIntFrom", apart := false, narrowed := true }
def FnIntFromUptoSaid : Prop := fnIntFromUptoRow.holds Try.pinned (OpenSpec.upto fnIntFromSpec)

/-- 'laws.FnExactUnpackBytes', WHERE WHAT IT READS IS OF BULK AT MOST 1048576: true; the input reads as it did. -/
def fnExactUnpackBytesUptoRow : OpenClaim := { program := "ytdgpkjjclngamaa", sum := "23379c4b67250048af8ca1db87c9cba40dce7da95f9b1eb70899d6a37c641581", func := "loop.example/recordbatches/laws.FnExactUnpackBytes", spec := "fnExactUnpackBytes", apart := false, narrowed := true }
def FnExactUnpackBytesUptoSaid : Prop := fnExactUnpackBytesUptoRow.holds Try.pinned (OpenSpec.upto fnExactUnpackBytesSpec)

/-- 'laws.FnVar', WHERE WHAT IT READS IS OF BULK AT MOST 1048576: true; the input reads as it did. -/
def fnVarUptoRow : OpenClaim := { program := "ytdgpkjjclngamaa", sum := "23379c4b67250048af8ca1db87c9cba40dce7da95f9b1eb70899d6a37c641581", func := "loop.example/recordbatches/laws.FnVar", spec := "fnVar", apart := false, narrowed := true }
def FnVarUptoSaid : Prop := fnVarUptoRow.holds Try.pinned (OpenSpec.upto fnVarSpec)

/-- 'laws.FnBatchPart', WHERE WHAT IT READS IS OF BULK AT MOST 1048576: true; the input reads as it did. -/
def fnBatchPartUptoRow : OpenClaim := { program := "ytdgpkjjclngamaa", sum := "23379c4b67250048af8ca1db87c9cba40dce7da95f9b1eb70899d6a37c641581", func := "loop.example/recordbatches/laws.FnBatchPart", spec := "fnBatchPart", apart := false, narrowed := true }
def FnBatchPartUptoSaid : Prop := fnBatchPartUptoRow.holds Try.pinned (OpenSpec.upto fnBatchPartSpec)

/-- 'laws.FnVarTorn', WHERE WHAT IT READS IS OF BULK AT MOST 1048576: true; the input reads as it did. -/
def fnVarTornUptoRow : OpenClaim := { program := "ytdgpkjjclngamaa", sum := "23379c4b67250048af8ca1db87c9cba40dce7da95f9b1eb70899d6a37c641581", func := "loop.example/recordbatches/laws.FnVarTorn", spec := "fnVarTorn", apart := false, narrowed := true }
def FnVarTornUptoSaid : Prop := fnVarTornUptoRow.holds Try.pinned (OpenSpec.upto fnVarTornSpec)

/-- 'laws.FnBatchSpan', WHERE WHAT IT READS IS OF BULK AT MOST 1048576: true; the input reads as it did. -/
def fnBatchSpanUptoRow : OpenClaim := { program := "ytdgpkjjclngamaa", sum := "23379c4b67250048af8ca1db87c9cba40dce7da95f9b1eb70899d6a37c641581", func := "loop.example/recordbatches/laws.FnBatchSpan", spec := "fnBatchSpan", apart := false, narrowed := true }
def FnBatchSpanUptoSaid : Prop := fnBatchSpanUptoRow.holds Try.pinned (OpenSpec.upto fnBatchSpanSpec)

/-- 'laws.FnRecordSize', WHERE WHAT IT READS IS OF BULK AT MOST 1048576: true; the input reads as it did. -/
def fnRecordSizeUptoRow : OpenClaim := { program := "ytdgpkjjclngamaa", sum := "23379c4b67250048af8ca1db87c9cba40dce7da95f9b1eb70899d6a37c641581", func := "loop.example/recordbatches/laws.FnRecordSize", spec := "fnRecordSize", apart := false, narrowed := true }
def FnRecordSizeUptoSaid : Prop := fnRecordSizeUptoRow.holds Try.pinned (OpenSpec.upto fnRecordSizeSpec)

/-- 'laws.FnRecordMissing', WHERE WHAT IT READS IS OF BULK AT MOST 1048576: true; the input reads as it did. -/
def fnRecordMissingUptoRow : OpenClaim := { program := "ytdgpkjjclngamaa", sum := "23379c4b67250048af8ca1db87c9cba40dce7da95f9b1eb70899d6a37c641581", func := "loop.example/recordbatches/laws.FnRecordMissing", spec := "fnRecordMissing", apart := false, narrowed := true }
def FnRecordMissingUptoSaid : Prop := fnRecordMissingUptoRow.holds Try.pinned (OpenSpec.upto fnRecordMissingSpec)

/-- 'laws.FnRecordShift', WHERE WHAT IT READS IS OF BULK AT MOST 1048576: true; the input reads as it did. -/
def fnRecordShiftUptoRow : OpenClaim := { program := "ytdgpkjjclngamaa", sum := "23379c4b67250048af8ca1db87c9cba40dce7da95f9b1eb70899d6a37c641581", func := "loop.example/recordbatches/laws.FnRecordShift", spec := "fnRecordShift", apart := false, narrowed := true }
def FnRecordShiftUptoSaid : Prop := fnRecordShiftUptoRow.holds Try.pinned (OpenSpec.upto fnRecordShiftSpec)

/-- 'laws.FnExactRecordSize', WHERE WHAT IT READS IS OF BULK AT MOST 1048576: true; the input reads as it did. -/
def fnExactRecordSizeUptoRow : OpenClaim := { program := "ytdgpkjjclngamaa", sum := "23379c4b67250048af8ca1db87c9cba40dce7da95f9b1eb70899d6a37c641581", func := "loop.example/recordbatches/laws.FnExactRecordSize", spec := "fnExactRecordSize", apart := false, narrowed := true }
def FnExactRecordSizeUptoSaid : Prop := fnExactRecordSizeUptoRow.holds Try.pinned (OpenSpec.upto fnExactRecordSizeSpec)

end Rows
end Go.Proofs.Ytdgpkjjclngamaa
