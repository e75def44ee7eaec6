/-
  No cell of these rows narrows 'for every input' (looked for: loops, veiled, ifaces, maps, wideKeys, modest, calm, conditions, laid).
  DERIVED. THE GIVEN ROWS OF THIS SEAT. 12 by the template 'for every input the law returns true; each argument reads behind the call as it read before'; 0 by the template 'total and deterministic' (their statements: YtohbbdklddinoaaTotals.lean).
  GIVEN WITH THE SEED: the statements are not yours to turn. If you find one false, say at which input.
  Laid BY PROGRAM, IN A SANDBOX (cutbox-rows.mjs): the forced cells as the released guide's own fill.sh prints them over the translation 78b9c765da6a485a… (all of the seat's roots in one cut). By AI agents, Wed Nov 11 2026. No macro, syntax, notation, axiom, sorry.
-/
import Derived.Test.YtohbbdklddinoaaChecked
import GoSem.Claim
import GoSem.ClaimJoined
import GoSem.ClaimMapViews
import Derived.JoinedTies
import Derived.KernelRfl
namespace Go.Proofs.Ytohbbdklddinoaa
/- THE CELL 'sum', in the pinned program and in every row, IS THE sha256 OF THE DUMP (.gsa) THAT YtohbbdklddinoaaProg.lean LOADS. Nothing in Lean hashes anything: it is a label: what it is worth is what the hold of that sum in a sandbox is worth. -/
noncomputable def Try.pinned : Pinned := { name := "ytohbbdklddinoaa", sum := "78b9c765da6a485a4a05f06c2f24c9459b67d9e8161bd7cebe6a22c2e97c9b62", checked := Try.checked }
namespace Rows
def none {H : Type} : Left H := { results := [], args := [] }

/-- 'laws.FnExactConstants': WHATEVER THE INPUT: true; the input reads as it did. -/
def fnExactConstantsSpec : ChangeSpec := { name := "fnExactConstants", fn := fun _ => fun
  | [] => { results := [.lit (.bool true)], args := [] }
  | _ => none }
def fnExactConstantsRow : OpenClaim := { program := "ytohbbdklddinoaa", sum := "78b9c765da6a485a4a05f06c2f24c9459b67d9e8161bd7cebe6a22c2e97c9b62", func := "loop.example/recordbatches/laws.FnExactConstants", spec := "fnExactConstants", apart := false }
def FnExactConstantsSaid : Prop := fnExactConstantsRow.holds Try.pinned (OpenSpec.ofChange fnExactConstantsSpec)

/-- ITS FALSE NEIGHBOUR: 'it returns false'. Refute it at one input. -/
def fnExactConstantsWrong : ChangeSpec := { name := "fnExactConstants", fn := fun _ => fun
  | [] => { results := [.lit (.bool false)], args := [] }
  | _ => none }
def FnExactConstantsWrongFalsely : Prop := fnExactConstantsRow.holds Try.pinned (OpenSpec.ofChange fnExactConstantsWrong)

/-- 'laws.FnExactFoldNumber': WHATEVER THE INPUT: true; the input reads as it did. -/
def fnExactFoldNumberSpec : ChangeSpec := { name := "fnExactFoldNumber", fn := fun _ => fun
  | [d] => { results := [.lit (.bool true)], args := [d] }
  | _ => none }
def fnExactFoldNumberRow : OpenClaim := { program := "ytohbbdklddinoaa", sum := "78b9c765da6a485a4a05f06c2f24c9459b67d9e8161bd7cebe6a22c2e97c9b62", func := "loop.example/recordbatches/laws.FnExactFoldNumber", spec := "fnExactFoldNumber", apart := false }
def FnExactFoldNumberSaid : Prop := fnExactFoldNumberRow.holds Try.pinned (OpenSpec.ofChange fnExactFoldNumberSpec)

/-- ITS FALSE NEIGHBOUR: 'it returns false'. Refute it at one input. -/
def fnExactFoldNumberWrong : ChangeSpec := { name := "fnExactFoldNumber", fn := fun _ => fun
  | [d] => { results := [.lit (.bool false)], args := [d] }
  | _ => none }
def FnExactFoldNumberWrongFalsely : Prop := fnExactFoldNumberRow.holds Try.pinned (OpenSpec.ofChange fnExactFoldNumberWrong)

/-- 'laws.FnExactUnfoldNumber': WHATEVER THE INPUT: true; the input reads as it did. -/
def fnExactUnfoldNumberSpec : ChangeSpec := { name := "fnExactUnfoldNumber", fn := fun _ => fun
  | [d] => { results := [.lit (.bool true)], args := [d] }
  | _ => none }
def fnExactUnfoldNumberRow : OpenClaim := { program := "ytohbbdklddinoaa", sum := "78b9c765da6a485a4a05f06c2f24c9459b67d9e8161bd7cebe6a22c2e97c9b62", func := "loop.example/recordbatches/laws.FnExactUnfoldNumber", spec := "fnExactUnfoldNumber", apart := false }
def FnExactUnfoldNumberSaid : Prop := fnExactUnfoldNumberRow.holds Try.pinned (OpenSpec.ofChange fnExactUnfoldNumberSpec)

/-- ITS FALSE NEIGHBOUR: 'it returns false'. Refute it at one input. -/
def fnExactUnfoldNumberWrong : ChangeSpec := { name := "fnExactUnfoldNumber", fn := fun _ => fun
  | [d] => { results := [.lit (.bool false)], args := [d] }
  | _ => none }
def FnExactUnfoldNumberWrongFalsely : Prop := fnExactUnfoldNumberRow.holds Try.pinned (OpenSpec.ofChange fnExactUnfoldNumberWrong)

/-- 'laws.FnExactVarSize': WHATEVER THE INPUT: true; the input reads as it did. -/
def fnExactVarSizeSpec : ChangeSpec := { name := "fnExactVarSize", fn := fun _ => fun
  | [d] => { results := [.lit (.bool true)], args := [d] }
  | _ => none }
def fnExactVarSizeRow : OpenClaim := { program := "ytohbbdklddinoaa", sum := "78b9c765da6a485a4a05f06c2f24c9459b67d9e8161bd7cebe6a22c2e97c9b62", func := "loop.example/recordbatches/laws.FnExactVarSize", spec := "fnExactVarSize", apart := false }
def FnExactVarSizeSaid : Prop := fnExactVarSizeRow.holds Try.pinned (OpenSpec.ofChange fnExactVarSizeSpec)

/-- ITS FALSE NEIGHBOUR: 'it returns false'. Refute it at one input. -/
def fnExactVarSizeWrong : ChangeSpec := { name := "fnExactVarSize", fn := fun _ => fun
  | [d] => { results := [.lit (.bool false)], args := [d] }
  | _ => none }
def FnExactVarSizeWrongFalsely : Prop := fnExactVarSizeRow.holds Try.pinned (OpenSpec.ofChange fnExactVarSizeWrong)

/-- 'laws.FnFoldSmall': WHATEVER THE INPUT: true; the input reads as it did. -/
def fnFoldSmallSpec : ChangeSpec := { name := "fnFoldSmall", fn := fun _ => fun
  | [d] => { results := [.lit (.bool true)], args := [d] }
  | _ => none }
def fnFoldSmallRow : OpenClaim := { program := "ytohbbdklddinoaa", sum := "78b9c765da6a485a4a05f06c2f24c9459b67d9e8161bd7cebe6a22c2e97c9b62", func := "loop.example/recordbatches/laws.FnFoldSmall", spec := "fnFoldSmall", apart := false }
def FnFoldSmallSaid : Prop := fnFoldSmallRow.holds Try.pinned (OpenSpec.ofChange fnFoldSmallSpec)

/-- ITS FALSE NEIGHBOUR: 'it returns false'. Refute it at one input. -/
def fnFoldSmallWrong : ChangeSpec := { name := "fnFoldSmall", fn := fun _ => fun
  | [d] => { results := [.lit (.bool false)], args := [d] }
  | _ => none }
def FnFoldSmallWrongFalsely : Prop := fnFoldSmallRow.holds Try.pinned (OpenSpec.ofChange fnFoldSmallWrong)

/-- 'laws.FnUnfold': WHATEVER THE INPUT: true; the input reads as it did. -/
def fnUnfoldSpec : ChangeSpec := { name := "fnUnfold", fn := fun _ => fun
  | [d] => { results := [.lit (.bool true)], args := [d] }
  | _ => none }
def fnUnfoldRow : OpenClaim := { program := "ytohbbdklddinoaa", sum := "78b9c765da6a485a4a05f06c2f24c9459b67d9e8161bd7cebe6a22c2e97c9b62", func := "loop.example/recordbatches/laws.FnUnfold", spec := "fnUnfold", apart := false }
def FnUnfoldSaid : Prop := fnUnfoldRow.holds Try.pinned (OpenSpec.ofChange fnUnfoldSpec)

/-- ITS FALSE NEIGHBOUR: 'it returns false'. Refute it at one input. -/
def fnUnfoldWrong : ChangeSpec := { name := "fnUnfold", fn := fun _ => fun
  | [d] => { results := [.lit (.bool false)], args := [d] }
  | _ => none }
def FnUnfoldWrongFalsely : Prop := fnUnfoldRow.holds Try.pinned (OpenSpec.ofChange fnUnfoldWrong)

/-- 'laws.FnExactIntBytes': WHATEVER THE INPUT: true; the input reads as it did. -/
def fnExactIntBytesSpec : ChangeSpec := { name := "fnExactIntBytes", fn := fun _ => fun
  | [d1, d2] => { results := [.lit (.bool true)], args := [d1, d2] }
  | _ => none }
def fnExactIntBytesRow : OpenClaim := { program := "ytohbbdklddinoaa", sum := "78b9c765da6a485a4a05f06c2f24c9459b67d9e8161bd7cebe6a22c2e97c9b62", func := "loop.example/recordbatches/laws.FnExactIntBytes", spec := "fnExactIntBytes", apart := false }
def FnExactIntBytesSaid : Prop := fnExactIntBytesRow.holds Try.pinned (OpenSpec.ofChange fnExactIntBytesSpec)

/-- ITS FALSE NEIGHBOUR: 'it returns false'. Refute it at one input. -/
def fnExactIntBytesWrong : ChangeSpec := { name := "fnExactIntBytes", fn := fun _ => fun
  | [d1, d2] => { results := [.lit (.bool false)], args := [d1, d2] }
  | _ => none }
def FnExactIntBytesWrongFalsely : Prop := fnExactIntBytesRow.holds Try.pinned (OpenSpec.ofChange fnExactIntBytesWrong)

/-- 'laws.FnExactSumOf': WHATEVER THE INPUT: true; the input reads as it did. -/
def fnExactSumOfSpec : ChangeSpec := { name := "fnExactSumOf", fn := fun _ => fun
  | [d] => { results := [.lit (.bool true)], args := [d] }
  | _ => none }
def fnExactSumOfRow : OpenClaim := { program := "ytohbbdklddinoaa", sum := "78b9c765da6a485a4a05f06c2f24c9459b67d9e8161bd7cebe6a22c2e97c9b62", func := "loop.example/recordbatches/laws.FnExactSumOf", spec := "fnExactSumOf", apart := false }
def FnExactSumOfSaid : Prop := fnExactSumOfRow.holds Try.pinned (OpenSpec.ofChange fnExactSumOfSpec)

/-- ITS FALSE NEIGHBOUR: 'it returns false'. Refute it at one input. -/
def fnExactSumOfWrong : ChangeSpec := { name := "fnExactSumOf", fn := fun _ => fun
  | [d] => { results := [.lit (.bool false)], args := [d] }
  | _ => none }
def FnExactSumOfWrongFalsely : Prop := fnExactSumOfRow.holds Try.pinned (OpenSpec.ofChange fnExactSumOfWrong)

/-- 'laws.FnExactIntFrom': WHATEVER THE INPUT: true; the input reads as it did. -/
def fnExactIntFromSpec : ChangeSpec := { name := "fnExactIntFrom", fn := fun _ => fun
  | [d1, d2, d3] => { results := [.lit (.bool true)], args := [d1, d2, d3] }
  | _ => none }
def fnExactIntFromRow : OpenClaim := { program := "ytohbbdklddinoaa", sum := "78b9c765da6a485a4a05f06c2f24c9459b67d9e8161bd7cebe6a22c2e97c9b62", func := "loop.example/recordbatches/laws.FnExactIntFrom", spec := "fnExactIntFrom", apart := false }
def FnExactIntFromSaid : Prop := fnExactIntFromRow.holds Try.pinned (OpenSpec.ofChange fnExactIntFromSpec)

/-- ITS FALSE NEIGHBOUR: 'it returns false'. Refute it at one input. -/
def fnExactIntFromWrong : ChangeSpec := { name := "fnExactIntFrom", fn := fun _ => fun
  | [d1, d2, d3] => { results := [.lit (.bool false)], args := [d1, d2, d3] }
  | _ => none }
def FnExactIntFromWrongFalsely : Prop := fnExactIntFromRow.holds Try.pinned (OpenSpec.ofChange fnExactIntFromWrong)

/-- 'laws.FnFold': WHATEVER THE INPUT: true; the input reads as it did. -/
def fnFoldSpec : ChangeSpec := { name := "fnFold", fn := fun _ => fun
  | [d] => { results := [.lit (.bool true)], args := [d] }
  | _ => none }
def fnFoldRow : OpenClaim := { program := "ytohbbdklddinoaa", sum := "78b9c765da6a485a4a05f06c2f24c9459b67d9e8161bd7cebe6a22c2e97c9b62", func := "loop.example/recordbatches/laws.FnFold", spec := "fnFold", apart := false }
def FnFoldSaid : Prop := fnFoldRow.holds Try.pinned (OpenSpec.ofChange fnFoldSpec)

/-- ITS FALSE NEIGHBOUR: 'it returns false'. Refute it at one input. -/
def fnFoldWrong : ChangeSpec := { name := "fnFold", fn := fun _ => fun
  | [d] => { results := [.lit (.bool false)], args := [d] }
  | _ => none }
def FnFoldWrongFalsely : Prop := fnFoldRow.holds Try.pinned (OpenSpec.ofChange fnFoldWrong)

/-- 'laws.FnExactVarBytes': WHATEVER THE INPUT: true; the input reads as it did. -/
def fnExactVarBytesSpec : ChangeSpec := { name := "fnExactVarBytes", fn := fun _ => fun
  | [d] => { results := [.lit (.bool true)], args := [d] }
  | _ => none }
def fnExactVarBytesRow : OpenClaim := { program := "ytohbbdklddinoaa", sum := "78b9c765da6a485a4a05f06c2f24c9459b67d9e8161bd7cebe6a22c2e97c9b62", func := "loop.example/recordbatches/laws.FnExactVarBytes", spec := "fnExactVarBytes", apart := false }
def FnExactVarBytesSaid : Prop := fnExactVarBytesRow.holds Try.pinned (OpenSpec.ofChange fnExactVarBytesSpec)

/-- ITS FALSE NEIGHBOUR: 'it returns false'. Refute it at one input. -/
def fnExactVarBytesWrong : ChangeSpec := { name := "fnExactVarBytes", fn := fun _ => fun
  | [d] => { results := [.lit (.bool false)], args := [d] }
  | _ => none }
def FnExactVarBytesWrongFalsely : Prop := fnExactVarBytesRow.holds Try.pinned (OpenSpec.ofChange fnExactVarBytesWrong)

/-- 'laws.FnIntMost': WHATEVER THE INPUT: true; the input reads as it did. -/
def fnIntMostSpec : ChangeSpec := { name := "fnIntMost", fn := fun _ => fun
  | [d] => { results := [.lit (.bool true)], args := [d] }
  | _ => none }
def fnIntMostRow : OpenClaim := { program := "ytohbbdklddinoaa", sum := "78b9c765da6a485a4a05f06c2f24c9459b67d9e8161bd7cebe6a22c2e97c9b62", func := "loop.example/recordbatches/laws.FnIntMost", spec := "fnIntMost", apart := false }
def FnIntMostSaid : Prop := fnIntMostRow.holds Try.pinned (OpenSpec.ofChange fnIntMostSpec)

/-- ITS FALSE NEIGHBOUR: 'it returns false'. Refute it at one input. -/
def fnIntMostWrong : ChangeSpec := { name := "fnIntMost", fn := fun _ => fun
  | [d] => { results := [.lit (.bool false)], args := [d] }
  | _ => none }
def FnIntMostWrongFalsely : Prop := fnIntMostRow.holds Try.pinned (OpenSpec.ofChange fnIntMostWrong)

/- THE SECOND FORM. 'bulk': how many values and letters a reading holds, each counted each time it is reached (what is shared counts as often as it is met; a slice's spare places count too). A statement '..UptoSaid' is the law's where the arguments, and the package variables that the reading takes, are together of bulk at most 1048576: NARROWER than '..Said'. Prove '..Said' where nothing that the law and all that it calls make is longer than what came in: it says more and counts as full. Else prove '..UptoSaid'. A law counts once. -/
mutual
def uptoBulk {H : Type} : DataW H → Nat
  | .lit (.string bytes) => bytes.length + 1
  | .lit _ => 1
  | .nil => 1
  | .ptr d => uptoBulk d + 1
  | .slice elems spare => uptoBulkAll elems + uptoBulkAll spare + 1
  | .agg parts => uptoBulkAll parts + 1
  | .iface _ d => uptoBulk d + 1
  | .map entries => uptoBulkEntries entries + 1
  | .held _ => 1
def uptoBulkAll {H : Type} : List (DataW H) → Nat
  | [] => 0
  | d :: r => uptoBulk d + uptoBulkAll r
def uptoBulkEntries {H : Type} : List (Lit × DataW H) → Nat
  | [] => 0
  | x :: r => uptoBulkEntry x + uptoBulkEntries r
def uptoBulkEntry {H : Type} : Lit × DataW H → Nat
  | (.string bytes, d) => bytes.length + uptoBulk d + 1
  | (_, d) => uptoBulk d + 1
 end
def uptoSmall : (H : Type) → List (DataW H) → Bool := fun _ ds => decide (uptoBulkAll ds ≤ 1048576)
def OpenSpec.upto (s : _root_.Go.ChangeSpec) : _root_.Go.OpenSpec := { _root_.Go.OpenSpec.ofChange s with cond := some uptoSmall }

/-- 'laws.FnExactConstants', WHERE WHAT IT READS IS OF BULK AT MOST 1048576: true; the input reads as it did. -/
def fnExactConstantsUptoRow : OpenClaim := { program := "ytohbbdklddinoaa", sum := "78b9c765da6a485a4a05f06c2f24c9459b67d9e8161bd7cebe6a22c2e97c9b62", func := "loop.example/recordbatches/laws.FnExactConstants", spec := "fnExactConstants", apart := false, narrowed := true }
def FnExactConstantsUptoSaid : Prop := fnExactConstantsUptoRow.holds Try.pinned (OpenSpec.upto fnExactConstantsSpec)

/-- 'laws.FnExactFoldNumber', WHERE WHAT IT READS IS OF BULK AT MOST 1048576: true; the input reads as it did. -/
def fnExactFoldNumberUptoRow : OpenClaim := { program := "ytohbbdklddinoaa", sum := "78b9c765da6a485a4a05f06c2f24c9459b67d9e8161bd7cebe6a22c2e97c9b62", func := "loop.example/recordbatches/laws.FnExactFoldNumber", spec := "fnExactFoldNumber", apart := false, narrowed := true }
def FnExactFoldNumberUptoSaid : Prop := fnExactFoldNumberUptoRow.holds Try.pinned (OpenSpec.upto fnExactFoldNumberSpec)

/-- 'laws.FnExactUnfoldNumber', WHERE WHAT IT READS IS OF BULK AT MOST 1048576: true; the input reads as it did. -/
def fnExactUnfoldNumberUptoRow : OpenClaim := { program := "ytohbbdklddinoaa", sum := "78b9c765da6a485a4a05f06c2f24c9459b67d9e8161bd7cebe6a22c2e97c9b62", func := "loop.example/recordbatches/laws.FnExactUnfoldNumber", spec := "fnExactUnfoldNumber", apart := false, narrowed := true }
def FnExactUnfoldNumberUptoSaid : Prop := fnExactUnfoldNumberUptoRow.holds Try.pinned (OpenSpec.upto fnExactUnfoldNumberSpec)

/-- 'laws.FnExactVarSize', WHERE WHAT IT READS IS OF BULK AT MOST 1048576: true; the input reads as it did. -/
def fnExactVarSizeUptoRow : OpenClaim := { program := "ytohbbdklddinoaa", sum := "78b9c765da6a485a4a05f06c2f24c9459b67d9e8161bd7cebe6a22c2e97c9b62", func := "loop.example/recordbatches/laws.FnExactVarSize", spec := "fnExactVarSize", apart := false, narrowed := true }
def FnExactVarSizeUptoSaid : Prop := fnExactVarSizeUptoRow.holds Try.pinned (OpenSpec.upto fnExactVarSizeSpec)

/-- 'laws.FnFoldSmall', WHERE WHAT IT READS IS OF BULK AT MOST 1048576: true; the input reads as it did. -/
def fnFoldSmallUptoRow : OpenClaim := { program := "ytohbbdklddinoaa", sum := "78b9c765da6a485a4a05f06c2f24c9459b67d9e8161bd7cebe6a22c2e97c9b62", func := "loop.example/recordbatches/laws.FnFoldSmall", spec := "fnFoldSmall", apart := false, narrowed := true }
def FnFoldSmallUptoSaid : Prop := fnFoldSmallUptoRow.holds Try.pinned (OpenSpec.upto fnFoldSmallSpec)

/-- 'laws.FnUnfold', WHERE WHAT IT READS IS OF BULK AT MOST 1048576: true; the input reads as it did. -/
def fnUnfoldUptoRow : OpenClaim := { program := "ytohbbdklddinoaa", sum := "78b9c765da6a485a4a05f06c2f24c9459b67d9e8161bd7cebe6a22c2e97c9b62", func := "loop.example/recordbatches/laws.FnUnfold", spec := "fnUnfold", apart := false, narrowed := true }
def FnUnfoldUptoSaid : Prop := fnUnfoldUptoRow.holds Try.pinned (OpenSpec.upto fnUnfoldSpec)

/-- 'laws.FnExactIntBytes', WHERE WHAT IT READS IS OF BULK AT MOST 1048576: true; the input reads as it did. -/
def fnExactIntBytesUptoRow : OpenClaim := { program := "ytohbbdklddinoaa", sum := "78b9c765da6a485a4a05f06c2f24c9459b67d9e8161bd7cebe6a22c2e97c9b62", func := "loop.example/recordbatches/laws.FnExactIntBytes", spec := "fnExactIntBytes", apart := false, narrowed := true }
def FnExactIntBytesUptoSaid : Prop := fnExactIntBytesUptoRow.holds Try.pinned (OpenSpec.upto fnExactIntBytesSpec)

/-- 'laws.FnExactSumOf', WHERE WHAT IT READS IS OF BULK AT MOST 1048576: true; the input reads as it did. -/
def fnExactSumOfUptoRow : OpenClaim := { program := "ytohbbdklddinoaa", sum := "78b9c765da6a485a4a05f06c2f24c9459b67d9e8161bd7cebe6a22c2e97c9b62", func := "loop.example/recordbatches/laws.FnExactSumOf", spec := "fnExactSumOf", apart := false, narrowed := true }
def FnExactSumOfUptoSaid : Prop := fnExactSumOfUptoRow.holds Try.pinned (OpenSpec.upto fnExactSumOfSpec)

/-- 'laws.FnExactIntFrom', WHERE WHAT IT READS IS OF BULK AT MOST 1048576: true; the input reads as it did. -/
def fnExactIntFromUptoRow : OpenClaim := { program := "ytohbbdklddinoaa", sum := "78b9c765da6a485a4a05f06c2f24c9459b67d9e8161bd7cebe6a22c2e97c9b62", func := "loop.example/recordbatches/laws.FnExactIntFrom", spec := "fnExactIntFrom", apart := false, narrowed := true }
def FnExactIntFromUptoSaid : Prop := fnExactIntFromUptoRow.holds Try.pinned (OpenSpec.upto fnExactIntFromSpec)

/-- 'laws.FnFold', WHERE WHAT IT READS IS OF BULK AT MOST 1048576: true; the input reads as it did. -/
def fnFoldUptoRow : OpenClaim := { program := "ytohbbdklddinoaa", sum := "78b9c765da6a485a4a05f06c2f24c9459b67d9e8161bd7cebe6a22c2e97c9b62", func := "loop.example/recordbatches/laws.FnFold", spec := "fnFold", apart := false, narrowed := true }
def FnFoldUptoSaid : Prop := fnFoldUptoRow.holds Try.pinned (OpenSpec.upto fnFoldSpec)

/-- 'laws.FnExactVarBytes', WHERE WHAT IT READS IS OF BULK AT MOST 1048576: true; the input reads as it did. -/
def fnExactVarBytesUptoRow : OpenClaim := { program := "ytohbbdklddinoaa", sum := "78b9c765da6a485a4a05f06c2f24c9459b67d9e8161bd7cebe6a22c2e97c9b62", func := "loop.example/recordbatches/laws.FnExactVarBytes", spec := "fnExactVarBytes", apart := false, narrowed := true }
def FnExactVarBytesUptoSaid : Prop := fnExactVarBytesUptoRow.holds Try.pinned (OpenSpec.upto fnExactVarBytesSpec)

/-- 'laws.FnIntMost', WHERE WHAT IT READS IS OF BULK AT MOST 1048576: true; the input reads as it did. -/
def fnIntMostUptoRow : OpenClaim := { program := "ytohbbdklddinoaa", sum := "78b9c765da6a485a4a05f06c2f24c9459b67d9e8161bd7cebe6a22c2e97c9b62", func := "loop.example/recordbatches/laws.FnIntMost", spec := "fnIntMost", apart := false, narrowed := true }
def FnIntMostUptoSaid : Prop := fnIntMostUptoRow.holds Try.pinned (OpenSpec.upto fnIntMostSpec)

end Rows
end Go.Proofs.Ytohbbdklddinoaa
