/-
  No cell of these rows narrows 'for every input' (looked for: loops, veiled, ifaces, maps, wideKeys, modest, calm, conditions, laid).
  DERIVED. THE GIVEN ROWS OF THIS SEAT. 12 by the template 'for every input the law returns true; each argument reads behind the call as it read before'; 0 by the template 'total and deterministic' (their statements: YtgfngjbkcfchcaaTotals.lean).
  GIVEN WITH THE SEED: the statements are not yours to turn. If you find one false, say at which input.
  Laid BY PROGRAM, IN A SANDBOX (cutbox-rows.mjs): the forced cells as the released guide's own fill.sh prints them over the translation ea8db4f4ab6a611d… (all of the seat's roots in one cut). By AI agents, Wed Nov 11 2026. No macro, syntax, notation, axiom, sorry.
-/
import Derived.Test.YtgfngjbkcfchcaaChecked
import GoSem.Claim
import GoSem.ClaimJoined
import GoSem.ClaimMapViews
import Derived.JoinedTies
import Derived.KernelRfl
namespace Go.Proofs.Ytgfngjbkcfchcaa
/- THE CELL 'sum', in the pinned program and in every row, IS THE sha256 OF THE DUMP (.gsa) THAT YtgfngjbkcfchcaaProg.lean LOADS. Nothing in Lean hashes anything: it is a label: what it is worth is what the hold of that sum in a sandbox is worth. -/
noncomputable def Try.pinned : Pinned := { name := "ytgfngjbkcfchcaa", sum := "ea8db4f4ab6a611d6c9d467cff787ad0e3bee14a1aff4038b4bae4e53e0f6afb", checked := Try.checked }
namespace Rows
def none {H : Type} : Left H := { results := [], args := [] }

/-- 'laws.FnIntOrder': WHATEVER THE INPUT: true; the input reads as it did. -/
def fnIntOrderSpec : ChangeSpec := { name := "fnIntOrder", fn := fun _ => fun
  | [d] => { results := [.lit (.bool true)], args := [d] }
  | _ => none }
def fnIntOrderRow : OpenClaim := { program := "ytgfngjbkcfchcaa", sum := "ea8db4f4ab6a611d6c9d467cff787ad0e3bee14a1aff4038b4bae4e53e0f6afb", func := "loop.example/recordbatches/laws.FnIntOrder", spec := "fnIntOrder", apart := false }
def FnIntOrderSaid : Prop := fnIntOrderRow.holds Try.pinned (OpenSpec.ofChange fnIntOrderSpec)

/-- ITS FALSE NEIGHBOUR: 'it returns false'. Refute it at one input. -/
def fnIntOrderWrong : ChangeSpec := { name := "fnIntOrder", fn := fun _ => fun
  | [d] => { results := [.lit (.bool false)], args := [d] }
  | _ => none }
def FnIntOrderWrongFalsely : Prop := fnIntOrderRow.holds Try.pinned (OpenSpec.ofChange fnIntOrderWrong)

/-- 'laws.FnSum': WHATEVER THE INPUT: true; the input reads as it did. -/
def fnSumSpec : ChangeSpec := { name := "fnSum", fn := fun _ => fun
  | [d] => { results := [.lit (.bool true)], args := [d] }
  | _ => none }
def fnSumRow : OpenClaim := { program := "ytgfngjbkcfchcaa", sum := "ea8db4f4ab6a611d6c9d467cff787ad0e3bee14a1aff4038b4bae4e53e0f6afb", func := "loop.example/recordbatches/laws.FnSum", spec := "fnSum", apart := false }
def FnSumSaid : Prop := fnSumRow.holds Try.pinned (OpenSpec.ofChange fnSumSpec)

/-- ITS FALSE NEIGHBOUR: 'it returns false'. Refute it at one input. -/
def fnSumWrong : ChangeSpec := { name := "fnSum", fn := fun _ => fun
  | [d] => { results := [.lit (.bool false)], args := [d] }
  | _ => none }
def FnSumWrongFalsely : Prop := fnSumRow.holds Try.pinned (OpenSpec.ofChange fnSumWrong)

/-- 'laws.FnSumByte': WHATEVER THE INPUT: true; the input reads as it did. -/
def fnSumByteSpec : ChangeSpec := { name := "fnSumByte", fn := fun _ => fun
  | [d1, d2] => { results := [.lit (.bool true)], args := [d1, d2] }
  | _ => none }
def fnSumByteRow : OpenClaim := { program := "ytgfngjbkcfchcaa", sum := "ea8db4f4ab6a611d6c9d467cff787ad0e3bee14a1aff4038b4bae4e53e0f6afb", func := "loop.example/recordbatches/laws.FnSumByte", spec := "fnSumByte", apart := false }
def FnSumByteSaid : Prop := fnSumByteRow.holds Try.pinned (OpenSpec.ofChange fnSumByteSpec)

/-- ITS FALSE NEIGHBOUR: 'it returns false'. Refute it at one input. -/
def fnSumByteWrong : ChangeSpec := { name := "fnSumByte", fn := fun _ => fun
  | [d1, d2] => { results := [.lit (.bool false)], args := [d1, d2] }
  | _ => none }
def FnSumByteWrongFalsely : Prop := fnSumByteRow.holds Try.pinned (OpenSpec.ofChange fnSumByteWrong)

/-- 'laws.FnSumSwap': WHATEVER THE INPUT: true; the input reads as it did. -/
def fnSumSwapSpec : ChangeSpec := { name := "fnSumSwap", fn := fun _ => fun
  | [d1, d2] => { results := [.lit (.bool true)], args := [d1, d2] }
  | _ => none }
def fnSumSwapRow : OpenClaim := { program := "ytgfngjbkcfchcaa", sum := "ea8db4f4ab6a611d6c9d467cff787ad0e3bee14a1aff4038b4bae4e53e0f6afb", func := "loop.example/recordbatches/laws.FnSumSwap", spec := "fnSumSwap", apart := false }
def FnSumSwapSaid : Prop := fnSumSwapRow.holds Try.pinned (OpenSpec.ofChange fnSumSwapSpec)

/-- ITS FALSE NEIGHBOUR: 'it returns false'. Refute it at one input. -/
def fnSumSwapWrong : ChangeSpec := { name := "fnSumSwap", fn := fun _ => fun
  | [d1, d2] => { results := [.lit (.bool false)], args := [d1, d2] }
  | _ => none }
def FnSumSwapWrongFalsely : Prop := fnSumSwapRow.holds Try.pinned (OpenSpec.ofChange fnSumSwapWrong)

/-- 'laws.FnExactBytesText': WHATEVER THE INPUT: true; the input reads as it did. -/
def fnExactBytesTextSpec : ChangeSpec := { name := "fnExactBytesText", fn := fun _ => fun
  | [d] => { results := [.lit (.bool true)], args := [d] }
  | _ => none }
def fnExactBytesTextRow : OpenClaim := { program := "ytgfngjbkcfchcaa", sum := "ea8db4f4ab6a611d6c9d467cff787ad0e3bee14a1aff4038b4bae4e53e0f6afb", func := "loop.example/recordbatches/laws.FnExactBytesText", spec := "fnExactBytesText", inPlace := ["internal/abi.NoEscape"], apart := false }
def FnExactBytesTextSaid : Prop := fnExactBytesTextRow.holds Try.pinned (OpenSpec.ofChange fnExactBytesTextSpec)

/-- ITS FALSE NEIGHBOUR: 'it returns false'. Refute it at one input. -/
def fnExactBytesTextWrong : ChangeSpec := { name := "fnExactBytesText", fn := fun _ => fun
  | [d] => { results := [.lit (.bool false)], args := [d] }
  | _ => none }
def FnExactBytesTextWrongFalsely : Prop := fnExactBytesTextRow.holds Try.pinned (OpenSpec.ofChange fnExactBytesTextWrong)

/-- 'laws.FnIntFromNot': WHATEVER THE INPUT: true; the input reads as it did. -/
def fnIntFromNotSpec : ChangeSpec := { name := "fnIntFromNot", fn := fun _ => fun
  | [d] => { results := [.lit (.bool true)], args := [d] }
  | _ => none }
def fnIntFromNotRow : OpenClaim := { program := "ytgfngjbkcfchcaa", sum := "ea8db4f4ab6a611d6c9d467cff787ad0e3bee14a1aff4038b4bae4e53e0f6afb", func := "loop.example/recordbatches/laws.FnIntFromNot", spec := "fnIntFromNot", apart := false }
def FnIntFromNotSaid : Prop := fnIntFromNotRow.holds Try.pinned (OpenSpec.ofChange fnIntFromNotSpec)

/-- ITS FALSE NEIGHBOUR: 'it returns false'. Refute it at one input. -/
def fnIntFromNotWrong : ChangeSpec := { name := "fnIntFromNot", fn := fun _ => fun
  | [d] => { results := [.lit (.bool false)], args := [d] }
  | _ => none }
def FnIntFromNotWrongFalsely : Prop := fnIntFromNotRow.holds Try.pinned (OpenSpec.ofChange fnIntFromNotWrong)

/-- 'laws.FnVarSize': WHATEVER THE INPUT: true; the input reads as it did. -/
def fnVarSizeSpec : ChangeSpec := { name := "fnVarSize", fn := fun _ => fun
  | [d] => { results := [.lit (.bool true)], args := [d] }
  | _ => none }
def fnVarSizeRow : OpenClaim := { program := "ytgfngjbkcfchcaa", sum := "ea8db4f4ab6a611d6c9d467cff787ad0e3bee14a1aff4038b4bae4e53e0f6afb", func := "loop.example/recordbatches/laws.FnVarSize", spec := "fnVarSize", apart := false }
def FnVarSizeSaid : Prop := fnVarSizeRow.holds Try.pinned (OpenSpec.ofChange fnVarSizeSpec)

/-- ITS FALSE NEIGHBOUR: 'it returns false'. Refute it at one input. -/
def fnVarSizeWrong : ChangeSpec := { name := "fnVarSize", fn := fun _ => fun
  | [d] => { results := [.lit (.bool false)], args := [d] }
  | _ => none }
def FnVarSizeWrongFalsely : Prop := fnVarSizeRow.holds Try.pinned (OpenSpec.ofChange fnVarSizeWrong)

/-- 'laws.FnRecordPart': WHATEVER THE INPUT: true; the input reads as it did. -/
def fnRecordPartSpec : ChangeSpec := { name := "fnRecordPart", fn := fun _ => fun
  | [d] => { results := [.lit (.bool true)], args := [d] }
  | _ => none }
def fnRecordPartRow : OpenClaim := { program := "ytgfngjbkcfchcaa", sum := "ea8db4f4ab6a611d6c9d467cff787ad0e3bee14a1aff4038b4bae4e53e0f6afb", func := "loop.example/recordbatches/laws.FnRecordPart", spec := "fnRecordPart", apart := false }
def FnRecordPartSaid : Prop := fnRecordPartRow.holds Try.pinned (OpenSpec.ofChange fnRecordPartSpec)

/-- ITS FALSE NEIGHBOUR: 'it returns false'. Refute it at one input. -/
def fnRecordPartWrong : ChangeSpec := { name := "fnRecordPart", fn := fun _ => fun
  | [d] => { results := [.lit (.bool false)], args := [d] }
  | _ => none }
def FnRecordPartWrongFalsely : Prop := fnRecordPartRow.holds Try.pinned (OpenSpec.ofChange fnRecordPartWrong)

/-- 'laws.FnVarShape': WHATEVER THE INPUT: true; the input reads as it did. -/
def fnVarShapeSpec : ChangeSpec := { name := "fnVarShape", fn := fun _ => fun
  | [d] => { results := [.lit (.bool true)], args := [d] }
  | _ => none }
def fnVarShapeRow : OpenClaim := { program := "ytgfngjbkcfchcaa", sum := "ea8db4f4ab6a611d6c9d467cff787ad0e3bee14a1aff4038b4bae4e53e0f6afb", func := "loop.example/recordbatches/laws.FnVarShape", spec := "fnVarShape", apart := false }
def FnVarShapeSaid : Prop := fnVarShapeRow.holds Try.pinned (OpenSpec.ofChange fnVarShapeSpec)

/-- ITS FALSE NEIGHBOUR: 'it returns false'. Refute it at one input. -/
def fnVarShapeWrong : ChangeSpec := { name := "fnVarShape", fn := fun _ => fun
  | [d] => { results := [.lit (.bool false)], args := [d] }
  | _ => none }
def FnVarShapeWrongFalsely : Prop := fnVarShapeRow.holds Try.pinned (OpenSpec.ofChange fnVarShapeWrong)

/-- 'laws.FnVarSign': WHATEVER THE INPUT: true; the input reads as it did. -/
def fnVarSignSpec : ChangeSpec := { name := "fnVarSign", fn := fun _ => fun
  | [d] => { results := [.lit (.bool true)], args := [d] }
  | _ => none }
def fnVarSignRow : OpenClaim := { program := "ytgfngjbkcfchcaa", sum := "ea8db4f4ab6a611d6c9d467cff787ad0e3bee14a1aff4038b4bae4e53e0f6afb", func := "loop.example/recordbatches/laws.FnVarSign", spec := "fnVarSign", apart := false }
def FnVarSignSaid : Prop := fnVarSignRow.holds Try.pinned (OpenSpec.ofChange fnVarSignSpec)

/-- ITS FALSE NEIGHBOUR: 'it returns false'. Refute it at one input. -/
def fnVarSignWrong : ChangeSpec := { name := "fnVarSign", fn := fun _ => fun
  | [d] => { results := [.lit (.bool false)], args := [d] }
  | _ => none }
def FnVarSignWrongFalsely : Prop := fnVarSignRow.holds Try.pinned (OpenSpec.ofChange fnVarSignWrong)

/-- 'laws.FnExactVarFrom': WHATEVER THE INPUT: true; the input reads as it did. -/
def fnExactVarFromSpec : ChangeSpec := { name := "fnExactVarFrom", fn := fun _ => fun
  | [d1, d2] => { results := [.lit (.bool true)], args := [d1, d2] }
  | _ => none }
def fnExactVarFromRow : OpenClaim := { program := "ytgfngjbkcfchcaa", sum := "ea8db4f4ab6a611d6c9d467cff787ad0e3bee14a1aff4038b4bae4e53e0f6afb", func := "loop.example/recordbatches/laws.FnExactVarFrom", spec := "fnExactVarFrom", apart := false }
def FnExactVarFromSaid : Prop := fnExactVarFromRow.holds Try.pinned (OpenSpec.ofChange fnExactVarFromSpec)

/-- ITS FALSE NEIGHBOUR: 'it returns false'. Refute it at one input. -/
def fnExactVarFromWrong : ChangeSpec := { name := "fnExactVarFrom", fn := fun _ => fun
  | [d1, d2] => { results := [.lit (.bool false)], args := [d1, d2] }
  | _ => none }
def FnExactVarFromWrongFalsely : Prop := fnExactVarFromRow.holds Try.pinned (OpenSpec.ofChange fnExactVarFromWrong)

/-- 'laws.FnInt': WHATEVER THE INPUT: true; the input reads as it did. -/
def fnIntSpec : ChangeSpec := { name := "fnInt", fn := fun _ => fun
  | [d] => { results := [.lit (.bool true)], args := [d] }
  | _ => none }
def fnIntRow : OpenClaim := { program := "ytgfngjbkcfchcaa", sum := "ea8db4f4ab6a611d6c9d467cff787ad0e3bee14a1aff4038b4bae4e53e0f6afb", func := "loop.example/recordbatches/laws.FnInt", spec := "fnInt", apart := false }
def FnIntSaid : Prop := fnIntRow.holds Try.pinned (OpenSpec.ofChange fnIntSpec)

/-- ITS FALSE NEIGHBOUR: 'it returns false'. Refute it at one input. -/
def fnIntWrong : ChangeSpec := { name := "fnInt", fn := fun _ => fun
  | [d] => { results := [.lit (.bool false)], args := [d] }
  | _ => none }
def FnIntWrongFalsely : Prop := fnIntRow.holds Try.pinned (OpenSpec.ofChange fnIntWrong)

/- THE SECOND FORM. 'bulk': how many values and letters a reading holds, each counted each time it is reached (what is shared counts as often as it is met; a slice's spare places count too). A statement '..UptoSaid' is the law's where the arguments, and the package variables that the reading takes, are together of bulk at most 1048576: NARROWER than '..Said'. Prove '..Said' where nothing that the law and all that it calls make is longer than what came in: it says more and counts as full. Else prove '..UptoSaid'. A law counts once. -/
mutual
def uptoBulk {H : Type} : DataW H → Nat
  | .lit (.string bytes) => bytes.length + 1
  | .lit _ => 1
  | .nil => 1
  | .ptr d => uptoBulk d + 1
  | .slice elems spare => uptoBulkAll elems + uptoBulkAll spare + 1
  | .agg parts => uptoBulkAll parts + 1
  | .iface _ d => uptoBulk d + 1
  | .map entries => uptoBulkEntries entries + 1
  | .held _ => 1
def uptoBulkAll {H : Type} : List (DataW H) → Nat
  | [] => 0
  | d :: r => uptoBulk d + uptoBulkAll r
def uptoBulkEntries {H : Type} : List (Lit × DataW H) → Nat
  | [] => 0
  | x :: r => uptoBulkEntry x + uptoBulkEntries r
def uptoBulkEntry {H : Type} : Lit × DataW H → Nat
  | (.string bytes, d) => bytes.length + uptoBulk d + 1
  | (_, d) => uptoBulk d + 1
 end
def uptoSmall : (H : Type) → List (DataW H) → Bool := fun _ ds => decide (uptoBulkAll ds ≤ 1048576)
def OpenSpec.upto (s : _root_.Go.ChangeSpec) : _root_.Go.OpenSpec := { _root_.Go.OpenSpec.ofChange s with cond := some uptoSmall }

/-- 'laws.FnIntOrder', WHERE WHAT IT READS IS OF BULK AT MOST 1048576: true; the input reads as it did. -/
def fnIntOrderUptoRow : OpenClaim := { program := "ytgfngjbkcfchcaa", sum := "ea8db4f4ab6a611d6c9d467cff787ad0e3bee14a1aff4038b4bae4e53e0f6afb", func := "loop.example/recordbatches/laws.FnIntOrder", spec := "fnIntOrder", apart := false, narrowed := true }
def FnIntOrderUptoSaid : Prop := fnIntOrderUptoRow.holds Try.pinned (OpenSpec.upto fnIntOrderSpec)

/-- 'laws.FnSum', WHERE WHAT IT READS IS OF BULK AT MOST 1048576: true; the input reads as it did. -/
def fnSumUptoRow : OpenClaim := { program := "ytgfngjbkcfchcaa", sum := "ea8db4f4ab6a611d6c9d467cff787ad0e3bee14a1aff4038b4bae4e53e0f6afb", func := "loop.example/recordbatches/laws.FnSum", spec := "fnSum", apart := false, narrowed := true }
def FnSumUptoSaid : Prop := fnSumUptoRow.holds Try.pinned (OpenSpec.upto fnSumSpec)

/-- 'laws.FnSumByte', WHERE WHAT IT READS IS OF BULK AT MOST 1048576: true; the input reads as it did. -/
def fnSumByteUptoRow : OpenClaim := { program := "ytgfngjbkcfchcaa", sum := "ea8db4f4ab6a611d6c9d467cff787ad0e3bee14a1aff4038b4bae4e53e0f6afb", func := "loop.example/recordbatches/laws.FnSumByte", spec := "fnSumByte", apart := false, narrowed := true }
def FnSumByteUptoSaid : Prop := fnSumByteUptoRow.holds Try.pinned (OpenSpec.upto fnSumByteSpec)

/-- 'laws.FnSumSwap', WHERE WHAT IT READS IS OF BULK AT MOST 1048576: true; the input reads as it did. -/
def fnSumSwapUptoRow : OpenClaim := { program := "ytgfngjbkcfchcaa", sum := "ea8db4f4ab6a611d6c9d467cff787ad0e3bee14a1aff4038b4bae4e53e0f6afb", func := "loop.example/recordbatches/laws.FnSumSwap", spec := "fnSumSwap", apart := false, narrowed := true }
def FnSumSwapUptoSaid : Prop := fnSumSwapUptoRow.holds Try.pinned (OpenSpec.upto fnSumSwapSpec)

/-- 'laws.FnExactBytesText', WHERE WHAT IT READS IS OF BULK AT MOST 1048576: true; the input reads as it did. -/
def fnExactBytesTextUptoRow : OpenClaim := { program := "ytgfngjbkcfchcaa", sum := "ea8db4f4ab6a611d6c9d467cff787ad0e3bee14a1aff4038b4bae4e53e0f6afb", func := "loop.example/recordbatches/laws.FnExactBytesText", spec := "fnExactBytesText", inPlace := ["internal/abi.NoEscape"], apart := false, narrowed := true }
def FnExactBytesTextUptoSaid : Prop := fnExactBytesTextUptoRow.holds Try.pinned (OpenSpec.upto fnExactBytesTextSpec)

/-- 'laws.FnIntFromNot', WHERE WHAT IT READS IS OF BULK AT MOST 1048576: true; the input reads as it did. -/
def fnIntFromNotUptoRow : OpenClaim := { program := "ytgfngjbkcfchcaa", sum := "ea8db4f4ab6a611d6c9d467cff787ad0e3bee14a1aff4038b4bae4e53e0f6afb", func := "loop.example/recordbatches/laws.FnIntFromNot", spec := "fnIntFromNot", apart := false, narrowed := true }
def FnIntFromNotUptoSaid : Prop := fnIntFromNotUptoRow.holds Try.pinned (OpenSpec.upto fnIntFromNotSpec)

/-- 'laws.FnVarSize', WHERE WHAT IT READS IS OF BULK AT MOST 1048576: true; the input reads as it did. -/
def fnVarSizeUptoRow : OpenClaim := { program := "ytgfngjbkcfchcaa", sum := "ea8db4f4ab6a611d6c9d467cff787ad0e3bee14a1aff4038b4bae4e53e0f6afb", func := "loop.example/recordbatches/laws.FnVarSize", spec := "fnVarSize", apart := false, narrowed := true }
def FnVarSizeUptoSaid : Prop := fnVarSizeUptoRow.holds Try.pinned (OpenSpec.upto fnVarSizeSpec)

/-- 'laws.FnRecordPart', WHERE WHAT IT READS IS OF BULK AT MOST 1048576: true; the input reads as it did. -/
def fnRecordPartUptoRow : OpenClaim := { program := "ytgfngjbkcfchcaa", sum := "ea8db4f4ab6a611d6c9d467cff787ad0e3bee14a1aff4038b4bae4e53e0f6afb", func := "loop.example/recordbatches/laws.FnRecordPart", spec := "fnRecordPart", apart := false, narrowed := true }
def FnRecordPartUptoSaid : Prop := fnRecordPartUptoRow.holds Try.pinned (OpenSpec.upto fnRecordPartSpec)

/-- 'laws.FnVarShape', WHERE WHAT IT READS IS OF BULK AT MOST 1048576: true; the input reads as it did. -/
def fnVarShapeUptoRow : OpenClaim := { program := "ytgfngjbkcfchcaa", sum := "ea8db4f4ab6a611d6c9d467cff787ad0e3bee14a1aff4038b4bae4e53e0f6afb", func := "loop.example/recordbatches/laws.FnVarShape", spec := "fnVarShape", apart := false, narrowed := true }
def FnVarShapeUptoSaid : Prop := fnVarShapeUptoRow.holds Try.pinned (OpenSpec.upto fnVarShapeSpec)

/-- 'laws.FnVarSign', WHERE WHAT IT READS IS OF BULK AT MOST 1048576: true; the input reads as it did. -/
def fnVarSignUptoRow : OpenClaim := { program := "ytgfngjbkcfchcaa", sum := "ea8db4f4ab6a611d6c9d467cff787ad0e3bee14a1aff4038b4bae4e53e0f6afb", func := "loop.example/recordbatches/laws.FnVarSign", spec := "fnVarSign", apart := false, narrowed := true }
def FnVarSignUptoSaid : Prop := fnVarSignUptoRow.holds Try.pinned (OpenSpec.upto fnVarSignSpec)

/-- 'laws.FnExactVarFrom', WHERE WHAT IT READS IS OF BULK AT MOST 1048576: true; the input reads as it did. -/
def fnExactVarFromUptoRow : OpenClaim := { program := "ytgfngjbkcfchcaa", sum := "ea8db4f4ab6a611d6c9d467cff787ad0e3bee14a1aff4038b4bae4e53e0f6afb", func := "loop.example/recordbatches/laws.FnExactVarFrom", spec := "fnExactVarFrom", apart := false, narrowed := true }
def FnExactVarFromUptoSaid : Prop := fnExactVarFromUptoRow.holds Try.pinned (OpenSpec.upto fnExactVarFromSpec)

/-- 'laws.FnInt', WHERE WHAT IT READS IS OF BULK AT MOST 1048576: true; the input reads as it did. -/
def fnIntUptoRow : OpenClaim := { program := "ytgfngjbkcfchcaa", sum := "ea8db4f4ab6a611d6c9d467cff787ad0e3bee14a1aff4038b4bae4e53e0f6afb", func := "loop.example/recordbatches/laws.FnInt", spec := "fnInt", apart := false, narrowed := true }
def FnIntUptoSaid : Prop := fnIntUptoRow.holds Try.pinned (OpenSpec.upto fnIntSpec)

end Rows
end Go.Proofs.Ytgfngjbkcfchcaa
