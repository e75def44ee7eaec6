/-
  No cell of these rows narrows 'for every input' (looked for: loops, veiled, ifaces, maps, wideKeys, modest, calm, conditions, laid).
  DERIVED. THE GIVEN ROWS OF THIS SEAT. 12 by the template 'for every input the law returns true; each argument reads behind the call as it read before'; 0 by the template 'total and deterministic' (their statements: YtmpnedpokdaejaaTotals.lean).
  GIVEN WITH THE SEED: the statements are not yours to turn. If you find one false, say at which input.
  Laid BY PROGRAM, IN A SANDBOX (cutbox-rows.mjs): the forced cells as the released guide's own fill.sh prints them over the translation 5d2e7f78a4aa07bf… (all of the seat's roots in one cut). By AI agents, Wed Nov 11 2026. No macro, syntax, notation, axiom, sorry.
-/
import Derived.Test.YtmpnedpokdaejaaChecked
import GoSem.Claim
import GoSem.ClaimJoined
import GoSem.ClaimMapViews
import Derived.JoinedTies
import Derived.KernelRfl
namespace Go.Proofs.Ytmpnedpokdaejaa
/- THE CELL 'sum', in the pinned program and in every row, IS THE sha256 OF THE DUMP (.gsa) THAT YtmpnedpokdaejaaProg.lean LOADS. Nothing in Lean hashes anything: it is a label: what it is worth is what the hold of that sum in a sandbox is worth. -/
noncomputable def Try.pinned : Pinned := { name := "ytmpnedpokdaejaa", sum := "5d2e7f78a4aa07bfba483e0f8615a795f678d1332fdc323aec71750090c3811e", checked := Try.checked }
namespace Rows
def none {H : Type} : Left H := { results := [], args := [] }

/-- 'laws.FnOldTorn': WHATEVER THE INPUT: true; the input reads as it did. -/
def fnOldTornSpec : ChangeSpec := { name := "fnOldTorn", fn := fun _ => fun
  | [d] => { results := [.lit (.bool true)], args := [d] }
  | _ => none }
def fnOldTornRow : OpenClaim := { program := "ytmpnedpokdaejaa", sum := "5d2e7f78a4aa07bfba483e0f8615a795f678d1332fdc323aec71750090c3811e", func := "loop.example/recordbatches/laws.FnOldTorn", spec := "fnOldTorn", apart := false }
def FnOldTornSaid : Prop := fnOldTornRow.holds Try.pinned (OpenSpec.ofChange fnOldTornSpec)

/-- ITS FALSE NEIGHBOUR: 'it returns false'. Refute it at one input. -/
def fnOldTornWrong : ChangeSpec := { name := "fnOldTorn", fn := fun _ => fun
  | [d] => { results := [.lit (.bool false)], args := [d] }
  | _ => none }
def FnOldTornWrongFalsely : Prop := fnOldTornRow.holds Try.pinned (OpenSpec.ofChange fnOldTornWrong)

/-- 'laws.FnOldFrom': WHATEVER THE INPUT: true; the input reads as it did. -/
def fnOldFromSpec : ChangeSpec := { name := "fnOldFrom", fn := fun _ => fun
  | [d] => { results := [.lit (.bool true)], args := [d] }
  | _ => none }
def fnOldFromRow : OpenClaim := { program := "ytmpnedpokdaejaa", sum := "5d2e7f78a4aa07bfba483e0f8615a795f678d1332fdc323aec71750090c3811e", func := "loop.example/recordbatches/laws.FnOldFrom", spec := "fnOldFrom", apart := false }
def FnOldFromSaid : Prop := fnOldFromRow.holds Try.pinned (OpenSpec.ofChange fnOldFromSpec)

/-- ITS FALSE NEIGHBOUR: 'it returns false'. Refute it at one input. -/
def fnOldFromWrong : ChangeSpec := { name := "fnOldFrom", fn := fun _ => fun
  | [d] => { results := [.lit (.bool false)], args := [d] }
  | _ => none }
def FnOldFromWrongFalsely : Prop := fnOldFromRow.holds Try.pinned (OpenSpec.ofChange fnOldFromWrong)

/-- 'laws.FnExactOldTurn': WHATEVER THE INPUT: true; the input reads as it did. -/
def fnExactOldTurnSpec : ChangeSpec := { name := "fnExactOldTurn", fn := fun _ => fun
  | [d1, d2] => { results := [.lit (.bool true)], args := [d1, d2] }
  | _ => none }
def fnExactOldTurnRow : OpenClaim := { program := "ytmpnedpokdaejaa", sum := "5d2e7f78a4aa07bfba483e0f8615a795f678d1332fdc323aec71750090c3811e", func := "loop.example/recordbatches/laws.FnExactOldTurn", spec := "fnExactOldTurn", apart := false }
def FnExactOldTurnSaid : Prop := fnExactOldTurnRow.holds Try.pinned (OpenSpec.ofChange fnExactOldTurnSpec)

/-- ITS FALSE NEIGHBOUR: 'it returns false'. Refute it at one input. -/
def fnExactOldTurnWrong : ChangeSpec := { name := "fnExactOldTurn", fn := fun _ => fun
  | [d1, d2] => { results := [.lit (.bool false)], args := [d1, d2] }
  | _ => none }
def FnExactOldTurnWrongFalsely : Prop := fnExactOldTurnRow.holds Try.pinned (OpenSpec.ofChange fnExactOldTurnWrong)

/-- 'laws.FnOldPart': WHATEVER THE INPUT: true; the input reads as it did. -/
def fnOldPartSpec : ChangeSpec := { name := "fnOldPart", fn := fun _ => fun
  | [d] => { results := [.lit (.bool true)], args := [d] }
  | _ => none }
def fnOldPartRow : OpenClaim := { program := "ytmpnedpokdaejaa", sum := "5d2e7f78a4aa07bfba483e0f8615a795f678d1332fdc323aec71750090c3811e", func := "loop.example/recordbatches/laws.FnOldPart", spec := "fnOldPart", apart := false }
def FnOldPartSaid : Prop := fnOldPartRow.holds Try.pinned (OpenSpec.ofChange fnOldPartSpec)

/-- ITS FALSE NEIGHBOUR: 'it returns false'. Refute it at one input. -/
def fnOldPartWrong : ChangeSpec := { name := "fnOldPart", fn := fun _ => fun
  | [d] => { results := [.lit (.bool false)], args := [d] }
  | _ => none }
def FnOldPartWrongFalsely : Prop := fnOldPartRow.holds Try.pinned (OpenSpec.ofChange fnOldPartWrong)

/-- 'laws.FnExactOldValid': WHATEVER THE INPUT: true; the input reads as it did. -/
def fnExactOldValidSpec : ChangeSpec := { name := "fnExactOldValid", fn := fun _ => fun
  | [d] => { results := [.lit (.bool true)], args := [d] }
  | _ => none }
def fnExactOldValidRow : OpenClaim := { program := "ytmpnedpokdaejaa", sum := "5d2e7f78a4aa07bfba483e0f8615a795f678d1332fdc323aec71750090c3811e", func := "loop.example/recordbatches/laws.FnExactOldValid", spec := "fnExactOldValid", apart := false }
def FnExactOldValidSaid : Prop := fnExactOldValidRow.holds Try.pinned (OpenSpec.ofChange fnExactOldValidSpec)

/-- ITS FALSE NEIGHBOUR: 'it returns false'. Refute it at one input. -/
def fnExactOldValidWrong : ChangeSpec := { name := "fnExactOldValid", fn := fun _ => fun
  | [d] => { results := [.lit (.bool false)], args := [d] }
  | _ => none }
def FnExactOldValidWrongFalsely : Prop := fnExactOldValidRow.holds Try.pinned (OpenSpec.ofChange fnExactOldValidWrong)

/-- 'laws.FnTurn': WHATEVER THE INPUT: true; the input reads as it did. -/
def fnTurnSpec : ChangeSpec := { name := "fnTurn", fn := fun _ => fun
  | [d] => { results := [.lit (.bool true)], args := [d] }
  | _ => none }
def fnTurnRow : OpenClaim := { program := "ytmpnedpokdaejaa", sum := "5d2e7f78a4aa07bfba483e0f8615a795f678d1332fdc323aec71750090c3811e", func := "loop.example/recordbatches/laws.FnTurn", spec := "fnTurn", apart := false }
def FnTurnSaid : Prop := fnTurnRow.holds Try.pinned (OpenSpec.ofChange fnTurnSpec)

/-- ITS FALSE NEIGHBOUR: 'it returns false'. Refute it at one input. -/
def fnTurnWrong : ChangeSpec := { name := "fnTurn", fn := fun _ => fun
  | [d] => { results := [.lit (.bool false)], args := [d] }
  | _ => none }
def FnTurnWrongFalsely : Prop := fnTurnRow.holds Try.pinned (OpenSpec.ofChange fnTurnWrong)

/-- 'laws.FnTurnOrder': WHATEVER THE INPUT: true; the input reads as it did. -/
def fnTurnOrderSpec : ChangeSpec := { name := "fnTurnOrder", fn := fun _ => fun
  | [d] => { results := [.lit (.bool true)], args := [d] }
  | _ => none }
def fnTurnOrderRow : OpenClaim := { program := "ytmpnedpokdaejaa", sum := "5d2e7f78a4aa07bfba483e0f8615a795f678d1332fdc323aec71750090c3811e", func := "loop.example/recordbatches/laws.FnTurnOrder", spec := "fnTurnOrder", apart := false }
def FnTurnOrderSaid : Prop := fnTurnOrderRow.holds Try.pinned (OpenSpec.ofChange fnTurnOrderSpec)

/-- ITS FALSE NEIGHBOUR: 'it returns false'. Refute it at one input. -/
def fnTurnOrderWrong : ChangeSpec := { name := "fnTurnOrder", fn := fun _ => fun
  | [d] => { results := [.lit (.bool false)], args := [d] }
  | _ => none }
def FnTurnOrderWrongFalsely : Prop := fnTurnOrderRow.holds Try.pinned (OpenSpec.ofChange fnTurnOrderWrong)

/-- 'laws.FnOldLength': WHATEVER THE INPUT: true; the input reads as it did. -/
def fnOldLengthSpec : ChangeSpec := { name := "fnOldLength", fn := fun _ => fun
  | [d] => { results := [.lit (.bool true)], args := [d] }
  | _ => none }
def fnOldLengthRow : OpenClaim := { program := "ytmpnedpokdaejaa", sum := "5d2e7f78a4aa07bfba483e0f8615a795f678d1332fdc323aec71750090c3811e", func := "loop.example/recordbatches/laws.FnOldLength", spec := "fnOldLength", apart := false }
def FnOldLengthSaid : Prop := fnOldLengthRow.holds Try.pinned (OpenSpec.ofChange fnOldLengthSpec)

/-- ITS FALSE NEIGHBOUR: 'it returns false'. Refute it at one input. -/
def fnOldLengthWrong : ChangeSpec := { name := "fnOldLength", fn := fun _ => fun
  | [d] => { results := [.lit (.bool false)], args := [d] }
  | _ => none }
def FnOldLengthWrongFalsely : Prop := fnOldLengthRow.holds Try.pinned (OpenSpec.ofChange fnOldLengthWrong)

/-- 'laws.FnExactOldBytes': WHATEVER THE INPUT: true; the input reads as it did. -/
def fnExactOldBytesSpec : ChangeSpec := { name := "fnExactOldBytes", fn := fun _ => fun
  | [d] => { results := [.lit (.bool true)], args := [d] }
  | _ => none }
def fnExactOldBytesRow : OpenClaim := { program := "ytmpnedpokdaejaa", sum := "5d2e7f78a4aa07bfba483e0f8615a795f678d1332fdc323aec71750090c3811e", func := "loop.example/recordbatches/laws.FnExactOldBytes", spec := "fnExactOldBytes", apart := false }
def FnExactOldBytesSaid : Prop := fnExactOldBytesRow.holds Try.pinned (OpenSpec.ofChange fnExactOldBytesSpec)

/-- ITS FALSE NEIGHBOUR: 'it returns false'. Refute it at one input. -/
def fnExactOldBytesWrong : ChangeSpec := { name := "fnExactOldBytes", fn := fun _ => fun
  | [d] => { results := [.lit (.bool false)], args := [d] }
  | _ => none }
def FnExactOldBytesWrongFalsely : Prop := fnExactOldBytesRow.holds Try.pinned (OpenSpec.ofChange fnExactOldBytesWrong)

/-- 'laws.FnOldDamage': WHATEVER THE INPUT: true; the input reads as it did. -/
def fnOldDamageSpec : ChangeSpec := { name := "fnOldDamage", fn := fun _ => fun
  | [d1, d2] => { results := [.lit (.bool true)], args := [d1, d2] }
  | _ => none }
def fnOldDamageRow : OpenClaim := { program := "ytmpnedpokdaejaa", sum := "5d2e7f78a4aa07bfba483e0f8615a795f678d1332fdc323aec71750090c3811e", func := "loop.example/recordbatches/laws.FnOldDamage", spec := "fnOldDamage", apart := false }
def FnOldDamageSaid : Prop := fnOldDamageRow.holds Try.pinned (OpenSpec.ofChange fnOldDamageSpec)

/-- ITS FALSE NEIGHBOUR: 'it returns false'. Refute it at one input. -/
def fnOldDamageWrong : ChangeSpec := { name := "fnOldDamage", fn := fun _ => fun
  | [d1, d2] => { results := [.lit (.bool false)], args := [d1, d2] }
  | _ => none }
def FnOldDamageWrongFalsely : Prop := fnOldDamageRow.holds Try.pinned (OpenSpec.ofChange fnOldDamageWrong)

/-- 'laws.FnOld': WHATEVER THE INPUT: true; the input reads as it did. -/
def fnOldSpec : ChangeSpec := { name := "fnOld", fn := fun _ => fun
  | [d] => { results := [.lit (.bool true)], args := [d] }
  | _ => none }
def fnOldRow : OpenClaim := { program := "ytmpnedpokdaejaa", sum := "5d2e7f78a4aa07bfba483e0f8615a795f678d1332fdc323aec71750090c3811e", func := "loop.example/recordbatches/laws.FnOld", spec := "fnOld", apart := false }
def FnOldSaid : Prop := fnOldRow.holds Try.pinned (OpenSpec.ofChange fnOldSpec)

/-- ITS FALSE NEIGHBOUR: 'it returns false'. Refute it at one input. -/
def fnOldWrong : ChangeSpec := { name := "fnOld", fn := fun _ => fun
  | [d] => { results := [.lit (.bool false)], args := [d] }
  | _ => none }
def FnOldWrongFalsely : Prop := fnOldRow.holds Try.pinned (OpenSpec.ofChange fnOldWrong)

/-- 'laws.FnExactOldFrom': WHATEVER THE INPUT: true; the input reads as it did. -/
def fnExactOldFromSpec : ChangeSpec := { name := "fnExactOldFrom", fn := fun _ => fun
  | [d] => { results := [.lit (.bool true)], args := [d] }
  | _ => none }
def fnExactOldFromRow : OpenClaim := { program := "ytmpnedpokdaejaa", sum := "5d2e7f78a4aa07bfba483e0f8615a795f678d1332fdc323aec71750090c3811e", func := "loop.example/recordbatches/laws.FnExactOldFrom", spec := "fnExactOldFrom", apart := false }
def FnExactOldFromSaid : Prop := fnExactOldFromRow.holds Try.pinned (OpenSpec.ofChange fnExactOldFromSpec)

/-- ITS FALSE NEIGHBOUR: 'it returns false'. Refute it at one input. -/
def fnExactOldFromWrong : ChangeSpec := { name := "fnExactOldFrom", fn := fun _ => fun
  | [d] => { results := [.lit (.bool false)], args := [d] }
  | _ => none }
def FnExactOldFromWrongFalsely : Prop := fnExactOldFromRow.holds Try.pinned (OpenSpec.ofChange fnExactOldFromWrong)

/- THE SECOND FORM. 'bulk': how many values and letters a reading holds, each counted each time it is reached (what is shared counts as often as it is met; a slice's spare places count too). A statement '..UptoSaid' is the law's where the arguments, and the package variables that the reading takes, are together of bulk at most 1048576: NARROWER than '..Said'. Prove '..Said' where nothing that the law and all that it calls make is longer than what came in: it says more and counts as full. Else prove '..UptoSaid'. A law counts once. -/
mutual
def uptoBulk {H : Type} : DataW H → Nat
  | .lit (.string bytes) => bytes.length + 1
  | .lit _ => 1
  | .nil => 1
  | .ptr d => uptoBulk d + 1
  | .slice elems spare => uptoBulkAll elems + uptoBulkAll spare + 1
  | .agg parts => uptoBulkAll parts + 1
  | .iface _ d => uptoBulk d + 1
  | .map entries => uptoBulkEntries entries + 1
  | .held _ => 1
def uptoBulkAll {H : Type} : List (DataW H) → Nat
  | [] => 0
  | d :: r => uptoBulk d + uptoBulkAll r
def uptoBulkEntries {H : Type} : List (Lit × DataW H) → Nat
  | [] => 0
  | x :: r => uptoBulkEntry x + uptoBulkEntries r
def uptoBulkEntry {H : Type} : Lit × DataW H → Nat
  | (.string bytes, d) => bytes.length + uptoBulk d + 1
  | (_, d) => uptoBulk d + 1
 end
def uptoSmall : (H : Type) → List (DataW H) → Bool := fun _ ds => decide (uptoBulkAll ds ≤ 1048576)
def OpenSpec.upto (s : _root_.Go.ChangeSpec) : _root_.Go.OpenSpec := { _root_.Go.OpenSpec.ofChange s with cond := some uptoSmall }

/-- 'laws.FnOldTorn', WHERE WHAT IT READS IS OF BULK AT MOST 1048576: true; the input reads as it did. -/
def fnOldTornUptoRow : OpenClaim := { program := "ytmpnedpokdaejaa", sum := "5d2e7f78a4aa07bfba483e0f8615a795f678d1332fdc323aec71750090c3811e", func := "loop.example/recordbatches/laws.FnOldTorn", spec := "fnOldTorn", apart := false, narrowed := true }
def FnOldTornUptoSaid : Prop := fnOldTornUptoRow.holds Try.pinned (OpenSpec.upto fnOldTornSpec)

/-- 'laws.FnOldFrom', WHERE WHAT IT READS IS OF BULK AT MOST 1048576: true; the input reads as it did. -/
def fnOldFromUptoRow : OpenClaim := { program := "ytmpnedpokdaejaa", sum := "5d2e7f78a4aa07bfba483e0f8615a795f678d1332fdc323aec71750090c3811e", func := "loop.example/recordbatches/laws.FnOldFrom", spec := "fnOldFrom", apart := false, narrowed := true }
def FnOldFromUptoSaid : Prop := fnOldFromUptoRow.holds Try.pinned (OpenSpec.upto fnOldFromSpec)

/-- 'laws.FnExactOldTurn', WHERE WHAT IT READS IS OF BULK AT MOST 1048576: true; the input reads as it did. -/
def fnExactOldTurnUptoRow : OpenClaim := { program := "ytmpnedpokdaejaa", sum := "5d2e7f78a4aa07bfba483e0f8615a795f678d1332fdc323aec71750090c3811e", func := "loop.example/recordbatches/laws.FnExactOldTurn", spec := "fnExactOldTurn", apart := false, narrowed := true }
def FnExactOldTurnUptoSaid : Prop := fnExactOldTurnUptoRow.holds Try.pinned (OpenSpec.upto fnExactOldTurnSpec)

/-- 'laws.FnOldPart', WHERE WHAT IT READS IS OF BULK AT MOST 1048576: true; the input reads as it did. -/
def fnOldPartUptoRow : OpenClaim := { program := "ytmpnedpokdaejaa", sum := "5d2e7f78a4aa07bfba483e0f8615a795f678d1332fdc323aec71750090c3811e", func := "loop.example/recordbatches/laws.FnOldPart", spec := "fnOldPart", apart := false, narrowed := true }
def FnOldPartUptoSaid : Prop := fnOldPartUptoRow.holds Try.pinned (OpenSpec.upto fnOldPartSpec)

/-- 'laws.FnExactOldValid', WHERE WHAT IT READS IS OF BULK AT MOST 1048576: true; the input reads as it did. -/
def fnExactOldValidUptoRow : OpenClaim := { program := "ytmpnedpokdaejaa", sum := "5d2e7f78a4aa07bfba483e0f8615a795f678d1332fdc323aec71750090c3811e", func := "loop.example/recordbatches/laws.FnExactOldValid", spec := "fnExactOldValid", apart := false, narrowed := true }
def FnExactOldValidUptoSaid : Prop := fnExactOldValidUptoRow.holds Try.pinned (OpenSpec.upto fnExactOldValidSpec)

/-- 'laws.FnTurn', WHERE WHAT IT READS IS OF BULK AT MOST 1048576: true; the input reads as it did. -/
def fnTurnUptoRow : OpenClaim := { program := "ytmpnedpokdaejaa", sum := "5d2e7f78a4aa07bfba483e0f8615a795f678d1332fdc323aec71750090c3811e", func := "loop.example/recordbatches/laws.FnTurn", spec := "fnTurn", apart := false, narrowed := true }
def FnTurnUptoSaid : Prop := fnTurnUptoRow.holds Try.pinned (OpenSpec.upto fnTurnSpec)

/-- 'laws.FnTurnOrder', WHERE WHAT IT READS IS OF BULK AT MOST 1048576: true; the input reads as it did. -/
def fnTurnOrderUptoRow : OpenClaim := { program := "ytmpnedpokdaejaa", sum := "5d2e7f78a4aa07bfba483e0f8615a795f678d1332fdc323aec71750090c3811e", func := "loop.example/recordbatches/laws.FnTurnOrder", spec := "fnTurnOrder", apart := false, narrowed := true }
def FnTurnOrderUptoSaid : Prop := fnTurnOrderUptoRow.holds Try.pinned (OpenSpec.upto fnTurnOrderSpec)

/-- 'laws.FnOldLength', WHERE WHAT IT READS IS OF BULK AT MOST 1048576: true; the input reads as it did. -/
def fnOldLengthUptoRow : OpenClaim := { program := "ytmpnedpokdaejaa", sum := "5d2e7f78a4aa07bfba483e0f8615a795f678d1332fdc323aec71750090c3811e", func := "loop.example/recordbatches/laws.FnOldLength", spec := "fnOldLength", apart := false, narrowed := true }
def FnOldLengthUptoSaid : Prop := fnOldLengthUptoRow.holds Try.pinned (OpenSpec.upto fnOldLengthSpec)

/-- 'laws.FnExactOldBytes', WHERE WHAT IT READS IS OF BULK AT MOST 1048576: true; the input reads as it did. -/
def fnExactOldBytesUptoRow : OpenClaim := { program := "ytmpnedpokdaejaa", sum := "5d2e7f78a4aa07bfba483e0f8615a795f678d1332fdc323aec71750090c3811e", func := "loop.example/recordbatches/laws.FnExactOldBytes", spec := "fnExactOldBytes", apart := false, narrowed := true }
def FnExactOldBytesUptoSaid : Prop := fnExactOldBytesUptoRow.holds Try.pinned (OpenSpec.upto fnExactOldBytesSpec)

/-- 'laws.FnOldDamage', WHERE WHAT IT READS IS OF BULK AT MOST 1048576: true; the input reads as it did. -/
def fnOldDamageUptoRow : OpenClaim := { program := "ytmpnedpokdaejaa", sum := "5d2e7f78a4aa07bfba483e0f8615a795f678d1332fdc323aec71750090c3811e", func := "loop.example/recordbatches/laws.FnOldDamage", spec := "fnOldDamage", apart := false, narrowed := true }
def FnOldDamageUptoSaid : Prop := fnOldDamageUptoRow.holds Try.pinned (OpenSpec.upto fnOldDamageSpec)

/-- 'laws.FnOld', WHERE WHAT IT READS IS OF BULK AT MOST 1048576: true; the input reads as it did. -/
def fnOldUptoRow : OpenClaim := { program := "ytmpnedpokdaejaa", sum := "5d2e7f78a4aa07bfba483e0f8615a795f678d1332fdc323aec71750090c3811e", func := "loop.example/recordbatches/laws.FnOld", spec := "fnOld", apart := false, narrowed := true }
def FnOldUptoSaid : Prop := fnOldUptoRow.holds Try.pinned (OpenSpec.upto fnOldSpec)

/-- 'laws.FnExactOldFrom', WHERE WHAT IT READS IS OF BULK AT MOST 1048576: true; the input reads as it did. -/
def fnExactOldFromUptoRow : OpenClaim := { program := "ytmpnedpokdaejaa", sum := "5d2e7f78a4aa07bfba483e0f8615a795f678d1332fdc323aec71750090c3811e", func := "loop.example/recordbatches/laws.FnExactOldFrom", spec := "fnExactOldFrom", apart := false, narrowed := true }
def FnExactOldFromUptoSaid : Prop := fnExactOldFromUptoRow.holds Try.pinned (OpenSpec.upto fnExactOldFromSpec)

end Rows
end Go.Proofs.Ytmpnedpokdaejaa
