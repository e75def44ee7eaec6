/-
  No cell of these rows narrows 'for every input' (looked for: loops, veiled, ifaces, maps, wideKeys, modest, calm, conditions, laid).
  DERIVED. THE GIVEN ROWS OF THIS SEAT. 9 by the template 'for every input the law returns true; each argument reads behind the call as it read before'; 0 by the template 'total and deterministic' (their statements: YtjbgbnngfbhmjaaTotals.lean).
  GIVEN WITH THE SEED: the statements are not yours to turn. If you find one false, say at which input.
  Laid BY PROGRAM, IN A SANDBOX (cutbox-rows.mjs): the forced cells as the released guide's own fill.sh prints them over the translation ebdc392f87e1d878… (all of the seat's roots in one cut). By AI agents, Wed Nov 11 2026. No macro, syntax, notation, axiom, sorry.
-/
import Derived.Test.YtjbgbnngfbhmjaaChecked
import GoSem.Claim
import GoSem.ClaimJoined
import GoSem.ClaimMapViews
import Derived.JoinedTies
import Derived.KernelRfl
namespace Go.Proofs.Ytjbgbnngfbhmjaa
/- THE CELL 'sum', in the pinned program and in every row, IS THE sha256 OF THE DUMP (.gsa) THAT YtjbgbnngfbhmjaaProg.lean LOADS. Nothing in Lean hashes anything: it is a label: what it is worth is what the hold of that sum in a sandbox is worth. -/
noncomputable def Try.pinned : Pinned := { name := "ytjbgbnngfbhmjaa", sum := "ebdc392f87e1d8788cafd5a38efb0b7c71ab200f64d8590456197c6312289ecf", checked := Try.checked }
namespace Rows
def none {H : Type} : Left H := { results := [], args := [] }

/-- 'laws.FnExactPackGain': WHATEVER THE INPUT: true; the input reads as it did. -/
def fnExactPackGainSpec : ChangeSpec := { name := "fnExactPackGain", fn := fun _ => fun
  | [d] => { results := [.lit (.bool true)], args := [d] }
  | _ => none }
def fnExactPackGainRow : OpenClaim := { program := "ytjbgbnngfbhmjaa", sum := "ebdc392f87e1d8788cafd5a38efb0b7c71ab200f64d8590456197c6312289ecf", func := "loop.example/recordbatches/laws.FnExactPackGain", spec := "fnExactPackGain", unfollowed := true, recurses := true, plainKeys := false, apart := false }
def FnExactPackGainSaid : Prop := fnExactPackGainRow.holds Try.pinned (OpenSpec.ofChange fnExactPackGainSpec)

/-- ITS FALSE NEIGHBOUR: 'it returns false'. Refute it at one input. -/
def fnExactPackGainWrong : ChangeSpec := { name := "fnExactPackGain", fn := fun _ => fun
  | [d] => { results := [.lit (.bool false)], args := [d] }
  | _ => none }
def FnExactPackGainWrongFalsely : Prop := fnExactPackGainRow.holds Try.pinned (OpenSpec.ofChange fnExactPackGainWrong)

/-- 'laws.FnExactPackBytes': WHATEVER THE INPUT: true; the input reads as it did. -/
def fnExactPackBytesSpec : ChangeSpec := { name := "fnExactPackBytes", fn := fun _ => fun
  | [d] => { results := [.lit (.bool true)], args := [d] }
  | _ => none }
def fnExactPackBytesRow : OpenClaim := { program := "ytjbgbnngfbhmjaa", sum := "ebdc392f87e1d8788cafd5a38efb0b7c71ab200f64d8590456197c6312289ecf", func := "loop.example/recordbatches/laws.FnExactPackBytes", spec := "fnExactPackBytes", unfollowed := true, recurses := true, plainKeys := false, apart := false }
def FnExactPackBytesSaid : Prop := fnExactPackBytesRow.holds Try.pinned (OpenSpec.ofChange fnExactPackBytesSpec)

/-- ITS FALSE NEIGHBOUR: 'it returns false'. Refute it at one input. -/
def fnExactPackBytesWrong : ChangeSpec := { name := "fnExactPackBytes", fn := fun _ => fun
  | [d] => { results := [.lit (.bool false)], args := [d] }
  | _ => none }
def FnExactPackBytesWrongFalsely : Prop := fnExactPackBytesRow.holds Try.pinned (OpenSpec.ofChange fnExactPackBytesWrong)

/-- 'laws.FnUnpackTwo': WHATEVER THE INPUT: true; the input reads as it did. -/
def fnUnpackTwoSpec : ChangeSpec := { name := "fnUnpackTwo", fn := fun _ => fun
  | [d] => { results := [.lit (.bool true)], args := [d] }
  | _ => none }
def fnUnpackTwoRow : OpenClaim := { program := "ytjbgbnngfbhmjaa", sum := "ebdc392f87e1d8788cafd5a38efb0b7c71ab200f64d8590456197c6312289ecf", func := "loop.example/recordbatches/laws.FnUnpackTwo", spec := "fnUnpackTwo", plainKeys := false, apart := false }
def FnUnpackTwoSaid : Prop := fnUnpackTwoRow.holds Try.pinned (OpenSpec.ofChange fnUnpackTwoSpec)

/-- ITS FALSE NEIGHBOUR: 'it returns false'. Refute it at one input. -/
def fnUnpackTwoWrong : ChangeSpec := { name := "fnUnpackTwo", fn := fun _ => fun
  | [d] => { results := [.lit (.bool false)], args := [d] }
  | _ => none }
def FnUnpackTwoWrongFalsely : Prop := fnUnpackTwoRow.holds Try.pinned (OpenSpec.ofChange fnUnpackTwoWrong)

/-- 'laws.FnPackLong': WHATEVER THE INPUT: true; the input reads as it did. -/
def fnPackLongSpec : ChangeSpec := { name := "fnPackLong", fn := fun _ => fun
  | [d] => { results := [.lit (.bool true)], args := [d] }
  | _ => none }
def fnPackLongRow : OpenClaim := { program := "ytjbgbnngfbhmjaa", sum := "ebdc392f87e1d8788cafd5a38efb0b7c71ab200f64d8590456197c6312289ecf", func := "loop.example/recordbatches/laws.FnPackLong", spec := "fnPackLong", unfollowed := true, recurses := true, plainKeys := false, apart := false }
def FnPackLongSaid : Prop := fnPackLongRow.holds Try.pinned (OpenSpec.ofChange fnPackLongSpec)

/-- ITS FALSE NEIGHBOUR: 'it returns false'. Refute it at one input. -/
def fnPackLongWrong : ChangeSpec := { name := "fnPackLong", fn := fun _ => fun
  | [d] => { results := [.lit (.bool false)], args := [d] }
  | _ => none }
def FnPackLongWrongFalsely : Prop := fnPackLongRow.holds Try.pinned (OpenSpec.ofChange fnPackLongWrong)

/-- 'laws.FnPackSame': WHATEVER THE INPUT: true; the input reads as it did. -/
def fnPackSameSpec : ChangeSpec := { name := "fnPackSame", fn := fun _ => fun
  | [d] => { results := [.lit (.bool true)], args := [d] }
  | _ => none }
def fnPackSameRow : OpenClaim := { program := "ytjbgbnngfbhmjaa", sum := "ebdc392f87e1d8788cafd5a38efb0b7c71ab200f64d8590456197c6312289ecf", func := "loop.example/recordbatches/laws.FnPackSame", spec := "fnPackSame", unfollowed := true, recurses := true, plainKeys := false, apart := false }
def FnPackSameSaid : Prop := fnPackSameRow.holds Try.pinned (OpenSpec.ofChange fnPackSameSpec)

/-- ITS FALSE NEIGHBOUR: 'it returns false'. Refute it at one input. -/
def fnPackSameWrong : ChangeSpec := { name := "fnPackSame", fn := fun _ => fun
  | [d] => { results := [.lit (.bool false)], args := [d] }
  | _ => none }
def FnPackSameWrongFalsely : Prop := fnPackSameRow.holds Try.pinned (OpenSpec.ofChange fnPackSameWrong)

/-- 'laws.FnPackTwice': WHATEVER THE INPUT: true; the input reads as it did. -/
def fnPackTwiceSpec : ChangeSpec := { name := "fnPackTwice", fn := fun _ => fun
  | [d] => { results := [.lit (.bool true)], args := [d] }
  | _ => none }
def fnPackTwiceRow : OpenClaim := { program := "ytjbgbnngfbhmjaa", sum := "ebdc392f87e1d8788cafd5a38efb0b7c71ab200f64d8590456197c6312289ecf", func := "loop.example/recordbatches/laws.FnPackTwice", spec := "fnPackTwice", unfollowed := true, recurses := true, plainKeys := false, apart := false }
def FnPackTwiceSaid : Prop := fnPackTwiceRow.holds Try.pinned (OpenSpec.ofChange fnPackTwiceSpec)

/-- ITS FALSE NEIGHBOUR: 'it returns false'. Refute it at one input. -/
def fnPackTwiceWrong : ChangeSpec := { name := "fnPackTwice", fn := fun _ => fun
  | [d] => { results := [.lit (.bool false)], args := [d] }
  | _ => none }
def FnPackTwiceWrongFalsely : Prop := fnPackTwiceRow.holds Try.pinned (OpenSpec.ofChange fnPackTwiceWrong)

/-- 'laws.FnGain': WHATEVER THE INPUT: true; the input reads as it did. -/
def fnGainSpec : ChangeSpec := { name := "fnGain", fn := fun _ => fun
  | [d] => { results := [.lit (.bool true)], args := [d] }
  | _ => none }
def fnGainRow : OpenClaim := { program := "ytjbgbnngfbhmjaa", sum := "ebdc392f87e1d8788cafd5a38efb0b7c71ab200f64d8590456197c6312289ecf", func := "loop.example/recordbatches/laws.FnGain", spec := "fnGain", unfollowed := true, recurses := true, plainKeys := false, apart := false }
def FnGainSaid : Prop := fnGainRow.holds Try.pinned (OpenSpec.ofChange fnGainSpec)

/-- ITS FALSE NEIGHBOUR: 'it returns false'. Refute it at one input. -/
def fnGainWrong : ChangeSpec := { name := "fnGain", fn := fun _ => fun
  | [d] => { results := [.lit (.bool false)], args := [d] }
  | _ => none }
def FnGainWrongFalsely : Prop := fnGainRow.holds Try.pinned (OpenSpec.ofChange fnGainWrong)

/-- 'laws.FnPack': WHATEVER THE INPUT: true; the input reads as it did. -/
def fnPackSpec : ChangeSpec := { name := "fnPack", fn := fun _ => fun
  | [d] => { results := [.lit (.bool true)], args := [d] }
  | _ => none }
def fnPackRow : OpenClaim := { program := "ytjbgbnngfbhmjaa", sum := "ebdc392f87e1d8788cafd5a38efb0b7c71ab200f64d8590456197c6312289ecf", func := "loop.example/recordbatches/laws.FnPack", spec := "fnPack", unfollowed := true, recurses := true, plainKeys := false, apart := false }
def FnPackSaid : Prop := fnPackRow.holds Try.pinned (OpenSpec.ofChange fnPackSpec)

/-- ITS FALSE NEIGHBOUR: 'it returns false'. Refute it at one input. -/
def fnPackWrong : ChangeSpec := { name := "fnPack", fn := fun _ => fun
  | [d] => { results := [.lit (.bool false)], args := [d] }
  | _ => none }
def FnPackWrongFalsely : Prop := fnPackRow.holds Try.pinned (OpenSpec.ofChange fnPackWrong)

/-- 'laws.FnUnpack': WHATEVER THE INPUT: true; the input reads as it did. -/
def fnUnpackSpec : ChangeSpec := { name := "fnUnpack", fn := fun _ => fun
  | [d] => { results := [.lit (.bool true)], args := [d] }
  | _ => none }
def fnUnpackRow : OpenClaim := { program := "ytjbgbnngfbhmjaa", sum := "ebdc392f87e1d8788cafd5a38efb0b7c71ab200f64d8590456197c6312289ecf", func := "loop.example/recordbatches/laws.FnUnpack", spec := "fnUnpack", unfollowed := true, recurses := true, plainKeys := false, apart := false }
def FnUnpackSaid : Prop := fnUnpackRow.holds Try.pinned (OpenSpec.ofChange fnUnpackSpec)

/-- ITS FALSE NEIGHBOUR: 'it returns false'. Refute it at one input. -/
def fnUnpackWrong : ChangeSpec := { name := "fnUnpack", fn := fun _ => fun
  | [d] => { results := [.lit (.bool false)], args := [d] }
  | _ => none }
def FnUnpackWrongFalsely : Prop := fnUnpackRow.holds Try.pinned (OpenSpec.ofChange fnUnpackWrong)

/- THE SECOND FORM. 'bulk': how many values and letters a reading holds, each counted each time it is reached (what is shared counts as often as it is met; a slice's spare places count too). A statement '..UptoSaid' is the law's where the arguments, and the package variables that the reading takes, are together of bulk at most 1048576: NARROWER than '..Said'. Prove '..Said' where nothing that the law and all that it calls make is longer than what came in: it says more and counts as full. Else prove '..UptoSaid'. A law counts once. -/
mutual
def uptoBulk {H : Type} : DataW H → Nat
  | .lit (.string bytes) => bytes.length + 1
  | .lit _ => 1
  | .nil => 1
  | .ptr d => uptoBulk d + 1
  | .slice elems spare => uptoBulkAll elems + uptoBulkAll spare + 1
  | .agg parts => uptoBulkAll parts + 1
  | .iface _ d => uptoBulk d + 1
  | .map entries => uptoBulkEntries entries + 1
  | .held _ => 1
def uptoBulkAll {H : Type} : List (DataW H) → Nat
  | [] => 0
  | d :: r => uptoBulk d + uptoBulkAll r
def uptoBulkEntries {H : Type} : List (Lit × DataW H) → Nat
  | [] => 0
  | x :: r => uptoBulkEntry x + uptoBulkEntries r
def uptoBulkEntry {H : Type} : Lit × DataW H → Nat
  | (.string bytes, d) => bytes.length + uptoBulk d + 1
  | (_, d) => uptoBulk d + 1
 end
def uptoSmall : (H : Type) → List (DataW H) → Bool := fun _ ds => decide (uptoBulkAll ds ≤ 1048576)
def OpenSpec.upto (s : _root_.Go.ChangeSpec) : _root_.Go.OpenSpec := { _root_.Go.OpenSpec.ofChange s with cond := some uptoSmall }

/-- 'laws.FnExactPackGain', WHERE WHAT IT READS IS OF BULK AT MOST 1048576: true; the input reads as it did. -/
def fnExactPackGainUptoRow : OpenClaim := { program := "ytjbgbnngfbhmjaa", sum := "ebdc392f87e1d8788cafd5a38efb0b7c71ab200f64d8590456197c6312289ecf", func := "loop.example/recordbatches/laws.FnExactPackGain", spec := "fnExactPackGain", unfollowed := true, recurses := true, plainKeys := false, apart := false, narrowed := true }
def FnExactPackGainUptoSaid : Prop := fnExactPackGainUptoRow.holds Try.pinned (OpenSpec.upto fnExactPackGainSpec)

/-- 'laws.FnExactPackBytes', WHERE WHAT IT READS IS OF BULK AT MOST 1048576: true; the input reads as it did. -/
def fnExactPackBytesUptoRow : OpenClaim := { program := "ytjbgbnngfbhmjaa", sum := "ebdc392f87e1d8788cafd5a38efb0b7c71ab200f64d8590456197c6312289ecf", func := "loop.example/recordbatches/laws.FnExactPackBytes", spec := "fnExactPackBytes", unfollowed := true, recurses := true, plainKeys := false, apart := false, narrowed := true }
def FnExactPackBytesUptoSaid : Prop := fnExactPackBytesUptoRow.holds Try.pinned (OpenSpec.upto fnExactPackBytesSpec)

/-- 'laws.FnUnpackTwo', WHERE WHAT IT READS IS OF BULK AT MOST 1048576: true; the input reads as it did. -/
def fnUnpackTwoUptoRow : OpenClaim := { program := "ytjbgbnngfbhmjaa", sum := "ebdc392f87e1d8788cafd5a38efb0b7c71ab200f64d8590456197c6312289ecf", func := "loop.example/recordbatches/laws.FnUnpackTwo", spec := "fnUnpackTwo", plainKeys := false, apart := false, narrowed := true }
def FnUnpackTwoUptoSaid : Prop := fnUnpackTwoUptoRow.holds Try.pinned (OpenSpec.upto fnUnpackTwoSpec)

/-- 'laws.FnPackLong', WHERE WHAT IT READS IS OF BULK AT MOST 1048576: true; the input reads as it did. -/
def fnPackLongUptoRow : OpenClaim := { program := "ytjbgbnngfbhmjaa", sum := "ebdc392f87e1d8788cafd5a38efb0b7c71ab200f64d8590456197c6312289ecf", func := "loop.example/recordbatches/laws.FnPackLong", spec := "fnPackLong", unfollowed := true, recurses := true, plainKeys := false, apart := false, narrowed := true }
def FnPackLongUptoSaid : Prop := fnPackLongUptoRow.holds Try.pinned (OpenSpec.upto fnPackLongSpec)

/-- 'laws.FnPackSame', WHERE WHAT IT READS IS OF BULK AT MOST 1048576: true; the input reads as it did. -/
def fnPackSameUptoRow : OpenClaim := { program := "ytjbgbnngfbhmjaa", sum := "ebdc392f87e1d8788cafd5a38efb0b7c71ab200f64d8590456197c6312289ecf", func := "loop.example/recordbatches/laws.FnPackSame", spec := "fnPackSame", unfollowed := true, recurses := true, plainKeys := false, apart := false, narrowed := true }
def FnPackSameUptoSaid : Prop := fnPackSameUptoRow.holds Try.pinned (OpenSpec.upto fnPackSameSpec)

/-- 'laws.FnPackTwice', WHERE WHAT IT READS IS OF BULK AT MOST 1048576: true; the input reads as it did. -/
def fnPackTwiceUptoRow : OpenClaim := { program := "ytjbgbnngfbhmjaa", sum := "ebdc392f87e1d8788cafd5a38efb0b7c71ab200f64d8590456197c6312289ecf", func := "loop.example/recordbatches/laws.FnPackTwice", spec := "fnPackTwice", unfollowed := true, recurses := true, plainKeys := false, apart := false, narrowed := true }
def FnPackTwiceUptoSaid : Prop := fnPackTwiceUptoRow.holds Try.pinned (OpenSpec.upto fnPackTwiceSpec)

/-- 'laws.FnGain', WHERE WHAT IT READS IS OF BULK AT MOST 1048576: true; the input reads as it did. -/
def fnGainUptoRow : OpenClaim := { program := "ytjbgbnngfbhmjaa", sum := "ebdc392f87e1d8788cafd5a38efb0b7c71ab200f64d8590456197c6312289ecf", func := "loop.example/recordbatches/laws.FnGain", spec := "fnGain", unfollowed := true, recurses := true, plainKeys := false, apart := false, narrowed := true }
def FnGainUptoSaid : Prop := fnGainUptoRow.holds Try.pinned (OpenSpec.upto fnGainSpec)

/-- 'laws.FnPack', WHERE WHAT IT READS IS OF BULK AT MOST 1048576: true; the input reads as it did. -/
def fnPackUptoRow : OpenClaim := { program := "ytjbgbnngfbhmjaa", sum := "ebdc392f87e1d8788cafd5a38efb0b7c71ab200f64d8590456197c6312289ecf", func := "loop.example/recordbatches/laws.FnPack", spec := "fnPack", unfollowed := true, recurses := true, plainKeys := false, apart := false, narrowed := true }
def FnPackUptoSaid : Prop := fnPackUptoRow.holds Try.pinned (OpenSpec.upto fnPackSpec)

/-- 'laws.FnUnpack', WHERE WHAT IT READS IS OF BULK AT MOST 1048576: true; the input reads as it did. -/
def fnUnpackUptoRow : OpenClaim := { program := "ytjbgbnngfbhmjaa", sum := "ebdc392f87e1d8788cafd5a38efb0b7c71ab200f64d8590456197c6312289ecf", func := "loop.example/recordbatches/laws.FnUnpack", spec := "fnUnpack", unfollowed := true, recurses := true, plainKeys := false, apart := false, narrowed := true }
def FnUnpackUptoSaid : Prop := fnUnpackUptoRow.holds Try.pinned (OpenSpec.upto fnUnpackSpec)

end Rows
end Go.Proofs.Ytjbgbnngfbhmjaa
