/-
  No cell of these rows narrows 'for every input' (looked for: loops, veiled, ifaces, maps, wideKeys, modest, calm, conditions, laid).
  DERIVED. THE GIVEN ROWS OF THIS SEAT. 11 by the template 'for every input the law returns true; each argument reads behind the call as it read before'; 0 by the template 'total and deterministic' (their statements: YtjejfhjkilhbbaaTotals.lean).
  GIVEN WITH THE SEED: the statements are not yours to turn. If you find one false, say at which input.
  Laid BY PROGRAM, IN A SANDBOX (cutbox-rows.mjs): the forced cells as the released guide's own fill.sh prints them over the translation 2463890cdba91bff… (all of the seat's roots in one cut). By AI agents, Wed Nov 11 2026. No macro, syntax, notation, axiom, sorry.
-/
import Derived.Test.YtjejfhjkilhbbaaChecked
import GoSem.Claim
import GoSem.ClaimJoined
import GoSem.ClaimMapViews
import Derived.JoinedTies
import Derived.KernelRfl
namespace Go.Proofs.Ytjejfhjkilhbbaa
/- THE CELL 'sum', in the pinned program and in every row, IS THE sha256 OF THE DUMP (.gsa) THAT YtjejfhjkilhbbaaProg.lean LOADS. Nothing in Lean hashes anything: it is a label: what it is worth is what the hold of that sum in a sandbox is worth. -/
noncomputable def Try.pinned : Pinned := { name := "ytjejfhjkilhbbaa", sum := "2463890cdba91bff70c8b3e738ed6d69fe42f04cefcea72f70d130c67145a3fa", checked := Try.checked }
namespace Rows
def none {H : Type} : Left H := { results := [], args := [] }

/-- 'laws.FnExactEqualBytes': WHATEVER THE INPUT: true; the input reads as it did. -/
def fnExactEqualBytesSpec : ChangeSpec := { name := "fnExactEqualBytes", fn := fun _ => fun
  | [d1, d2] => { results := [.lit (.bool true)], args := [d1, d2] }
  | _ => none }
def fnExactEqualBytesRow : OpenClaim := { program := "ytjejfhjkilhbbaa", sum := "2463890cdba91bff70c8b3e738ed6d69fe42f04cefcea72f70d130c67145a3fa", func := "loop.example/g03005/laws.FnExactEqualBytes", spec := "fnExactEqualBytes", apart := false }
def FnExactEqualBytesSaid : Prop := fnExactEqualBytesRow.holds Try.pinned (OpenSpec.ofChange fnExactEqualBytesSpec)

/-- ITS FALSE NEIGHBOUR: 'it returns false'. Refute it at one input. -/
def fnExactEqualBytesWrong : ChangeSpec := { name := "fnExactEqualBytes", fn := fun _ => fun
  | [d1, d2] => { results := [.lit (.bool false)], args := [d1, d2] }
  | _ => none }
def FnExactEqualBytesWrongFalsely : Prop := fnExactEqualBytesRow.holds Try.pinned (OpenSpec.ofChange fnExactEqualBytesWrong)

/-- 'laws.FnExactTurnSegment': WHATEVER THE INPUT: true; the input reads as it did. -/
def fnExactTurnSegmentSpec : ChangeSpec := { name := "fnExactTurnSegment", fn := fun _ => fun
  | [d] => { results := [.lit (.bool true)], args := [d] }
  | _ => none }
def fnExactTurnSegmentRow : OpenClaim := { program := "ytjejfhjkilhbbaa", sum := "2463890cdba91bff70c8b3e738ed6d69fe42f04cefcea72f70d130c67145a3fa", func := "loop.example/g03005/laws.FnExactTurnSegment", spec := "fnExactTurnSegment", apart := false }
def FnExactTurnSegmentSaid : Prop := fnExactTurnSegmentRow.holds Try.pinned (OpenSpec.ofChange fnExactTurnSegmentSpec)

/-- ITS FALSE NEIGHBOUR: 'it returns false'. Refute it at one input. -/
def fnExactTurnSegmentWrong : ChangeSpec := { name := "fnExactTurnSegment", fn := fun _ => fun
  | [d] => { results := [.lit (.bool false)], args := [d] }
  | _ => none }
def FnExactTurnSegmentWrongFalsely : Prop := fnExactTurnSegmentRow.holds Try.pinned (OpenSpec.ofChange fnExactTurnSegmentWrong)

/-- 'laws.FnExactMovePoint': WHATEVER THE INPUT: true; the input reads as it did. -/
def fnExactMovePointSpec : ChangeSpec := { name := "fnExactMovePoint", fn := fun _ => fun
  | [d1, d2, d3] => { results := [.lit (.bool true)], args := [d1, d2, d3] }
  | _ => none }
def fnExactMovePointRow : OpenClaim := { program := "ytjejfhjkilhbbaa", sum := "2463890cdba91bff70c8b3e738ed6d69fe42f04cefcea72f70d130c67145a3fa", func := "loop.example/g03005/laws.FnExactMovePoint", spec := "fnExactMovePoint", apart := false }
def FnExactMovePointSaid : Prop := fnExactMovePointRow.holds Try.pinned (OpenSpec.ofChange fnExactMovePointSpec)

/-- ITS FALSE NEIGHBOUR: 'it returns false'. Refute it at one input. -/
def fnExactMovePointWrong : ChangeSpec := { name := "fnExactMovePoint", fn := fun _ => fun
  | [d1, d2, d3] => { results := [.lit (.bool false)], args := [d1, d2, d3] }
  | _ => none }
def FnExactMovePointWrongFalsely : Prop := fnExactMovePointRow.holds Try.pinned (OpenSpec.ofChange fnExactMovePointWrong)

/-- 'laws.FnExactEqualInts': WHATEVER THE INPUT: true; the input reads as it did. -/
def fnExactEqualIntsSpec : ChangeSpec := { name := "fnExactEqualInts", fn := fun _ => fun
  | [d1, d2] => { results := [.lit (.bool true)], args := [d1, d2] }
  | _ => none }
def fnExactEqualIntsRow : OpenClaim := { program := "ytjejfhjkilhbbaa", sum := "2463890cdba91bff70c8b3e738ed6d69fe42f04cefcea72f70d130c67145a3fa", func := "loop.example/g03005/laws.FnExactEqualInts", spec := "fnExactEqualInts", apart := false }
def FnExactEqualIntsSaid : Prop := fnExactEqualIntsRow.holds Try.pinned (OpenSpec.ofChange fnExactEqualIntsSpec)

/-- ITS FALSE NEIGHBOUR: 'it returns false'. Refute it at one input. -/
def fnExactEqualIntsWrong : ChangeSpec := { name := "fnExactEqualInts", fn := fun _ => fun
  | [d1, d2] => { results := [.lit (.bool false)], args := [d1, d2] }
  | _ => none }
def FnExactEqualIntsWrongFalsely : Prop := fnExactEqualIntsRow.holds Try.pinned (OpenSpec.ofChange fnExactEqualIntsWrong)

/-- 'laws.FnExactParseInt': WHATEVER THE INPUT: true; the input reads as it did. -/
def fnExactParseIntSpec : ChangeSpec := { name := "fnExactParseInt", fn := fun _ => fun
  | [d] => { results := [.lit (.bool true)], args := [d] }
  | _ => none }
def fnExactParseIntRow : OpenClaim := { program := "ytjejfhjkilhbbaa", sum := "2463890cdba91bff70c8b3e738ed6d69fe42f04cefcea72f70d130c67145a3fa", func := "loop.example/g03005/laws.FnExactParseInt", spec := "fnExactParseInt", apart := false }
def FnExactParseIntSaid : Prop := fnExactParseIntRow.holds Try.pinned (OpenSpec.ofChange fnExactParseIntSpec)

/-- ITS FALSE NEIGHBOUR: 'it returns false'. Refute it at one input. -/
def fnExactParseIntWrong : ChangeSpec := { name := "fnExactParseInt", fn := fun _ => fun
  | [d] => { results := [.lit (.bool false)], args := [d] }
  | _ => none }
def FnExactParseIntWrongFalsely : Prop := fnExactParseIntRow.holds Try.pinned (OpenSpec.ofChange fnExactParseIntWrong)

/-- 'laws.FnExactHash': WHATEVER THE INPUT: true; the input reads as it did. -/
def fnExactHashSpec : ChangeSpec := { name := "fnExactHash", fn := fun _ => fun
  | [d] => { results := [.lit (.bool true)], args := [d] }
  | _ => none }
def fnExactHashRow : OpenClaim := { program := "ytjejfhjkilhbbaa", sum := "2463890cdba91bff70c8b3e738ed6d69fe42f04cefcea72f70d130c67145a3fa", func := "loop.example/g03005/laws.FnExactHash", spec := "fnExactHash", apart := false }
def FnExactHashSaid : Prop := fnExactHashRow.holds Try.pinned (OpenSpec.ofChange fnExactHashSpec)

/-- ITS FALSE NEIGHBOUR: 'it returns false'. Refute it at one input. -/
def fnExactHashWrong : ChangeSpec := { name := "fnExactHash", fn := fun _ => fun
  | [d] => { results := [.lit (.bool false)], args := [d] }
  | _ => none }
def FnExactHashWrongFalsely : Prop := fnExactHashRow.holds Try.pinned (OpenSpec.ofChange fnExactHashWrong)

/-- 'laws.FnExactKeyedHash': WHATEVER THE INPUT: true; the input reads as it did. -/
def fnExactKeyedHashSpec : ChangeSpec := { name := "fnExactKeyedHash", fn := fun _ => fun
  | [d1, d2] => { results := [.lit (.bool true)], args := [d1, d2] }
  | _ => none }
def fnExactKeyedHashRow : OpenClaim := { program := "ytjejfhjkilhbbaa", sum := "2463890cdba91bff70c8b3e738ed6d69fe42f04cefcea72f70d130c67145a3fa", func := "loop.example/g03005/laws.FnExactKeyedHash", spec := "fnExactKeyedHash", apart := false }
def FnExactKeyedHashSaid : Prop := fnExactKeyedHashRow.holds Try.pinned (OpenSpec.ofChange fnExactKeyedHashSpec)

/-- ITS FALSE NEIGHBOUR: 'it returns false'. Refute it at one input. -/
def fnExactKeyedHashWrong : ChangeSpec := { name := "fnExactKeyedHash", fn := fun _ => fun
  | [d1, d2] => { results := [.lit (.bool false)], args := [d1, d2] }
  | _ => none }
def FnExactKeyedHashWrongFalsely : Prop := fnExactKeyedHashRow.holds Try.pinned (OpenSpec.ofChange fnExactKeyedHashWrong)

/-- 'laws.FnExactReadUvarint': WHATEVER THE INPUT: true; the input reads as it did. -/
def fnExactReadUvarintSpec : ChangeSpec := { name := "fnExactReadUvarint", fn := fun _ => fun
  | [d1, d2] => { results := [.lit (.bool true)], args := [d1, d2] }
  | _ => none }
def fnExactReadUvarintRow : OpenClaim := { program := "ytjejfhjkilhbbaa", sum := "2463890cdba91bff70c8b3e738ed6d69fe42f04cefcea72f70d130c67145a3fa", func := "loop.example/g03005/laws.FnExactReadUvarint", spec := "fnExactReadUvarint", apart := false }
def FnExactReadUvarintSaid : Prop := fnExactReadUvarintRow.holds Try.pinned (OpenSpec.ofChange fnExactReadUvarintSpec)

/-- ITS FALSE NEIGHBOUR: 'it returns false'. Refute it at one input. -/
def fnExactReadUvarintWrong : ChangeSpec := { name := "fnExactReadUvarint", fn := fun _ => fun
  | [d1, d2] => { results := [.lit (.bool false)], args := [d1, d2] }
  | _ => none }
def FnExactReadUvarintWrongFalsely : Prop := fnExactReadUvarintRow.holds Try.pinned (OpenSpec.ofChange fnExactReadUvarintWrong)

/-- 'laws.FnExactAppendUvarint': WHATEVER THE INPUT: true; the input reads as it did. -/
def fnExactAppendUvarintSpec : ChangeSpec := { name := "fnExactAppendUvarint", fn := fun _ => fun
  | [d1, d2] => { results := [.lit (.bool true)], args := [d1, d2] }
  | _ => none }
def fnExactAppendUvarintRow : OpenClaim := { program := "ytjejfhjkilhbbaa", sum := "2463890cdba91bff70c8b3e738ed6d69fe42f04cefcea72f70d130c67145a3fa", func := "loop.example/g03005/laws.FnExactAppendUvarint", spec := "fnExactAppendUvarint", apart := false }
def FnExactAppendUvarintSaid : Prop := fnExactAppendUvarintRow.holds Try.pinned (OpenSpec.ofChange fnExactAppendUvarintSpec)

/-- ITS FALSE NEIGHBOUR: 'it returns false'. Refute it at one input. -/
def fnExactAppendUvarintWrong : ChangeSpec := { name := "fnExactAppendUvarint", fn := fun _ => fun
  | [d1, d2] => { results := [.lit (.bool false)], args := [d1, d2] }
  | _ => none }
def FnExactAppendUvarintWrongFalsely : Prop := fnExactAppendUvarintRow.holds Try.pinned (OpenSpec.ofChange fnExactAppendUvarintWrong)

/-- 'laws.FnExactSideOf': WHATEVER THE INPUT: true; the input reads as it did. -/
def fnExactSideOfSpec : ChangeSpec := { name := "fnExactSideOf", fn := fun _ => fun
  | [d1, d2, d3] => { results := [.lit (.bool true)], args := [d1, d2, d3] }
  | _ => none }
def fnExactSideOfRow : OpenClaim := { program := "ytjejfhjkilhbbaa", sum := "2463890cdba91bff70c8b3e738ed6d69fe42f04cefcea72f70d130c67145a3fa", func := "loop.example/g03005/laws.FnExactSideOf", spec := "fnExactSideOf", apart := false }
def FnExactSideOfSaid : Prop := fnExactSideOfRow.holds Try.pinned (OpenSpec.ofChange fnExactSideOfSpec)

/-- ITS FALSE NEIGHBOUR: 'it returns false'. Refute it at one input. -/
def fnExactSideOfWrong : ChangeSpec := { name := "fnExactSideOf", fn := fun _ => fun
  | [d1, d2, d3] => { results := [.lit (.bool false)], args := [d1, d2, d3] }
  | _ => none }
def FnExactSideOfWrongFalsely : Prop := fnExactSideOfRow.holds Try.pinned (OpenSpec.ofChange fnExactSideOfWrong)

/-- 'laws.FnExactAppendBytes': WHATEVER THE INPUT: true; the input reads as it did. -/
def fnExactAppendBytesSpec : ChangeSpec := { name := "fnExactAppendBytes", fn := fun _ => fun
  | [d1, d2] => { results := [.lit (.bool true)], args := [d1, d2] }
  | _ => none }
def fnExactAppendBytesRow : OpenClaim := { program := "ytjejfhjkilhbbaa", sum := "2463890cdba91bff70c8b3e738ed6d69fe42f04cefcea72f70d130c67145a3fa", func := "loop.example/g03005/laws.FnExactAppendBytes", spec := "fnExactAppendBytes", apart := false }
def FnExactAppendBytesSaid : Prop := fnExactAppendBytesRow.holds Try.pinned (OpenSpec.ofChange fnExactAppendBytesSpec)

/-- ITS FALSE NEIGHBOUR: 'it returns false'. Refute it at one input. -/
def fnExactAppendBytesWrong : ChangeSpec := { name := "fnExactAppendBytes", fn := fun _ => fun
  | [d1, d2] => { results := [.lit (.bool false)], args := [d1, d2] }
  | _ => none }
def FnExactAppendBytesWrongFalsely : Prop := fnExactAppendBytesRow.holds Try.pinned (OpenSpec.ofChange fnExactAppendBytesWrong)

/- THE SECOND FORM. 'bulk': how many values and letters a reading holds, each counted each time it is reached (what is shared counts as often as it is met; a slice's spare places count too). A statement '..UptoSaid' is the law's where the arguments, and the package variables that the reading takes, are together of bulk at most 1048576: NARROWER than '..Said'. Prove '..Said' where nothing that the law and all that it calls make is longer than what came in: it says more and counts as full. Else prove '..UptoSaid'. A law counts once. -/
mutual
def uptoBulk {H : Type} : DataW H → Nat
  | .lit (.string bytes) => bytes.length + 1
  | .lit _ => 1
  | .nil => 1
  | .ptr d => uptoBulk d + 1
  | .slice elems spare => uptoBulkAll elems + uptoBulkAll spare + 1
  | .agg parts => uptoBulkAll parts + 1
  | .iface _ d => uptoBulk d + 1
  | .map entries => uptoBulkEntries entries + 1
  | .held _ => 1
def uptoBulkAll {H : Type} : List (DataW H) → Nat
  | [] => 0
  | d :: r => uptoBulk d + uptoBulkAll r
def uptoBulkEntries {H : Type} : List (Lit × DataW H) → Nat
  | [] => 0
  | x :: r => uptoBulkEntry x + uptoBulkEntries r
def uptoBulkEntry {H : Type} : Lit × DataW H → Nat
  | (.string bytes, d) => bytes.length + uptoBulk d + 1
  | (_, d) => uptoBulk d + 1
 end
def uptoSmall : (H : Type) → List (DataW H) → Bool := fun _ ds => decide (uptoBulkAll ds ≤ 1048576)
def OpenSpec.upto (s : _root_.Go.ChangeSpec) : _root_.Go.OpenSpec := { _root_.Go.OpenSpec.ofChange s with cond := some uptoSmall }

/-- 'laws.FnExactEqualBytes', WHERE WHAT IT READS IS OF BULK AT MOST 1048576: true; the input reads as it did. -/
def fnExactEqualBytesUptoRow : OpenClaim := { program := "ytjejfhjkilhbbaa", sum := "2463890cdba91bff70c8b3e738ed6d69fe42f04cefcea72f70d130c67145a3fa", func := "loop.example/g03005/laws.FnExactEqualBytes", spec := "fnExactEqualBytes", apart := false, narrowed := true }
def FnExactEqualBytesUptoSaid : Prop := fnExactEqualBytesUptoRow.holds Try.pinned (OpenSpec.upto fnExactEqualBytesSpec)

/-- 'laws.FnExactTurnSegment', WHERE WHAT IT READS IS OF BULK AT MOST 1048576: true; the input reads as it did. -/
def fnExactTurnSegmentUptoRow : OpenClaim := { program := "ytjejfhjkilhbbaa", sum := "2463890cdba91bff70c8b3e738ed6d69fe42f04cefcea72f70d130c67145a3fa", func := "loop.example/g03005/laws.FnExactTurnSegment", spec := "fnExactTurnSegment", apart := false, narrowed := true }
def FnExactTurnSegmentUptoSaid : Prop := fnExactTurnSegmentUptoRow.holds Try.pinned (OpenSpec.upto fnExactTurnSegmentSpec)

/-- 'laws.FnExactMovePoint', WHERE WHAT IT READS IS OF BULK AT MOST 1048576: true; the input reads as it did. -/
def fnExactMovePointUptoRow : OpenClaim := { program := "ytjejfhjkilhbbaa", sum := "2463890cdba91bff70c8b3e738ed6d69fe42f04cefcea72f70d130c67145a3fa", func := "loop.example/g03005/laws.FnExactMovePoint", spec := "fnExactMovePoint", apart := false, narrowed := true }
def FnExactMovePointUptoSaid : Prop := fnExactMovePointUptoRow.holds Try.pinned (OpenSpec.upto fnExactMovePointSpec)

/-- 'laws.FnExactEqualInts', WHERE WHAT IT READS IS OF BULK AT MOST 1048576: true; the input reads as it did. -/
def fnExactEqualIntsUptoRow : OpenClaim := { program := "ytjejfhjkilhbbaa", sum := "2463890cdba91bff70c8b3e738ed6d69fe42f04cefcea72f70d130c67145a3fa", func := "loop.example/g03005/laws.FnExactEqualInts", spec := "fnExactEqualInts", apart := false, narrowed := true }
def FnExactEqualIntsUptoSaid : Prop := fnExactEqualIntsUptoRow.holds Try.pinned (OpenSpec.upto fnExactEqualIntsSpec)

/-- 'laws.FnExactParseInt', WHERE WHAT IT READS IS OF BULK AT MOST 1048576: true; the input reads as it did. -/
def fnExactParseIntUptoRow : OpenClaim := { program := "ytjejfhjkilhbbaa", sum := "2463890cdba91bff70c8b3e738ed6d69fe42f04cefcea72f70d130c67145a3fa", func := "loop.example/g03005/laws.FnExactParseInt", spec := "fnExactParseInt", apart := false, narrowed := true }
def FnExactParseIntUptoSaid : Prop := fnExactParseIntUptoRow.holds Try.pinned (OpenSpec.upto fnExactParseIntSpec)

/-- 'laws.FnExactHash', WHERE WHAT IT READS IS OF BULK AT MOST 1048576: true; the input reads as it did. -/
def fnExactHashUptoRow : OpenClaim := { program := "ytjejfhjkilhbbaa", sum := "2463890cdba91bff70c8b3e738ed6d69fe42f04cefcea72f70d130c67145a3fa", func := "loop.example/g03005/laws.FnExactHash", spec := "fnExactHash", apart := false, narrowed := true }
def FnExactHashUptoSaid : Prop := fnExactHashUptoRow.holds Try.pinned (OpenSpec.upto fnExactHashSpec)

/-- 'laws.FnExactKeyedHash', WHERE WHAT IT READS IS OF BULK AT MOST 1048576: true; the input reads as it did. -/
def fnExactKeyedHashUptoRow : OpenClaim := { program := "ytjejfhjkilhbbaa", sum := "2463890cdba91bff70c8b3e738ed6d69fe42f04cefcea72f70d130c67145a3fa", func := "loop.example/g03005/laws.FnExactKeyedHash", spec := "fnExactKeyedHash", apart := false, narrowed := true }
def FnExactKeyedHashUptoSaid : Prop := fnExactKeyedHashUptoRow.holds Try.pinned (OpenSpec.upto fnExactKeyedHashSpec)

/-- 'laws.FnExactReadUvarint', WHERE WHAT IT READS IS OF BULK AT MOST 1048576: true; the input reads as it did. -/
def fnExactReadUvarintUptoRow : OpenClaim := { program := "ytjejfhjkilhbbaa", sum := "2463890cdba91bff70c8b3e738ed6d69fe42f04cefcea72f70d130c67145a3fa", func := "loop.example/g03005/laws.FnExactReadUvarint", spec := "fnExactReadUvarint", apart := false, narrowed := true }
def FnExactReadUvarintUptoSaid : Prop := fnExactReadUvarintUptoRow.holds Try.pinned (OpenSpec.upto fnExactReadUvarintSpec)

/-- 'laws.FnExactAppendUvarint', WHERE WHAT IT READS IS OF BULK AT MOST 1048576: true; the input reads as it did. -/
def fnExactAppendUvarintUptoRow : OpenClaim := { program := "ytjejfhjkilhbbaa", sum := "2463890cdba91bff70c8b3e738ed6d69fe42f04cefcea72f70d130c67145a3fa", func := "loop.example/g03005/laws.FnExactAppendUvarint", spec := "fnExactAppendUvarint", apart := false, narrowed := true }
def FnExactAppendUvarintUptoSaid : Prop := fnExactAppendUvarintUptoRow.holds Try.pinned (OpenSpec.upto fnExactAppendUvarintSpec)

/-- 'laws.FnExactSideOf', WHERE WHAT IT READS IS OF BULK AT MOST 1048576: true; the input reads as it did. -/
def fnExactSideOfUptoRow : OpenClaim := { program := "ytjejfhjkilhbbaa", sum := "2463890cdba91bff70c8b3e738ed6d69fe42f04cefcea72f70d130c67145a3fa", func := "loop.example/g03005/laws.FnExactSideOf", spec := "fnExactSideOf", apart := false, narrowed := true }
def FnExactSideOfUptoSaid : Prop := fnExactSideOfUptoRow.holds Try.pinned (OpenSpec.upto fnExactSideOfSpec)

/-- 'laws.FnExactAppendBytes', WHERE WHAT IT READS IS OF BULK AT MOST 1048576: true; the input reads as it did. -/
def fnExactAppendBytesUptoRow : OpenClaim := { program := "ytjejfhjkilhbbaa", sum := "2463890cdba91bff70c8b3e738ed6d69fe42f04cefcea72f70d130c67145a3fa", func := "loop.example/g03005/laws.FnExactAppendBytes", spec := "fnExactAppendBytes", apart := false, narrowed := true }
def FnExactAppendBytesUptoSaid : Prop := fnExactAppendBytesUptoRow.holds Try.pinned (OpenSpec.upto fnExactAppendBytesSpec)

end Rows
end Go.Proofs.Ytjejfhjkilhbbaa
