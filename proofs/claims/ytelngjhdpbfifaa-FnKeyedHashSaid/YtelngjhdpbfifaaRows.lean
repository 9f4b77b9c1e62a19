/-
  No cell of these rows narrows 'for every input' (looked for: loops, veiled, ifaces, maps, wideKeys, modest, calm, conditions, laid).
  DERIVED. THE GIVEN ROWS OF THIS SEAT. 10 by the template 'for every input the law returns true; each argument reads behind the call as it read before'; 0 by the template 'total and deterministic' (their statements: YtelngjhdpbfifaaTotals.lean).
  GIVEN WITH THE SEED: the statements are not yours to turn. If you find one false, say at which input.
  Laid BY PROGRAM, IN A SANDBOX (cutbox-rows.mjs): the forced cells as the released guide's own fill.sh prints them over the translation 918a82911c313343… (all of the seat's roots in one cut). By AI agents, Wed Nov 11 2026. No macro, syntax, notation, axiom, sorry.
-/
import Derived.Test.YtelngjhdpbfifaaChecked
import GoSem.Claim
import GoSem.ClaimJoined
import GoSem.ClaimMapViews
import Derived.JoinedTies
import Derived.KernelRfl
namespace Go.Proofs.Ytelngjhdpbfifaa
/- THE CELL 'sum', in the pinned program and in every row, IS THE sha256 OF THE DUMP (.gsa) THAT YtelngjhdpbfifaaProg.lean LOADS. Nothing in Lean hashes anything: it is a label: what it is worth is what the hold of that sum in a sandbox is worth. -/
noncomputable def Try.pinned : Pinned := { name := "ytelngjhdpbfifaa", sum := "918a82911c3133438513dd8363be2d3e6c4f28b31724c2cbe5591fe3ae015312", checked := Try.checked }
namespace Rows
def none {H : Type} : Left H := { results := [], args := [] }

/-- 'laws.FnCipher': WHATEVER THE INPUT: true; the input reads as it did. -/
def fnCipherSpec : ChangeSpec := { name := "fnCipher", fn := fun _ => fun
  | [d] => { results := [.lit (.bool true)], args := [d] }
  | _ => none }
def fnCipherRow : OpenClaim := { program := "ytelngjhdpbfifaa", sum := "918a82911c3133438513dd8363be2d3e6c4f28b31724c2cbe5591fe3ae015312", func := "loop.example/g03005/laws.FnCipher", spec := "fnCipher", apart := false }
def FnCipherSaid : Prop := fnCipherRow.holds Try.pinned (OpenSpec.ofChange fnCipherSpec)

/-- ITS FALSE NEIGHBOUR: 'it returns false'. Refute it at one input. -/
def fnCipherWrong : ChangeSpec := { name := "fnCipher", fn := fun _ => fun
  | [d] => { results := [.lit (.bool false)], args := [d] }
  | _ => none }
def FnCipherWrongFalsely : Prop := fnCipherRow.holds Try.pinned (OpenSpec.ofChange fnCipherWrong)

/-- 'laws.FnExactRotateRing': WHATEVER THE INPUT: true; the input reads as it did. -/
def fnExactRotateRingSpec : ChangeSpec := { name := "fnExactRotateRing", fn := fun _ => fun
  | [d1, d2] => { results := [.lit (.bool true)], args := [d1, d2] }
  | _ => none }
def fnExactRotateRingRow : OpenClaim := { program := "ytelngjhdpbfifaa", sum := "918a82911c3133438513dd8363be2d3e6c4f28b31724c2cbe5591fe3ae015312", func := "loop.example/g03005/laws.FnExactRotateRing", spec := "fnExactRotateRing", apart := false }
def FnExactRotateRingSaid : Prop := fnExactRotateRingRow.holds Try.pinned (OpenSpec.ofChange fnExactRotateRingSpec)

/-- ITS FALSE NEIGHBOUR: 'it returns false'. Refute it at one input. -/
def fnExactRotateRingWrong : ChangeSpec := { name := "fnExactRotateRing", fn := fun _ => fun
  | [d1, d2] => { results := [.lit (.bool false)], args := [d1, d2] }
  | _ => none }
def FnExactRotateRingWrongFalsely : Prop := fnExactRotateRingRow.holds Try.pinned (OpenSpec.ofChange fnExactRotateRingWrong)

/-- 'laws.FnKeyedHash': WHATEVER THE INPUT: true; the input reads as it did. -/
def fnKeyedHashSpec : ChangeSpec := { name := "fnKeyedHash", fn := fun _ => fun
  | [d] => { results := [.lit (.bool true)], args := [d] }
  | _ => none }
def fnKeyedHashRow : OpenClaim := { program := "ytelngjhdpbfifaa", sum := "918a82911c3133438513dd8363be2d3e6c4f28b31724c2cbe5591fe3ae015312", func := "loop.example/g03005/laws.FnKeyedHash", spec := "fnKeyedHash", apart := false }
def FnKeyedHashSaid : Prop := fnKeyedHashRow.holds Try.pinned (OpenSpec.ofChange fnKeyedHashSpec)

/-- ITS FALSE NEIGHBOUR: 'it returns false'. Refute it at one input. -/
def fnKeyedHashWrong : ChangeSpec := { name := "fnKeyedHash", fn := fun _ => fun
  | [d] => { results := [.lit (.bool false)], args := [d] }
  | _ => none }
def FnKeyedHashWrongFalsely : Prop := fnKeyedHashRow.holds Try.pinned (OpenSpec.ofChange fnKeyedHashWrong)

/-- 'laws.FnExactLineSteps': WHATEVER THE INPUT: true; the input reads as it did. -/
def fnExactLineStepsSpec : ChangeSpec := { name := "fnExactLineSteps", fn := fun _ => fun
  | [d] => { results := [.lit (.bool true)], args := [d] }
  | _ => none }
def fnExactLineStepsRow : OpenClaim := { program := "ytelngjhdpbfifaa", sum := "918a82911c3133438513dd8363be2d3e6c4f28b31724c2cbe5591fe3ae015312", func := "loop.example/g03005/laws.FnExactLineSteps", spec := "fnExactLineSteps", apart := false }
def FnExactLineStepsSaid : Prop := fnExactLineStepsRow.holds Try.pinned (OpenSpec.ofChange fnExactLineStepsSpec)

/-- ITS FALSE NEIGHBOUR: 'it returns false'. Refute it at one input. -/
def fnExactLineStepsWrong : ChangeSpec := { name := "fnExactLineSteps", fn := fun _ => fun
  | [d] => { results := [.lit (.bool false)], args := [d] }
  | _ => none }
def FnExactLineStepsWrongFalsely : Prop := fnExactLineStepsRow.holds Try.pinned (OpenSpec.ofChange fnExactLineStepsWrong)

/-- 'laws.FnPoints': WHATEVER THE INPUT: true; the input reads as it did. -/
def fnPointsSpec : ChangeSpec := { name := "fnPoints", fn := fun _ => fun
  | [d] => { results := [.lit (.bool true)], args := [d] }
  | _ => none }
def fnPointsRow : OpenClaim := { program := "ytelngjhdpbfifaa", sum := "918a82911c3133438513dd8363be2d3e6c4f28b31724c2cbe5591fe3ae015312", func := "loop.example/g03005/laws.FnPoints", spec := "fnPoints", apart := false }
def FnPointsSaid : Prop := fnPointsRow.holds Try.pinned (OpenSpec.ofChange fnPointsSpec)

/-- ITS FALSE NEIGHBOUR: 'it returns false'. Refute it at one input. -/
def fnPointsWrong : ChangeSpec := { name := "fnPoints", fn := fun _ => fun
  | [d] => { results := [.lit (.bool false)], args := [d] }
  | _ => none }
def FnPointsWrongFalsely : Prop := fnPointsRow.holds Try.pinned (OpenSpec.ofChange fnPointsWrong)

/-- 'laws.FnExactDecodeInts': WHATEVER THE INPUT: true; the input reads as it did. -/
def fnExactDecodeIntsSpec : ChangeSpec := { name := "fnExactDecodeInts", fn := fun _ => fun
  | [d1, d2, d3] => { results := [.lit (.bool true)], args := [d1, d2, d3] }
  | _ => none }
def fnExactDecodeIntsRow : OpenClaim := { program := "ytelngjhdpbfifaa", sum := "918a82911c3133438513dd8363be2d3e6c4f28b31724c2cbe5591fe3ae015312", func := "loop.example/g03005/laws.FnExactDecodeInts", spec := "fnExactDecodeInts", apart := false }
def FnExactDecodeIntsSaid : Prop := fnExactDecodeIntsRow.holds Try.pinned (OpenSpec.ofChange fnExactDecodeIntsSpec)

/-- ITS FALSE NEIGHBOUR: 'it returns false'. Refute it at one input. -/
def fnExactDecodeIntsWrong : ChangeSpec := { name := "fnExactDecodeInts", fn := fun _ => fun
  | [d1, d2, d3] => { results := [.lit (.bool false)], args := [d1, d2, d3] }
  | _ => none }
def FnExactDecodeIntsWrongFalsely : Prop := fnExactDecodeIntsRow.holds Try.pinned (OpenSpec.ofChange fnExactDecodeIntsWrong)

/-- 'laws.FnByteStrings': WHATEVER THE INPUT: true; the input reads as it did. -/
def fnByteStringsSpec : ChangeSpec := { name := "fnByteStrings", fn := fun _ => fun
  | [d] => { results := [.lit (.bool true)], args := [d] }
  | _ => none }
def fnByteStringsRow : OpenClaim := { program := "ytelngjhdpbfifaa", sum := "918a82911c3133438513dd8363be2d3e6c4f28b31724c2cbe5591fe3ae015312", func := "loop.example/g03005/laws.FnByteStrings", spec := "fnByteStrings", apart := false }
def FnByteStringsSaid : Prop := fnByteStringsRow.holds Try.pinned (OpenSpec.ofChange fnByteStringsSpec)

/-- ITS FALSE NEIGHBOUR: 'it returns false'. Refute it at one input. -/
def fnByteStringsWrong : ChangeSpec := { name := "fnByteStrings", fn := fun _ => fun
  | [d] => { results := [.lit (.bool false)], args := [d] }
  | _ => none }
def FnByteStringsWrongFalsely : Prop := fnByteStringsRow.holds Try.pinned (OpenSpec.ofChange fnByteStringsWrong)

/-- 'laws.FnExactSegmentsOf': WHATEVER THE INPUT: true; the input reads as it did. -/
def fnExactSegmentsOfSpec : ChangeSpec := { name := "fnExactSegmentsOf", fn := fun _ => fun
  | [d] => { results := [.lit (.bool true)], args := [d] }
  | _ => none }
def fnExactSegmentsOfRow : OpenClaim := { program := "ytelngjhdpbfifaa", sum := "918a82911c3133438513dd8363be2d3e6c4f28b31724c2cbe5591fe3ae015312", func := "loop.example/g03005/laws.FnExactSegmentsOf", spec := "fnExactSegmentsOf", apart := false }
def FnExactSegmentsOfSaid : Prop := fnExactSegmentsOfRow.holds Try.pinned (OpenSpec.ofChange fnExactSegmentsOfSpec)

/-- ITS FALSE NEIGHBOUR: 'it returns false'. Refute it at one input. -/
def fnExactSegmentsOfWrong : ChangeSpec := { name := "fnExactSegmentsOf", fn := fun _ => fun
  | [d] => { results := [.lit (.bool false)], args := [d] }
  | _ => none }
def FnExactSegmentsOfWrongFalsely : Prop := fnExactSegmentsOfRow.holds Try.pinned (OpenSpec.ofChange fnExactSegmentsOfWrong)

/-- 'laws.FnVarints': WHATEVER THE INPUT: true; the input reads as it did. -/
def fnVarintsSpec : ChangeSpec := { name := "fnVarints", fn := fun _ => fun
  | [d] => { results := [.lit (.bool true)], args := [d] }
  | _ => none }
def fnVarintsRow : OpenClaim := { program := "ytelngjhdpbfifaa", sum := "918a82911c3133438513dd8363be2d3e6c4f28b31724c2cbe5591fe3ae015312", func := "loop.example/g03005/laws.FnVarints", spec := "fnVarints", apart := false }
def FnVarintsSaid : Prop := fnVarintsRow.holds Try.pinned (OpenSpec.ofChange fnVarintsSpec)

/-- ITS FALSE NEIGHBOUR: 'it returns false'. Refute it at one input. -/
def fnVarintsWrong : ChangeSpec := { name := "fnVarints", fn := fun _ => fun
  | [d] => { results := [.lit (.bool false)], args := [d] }
  | _ => none }
def FnVarintsWrongFalsely : Prop := fnVarintsRow.holds Try.pinned (OpenSpec.ofChange fnVarintsWrong)

/-- 'laws.FnExactHowMeet': WHATEVER THE INPUT: true; the input reads as it did. -/
def fnExactHowMeetSpec : ChangeSpec := { name := "fnExactHowMeet", fn := fun _ => fun
  | [d1, d2] => { results := [.lit (.bool true)], args := [d1, d2] }
  | _ => none }
def fnExactHowMeetRow : OpenClaim := { program := "ytelngjhdpbfifaa", sum := "918a82911c3133438513dd8363be2d3e6c4f28b31724c2cbe5591fe3ae015312", func := "loop.example/g03005/laws.FnExactHowMeet", spec := "fnExactHowMeet", apart := false }
def FnExactHowMeetSaid : Prop := fnExactHowMeetRow.holds Try.pinned (OpenSpec.ofChange fnExactHowMeetSpec)

/-- ITS FALSE NEIGHBOUR: 'it returns false'. Refute it at one input. -/
def fnExactHowMeetWrong : ChangeSpec := { name := "fnExactHowMeet", fn := fun _ => fun
  | [d1, d2] => { results := [.lit (.bool false)], args := [d1, d2] }
  | _ => none }
def FnExactHowMeetWrongFalsely : Prop := fnExactHowMeetRow.holds Try.pinned (OpenSpec.ofChange fnExactHowMeetWrong)

/- THE SECOND FORM. 'bulk': how many values and letters a reading holds, each counted each time it is reached (what is shared counts as often as it is met; a slice's spare places count too). A statement '..UptoSaid' is the law's where the arguments, and the package variables that the reading takes, are together of bulk at most 1048576: NARROWER than '..Said'. Prove '..Said' where nothing that the law and all that it calls make is longer than what came in: it says more and counts as full. Else prove '..UptoSaid'. A law counts once. -/
mutual
def uptoBulk {H : Type} : DataW H → Nat
  | .lit (.string bytes) => bytes.length + 1
  | .lit _ => 1
  | .nil => 1
  | .ptr d => uptoBulk d + 1
  | .slice elems spare => uptoBulkAll elems + uptoBulkAll spare + 1
  | .agg parts => uptoBulkAll parts + 1
  | .iface _ d => uptoBulk d + 1
  | .map entries => uptoBulkEntries entries + 1
  | .held _ => 1
def uptoBulkAll {H : Type} : List (DataW H) → Nat
  | [] => 0
  | d :: r => uptoBulk d + uptoBulkAll r
def uptoBulkEntries {H : Type} : List (Lit × DataW H) → Nat
  | [] => 0
  | x :: r => uptoBulkEntry x + uptoBulkEntries r
def uptoBulkEntry {H : Type} : Lit × DataW H → Nat
  | (.string bytes, d) => bytes.length + uptoBulk d + 1
  | (_, d) => uptoBulk d + 1
 end
def uptoSmall : (H : Type) → List (DataW H) → Bool := fun _ ds => decide (uptoBulkAll ds ≤ 1048576)
def OpenSpec.upto (s : _root_.Go.ChangeSpec) : _root_.Go.OpenSpec := { _root_.Go.OpenSpec.ofChange s with cond := some uptoSmall }

/-- 'laws.FnCipher', WHERE WHAT IT READS IS OF BULK AT MOST 1048576: true; the input reads as it did. -/
def fnCipherUptoRow : OpenClaim := { program := "ytelngjhdpbfifaa", sum := "918a82911c3133438513dd8363be2d3e6c4f28b31724c2cbe5591fe3ae015312", func := "loop.example/g03005/laws.FnCipher", spec := "fnCipher", apart := false, narrowed := true }
def FnCipherUptoSaid : Prop := fnCipherUptoRow.holds Try.pinned (OpenSpec.upto fnCipherSpec)

/-- 'laws.FnExactRotateRing', WHERE WHAT IT READS IS OF BULK AT MOST 1048576: true; the input reads as it did. -/
def fnExactRotateRingUptoRow : OpenClaim := { program := "ytelngjhdpbfifaa", sum := "918a82911c3133438513dd8363be2d3e6c4f28b31724c2cbe5591fe3ae015312", func := "loop.example/g03005/laws.FnExactRotateRing", spec := "fnExactRotateRing", apart := false, narrowed := true }
def FnExactRotateRingUptoSaid : Prop := fnExactRotateRingUptoRow.holds Try.pinned (OpenSpec.upto fnExactRotateRingSpec)

/-- 'laws.FnKeyedHash', WHERE WHAT IT READS IS OF BULK AT MOST 1048576: true; the input reads as it did. -/
def fnKeyedHashUptoRow : OpenClaim := { program := "ytelngjhdpbfifaa", sum := "918a82911c3133438513dd8363be2d3e6c4f28b31724c2cbe5591fe3ae015312", func := "loop.example/g03005/laws.FnKeyedHash", spec := "fnKeyedHash", apart := false, narrowed := true }
def FnKeyedHashUptoSaid : Prop := fnKeyedHashUptoRow.holds Try.pinned (OpenSpec.upto fnKeyedHashSpec)

/-- 'laws.FnExactLineSteps', WHERE WHAT IT READS IS OF BULK AT MOST 1048576: true; the input reads as it did. -/
def fnExactLineStepsUptoRow : OpenClaim := { program := "ytelngjhdpbfifaa", sum := "918a82911c3133438513dd8363be2d3e6c4f28b31724c2cbe5591fe3ae015312", func := "loop.example/g03005/laws.FnExactLineSteps", spec := "fnExactLineSteps", apart := false, narrowed := true }
def FnExactLineStepsUptoSaid : Prop := fnExactLineStepsUptoRow.holds Try.pinned (OpenSpec.upto fnExactLineStepsSpec)

/-- 'laws.FnPoints', WHERE WHAT IT READS IS OF BULK AT MOST 1048576: true; the input reads as it did. -/
def fnPointsUptoRow : OpenClaim := { program := "ytelngjhdpbfifaa", sum := "918a82911c3133438513dd8363be2d3e6c4f28b31724c2cbe5591fe3ae015312", func := "loop.example/g03005/laws.FnPoints", spec := "fnPoints", apart := false, narrowed := true }
def FnPointsUptoSaid : Prop := fnPointsUptoRow.holds Try.pinned (OpenSpec.upto fnPointsSpec)

/-- 'laws.FnExactDecodeInts', WHERE WHAT IT READS IS OF BULK AT MOST 1048576: true; the input reads as it did. -/
def fnExactDecodeIntsUptoRow : OpenClaim := { program := "ytelngjhdpbfifaa", sum := "918a82911c3133438513dd8363be2d3e6c4f28b31724c2cbe5591fe3ae015312", func := "loop.example/g03005/laws.FnExactDecodeInts", spec := "fnExactDecodeInts", apart := false, narrowed := true }
def FnExactDecodeIntsUptoSaid : Prop := fnExactDecodeIntsUptoRow.holds Try.pinned (OpenSpec.upto fnExactDecodeIntsSpec)

/-- 'laws.FnByteStrings', WHERE WHAT IT READS IS OF BULK AT MOST 1048576: true; the input reads as it did. -/
def fnByteStringsUptoRow : OpenClaim := { program := "ytelngjhdpbfifaa", sum := "918a82911c3133438513dd8363be2d3e6c4f28b31724c2cbe5591fe3ae015312", func := "loop.example/g03005/laws.FnByteStrings", spec := "fnByteStrings", apart := false, narrowed := true }
def FnByteStringsUptoSaid : Prop := fnByteStringsUptoRow.holds Try.pinned (OpenSpec.upto fnByteStringsSpec)

/-- 'laws.FnExactSegmentsOf', WHERE WHAT IT READS IS OF BULK AT MOST 1048576: true; the input reads as it did. -/
def fnExactSegmentsOfUptoRow : OpenClaim := { program := "ytelngjhdpbfifaa", sum := "918a82911c3133438513dd8363be2d3e6c4f28b31724c2cbe5591fe3ae015312", func := "loop.example/g03005/laws.FnExactSegmentsOf", spec := "fnExactSegmentsOf", apart := false, narrowed := true }
def FnExactSegmentsOfUptoSaid : Prop := fnExactSegmentsOfUptoRow.holds Try.pinned (OpenSpec.upto fnExactSegmentsOfSpec)

/-- 'laws.FnVarints', WHERE WHAT IT READS IS OF BULK AT MOST 1048576: true; the input reads as it did. -/
def fnVarintsUptoRow : OpenClaim := { program := "ytelngjhdpbfifaa", sum := "918a82911c3133438513dd8363be2d3e6c4f28b31724c2cbe5591fe3ae015312", func := "loop.example/g03005/laws.FnVarints", spec := "fnVarints", apart := false, narrowed := true }
def FnVarintsUptoSaid : Prop := fnVarintsUptoRow.holds Try.pinned (OpenSpec.upto fnVarintsSpec)

/-- 'laws.FnExactHowMeet', WHERE WHAT IT READS IS OF BULK AT MOST 1048576: true; the input reads as it did. -/
def fnExactHowMeetUptoRow : OpenClaim := { program := "ytelngjhdpbfifaa", sum := "918a82911c3133438513dd8363be2d3e6c4f28b31724c2cbe5591fe3ae015312", func := "loop.example/g03005/laws.FnExactHowMeet", spec := "fnExactHowMeet", apart := false, narrowed := true }
def FnExactHowMeetUptoSaid : Prop := fnExactHowMeetUptoRow.holds Try.pinned (OpenSpec.upto fnExactHowMeetSpec)

end Rows
end Go.Proofs.Ytelngjhdpbfifaa
