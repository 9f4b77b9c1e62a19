/-
  No cell of these rows narrows 'for every input' (looked for: loops, veiled, ifaces, maps, wideKeys, modest, calm, conditions, laid).
  DERIVED. THE GIVEN ROWS OF THIS SEAT. 12 by the template 'for every input the law returns true; each argument reads behind the call as it read before'; 0 by the template 'total and deterministic' (their statements: YtamokknfgbknlaaTotals.lean).
  GIVEN WITH THE SEED: the statements are not yours to turn. If you find one false, say at which input.
  Laid BY PROGRAM, IN A SANDBOX (cutbox-rows.mjs): the forced cells as the released guide's own fill.sh prints them over the translation 55bc4a1743233fc4… (all of the seat's roots in one cut). By AI agents, Wed Nov 11 2026. No macro, syntax, notation, axiom, sorry.
-/
import Derived.Test.YtamokknfgbknlaaChecked
import GoSem.Claim
import GoSem.ClaimJoined
import GoSem.ClaimMapViews
import Derived.JoinedTies
import Derived.KernelRfl
namespace Go.Proofs.Ytamokknfgbknlaa
/- THE CELL 'sum', in the pinned program and in every row, IS THE sha256 OF THE DUMP (.gsa) THAT YtamokknfgbknlaaProg.lean LOADS. Nothing in Lean hashes anything: it is a label: what it is worth is what the hold of that sum in a sandbox is worth. -/
noncomputable def Try.pinned : Pinned := { name := "ytamokknfgbknlaa", sum := "55bc4a1743233fc4f0b4cc00450c7a90390b2c68c21d3b6938dcd52a81d464fb", checked := Try.checked }
namespace Rows
def none {H : Type} : Left H := { results := [], args := [] }

/-- 'laws.FnExactConstants': WHATEVER THE INPUT: true; the input reads as it did. -/
def fnExactConstantsSpec : ChangeSpec := { name := "fnExactConstants", fn := fun _ => fun
  | [] => { results := [.lit (.bool true)], args := [] }
  | _ => none }
def fnExactConstantsRow : OpenClaim := { program := "ytamokknfgbknlaa", sum := "55bc4a1743233fc4f0b4cc00450c7a90390b2c68c21d3b6938dcd52a81d464fb", func := "loop.example/g03005/laws.FnExactConstants", spec := "fnExactConstants", apart := false }
def FnExactConstantsSaid : Prop := fnExactConstantsRow.holds Try.pinned (OpenSpec.ofChange fnExactConstantsSpec)

/-- ITS FALSE NEIGHBOUR: 'it returns false'. Refute it at one input. -/
def fnExactConstantsWrong : ChangeSpec := { name := "fnExactConstants", fn := fun _ => fun
  | [] => { results := [.lit (.bool false)], args := [] }
  | _ => none }
def FnExactConstantsWrongFalsely : Prop := fnExactConstantsRow.holds Try.pinned (OpenSpec.ofChange fnExactConstantsWrong)

/-- 'laws.FnExactInRange': WHATEVER THE INPUT: true; the input reads as it did. -/
def fnExactInRangeSpec : ChangeSpec := { name := "fnExactInRange", fn := fun _ => fun
  | [d1, d2, d3] => { results := [.lit (.bool true)], args := [d1, d2, d3] }
  | _ => none }
def fnExactInRangeRow : OpenClaim := { program := "ytamokknfgbknlaa", sum := "55bc4a1743233fc4f0b4cc00450c7a90390b2c68c21d3b6938dcd52a81d464fb", func := "loop.example/g03005/laws.FnExactInRange", spec := "fnExactInRange", apart := false }
def FnExactInRangeSaid : Prop := fnExactInRangeRow.holds Try.pinned (OpenSpec.ofChange fnExactInRangeSpec)

/-- ITS FALSE NEIGHBOUR: 'it returns false'. Refute it at one input. -/
def fnExactInRangeWrong : ChangeSpec := { name := "fnExactInRange", fn := fun _ => fun
  | [d1, d2, d3] => { results := [.lit (.bool false)], args := [d1, d2, d3] }
  | _ => none }
def FnExactInRangeWrongFalsely : Prop := fnExactInRangeRow.holds Try.pinned (OpenSpec.ofChange fnExactInRangeWrong)

/-- 'laws.FnExactIsValidKey': WHATEVER THE INPUT: true; the input reads as it did. -/
def fnExactIsValidKeySpec : ChangeSpec := { name := "fnExactIsValidKey", fn := fun _ => fun
  | [d] => { results := [.lit (.bool true)], args := [d] }
  | _ => none }
def fnExactIsValidKeyRow : OpenClaim := { program := "ytamokknfgbknlaa", sum := "55bc4a1743233fc4f0b4cc00450c7a90390b2c68c21d3b6938dcd52a81d464fb", func := "loop.example/g03005/laws.FnExactIsValidKey", spec := "fnExactIsValidKey", apart := false }
def FnExactIsValidKeySaid : Prop := fnExactIsValidKeyRow.holds Try.pinned (OpenSpec.ofChange fnExactIsValidKeySpec)

/-- ITS FALSE NEIGHBOUR: 'it returns false'. Refute it at one input. -/
def fnExactIsValidKeyWrong : ChangeSpec := { name := "fnExactIsValidKey", fn := fun _ => fun
  | [d] => { results := [.lit (.bool false)], args := [d] }
  | _ => none }
def FnExactIsValidKeyWrongFalsely : Prop := fnExactIsValidKeyRow.holds Try.pinned (OpenSpec.ofChange fnExactIsValidKeyWrong)

/-- 'laws.FnExactMax': WHATEVER THE INPUT: true; the input reads as it did. -/
def fnExactMaxSpec : ChangeSpec := { name := "fnExactMax", fn := fun _ => fun
  | [d1, d2] => { results := [.lit (.bool true)], args := [d1, d2] }
  | _ => none }
def fnExactMaxRow : OpenClaim := { program := "ytamokknfgbknlaa", sum := "55bc4a1743233fc4f0b4cc00450c7a90390b2c68c21d3b6938dcd52a81d464fb", func := "loop.example/g03005/laws.FnExactMax", spec := "fnExactMax", apart := false }
def FnExactMaxSaid : Prop := fnExactMaxRow.holds Try.pinned (OpenSpec.ofChange fnExactMaxSpec)

/-- ITS FALSE NEIGHBOUR: 'it returns false'. Refute it at one input. -/
def fnExactMaxWrong : ChangeSpec := { name := "fnExactMax", fn := fun _ => fun
  | [d1, d2] => { results := [.lit (.bool false)], args := [d1, d2] }
  | _ => none }
def FnExactMaxWrongFalsely : Prop := fnExactMaxRow.holds Try.pinned (OpenSpec.ofChange fnExactMaxWrong)

/-- 'laws.FnExactMin': WHATEVER THE INPUT: true; the input reads as it did. -/
def fnExactMinSpec : ChangeSpec := { name := "fnExactMin", fn := fun _ => fun
  | [d1, d2] => { results := [.lit (.bool true)], args := [d1, d2] }
  | _ => none }
def fnExactMinRow : OpenClaim := { program := "ytamokknfgbknlaa", sum := "55bc4a1743233fc4f0b4cc00450c7a90390b2c68c21d3b6938dcd52a81d464fb", func := "loop.example/g03005/laws.FnExactMin", spec := "fnExactMin", apart := false }
def FnExactMinSaid : Prop := fnExactMinRow.holds Try.pinned (OpenSpec.ofChange fnExactMinSpec)

/-- ITS FALSE NEIGHBOUR: 'it returns false'. Refute it at one input. -/
def fnExactMinWrong : ChangeSpec := { name := "fnExactMin", fn := fun _ => fun
  | [d1, d2] => { results := [.lit (.bool false)], args := [d1, d2] }
  | _ => none }
def FnExactMinWrongFalsely : Prop := fnExactMinRow.holds Try.pinned (OpenSpec.ofChange fnExactMinWrong)

/-- 'laws.FnExactBeforePoint': WHATEVER THE INPUT: true; the input reads as it did. -/
def fnExactBeforePointSpec : ChangeSpec := { name := "fnExactBeforePoint", fn := fun _ => fun
  | [d1, d2] => { results := [.lit (.bool true)], args := [d1, d2] }
  | _ => none }
def fnExactBeforePointRow : OpenClaim := { program := "ytamokknfgbknlaa", sum := "55bc4a1743233fc4f0b4cc00450c7a90390b2c68c21d3b6938dcd52a81d464fb", func := "loop.example/g03005/laws.FnExactBeforePoint", spec := "fnExactBeforePoint", apart := false }
def FnExactBeforePointSaid : Prop := fnExactBeforePointRow.holds Try.pinned (OpenSpec.ofChange fnExactBeforePointSpec)

/-- ITS FALSE NEIGHBOUR: 'it returns false'. Refute it at one input. -/
def fnExactBeforePointWrong : ChangeSpec := { name := "fnExactBeforePoint", fn := fun _ => fun
  | [d1, d2] => { results := [.lit (.bool false)], args := [d1, d2] }
  | _ => none }
def FnExactBeforePointWrongFalsely : Prop := fnExactBeforePointRow.holds Try.pinned (OpenSpec.ofChange fnExactBeforePointWrong)

/-- 'laws.FnExactIsPoint': WHATEVER THE INPUT: true; the input reads as it did. -/
def fnExactIsPointSpec : ChangeSpec := { name := "fnExactIsPoint", fn := fun _ => fun
  | [d] => { results := [.lit (.bool true)], args := [d] }
  | _ => none }
def fnExactIsPointRow : OpenClaim := { program := "ytamokknfgbknlaa", sum := "55bc4a1743233fc4f0b4cc00450c7a90390b2c68c21d3b6938dcd52a81d464fb", func := "loop.example/g03005/laws.FnExactIsPoint", spec := "fnExactIsPoint", apart := false }
def FnExactIsPointSaid : Prop := fnExactIsPointRow.holds Try.pinned (OpenSpec.ofChange fnExactIsPointSpec)

/-- ITS FALSE NEIGHBOUR: 'it returns false'. Refute it at one input. -/
def fnExactIsPointWrong : ChangeSpec := { name := "fnExactIsPoint", fn := fun _ => fun
  | [d] => { results := [.lit (.bool false)], args := [d] }
  | _ => none }
def FnExactIsPointWrongFalsely : Prop := fnExactIsPointRow.holds Try.pinned (OpenSpec.ofChange fnExactIsPointWrong)

/-- 'laws.FnExactCeilDiv': WHATEVER THE INPUT: true; the input reads as it did. -/
def fnExactCeilDivSpec : ChangeSpec := { name := "fnExactCeilDiv", fn := fun _ => fun
  | [d1, d2] => { results := [.lit (.bool true)], args := [d1, d2] }
  | _ => none }
def fnExactCeilDivRow : OpenClaim := { program := "ytamokknfgbknlaa", sum := "55bc4a1743233fc4f0b4cc00450c7a90390b2c68c21d3b6938dcd52a81d464fb", func := "loop.example/g03005/laws.FnExactCeilDiv", spec := "fnExactCeilDiv", apart := false }
def FnExactCeilDivSaid : Prop := fnExactCeilDivRow.holds Try.pinned (OpenSpec.ofChange fnExactCeilDivSpec)

/-- ITS FALSE NEIGHBOUR: 'it returns false'. Refute it at one input. -/
def fnExactCeilDivWrong : ChangeSpec := { name := "fnExactCeilDiv", fn := fun _ => fun
  | [d1, d2] => { results := [.lit (.bool false)], args := [d1, d2] }
  | _ => none }
def FnExactCeilDivWrongFalsely : Prop := fnExactCeilDivRow.holds Try.pinned (OpenSpec.ofChange fnExactCeilDivWrong)

/-- 'laws.FnExactMod': WHATEVER THE INPUT: true; the input reads as it did. -/
def fnExactModSpec : ChangeSpec := { name := "fnExactMod", fn := fun _ => fun
  | [d1, d2] => { results := [.lit (.bool true)], args := [d1, d2] }
  | _ => none }
def fnExactModRow : OpenClaim := { program := "ytamokknfgbknlaa", sum := "55bc4a1743233fc4f0b4cc00450c7a90390b2c68c21d3b6938dcd52a81d464fb", func := "loop.example/g03005/laws.FnExactMod", spec := "fnExactMod", apart := false }
def FnExactModSaid : Prop := fnExactModRow.holds Try.pinned (OpenSpec.ofChange fnExactModSpec)

/-- ITS FALSE NEIGHBOUR: 'it returns false'. Refute it at one input. -/
def fnExactModWrong : ChangeSpec := { name := "fnExactMod", fn := fun _ => fun
  | [d1, d2] => { results := [.lit (.bool false)], args := [d1, d2] }
  | _ => none }
def FnExactModWrongFalsely : Prop := fnExactModRow.holds Try.pinned (OpenSpec.ofChange fnExactModWrong)

/-- 'laws.FnExactIsSegment': WHATEVER THE INPUT: true; the input reads as it did. -/
def fnExactIsSegmentSpec : ChangeSpec := { name := "fnExactIsSegment", fn := fun _ => fun
  | [d] => { results := [.lit (.bool true)], args := [d] }
  | _ => none }
def fnExactIsSegmentRow : OpenClaim := { program := "ytamokknfgbknlaa", sum := "55bc4a1743233fc4f0b4cc00450c7a90390b2c68c21d3b6938dcd52a81d464fb", func := "loop.example/g03005/laws.FnExactIsSegment", spec := "fnExactIsSegment", apart := false }
def FnExactIsSegmentSaid : Prop := fnExactIsSegmentRow.holds Try.pinned (OpenSpec.ofChange fnExactIsSegmentSpec)

/-- ITS FALSE NEIGHBOUR: 'it returns false'. Refute it at one input. -/
def fnExactIsSegmentWrong : ChangeSpec := { name := "fnExactIsSegment", fn := fun _ => fun
  | [d] => { results := [.lit (.bool false)], args := [d] }
  | _ => none }
def FnExactIsSegmentWrongFalsely : Prop := fnExactIsSegmentRow.holds Try.pinned (OpenSpec.ofChange fnExactIsSegmentWrong)

/-- 'laws.FnExactFarSquared': WHATEVER THE INPUT: true; the input reads as it did. -/
def fnExactFarSquaredSpec : ChangeSpec := { name := "fnExactFarSquared", fn := fun _ => fun
  | [d1, d2] => { results := [.lit (.bool true)], args := [d1, d2] }
  | _ => none }
def fnExactFarSquaredRow : OpenClaim := { program := "ytamokknfgbknlaa", sum := "55bc4a1743233fc4f0b4cc00450c7a90390b2c68c21d3b6938dcd52a81d464fb", func := "loop.example/g03005/laws.FnExactFarSquared", spec := "fnExactFarSquared", apart := false }
def FnExactFarSquaredSaid : Prop := fnExactFarSquaredRow.holds Try.pinned (OpenSpec.ofChange fnExactFarSquaredSpec)

/-- ITS FALSE NEIGHBOUR: 'it returns false'. Refute it at one input. -/
def fnExactFarSquaredWrong : ChangeSpec := { name := "fnExactFarSquared", fn := fun _ => fun
  | [d1, d2] => { results := [.lit (.bool false)], args := [d1, d2] }
  | _ => none }
def FnExactFarSquaredWrongFalsely : Prop := fnExactFarSquaredRow.holds Try.pinned (OpenSpec.ofChange fnExactFarSquaredWrong)

/-- 'laws.FnExactStepsBetween': WHATEVER THE INPUT: true; the input reads as it did. -/
def fnExactStepsBetweenSpec : ChangeSpec := { name := "fnExactStepsBetween", fn := fun _ => fun
  | [d1, d2] => { results := [.lit (.bool true)], args := [d1, d2] }
  | _ => none }
def fnExactStepsBetweenRow : OpenClaim := { program := "ytamokknfgbknlaa", sum := "55bc4a1743233fc4f0b4cc00450c7a90390b2c68c21d3b6938dcd52a81d464fb", func := "loop.example/g03005/laws.FnExactStepsBetween", spec := "fnExactStepsBetween", apart := false }
def FnExactStepsBetweenSaid : Prop := fnExactStepsBetweenRow.holds Try.pinned (OpenSpec.ofChange fnExactStepsBetweenSpec)

/-- ITS FALSE NEIGHBOUR: 'it returns false'. Refute it at one input. -/
def fnExactStepsBetweenWrong : ChangeSpec := { name := "fnExactStepsBetween", fn := fun _ => fun
  | [d1, d2] => { results := [.lit (.bool false)], args := [d1, d2] }
  | _ => none }
def FnExactStepsBetweenWrongFalsely : Prop := fnExactStepsBetweenRow.holds Try.pinned (OpenSpec.ofChange fnExactStepsBetweenWrong)

/- THE SECOND FORM. 'bulk': how many values and letters a reading holds, each counted each time it is reached (what is shared counts as often as it is met; a slice's spare places count too). A statement '..UptoSaid' is the law's where the arguments, and the package variables that the reading takes, are together of bulk at most 1048576: NARROWER than '..Said'. Prove '..Said' where nothing that the law and all that it calls make is longer than what came in: it says more and counts as full. Else prove '..UptoSaid'. A law counts once. -/
mutual
def uptoBulk {H : Type} : DataW H → Nat
  | .lit (.string bytes) => bytes.length + 1
  | .lit _ => 1
  | .nil => 1
  | .ptr d => uptoBulk d + 1
  | .slice elems spare => uptoBulkAll elems + uptoBulkAll spare + 1
  | .agg parts => uptoBulkAll parts + 1
  | .iface _ d => uptoBulk d + 1
  | .map entries => uptoBulkEntries entries + 1
  | .held _ => 1
def uptoBulkAll {H : Type} : List (DataW H) → Nat
  | [] => 0
  | d :: r => uptoBulk d + uptoBulkAll r
def uptoBulkEntries {H : Type} : List (Lit × DataW H) → Nat
  | [] => 0
  | x :: r => uptoBulkEntry x + uptoBulkEntries r
def uptoBulkEntry {H : Type} : Lit × DataW H → Nat
  | (.string bytes, d) => bytes.length + uptoBulk d + 1
  | (_, d) => uptoBulk d + 1
 end
def uptoSmall : (H : Type) → List (DataW H) → Bool := fun _ ds => decide (uptoBulkAll ds ≤ 1048576)
def OpenSpec.upto (s : _root_.Go.ChangeSpec) : _root_.Go.OpenSpec := { _root_.Go.OpenSpec.ofChange s with cond := some uptoSmall }

/-- 'laws.FnExactConstants', WHERE WHAT IT READS IS OF BULK AT MOST 1048576: true; the input reads as it did. -/
def fnExactConstantsUptoRow : OpenClaim := { program := "ytamokknfgbknlaa", sum := "55bc4a1743233fc4f0b4cc00450c7a90390b2c68c21d3b6938dcd52a81d464fb", func := "loop.example/g03005/laws.FnExactConstants", spec := "fnExactConstants", apart := false, narrowed := true }
def FnExactConstantsUptoSaid : Prop := fnExactConstantsUptoRow.holds Try.pinned (OpenSpec.upto fnExactConstantsSpec)

/-- 'laws.FnExactInRange', WHERE WHAT IT READS IS OF BULK AT MOST 1048576: true; the input reads as it did. -/
def fnExactInRangeUptoRow : OpenClaim := { program := "ytamokknfgbknlaa", sum := "55bc4a1743233fc4f0b4cc00450c7a90390b2c68c21d3b6938dcd52a81d464fb", func := "loop.example/g03005/laws.FnExactInRange", spec := "fnExactInRange", apart := false, narrowed := true }
def FnExactInRangeUptoSaid : Prop := fnExactInRangeUptoRow.holds Try.pinned (OpenSpec.upto fnExactInRangeSpec)

/-- 'laws.FnExactIsValidKey', WHERE WHAT IT READS IS OF BULK AT MOST 1048576: true; the input reads as it did. -/
def fnExactIsValidKeyUptoRow : OpenClaim := { program := "ytamokknfgbknlaa", sum := "55bc4a1743233fc4f0b4cc00450c7a90390b2c68c21d3b6938dcd52a81d464fb", func := "loop.example/g03005/laws.FnExactIsValidKey", spec := "fnExactIsValidKey", apart := false, narrowed := true }
def FnExactIsValidKeyUptoSaid : Prop := fnExactIsValidKeyUptoRow.holds Try.pinned (OpenSpec.upto fnExactIsValidKeySpec)

/-- 'laws.FnExactMax', WHERE WHAT IT READS IS OF BULK AT MOST 1048576: true; the input reads as it did. -/
def fnExactMaxUptoRow : OpenClaim := { program := "ytamokknfgbknlaa", sum := "55bc4a1743233fc4f0b4cc00450c7a90390b2c68c21d3b6938dcd52a81d464fb", func := "loop.example/g03005/laws.FnExactMax", spec := "fnExactMax", apart := false, narrowed := true }
def FnExactMaxUptoSaid : Prop := fnExactMaxUptoRow.holds Try.pinned (OpenSpec.upto fnExactMaxSpec)

/-- 'laws.FnExactMin', WHERE WHAT IT READS IS OF BULK AT MOST 1048576: true; the input reads as it did. -/
def fnExactMinUptoRow : OpenClaim := { program := "ytamokknfgbknlaa", sum := "55bc4a1743233fc4f0b4cc00450c7a90390b2c68c21d3b6938dcd52a81d464fb", func := "loop.example/g03005/laws.FnExactMin", spec := "fnExactMin", apart := false, narrowed := true }
def FnExactMinUptoSaid : Prop := fnExactMinUptoRow.holds Try.pinned (OpenSpec.upto fnExactMinSpec)

/-- 'laws.FnExactBeforePoint', WHERE WHAT IT READS IS OF BULK AT MOST 1048576: true; the input reads as it did. -/
def fnExactBeforePointUptoRow : OpenClaim := { program := "ytamokknfgbknlaa", sum := "55bc4a1743233fc4f0b4cc00450c7a90390b2c68c21d3b6938dcd52a81d464fb", func := "loop.example/g03005/laws.FnExactBeforePoint", spec := "fnExactBeforePoint", apart := false, narrowed := true }
def FnExactBeforePointUptoSaid : Prop := fnExactBeforePointUptoRow.holds Try.pinned (OpenSpec.upto fnExactBeforePointSpec)

/-- 'laws.FnExactIsPoint', WHERE WHAT IT READS IS OF BULK AT MOST 1048576: true; the input reads as it did. -/
def fnExactIsPointUptoRow : OpenClaim := { program := "ytamokknfgbknlaa", sum := "55bc4a1743233fc4f0b4cc00450c7a90390b2c68c21d3b6938dcd52a81d464fb", func := "loop.example/g03005/laws.FnExactIsPoint", spec := "fnExactIsPoint", apart := false, narrowed := true }
def FnExactIsPointUptoSaid : Prop := fnExactIsPointUptoRow.holds Try.pinned (OpenSpec.upto fnExactIsPointSpec)

/-- 'laws.FnExactCeilDiv', WHERE WHAT IT READS IS OF BULK AT MOST 1048576: true; the input reads as it did. -/
def fnExactCeilDivUptoRow : OpenClaim := { program := "ytamokknfgbknlaa", sum := "55bc4a1743233fc4f0b4cc00450c7a90390b2c68c21d3b6938dcd52a81d464fb", func := "loop.example/g03005/laws.FnExactCeilDiv", spec := "fnExactCeilDiv", apart := false, narrowed := true }
def FnExactCeilDivUptoSaid : Prop := fnExactCeilDivUptoRow.holds Try.pinned (OpenSpec.upto fnExactCeilDivSpec)

/-- 'laws.FnExactMod', WHERE WHAT IT READS IS OF BULK AT MOST 1048576: true; the input reads as it did. -/
def fnExactModUptoRow : OpenClaim := { program := "ytamokknfgbknlaa", sum := "55bc4a1743233fc4f0b4cc00450c7a90390b2c68c21d3b6938dcd52a81d464fb", func := "loop.example/g03005/laws.FnExactMod", spec := "fnExactMod", apart := false, narrowed := true }
def FnExactModUptoSaid : Prop := fnExactModUptoRow.holds Try.pinned (OpenSpec.upto fnExactModSpec)

/-- 'laws.FnExactIsSegment', WHERE WHAT IT READS IS OF BULK AT MOST 1048576: true; the input reads as it did. -/
def fnExactIsSegmentUptoRow : OpenClaim := { program := "ytamokknfgbknlaa", sum := "55bc4a1743233fc4f0b4cc00450c7a90390b2c68c21d3b6938dcd52a81d464fb", func := "loop.example/g03005/laws.FnExactIsSegment", spec := "fnExactIsSegment", apart := false, narrowed := true }
def FnExactIsSegmentUptoSaid : Prop := fnExactIsSegmentUptoRow.holds Try.pinned (OpenSpec.upto fnExactIsSegmentSpec)

/-- 'laws.FnExactFarSquared', WHERE WHAT IT READS IS OF BULK AT MOST 1048576: true; the input reads as it did. -/
def fnExactFarSquaredUptoRow : OpenClaim := { program := "ytamokknfgbknlaa", sum := "55bc4a1743233fc4f0b4cc00450c7a90390b2c68c21d3b6938dcd52a81d464fb", func := "loop.example/g03005/laws.FnExactFarSquared", spec := "fnExactFarSquared", apart := false, narrowed := true }
def FnExactFarSquaredUptoSaid : Prop := fnExactFarSquaredUptoRow.holds Try.pinned (OpenSpec.upto fnExactFarSquaredSpec)

/-- 'laws.FnExactStepsBetween', WHERE WHAT IT READS IS OF BULK AT MOST 1048576: true; the input reads as it did. -/
def fnExactStepsBetweenUptoRow : OpenClaim := { program := "ytamokknfgbknlaa", sum := "55bc4a1743233fc4f0b4cc00450c7a90390b2c68c21d3b6938dcd52a81d464fb", func := "loop.example/g03005/laws.FnExactStepsBetween", spec := "fnExactStepsBetween", apart := false, narrowed := true }
def FnExactStepsBetweenUptoSaid : Prop := fnExactStepsBetweenUptoRow.holds Try.pinned (OpenSpec.upto fnExactStepsBetweenSpec)

end Rows
end Go.Proofs.Ytamokknfgbknlaa
