/-
  No cell of these rows narrows 'for every input' (looked for: loops, veiled, ifaces, maps, wideKeys, modest, calm, conditions, laid).
  DERIVED. THE GIVEN ROWS OF THIS SEAT. 12 by the template 'for every input the law returns true; each argument reads behind the call as it read before'; 0 by the template 'total and deterministic' (their statements: YtppdidoingbgiaaTotals.lean).
  GIVEN WITH THE SEED: the statements are not yours to turn. If you find one false, say at which input.
  Laid BY PROGRAM, IN A SANDBOX (cutbox-rows.mjs): the forced cells as the released guide's own fill.sh prints them over the translation 5bddc4cb28264c4a… (all of the seat's roots in one cut). By AI agents, Wed Nov 11 2026. No macro, syntax, notation, axiom, sorry.
-/
import Derived.Test.YtppdidoingbgiaaChecked
import GoSem.Claim
import GoSem.ClaimJoined
import GoSem.ClaimMapViews
import Derived.JoinedTies
import Derived.KernelRfl
namespace Go.Proofs.Ytppdidoingbgiaa
/- THE CELL 'sum', in the pinned program and in every row, IS THE sha256 OF THE DUMP (.gsa) THAT YtppdidoingbgiaaProg.lean LOADS. Nothing in Lean hashes anything: it is a label: what it is worth is what the hold of that sum in a sandbox is worth. -/
noncomputable def Try.pinned : Pinned := { name := "ytppdidoingbgiaa", sum := "5bddc4cb28264c4a78e73f619eadefb1ba18a2330adcd47237524835444549a8", checked := Try.checked }
namespace Rows
def none {H : Type} : Left H := { results := [], args := [] }

/-- 'laws.FnExactEqualLines': WHATEVER THE INPUT: true; the input reads as it did. -/
def fnExactEqualLinesSpec : ChangeSpec := { name := "fnExactEqualLines", fn := fun _ => fun
  | [d1, d2] => { results := [.lit (.bool true)], args := [d1, d2] }
  | _ => none }
def fnExactEqualLinesRow : OpenClaim := { program := "ytppdidoingbgiaa", sum := "5bddc4cb28264c4a78e73f619eadefb1ba18a2330adcd47237524835444549a8", func := "loop.example/g03005/laws.FnExactEqualLines", spec := "fnExactEqualLines", apart := false }
def FnExactEqualLinesSaid : Prop := fnExactEqualLinesRow.holds Try.pinned (OpenSpec.ofChange fnExactEqualLinesSpec)

/-- ITS FALSE NEIGHBOUR: 'it returns false'. Refute it at one input. -/
def fnExactEqualLinesWrong : ChangeSpec := { name := "fnExactEqualLines", fn := fun _ => fun
  | [d1, d2] => { results := [.lit (.bool false)], args := [d1, d2] }
  | _ => none }
def FnExactEqualLinesWrongFalsely : Prop := fnExactEqualLinesRow.holds Try.pinned (OpenSpec.ofChange fnExactEqualLinesWrong)

/-- 'laws.FnExactIsLine': WHATEVER THE INPUT: true; the input reads as it did. -/
def fnExactIsLineSpec : ChangeSpec := { name := "fnExactIsLine", fn := fun _ => fun
  | [d] => { results := [.lit (.bool true)], args := [d] }
  | _ => none }
def fnExactIsLineRow : OpenClaim := { program := "ytppdidoingbgiaa", sum := "5bddc4cb28264c4a78e73f619eadefb1ba18a2330adcd47237524835444549a8", func := "loop.example/g03005/laws.FnExactIsLine", spec := "fnExactIsLine", apart := false }
def FnExactIsLineSaid : Prop := fnExactIsLineRow.holds Try.pinned (OpenSpec.ofChange fnExactIsLineSpec)

/-- ITS FALSE NEIGHBOUR: 'it returns false'. Refute it at one input. -/
def fnExactIsLineWrong : ChangeSpec := { name := "fnExactIsLine", fn := fun _ => fun
  | [d] => { results := [.lit (.bool false)], args := [d] }
  | _ => none }
def FnExactIsLineWrongFalsely : Prop := fnExactIsLineRow.holds Try.pinned (OpenSpec.ofChange fnExactIsLineWrong)

/-- 'laws.FnExactDeriveFromString': WHATEVER THE INPUT: true; the input reads as it did. -/
def fnExactDeriveFromStringSpec : ChangeSpec := { name := "fnExactDeriveFromString", fn := fun _ => fun
  | [d1, d2] => { results := [.lit (.bool true)], args := [d1, d2] }
  | _ => none }
def fnExactDeriveFromStringRow : OpenClaim := { program := "ytppdidoingbgiaa", sum := "5bddc4cb28264c4a78e73f619eadefb1ba18a2330adcd47237524835444549a8", func := "loop.example/g03005/laws.FnExactDeriveFromString", spec := "fnExactDeriveFromString", apart := false }
def FnExactDeriveFromStringSaid : Prop := fnExactDeriveFromStringRow.holds Try.pinned (OpenSpec.ofChange fnExactDeriveFromStringSpec)

/-- ITS FALSE NEIGHBOUR: 'it returns false'. Refute it at one input. -/
def fnExactDeriveFromStringWrong : ChangeSpec := { name := "fnExactDeriveFromString", fn := fun _ => fun
  | [d1, d2] => { results := [.lit (.bool false)], args := [d1, d2] }
  | _ => none }
def FnExactDeriveFromStringWrongFalsely : Prop := fnExactDeriveFromStringRow.holds Try.pinned (OpenSpec.ofChange fnExactDeriveFromStringWrong)

/-- 'laws.FnExactBytesToInts': WHATEVER THE INPUT: true; the input reads as it did. -/
def fnExactBytesToIntsSpec : ChangeSpec := { name := "fnExactBytesToInts", fn := fun _ => fun
  | [d] => { results := [.lit (.bool true)], args := [d] }
  | _ => none }
def fnExactBytesToIntsRow : OpenClaim := { program := "ytppdidoingbgiaa", sum := "5bddc4cb28264c4a78e73f619eadefb1ba18a2330adcd47237524835444549a8", func := "loop.example/g03005/laws.FnExactBytesToInts", spec := "fnExactBytesToInts", apart := false }
def FnExactBytesToIntsSaid : Prop := fnExactBytesToIntsRow.holds Try.pinned (OpenSpec.ofChange fnExactBytesToIntsSpec)

/-- ITS FALSE NEIGHBOUR: 'it returns false'. Refute it at one input. -/
def fnExactBytesToIntsWrong : ChangeSpec := { name := "fnExactBytesToInts", fn := fun _ => fun
  | [d] => { results := [.lit (.bool false)], args := [d] }
  | _ => none }
def FnExactBytesToIntsWrongFalsely : Prop := fnExactBytesToIntsRow.holds Try.pinned (OpenSpec.ofChange fnExactBytesToIntsWrong)

/-- 'laws.FnExactIsOn': WHATEVER THE INPUT: true; the input reads as it did. -/
def fnExactIsOnSpec : ChangeSpec := { name := "fnExactIsOn", fn := fun _ => fun
  | [d1, d2] => { results := [.lit (.bool true)], args := [d1, d2] }
  | _ => none }
def fnExactIsOnRow : OpenClaim := { program := "ytppdidoingbgiaa", sum := "5bddc4cb28264c4a78e73f619eadefb1ba18a2330adcd47237524835444549a8", func := "loop.example/g03005/laws.FnExactIsOn", spec := "fnExactIsOn", apart := false }
def FnExactIsOnSaid : Prop := fnExactIsOnRow.holds Try.pinned (OpenSpec.ofChange fnExactIsOnSpec)

/-- ITS FALSE NEIGHBOUR: 'it returns false'. Refute it at one input. -/
def fnExactIsOnWrong : ChangeSpec := { name := "fnExactIsOn", fn := fun _ => fun
  | [d1, d2] => { results := [.lit (.bool false)], args := [d1, d2] }
  | _ => none }
def FnExactIsOnWrongFalsely : Prop := fnExactIsOnRow.holds Try.pinned (OpenSpec.ofChange fnExactIsOnWrong)

/-- 'laws.FnExactIsBetween': WHATEVER THE INPUT: true; the input reads as it did. -/
def fnExactIsBetweenSpec : ChangeSpec := { name := "fnExactIsBetween", fn := fun _ => fun
  | [d1, d2] => { results := [.lit (.bool true)], args := [d1, d2] }
  | _ => none }
def fnExactIsBetweenRow : OpenClaim := { program := "ytppdidoingbgiaa", sum := "5bddc4cb28264c4a78e73f619eadefb1ba18a2330adcd47237524835444549a8", func := "loop.example/g03005/laws.FnExactIsBetween", spec := "fnExactIsBetween", apart := false }
def FnExactIsBetweenSaid : Prop := fnExactIsBetweenRow.holds Try.pinned (OpenSpec.ofChange fnExactIsBetweenSpec)

/-- ITS FALSE NEIGHBOUR: 'it returns false'. Refute it at one input. -/
def fnExactIsBetweenWrong : ChangeSpec := { name := "fnExactIsBetween", fn := fun _ => fun
  | [d1, d2] => { results := [.lit (.bool false)], args := [d1, d2] }
  | _ => none }
def FnExactIsBetweenWrongFalsely : Prop := fnExactIsBetweenRow.holds Try.pinned (OpenSpec.ofChange fnExactIsBetweenWrong)

/-- 'laws.FnExactDecrypt': WHATEVER THE INPUT: true; the input reads as it did. -/
def fnExactDecryptSpec : ChangeSpec := { name := "fnExactDecrypt", fn := fun _ => fun
  | [d1, d2] => { results := [.lit (.bool true)], args := [d1, d2] }
  | _ => none }
def fnExactDecryptRow : OpenClaim := { program := "ytppdidoingbgiaa", sum := "5bddc4cb28264c4a78e73f619eadefb1ba18a2330adcd47237524835444549a8", func := "loop.example/g03005/laws.FnExactDecrypt", spec := "fnExactDecrypt", apart := false }
def FnExactDecryptSaid : Prop := fnExactDecryptRow.holds Try.pinned (OpenSpec.ofChange fnExactDecryptSpec)

/-- ITS FALSE NEIGHBOUR: 'it returns false'. Refute it at one input. -/
def fnExactDecryptWrong : ChangeSpec := { name := "fnExactDecrypt", fn := fun _ => fun
  | [d1, d2] => { results := [.lit (.bool false)], args := [d1, d2] }
  | _ => none }
def FnExactDecryptWrongFalsely : Prop := fnExactDecryptRow.holds Try.pinned (OpenSpec.ofChange fnExactDecryptWrong)

/-- 'laws.FnExactEncrypt': WHATEVER THE INPUT: true; the input reads as it did. -/
def fnExactEncryptSpec : ChangeSpec := { name := "fnExactEncrypt", fn := fun _ => fun
  | [d1, d2] => { results := [.lit (.bool true)], args := [d1, d2] }
  | _ => none }
def fnExactEncryptRow : OpenClaim := { program := "ytppdidoingbgiaa", sum := "5bddc4cb28264c4a78e73f619eadefb1ba18a2330adcd47237524835444549a8", func := "loop.example/g03005/laws.FnExactEncrypt", spec := "fnExactEncrypt", apart := false }
def FnExactEncryptSaid : Prop := fnExactEncryptRow.holds Try.pinned (OpenSpec.ofChange fnExactEncryptSpec)

/-- ITS FALSE NEIGHBOUR: 'it returns false'. Refute it at one input. -/
def fnExactEncryptWrong : ChangeSpec := { name := "fnExactEncrypt", fn := fun _ => fun
  | [d1, d2] => { results := [.lit (.bool false)], args := [d1, d2] }
  | _ => none }
def FnExactEncryptWrongFalsely : Prop := fnExactEncryptRow.holds Try.pinned (OpenSpec.ofChange fnExactEncryptWrong)

/-- 'laws.FnExactReadBytes': WHATEVER THE INPUT: true; the input reads as it did. -/
def fnExactReadBytesSpec : ChangeSpec := { name := "fnExactReadBytes", fn := fun _ => fun
  | [d1, d2, d3] => { results := [.lit (.bool true)], args := [d1, d2, d3] }
  | _ => none }
def fnExactReadBytesRow : OpenClaim := { program := "ytppdidoingbgiaa", sum := "5bddc4cb28264c4a78e73f619eadefb1ba18a2330adcd47237524835444549a8", func := "loop.example/g03005/laws.FnExactReadBytes", spec := "fnExactReadBytes", apart := false }
def FnExactReadBytesSaid : Prop := fnExactReadBytesRow.holds Try.pinned (OpenSpec.ofChange fnExactReadBytesSpec)

/-- ITS FALSE NEIGHBOUR: 'it returns false'. Refute it at one input. -/
def fnExactReadBytesWrong : ChangeSpec := { name := "fnExactReadBytes", fn := fun _ => fun
  | [d1, d2, d3] => { results := [.lit (.bool false)], args := [d1, d2, d3] }
  | _ => none }
def FnExactReadBytesWrongFalsely : Prop := fnExactReadBytesRow.holds Try.pinned (OpenSpec.ofChange fnExactReadBytesWrong)

/-- 'laws.FnExactTurnLine': WHATEVER THE INPUT: true; the input reads as it did. -/
def fnExactTurnLineSpec : ChangeSpec := { name := "fnExactTurnLine", fn := fun _ => fun
  | [d] => { results := [.lit (.bool true)], args := [d] }
  | _ => none }
def fnExactTurnLineRow : OpenClaim := { program := "ytppdidoingbgiaa", sum := "5bddc4cb28264c4a78e73f619eadefb1ba18a2330adcd47237524835444549a8", func := "loop.example/g03005/laws.FnExactTurnLine", spec := "fnExactTurnLine", apart := false }
def FnExactTurnLineSaid : Prop := fnExactTurnLineRow.holds Try.pinned (OpenSpec.ofChange fnExactTurnLineSpec)

/-- ITS FALSE NEIGHBOUR: 'it returns false'. Refute it at one input. -/
def fnExactTurnLineWrong : ChangeSpec := { name := "fnExactTurnLine", fn := fun _ => fun
  | [d] => { results := [.lit (.bool false)], args := [d] }
  | _ => none }
def FnExactTurnLineWrongFalsely : Prop := fnExactTurnLineRow.holds Try.pinned (OpenSpec.ofChange fnExactTurnLineWrong)

/-- 'laws.FnExactTurnRing': WHATEVER THE INPUT: true; the input reads as it did. -/
def fnExactTurnRingSpec : ChangeSpec := { name := "fnExactTurnRing", fn := fun _ => fun
  | [d] => { results := [.lit (.bool true)], args := [d] }
  | _ => none }
def fnExactTurnRingRow : OpenClaim := { program := "ytppdidoingbgiaa", sum := "5bddc4cb28264c4a78e73f619eadefb1ba18a2330adcd47237524835444549a8", func := "loop.example/g03005/laws.FnExactTurnRing", spec := "fnExactTurnRing", apart := false }
def FnExactTurnRingSaid : Prop := fnExactTurnRingRow.holds Try.pinned (OpenSpec.ofChange fnExactTurnRingSpec)

/-- ITS FALSE NEIGHBOUR: 'it returns false'. Refute it at one input. -/
def fnExactTurnRingWrong : ChangeSpec := { name := "fnExactTurnRing", fn := fun _ => fun
  | [d] => { results := [.lit (.bool false)], args := [d] }
  | _ => none }
def FnExactTurnRingWrongFalsely : Prop := fnExactTurnRingRow.holds Try.pinned (OpenSpec.ofChange fnExactTurnRingWrong)

/-- 'laws.FnExactEncodeInts': WHATEVER THE INPUT: true; the input reads as it did. -/
def fnExactEncodeIntsSpec : ChangeSpec := { name := "fnExactEncodeInts", fn := fun _ => fun
  | [d] => { results := [.lit (.bool true)], args := [d] }
  | _ => none }
def fnExactEncodeIntsRow : OpenClaim := { program := "ytppdidoingbgiaa", sum := "5bddc4cb28264c4a78e73f619eadefb1ba18a2330adcd47237524835444549a8", func := "loop.example/g03005/laws.FnExactEncodeInts", spec := "fnExactEncodeInts", apart := false }
def FnExactEncodeIntsSaid : Prop := fnExactEncodeIntsRow.holds Try.pinned (OpenSpec.ofChange fnExactEncodeIntsSpec)

/-- ITS FALSE NEIGHBOUR: 'it returns false'. Refute it at one input. -/
def fnExactEncodeIntsWrong : ChangeSpec := { name := "fnExactEncodeInts", fn := fun _ => fun
  | [d] => { results := [.lit (.bool false)], args := [d] }
  | _ => none }
def FnExactEncodeIntsWrongFalsely : Prop := fnExactEncodeIntsRow.holds Try.pinned (OpenSpec.ofChange fnExactEncodeIntsWrong)

/- THE SECOND FORM. 'bulk': how many values and letters a reading holds, each counted each time it is reached (what is shared counts as often as it is met; a slice's spare places count too). A statement '..UptoSaid' is the law's where the arguments, and the package variables that the reading takes, are together of bulk at most 1048576: NARROWER than '..Said'. Prove '..Said' where nothing that the law and all that it calls make is longer than what came in: it says more and counts as full. Else prove '..UptoSaid'. A law counts once. -/
mutual
def uptoBulk {H : Type} : DataW H → Nat
  | .lit (.string bytes) => bytes.length + 1
  | .lit _ => 1
  | .nil => 1
  | .ptr d => uptoBulk d + 1
  | .slice elems spare => uptoBulkAll elems + uptoBulkAll spare + 1
  | .agg parts => uptoBulkAll parts + 1
  | .iface _ d => uptoBulk d + 1
  | .map entries => uptoBulkEntries entries + 1
  | .held _ => 1
def uptoBulkAll {H : Type} : List (DataW H) → Nat
  | [] => 0
  | d :: r => uptoBulk d + uptoBulkAll r
def uptoBulkEntries {H : Type} : List (Lit × DataW H) → Nat
  | [] => 0
  | x :: r => uptoBulkEntry x + uptoBulkEntries r
def uptoBulkEntry {H : Type} : Lit × DataW H → Nat
  | (.string bytes, d) => bytes.length + uptoBulk d + 1
  | (_, d) => uptoBulk d + 1
 end
def uptoSmall : (H : Type) → List (DataW H) → Bool := fun _ ds => decide (uptoBulkAll ds ≤ 1048576)
def OpenSpec.upto (s : _root_.Go.ChangeSpec) : _root_.Go.OpenSpec := { _root_.Go.OpenSpec.ofChange s with cond := some uptoSmall }

/-- 'laws.FnExactEqualLines', WHERE WHAT IT READS IS OF BULK AT MOST 1048576: true; the input reads as it did. -/
def fnExactEqualLinesUptoRow : OpenClaim := { program := "ytppdidoingbgiaa", sum := "5bddc4cb28264c4a78e73f619eadefb1ba18a2330adcd47237524835444549a8", func := "loop.example/g03005/laws.FnExactEqualLines", spec := "fnExactEqualLines", apart := false, narrowed := true }
def FnExactEqualLinesUptoSaid : Prop := fnExactEqualLinesUptoRow.holds Try.pinned (OpenSpec.upto fnExactEqualLinesSpec)

/-- 'laws.FnExactIsLine', WHERE WHAT IT READS IS OF BULK AT MOST 1048576: true; the input reads as it did. -/
def fnExactIsLineUptoRow : OpenClaim := { program := "ytppdidoingbgiaa", sum := "5bddc4cb28264c4a78e73f619eadefb1ba18a2330adcd47237524835444549a8", func := "loop.example/g03005/laws.FnExactIsLine", spec := "fnExactIsLine", apart := false, narrowed := true }
def FnExactIsLineUptoSaid : Prop := fnExactIsLineUptoRow.holds Try.pinned (OpenSpec.upto fnExactIsLineSpec)

/-- 'laws.FnExactDeriveFromString', WHERE WHAT IT READS IS OF BULK AT MOST 1048576: true; the input reads as it did. -/
def fnExactDeriveFromStringUptoRow : OpenClaim := { program := "ytppdidoingbgiaa", sum := "5bddc4cb28264c4a78e73f619eadefb1ba18a2330adcd47237524835444549a8", func := "loop.example/g03005/laws.FnExactDeriveFromString", spec := "fnExactDeriveFromString", apart := false, narrowed := true }
def FnExactDeriveFromStringUptoSaid : Prop := fnExactDeriveFromStringUptoRow.holds Try.pinned (OpenSpec.upto fnExactDeriveFromStringSpec)

/-- 'laws.FnExactBytesToInts', WHERE WHAT IT READS IS OF BULK AT MOST 1048576: true; the input reads as it did. -/
def fnExactBytesToIntsUptoRow : OpenClaim := { program := "ytppdidoingbgiaa", sum := "5bddc4cb28264c4a78e73f619eadefb1ba18a2330adcd47237524835444549a8", func := "loop.example/g03005/laws.FnExactBytesToInts", spec := "fnExactBytesToInts", apart := false, narrowed := true }
def FnExactBytesToIntsUptoSaid : Prop := fnExactBytesToIntsUptoRow.holds Try.pinned (OpenSpec.upto fnExactBytesToIntsSpec)

/-- 'laws.FnExactIsOn', WHERE WHAT IT READS IS OF BULK AT MOST 1048576: true; the input reads as it did. -/
def fnExactIsOnUptoRow : OpenClaim := { program := "ytppdidoingbgiaa", sum := "5bddc4cb28264c4a78e73f619eadefb1ba18a2330adcd47237524835444549a8", func := "loop.example/g03005/laws.FnExactIsOn", spec := "fnExactIsOn", apart := false, narrowed := true }
def FnExactIsOnUptoSaid : Prop := fnExactIsOnUptoRow.holds Try.pinned (OpenSpec.upto fnExactIsOnSpec)

/-- 'laws.FnExactIsBetween', WHERE WHAT IT READS IS OF BULK AT MOST 1048576: true; the input reads as it did. -/
def fnExactIsBetweenUptoRow : OpenClaim := { program := "ytppdidoingbgiaa", sum := "5bddc4cb28264c4a78e73f619eadefb1ba18a2330adcd47237524835444549a8", func := "loop.example/g03005/laws.FnExactIsBetween", spec := "fnExactIsBetween", apart := false, narrowed := true }
def FnExactIsBetweenUptoSaid : Prop := fnExactIsBetweenUptoRow.holds Try.pinned (OpenSpec.upto fnExactIsBetweenSpec)

/-- 'laws.FnExactDecrypt', WHERE WHAT IT READS IS OF BULK AT MOST 1048576: true; the input reads as it did. -/
def fnExactDecryptUptoRow : OpenClaim := { program := "ytppdidoingbgiaa", sum := "5bddc4cb28264c4a78e73f619eadefb1ba18a2330adcd47237524835444549a8", func := "loop.example/g03005/laws.FnExactDecrypt", spec := "fnExactDecrypt", apart := false, narrowed := true }
def FnExactDecryptUptoSaid : Prop := fnExactDecryptUptoRow.holds Try.pinned (OpenSpec.upto fnExactDecryptSpec)

/-- 'laws.FnExactEncrypt', WHERE WHAT IT READS IS OF BULK AT MOST 1048576: true; the input reads as it did. -/
def fnExactEncryptUptoRow : OpenClaim := { program := "ytppdidoingbgiaa", sum := "5bddc4cb28264c4a78e73f619eadefb1ba18a2330adcd47237524835444549a8", func := "loop.example/g03005/laws.FnExactEncrypt", spec := "fnExactEncrypt", apart := false, narrowed := true }
def FnExactEncryptUptoSaid : Prop := fnExactEncryptUptoRow.holds Try.pinned (OpenSpec.upto fnExactEncryptSpec)

/-- 'laws.FnExactReadBytes', WHERE WHAT IT READS IS OF BULK AT MOST 1048576: true; the input reads as it did. -/
def fnExactReadBytesUptoRow : OpenClaim := { program := "ytppdidoingbgiaa", sum := "5bddc4cb28264c4a78e73f619eadefb1ba18a2330adcd47237524835444549a8", func := "loop.example/g03005/laws.FnExactReadBytes", spec := "fnExactReadBytes", apart := false, narrowed := true }
def FnExactReadBytesUptoSaid : Prop := fnExactReadBytesUptoRow.holds Try.pinned (OpenSpec.upto fnExactReadBytesSpec)

/-- 'laws.FnExactTurnLine', WHERE WHAT IT READS IS OF BULK AT MOST 1048576: true; the input reads as it did. -/
def fnExactTurnLineUptoRow : OpenClaim := { program := "ytppdidoingbgiaa", sum := "5bddc4cb28264c4a78e73f619eadefb1ba18a2330adcd47237524835444549a8", func := "loop.example/g03005/laws.FnExactTurnLine", spec := "fnExactTurnLine", apart := false, narrowed := true }
def FnExactTurnLineUptoSaid : Prop := fnExactTurnLineUptoRow.holds Try.pinned (OpenSpec.upto fnExactTurnLineSpec)

/-- 'laws.FnExactTurnRing', WHERE WHAT IT READS IS OF BULK AT MOST 1048576: true; the input reads as it did. -/
def fnExactTurnRingUptoRow : OpenClaim := { program := "ytppdidoingbgiaa", sum := "5bddc4cb28264c4a78e73f619eadefb1ba18a2330adcd47237524835444549a8", func := "loop.example/g03005/laws.FnExactTurnRing", spec := "fnExactTurnRing", apart := false, narrowed := true }
def FnExactTurnRingUptoSaid : Prop := fnExactTurnRingUptoRow.holds Try.pinned (OpenSpec.upto fnExactTurnRingSpec)

/-- 'laws.FnExactEncodeInts', WHERE WHAT IT READS IS OF BULK AT MOST 1048576: true; the input reads as it did. -/
def fnExactEncodeIntsUptoRow : OpenClaim := { program := "ytppdidoingbgiaa", sum := "5bddc4cb28264c4a78e73f619eadefb1ba18a2330adcd47237524835444549a8", func := "loop.example/g03005/laws.FnExactEncodeInts", spec := "fnExactEncodeInts", apart := false, narrowed := true }
def FnExactEncodeIntsUptoSaid : Prop := fnExactEncodeIntsUptoRow.holds Try.pinned (OpenSpec.upto fnExactEncodeIntsSpec)

end Rows
end Go.Proofs.Ytppdidoingbgiaa
