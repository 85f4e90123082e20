/-
  No cell of these rows narrows 'for every input' (looked for: loops, veiled, ifaces, maps, wideKeys, modest, calm, conditions, laid).
  DERIVED. THE GIVEN ROWS OF THIS SEAT. 12 by the template 'for every input the law returns true; each argument reads behind the call as it read before'; 0 by the template 'total and deterministic' (their statements: YtondhgmlemgoaaaTotals.lean).
  GIVEN WITH THE SEED: the statements are not yours to turn. If you find one false, say at which input.
  Laid BY PROGRAM, IN A SANDBOX (cutbox-rows.mjs): the forced cells as the released guide's own fill.sh prints them over the translation 0432acf32a7c840d… (all of the seat's roots in one cut). By AI agents, Wed Nov 11 2026. No macro, syntax, notation, axiom, sorry.
-/
import Derived.Test.YtondhgmlemgoaaaChecked
import GoSem.Claim
import GoSem.ClaimJoined
import GoSem.ClaimMapViews
import Derived.JoinedTies
import Derived.KernelRfl
namespace Go.Proofs.Ytondhgmlemgoaaa
/- THE CELL 'sum', in the pinned program and in every row, IS THE sha256 OF THE DUMP (.gsa) THAT YtondhgmlemgoaaaProg.lean LOADS. Nothing in Lean hashes anything: it is a label: what it is worth is what the hold of that sum in a sandbox is worth. -/
noncomputable def Try.pinned : Pinned := { name := "ytondhgmlemgoaaa", sum := "0432acf32a7c840d2e1a6d6376e7c5fd69e8737097d4e2b57c6ef1311f0fc9e0", checked := Try.checked }
namespace Rows
def none {H : Type} : Left H := { results := [], args := [] }

/-- 'laws.FnExactSipEnd': WHATEVER THE INPUT: true; the input reads as it did. -/
def fnExactSipEndSpec : ChangeSpec := { name := "fnExactSipEnd", fn := fun _ => fun
  | [d] => { results := [.lit (.bool true)], args := [d] }
  | _ => none }
def fnExactSipEndRow : OpenClaim := { program := "ytondhgmlemgoaaa", sum := "0432acf32a7c840d2e1a6d6376e7c5fd69e8737097d4e2b57c6ef1311f0fc9e0", func := "loop.example/g00504/laws.FnExactSipEnd", spec := "fnExactSipEnd", apart := false }
def FnExactSipEndSaid : Prop := fnExactSipEndRow.holds Try.pinned (OpenSpec.ofChange fnExactSipEndSpec)

/-- ITS FALSE NEIGHBOUR: 'it returns false'. Refute it at one input. -/
def fnExactSipEndWrong : ChangeSpec := { name := "fnExactSipEnd", fn := fun _ => fun
  | [d] => { results := [.lit (.bool false)], args := [d] }
  | _ => none }
def FnExactSipEndWrongFalsely : Prop := fnExactSipEndRow.holds Try.pinned (OpenSpec.ofChange fnExactSipEndWrong)

/-- 'laws.FnExactSipRound': WHATEVER THE INPUT: true; the input reads as it did. -/
def fnExactSipRoundSpec : ChangeSpec := { name := "fnExactSipRound", fn := fun _ => fun
  | [d] => { results := [.lit (.bool true)], args := [d] }
  | _ => none }
def fnExactSipRoundRow : OpenClaim := { program := "ytondhgmlemgoaaa", sum := "0432acf32a7c840d2e1a6d6376e7c5fd69e8737097d4e2b57c6ef1311f0fc9e0", func := "loop.example/g00504/laws.FnExactSipRound", spec := "fnExactSipRound", apart := false }
def FnExactSipRoundSaid : Prop := fnExactSipRoundRow.holds Try.pinned (OpenSpec.ofChange fnExactSipRoundSpec)

/-- ITS FALSE NEIGHBOUR: 'it returns false'. Refute it at one input. -/
def fnExactSipRoundWrong : ChangeSpec := { name := "fnExactSipRound", fn := fun _ => fun
  | [d] => { results := [.lit (.bool false)], args := [d] }
  | _ => none }
def FnExactSipRoundWrongFalsely : Prop := fnExactSipRoundRow.holds Try.pinned (OpenSpec.ofChange fnExactSipRoundWrong)

/-- 'laws.FnExactSipWord': WHATEVER THE INPUT: true; the input reads as it did. -/
def fnExactSipWordSpec : ChangeSpec := { name := "fnExactSipWord", fn := fun _ => fun
  | [d1, d2] => { results := [.lit (.bool true)], args := [d1, d2] }
  | _ => none }
def fnExactSipWordRow : OpenClaim := { program := "ytondhgmlemgoaaa", sum := "0432acf32a7c840d2e1a6d6376e7c5fd69e8737097d4e2b57c6ef1311f0fc9e0", func := "loop.example/g00504/laws.FnExactSipWord", spec := "fnExactSipWord", apart := false }
def FnExactSipWordSaid : Prop := fnExactSipWordRow.holds Try.pinned (OpenSpec.ofChange fnExactSipWordSpec)

/-- ITS FALSE NEIGHBOUR: 'it returns false'. Refute it at one input. -/
def fnExactSipWordWrong : ChangeSpec := { name := "fnExactSipWord", fn := fun _ => fun
  | [d1, d2] => { results := [.lit (.bool false)], args := [d1, d2] }
  | _ => none }
def FnExactSipWordWrongFalsely : Prop := fnExactSipWordRow.holds Try.pinned (OpenSpec.ofChange fnExactSipWordWrong)

/-- 'laws.FnExactKeyMac': WHATEVER THE INPUT: true; the input reads as it did. -/
def fnExactKeyMacSpec : ChangeSpec := { name := "fnExactKeyMac", fn := fun _ => fun
  | [d1, d2] => { results := [.lit (.bool true)], args := [d1, d2] }
  | _ => none }
def fnExactKeyMacRow : OpenClaim := { program := "ytondhgmlemgoaaa", sum := "0432acf32a7c840d2e1a6d6376e7c5fd69e8737097d4e2b57c6ef1311f0fc9e0", func := "loop.example/g00504/laws.FnExactKeyMac", spec := "fnExactKeyMac", apart := false }
def FnExactKeyMacSaid : Prop := fnExactKeyMacRow.holds Try.pinned (OpenSpec.ofChange fnExactKeyMacSpec)

/-- ITS FALSE NEIGHBOUR: 'it returns false'. Refute it at one input. -/
def fnExactKeyMacWrong : ChangeSpec := { name := "fnExactKeyMac", fn := fun _ => fun
  | [d1, d2] => { results := [.lit (.bool false)], args := [d1, d2] }
  | _ => none }
def FnExactKeyMacWrongFalsely : Prop := fnExactKeyMacRow.holds Try.pinned (OpenSpec.ofChange fnExactKeyMacWrong)

/-- 'laws.FnExactSipHash': WHATEVER THE INPUT: true; the input reads as it did. -/
def fnExactSipHashSpec : ChangeSpec := { name := "fnExactSipHash", fn := fun _ => fun
  | [d1, d2, d3] => { results := [.lit (.bool true)], args := [d1, d2, d3] }
  | _ => none }
def fnExactSipHashRow : OpenClaim := { program := "ytondhgmlemgoaaa", sum := "0432acf32a7c840d2e1a6d6376e7c5fd69e8737097d4e2b57c6ef1311f0fc9e0", func := "loop.example/g00504/laws.FnExactSipHash", spec := "fnExactSipHash", apart := false }
def FnExactSipHashSaid : Prop := fnExactSipHashRow.holds Try.pinned (OpenSpec.ofChange fnExactSipHashSpec)

/-- ITS FALSE NEIGHBOUR: 'it returns false'. Refute it at one input. -/
def fnExactSipHashWrong : ChangeSpec := { name := "fnExactSipHash", fn := fun _ => fun
  | [d1, d2, d3] => { results := [.lit (.bool false)], args := [d1, d2, d3] }
  | _ => none }
def FnExactSipHashWrongFalsely : Prop := fnExactSipHashRow.holds Try.pinned (OpenSpec.ofChange fnExactSipHashWrong)

/-- 'laws.FnExactSameMac': WHATEVER THE INPUT: true; the input reads as it did. -/
def fnExactSameMacSpec : ChangeSpec := { name := "fnExactSameMac", fn := fun _ => fun
  | [d1, d2] => { results := [.lit (.bool true)], args := [d1, d2] }
  | _ => none }
def fnExactSameMacRow : OpenClaim := { program := "ytondhgmlemgoaaa", sum := "0432acf32a7c840d2e1a6d6376e7c5fd69e8737097d4e2b57c6ef1311f0fc9e0", func := "loop.example/g00504/laws.FnExactSameMac", spec := "fnExactSameMac", apart := false }
def FnExactSameMacSaid : Prop := fnExactSameMacRow.holds Try.pinned (OpenSpec.ofChange fnExactSameMacSpec)

/-- ITS FALSE NEIGHBOUR: 'it returns false'. Refute it at one input. -/
def fnExactSameMacWrong : ChangeSpec := { name := "fnExactSameMac", fn := fun _ => fun
  | [d1, d2] => { results := [.lit (.bool false)], args := [d1, d2] }
  | _ => none }
def FnExactSameMacWrongFalsely : Prop := fnExactSameMacRow.holds Try.pinned (OpenSpec.ofChange fnExactSameMacWrong)

/-- 'laws.FnSip': WHATEVER THE INPUT: true; the input reads as it did. -/
def fnSipSpec : ChangeSpec := { name := "fnSip", fn := fun _ => fun
  | [d] => { results := [.lit (.bool true)], args := [d] }
  | _ => none }
def fnSipRow : OpenClaim := { program := "ytondhgmlemgoaaa", sum := "0432acf32a7c840d2e1a6d6376e7c5fd69e8737097d4e2b57c6ef1311f0fc9e0", func := "loop.example/g00504/laws.FnSip", spec := "fnSip", apart := false }
def FnSipSaid : Prop := fnSipRow.holds Try.pinned (OpenSpec.ofChange fnSipSpec)

/-- ITS FALSE NEIGHBOUR: 'it returns false'. Refute it at one input. -/
def fnSipWrong : ChangeSpec := { name := "fnSip", fn := fun _ => fun
  | [d] => { results := [.lit (.bool false)], args := [d] }
  | _ => none }
def FnSipWrongFalsely : Prop := fnSipRow.holds Try.pinned (OpenSpec.ofChange fnSipWrong)

/-- 'laws.FnExactTableMac': WHATEVER THE INPUT: true; the input reads as it did. -/
def fnExactTableMacSpec : ChangeSpec := { name := "fnExactTableMac", fn := fun _ => fun
  | [d] => { results := [.lit (.bool true)], args := [d] }
  | _ => none }
def fnExactTableMacRow : OpenClaim := { program := "ytondhgmlemgoaaa", sum := "0432acf32a7c840d2e1a6d6376e7c5fd69e8737097d4e2b57c6ef1311f0fc9e0", func := "loop.example/g00504/laws.FnExactTableMac", spec := "fnExactTableMac", apart := false }
def FnExactTableMacSaid : Prop := fnExactTableMacRow.holds Try.pinned (OpenSpec.ofChange fnExactTableMacSpec)

/-- ITS FALSE NEIGHBOUR: 'it returns false'. Refute it at one input. -/
def fnExactTableMacWrong : ChangeSpec := { name := "fnExactTableMac", fn := fun _ => fun
  | [d] => { results := [.lit (.bool false)], args := [d] }
  | _ => none }
def FnExactTableMacWrongFalsely : Prop := fnExactTableMacRow.holds Try.pinned (OpenSpec.ofChange fnExactTableMacWrong)

/-- 'laws.FnExactMacOk': WHATEVER THE INPUT: true; the input reads as it did. -/
def fnExactMacOkSpec : ChangeSpec := { name := "fnExactMacOk", fn := fun _ => fun
  | [d] => { results := [.lit (.bool true)], args := [d] }
  | _ => none }
def fnExactMacOkRow : OpenClaim := { program := "ytondhgmlemgoaaa", sum := "0432acf32a7c840d2e1a6d6376e7c5fd69e8737097d4e2b57c6ef1311f0fc9e0", func := "loop.example/g00504/laws.FnExactMacOk", spec := "fnExactMacOk", unfollowed := true, recurses := true, apart := false }
def FnExactMacOkSaid : Prop := fnExactMacOkRow.holds Try.pinned (OpenSpec.ofChange fnExactMacOkSpec)

/-- ITS FALSE NEIGHBOUR: 'it returns false'. Refute it at one input. -/
def fnExactMacOkWrong : ChangeSpec := { name := "fnExactMacOk", fn := fun _ => fun
  | [d] => { results := [.lit (.bool false)], args := [d] }
  | _ => none }
def FnExactMacOkWrongFalsely : Prop := fnExactMacOkRow.holds Try.pinned (OpenSpec.ofChange fnExactMacOkWrong)

/-- 'laws.FnSipText': WHATEVER THE INPUT: true; the input reads as it did. -/
def fnSipTextSpec : ChangeSpec := { name := "fnSipText", fn := fun _ => fun
  | [d] => { results := [.lit (.bool true)], args := [d] }
  | _ => none }
def fnSipTextRow : OpenClaim := { program := "ytondhgmlemgoaaa", sum := "0432acf32a7c840d2e1a6d6376e7c5fd69e8737097d4e2b57c6ef1311f0fc9e0", func := "loop.example/g00504/laws.FnSipText", spec := "fnSipText", apart := false }
def FnSipTextSaid : Prop := fnSipTextRow.holds Try.pinned (OpenSpec.ofChange fnSipTextSpec)

/-- ITS FALSE NEIGHBOUR: 'it returns false'. Refute it at one input. -/
def fnSipTextWrong : ChangeSpec := { name := "fnSipText", fn := fun _ => fun
  | [d] => { results := [.lit (.bool false)], args := [d] }
  | _ => none }
def FnSipTextWrongFalsely : Prop := fnSipTextRow.holds Try.pinned (OpenSpec.ofChange fnSipTextWrong)

/-- 'laws.FnExactMacOf': WHATEVER THE INPUT: true; the input reads as it did. -/
def fnExactMacOfSpec : ChangeSpec := { name := "fnExactMacOf", fn := fun _ => fun
  | [d1, d2] => { results := [.lit (.bool true)], args := [d1, d2] }
  | _ => none }
def fnExactMacOfRow : OpenClaim := { program := "ytondhgmlemgoaaa", sum := "0432acf32a7c840d2e1a6d6376e7c5fd69e8737097d4e2b57c6ef1311f0fc9e0", func := "loop.example/g00504/laws.FnExactMacOf", spec := "fnExactMacOf", apart := false }
def FnExactMacOfSaid : Prop := fnExactMacOfRow.holds Try.pinned (OpenSpec.ofChange fnExactMacOfSpec)

/-- ITS FALSE NEIGHBOUR: 'it returns false'. Refute it at one input. -/
def fnExactMacOfWrong : ChangeSpec := { name := "fnExactMacOf", fn := fun _ => fun
  | [d1, d2] => { results := [.lit (.bool false)], args := [d1, d2] }
  | _ => none }
def FnExactMacOfWrongFalsely : Prop := fnExactMacOfRow.holds Try.pinned (OpenSpec.ofChange fnExactMacOfWrong)

/-- 'laws.FnMac': WHATEVER THE INPUT: true; the input reads as it did. -/
def fnMacSpec : ChangeSpec := { name := "fnMac", fn := fun _ => fun
  | [d] => { results := [.lit (.bool true)], args := [d] }
  | _ => none }
def fnMacRow : OpenClaim := { program := "ytondhgmlemgoaaa", sum := "0432acf32a7c840d2e1a6d6376e7c5fd69e8737097d4e2b57c6ef1311f0fc9e0", func := "loop.example/g00504/laws.FnMac", spec := "fnMac", unfollowed := true, recurses := true, apart := false }
def FnMacSaid : Prop := fnMacRow.holds Try.pinned (OpenSpec.ofChange fnMacSpec)

/-- ITS FALSE NEIGHBOUR: 'it returns false'. Refute it at one input. -/
def fnMacWrong : ChangeSpec := { name := "fnMac", fn := fun _ => fun
  | [d] => { results := [.lit (.bool false)], args := [d] }
  | _ => none }
def FnMacWrongFalsely : Prop := fnMacRow.holds Try.pinned (OpenSpec.ofChange fnMacWrong)

/- THE SECOND FORM. 'bulk': how many values and letters a reading holds, each counted each time it is reached (what is shared counts as often as it is met; a slice's spare places count too). A statement '..UptoSaid' is the law's where the arguments, and the package variables that the reading takes, are together of bulk at most 1048576: NARROWER than '..Said'. Prove '..Said' where nothing that the law and all that it calls make is longer than what came in: it says more and counts as full. Else prove '..UptoSaid'. A law counts once. -/
mutual
def uptoBulk {H : Type} : DataW H → Nat
  | .lit (.string bytes) => bytes.length + 1
  | .lit _ => 1
  | .nil => 1
  | .ptr d => uptoBulk d + 1
  | .slice elems spare => uptoBulkAll elems + uptoBulkAll spare + 1
  | .agg parts => uptoBulkAll parts + 1
  | .iface _ d => uptoBulk d + 1
  | .map entries => uptoBulkEntries entries + 1
  | .held _ => 1
def uptoBulkAll {H : Type} : List (DataW H) → Nat
  | [] => 0
  | d :: r => uptoBulk d + uptoBulkAll r
def uptoBulkEntries {H : Type} : List (Lit × DataW H) → Nat
  | [] => 0
  | x :: r => uptoBulkEntry x + uptoBulkEntries r
def uptoBulkEntry {H : Type} : Lit × DataW H → Nat
  | (.string bytes, d) => bytes.length + uptoBulk d + 1
  | (_, d) => uptoBulk d + 1
 end
def uptoSmall : (H : Type) → List (DataW H) → Bool := fun _ ds => decide (uptoBulkAll ds ≤ 1048576)
def OpenSpec.upto (s : _root_.Go.ChangeSpec) : _root_.Go.OpenSpec := { _root_.Go.OpenSpec.ofChange s with cond := some uptoSmall }

/-- 'laws.FnExactSipEnd', WHERE WHAT IT READS IS OF BULK AT MOST 1048576: true; the input reads as it did. -/
def fnExactSipEndUptoRow : OpenClaim := { program := "ytondhgmlemgoaaa", sum := "0432acf32a7c840d2e1a6d6376e7c5fd69e8737097d4e2b57c6ef1311f0fc9e0", func := "loop.example/g00504/laws.FnExactSipEnd", spec := "fnExactSipEnd", apart := false, narrowed := true }
def FnExactSipEndUptoSaid : Prop := fnExactSipEndUptoRow.holds Try.pinned (OpenSpec.upto fnExactSipEndSpec)

/-- 'laws.FnExactSipRound', WHERE WHAT IT READS IS OF BULK AT MOST 1048576: true; the input reads as it did. -/
def fnExactSipRoundUptoRow : OpenClaim := { program := "ytondhgmlemgoaaa", sum := "0432acf32a7c840d2e1a6d6376e7c5fd69e8737097d4e2b57c6ef1311f0fc9e0", func := "loop.example/g00504/laws.FnExactSipRound", spec := "fnExactSipRound", apart := false, narrowed := true }
def FnExactSipRoundUptoSaid : Prop := fnExactSipRoundUptoRow.holds Try.pinned (OpenSpec.upto fnExactSipRoundSpec)

/-- 'laws.FnExactSipWord', WHERE WHAT IT READS IS OF BULK AT MOST 1048576: true; the input reads as it did. -/
def fnExactSipWordUptoRow : OpenClaim := { program := "ytondhgmlemgoaaa", sum := "0432acf32a7c840d2e1a6d6376e7c5fd69e8737097d4e2b57c6ef1311f0fc9e0", func := "loop.example/g00504/laws.FnExactSipWord", spec := "fnExactSipWord", apart := false, narrowed := true }
def FnExactSipWordUptoSaid : Prop := fnExactSipWordUptoRow.holds Try.pinned (OpenSpec.upto fnExactSipWordSpec)

/-- 'laws.FnExactKeyMac', WHERE WHAT IT READS IS OF BULK AT MOST 1048576: true; the input reads as it did. -/
def fnExactKeyMacUptoRow : OpenClaim := { program := "ytondhgmlemgoaaa", sum := "0432acf32a7c840d2e1a6d6376e7c5fd69e8737097d4e2b57c6ef1311f0fc9e0", func := "loop.example/g00504/laws.FnExactKeyMac", spec := "fnExactKeyMac", apart := false, narrowed := true }
def FnExactKeyMacUptoSaid : Prop := fnExactKeyMacUptoRow.holds Try.pinned (OpenSpec.upto fnExactKeyMacSpec)

/-- 'laws.FnExactSipHash', WHERE WHAT IT READS IS OF BULK AT MOST 1048576: true; the input reads as it did. -/
def fnExactSipHashUptoRow : OpenClaim := { program := "ytondhgmlemgoaaa", sum := "0432acf32a7c840d2e1a6d6376e7c5fd69e8737097d4e2b57c6ef1311f0fc9e0", func := "loop.example/g00504/laws.FnExactSipHash", spec := "fnExactSipHash", apart := false, narrowed := true }
def FnExactSipHashUptoSaid : Prop := fnExactSipHashUptoRow.holds Try.pinned (OpenSpec.upto fnExactSipHashSpec)

/-- 'laws.FnExactSameMac', WHERE WHAT IT READS IS OF BULK AT MOST 1048576: true; the input reads as it did. -/
def fnExactSameMacUptoRow : OpenClaim := { program := "ytondhgmlemgoaaa", sum := "0432acf32a7c840d2e1a6d6376e7c5fd69e8737097d4e2b57c6ef1311f0fc9e0", func := "loop.example/g00504/laws.FnExactSameMac", spec := "fnExactSameMac", apart := false, narrowed := true }
def FnExactSameMacUptoSaid : Prop := fnExactSameMacUptoRow.holds Try.pinned (OpenSpec.upto fnExactSameMacSpec)

/-- 'laws.FnSip', WHERE WHAT IT READS IS OF BULK AT MOST 1048576: true; the input reads as it did. -/
def fnSipUptoRow : OpenClaim := { program := "ytondhgmlemgoaaa", sum := "0432acf32a7c840d2e1a6d6376e7c5fd69e8737097d4e2b57c6ef1311f0fc9e0", func := "loop.example/g00504/laws.FnSip", spec := "fnSip", apart := false, narrowed := true }
def FnSipUptoSaid : Prop := fnSipUptoRow.holds Try.pinned (OpenSpec.upto fnSipSpec)

/-- 'laws.FnExactTableMac', WHERE WHAT IT READS IS OF BULK AT MOST 1048576: true; the input reads as it did. -/
def fnExactTableMacUptoRow : OpenClaim := { program := "ytondhgmlemgoaaa", sum := "0432acf32a7c840d2e1a6d6376e7c5fd69e8737097d4e2b57c6ef1311f0fc9e0", func := "loop.example/g00504/laws.FnExactTableMac", spec := "fnExactTableMac", apart := false, narrowed := true }
def FnExactTableMacUptoSaid : Prop := fnExactTableMacUptoRow.holds Try.pinned (OpenSpec.upto fnExactTableMacSpec)

/-- 'laws.FnExactMacOk', WHERE WHAT IT READS IS OF BULK AT MOST 1048576: true; the input reads as it did. -/
def fnExactMacOkUptoRow : OpenClaim := { program := "ytondhgmlemgoaaa", sum := "0432acf32a7c840d2e1a6d6376e7c5fd69e8737097d4e2b57c6ef1311f0fc9e0", func := "loop.example/g00504/laws.FnExactMacOk", spec := "fnExactMacOk", unfollowed := true, recurses := true, apart := false, narrowed := true }
def FnExactMacOkUptoSaid : Prop := fnExactMacOkUptoRow.holds Try.pinned (OpenSpec.upto fnExactMacOkSpec)

/-- 'laws.FnSipText', WHERE WHAT IT READS IS OF BULK AT MOST 1048576: true; the input reads as it did. -/
def fnSipTextUptoRow : OpenClaim := { program := "ytondhgmlemgoaaa", sum := "0432acf32a7c840d2e1a6d6376e7c5fd69e8737097d4e2b57c6ef1311f0fc9e0", func := "loop.example/g00504/laws.FnSipText", spec := "fnSipText", apart := false, narrowed := true }
def FnSipTextUptoSaid : Prop := fnSipTextUptoRow.holds Try.pinned (OpenSpec.upto fnSipTextSpec)

/-- 'laws.FnExactMacOf', WHERE WHAT IT READS IS OF BULK AT MOST 1048576: true; the input reads as it did. -/
def fnExactMacOfUptoRow : OpenClaim := { program := "ytondhgmlemgoaaa", sum := "0432acf32a7c840d2e1a6d6376e7c5fd69e8737097d4e2b57c6ef1311f0fc9e0", func := "loop.example/g00504/laws.FnExactMacOf", spec := "fnExactMacOf", apart := false, narrowed := true }
def FnExactMacOfUptoSaid : Prop := fnExactMacOfUptoRow.holds Try.pinned (OpenSpec.upto fnExactMacOfSpec)

/-- 'laws.FnMac', WHERE WHAT IT READS IS OF BULK AT MOST 1048576: true; the input reads as it did. -/
def fnMacUptoRow : OpenClaim := { program := "ytondhgmlemgoaaa", sum := "0432acf32a7c840d2e1a6d6376e7c5fd69e8737097d4e2b57c6ef1311f0fc9e0", func := "loop.example/g00504/laws.FnMac", spec := "fnMac", unfollowed := true, recurses := true, apart := false, narrowed := true }
def FnMacUptoSaid : Prop := fnMacUptoRow.holds Try.pinned (OpenSpec.upto fnMacSpec)

end Rows
end Go.Proofs.Ytondhgmlemgoaaa
