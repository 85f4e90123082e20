/-
  No cell of these rows narrows 'for every input' (looked for: loops, veiled, ifaces, maps, wideKeys, modest, calm, conditions, laid).
  DERIVED. THE GIVEN ROWS OF THIS SEAT. 11 by the template 'for every input the law returns true; each argument reads behind the call as it read before'; 0 by the template 'total and deterministic' (their statements: YteaniiponikpjaaTotals.lean).
  GIVEN WITH THE SEED: the statements are not yours to turn. If you find one false, say at which input.
  Laid BY PROGRAM, IN A SANDBOX (cutbox-rows.mjs): the forced cells as the released guide's own fill.sh prints them over the translation 6c6ff2f80b30b3fe… (all of the seat's roots in one cut). By AI agents, Wed Nov 11 2026. No macro, syntax, notation, axiom, sorry.
-/
import Derived.Test.YteaniiponikpjaaChecked
import GoSem.Claim
import GoSem.ClaimJoined
import GoSem.ClaimMapViews
import Derived.JoinedTies
import Derived.KernelRfl
namespace Go.Proofs.Yteaniiponikpjaa
/- THE CELL 'sum', in the pinned program and in every row, IS THE sha256 OF THE DUMP (.gsa) THAT YteaniiponikpjaaProg.lean LOADS. Nothing in Lean hashes anything: it is a label: what it is worth is what the hold of that sum in a sandbox is worth. -/
noncomputable def Try.pinned : Pinned := { name := "yteaniiponikpjaa", sum := "6c6ff2f80b30b3fed8e09b04d78655c85323b87bf7a9b3b42268836687104fc1", checked := Try.checked }
namespace Rows
def none {H : Type} : Left H := { results := [], args := [] }

/-- 'laws.FnExactHwOf': WHATEVER THE INPUT: true; the input reads as it did. -/
def fnExactHwOfSpec : ChangeSpec := { name := "fnExactHwOf", fn := fun _ => fun
  | [d1, d2] => { results := [.lit (.bool true)], args := [d1, d2] }
  | _ => none }
def fnExactHwOfRow : OpenClaim := { program := "yteaniiponikpjaa", sum := "6c6ff2f80b30b3fed8e09b04d78655c85323b87bf7a9b3b42268836687104fc1", func := "loop.example/g00504/laws.FnExactHwOf", spec := "fnExactHwOf", apart := false }
def FnExactHwOfSaid : Prop := fnExactHwOfRow.holds Try.pinned (OpenSpec.ofChange fnExactHwOfSpec)

/-- ITS FALSE NEIGHBOUR: 'it returns false'. Refute it at one input. -/
def fnExactHwOfWrong : ChangeSpec := { name := "fnExactHwOf", fn := fun _ => fun
  | [d1, d2] => { results := [.lit (.bool false)], args := [d1, d2] }
  | _ => none }
def FnExactHwOfWrongFalsely : Prop := fnExactHwOfRow.holds Try.pinned (OpenSpec.ofChange fnExactHwOfWrong)

/-- 'laws.FnExactCacheOk': WHATEVER THE INPUT: true; the input reads as it did. -/
def fnExactCacheOkSpec : ChangeSpec := { name := "fnExactCacheOk", fn := fun _ => fun
  | [d] => { results := [.lit (.bool true)], args := [d] }
  | _ => none }
def fnExactCacheOkRow : OpenClaim := { program := "yteaniiponikpjaa", sum := "6c6ff2f80b30b3fed8e09b04d78655c85323b87bf7a9b3b42268836687104fc1", func := "loop.example/g00504/laws.FnExactCacheOk", spec := "fnExactCacheOk", apart := false }
def FnExactCacheOkSaid : Prop := fnExactCacheOkRow.holds Try.pinned (OpenSpec.ofChange fnExactCacheOkSpec)

/-- ITS FALSE NEIGHBOUR: 'it returns false'. Refute it at one input. -/
def fnExactCacheOkWrong : ChangeSpec := { name := "fnExactCacheOk", fn := fun _ => fun
  | [d] => { results := [.lit (.bool false)], args := [d] }
  | _ => none }
def FnExactCacheOkWrongFalsely : Prop := fnExactCacheOkRow.holds Try.pinned (OpenSpec.ofChange fnExactCacheOkWrong)

/-- 'laws.FnExactSameLink': WHATEVER THE INPUT: true; the input reads as it did. -/
def fnExactSameLinkSpec : ChangeSpec := { name := "fnExactSameLink", fn := fun _ => fun
  | [d1, d2] => { results := [.lit (.bool true)], args := [d1, d2] }
  | _ => none }
def fnExactSameLinkRow : OpenClaim := { program := "yteaniiponikpjaa", sum := "6c6ff2f80b30b3fed8e09b04d78655c85323b87bf7a9b3b42268836687104fc1", func := "loop.example/g00504/laws.FnExactSameLink", spec := "fnExactSameLink", apart := false }
def FnExactSameLinkSaid : Prop := fnExactSameLinkRow.holds Try.pinned (OpenSpec.ofChange fnExactSameLinkSpec)

/-- ITS FALSE NEIGHBOUR: 'it returns false'. Refute it at one input. -/
def fnExactSameLinkWrong : ChangeSpec := { name := "fnExactSameLink", fn := fun _ => fun
  | [d1, d2] => { results := [.lit (.bool false)], args := [d1, d2] }
  | _ => none }
def FnExactSameLinkWrongFalsely : Prop := fnExactSameLinkRow.holds Try.pinned (OpenSpec.ofChange fnExactSameLinkWrong)

/-- 'laws.FnExactLinkOk': WHATEVER THE INPUT: true; the input reads as it did. -/
def fnExactLinkOkSpec : ChangeSpec := { name := "fnExactLinkOk", fn := fun _ => fun
  | [d] => { results := [.lit (.bool true)], args := [d] }
  | _ => none }
def fnExactLinkOkRow : OpenClaim := { program := "yteaniiponikpjaa", sum := "6c6ff2f80b30b3fed8e09b04d78655c85323b87bf7a9b3b42268836687104fc1", func := "loop.example/g00504/laws.FnExactLinkOk", spec := "fnExactLinkOk", apart := false }
def FnExactLinkOkSaid : Prop := fnExactLinkOkRow.holds Try.pinned (OpenSpec.ofChange fnExactLinkOkSpec)

/-- ITS FALSE NEIGHBOUR: 'it returns false'. Refute it at one input. -/
def fnExactLinkOkWrong : ChangeSpec := { name := "fnExactLinkOk", fn := fun _ => fun
  | [d] => { results := [.lit (.bool false)], args := [d] }
  | _ => none }
def FnExactLinkOkWrongFalsely : Prop := fnExactLinkOkRow.holds Try.pinned (OpenSpec.ofChange fnExactLinkOkWrong)

/-- 'laws.FnAged': WHATEVER THE INPUT: true; the input reads as it did. -/
def fnAgedSpec : ChangeSpec := { name := "fnAged", fn := fun _ => fun
  | [d] => { results := [.lit (.bool true)], args := [d] }
  | _ => none }
def fnAgedRow : OpenClaim := { program := "yteaniiponikpjaa", sum := "6c6ff2f80b30b3fed8e09b04d78655c85323b87bf7a9b3b42268836687104fc1", func := "loop.example/g00504/laws.FnAged", spec := "fnAged", apart := false }
def FnAgedSaid : Prop := fnAgedRow.holds Try.pinned (OpenSpec.ofChange fnAgedSpec)

/-- ITS FALSE NEIGHBOUR: 'it returns false'. Refute it at one input. -/
def fnAgedWrong : ChangeSpec := { name := "fnAged", fn := fun _ => fun
  | [d] => { results := [.lit (.bool false)], args := [d] }
  | _ => none }
def FnAgedWrongFalsely : Prop := fnAgedRow.holds Try.pinned (OpenSpec.ofChange fnAgedWrong)

/-- 'laws.FnExactLearned': WHATEVER THE INPUT: true; the input reads as it did. -/
def fnExactLearnedSpec : ChangeSpec := { name := "fnExactLearned", fn := fun _ => fun
  | [d1, d2, d3] => { results := [.lit (.bool true)], args := [d1, d2, d3] }
  | _ => none }
def fnExactLearnedRow : OpenClaim := { program := "yteaniiponikpjaa", sum := "6c6ff2f80b30b3fed8e09b04d78655c85323b87bf7a9b3b42268836687104fc1", func := "loop.example/g00504/laws.FnExactLearned", spec := "fnExactLearned", apart := false }
def FnExactLearnedSaid : Prop := fnExactLearnedRow.holds Try.pinned (OpenSpec.ofChange fnExactLearnedSpec)

/-- ITS FALSE NEIGHBOUR: 'it returns false'. Refute it at one input. -/
def fnExactLearnedWrong : ChangeSpec := { name := "fnExactLearned", fn := fun _ => fun
  | [d1, d2, d3] => { results := [.lit (.bool false)], args := [d1, d2, d3] }
  | _ => none }
def FnExactLearnedWrongFalsely : Prop := fnExactLearnedRow.holds Try.pinned (OpenSpec.ofChange fnExactLearnedWrong)

/-- 'laws.FnCache': WHATEVER THE INPUT: true; the input reads as it did. -/
def fnCacheSpec : ChangeSpec := { name := "fnCache", fn := fun _ => fun
  | [d] => { results := [.lit (.bool true)], args := [d] }
  | _ => none }
def fnCacheRow : OpenClaim := { program := "yteaniiponikpjaa", sum := "6c6ff2f80b30b3fed8e09b04d78655c85323b87bf7a9b3b42268836687104fc1", func := "loop.example/g00504/laws.FnCache", spec := "fnCache", apart := false }
def FnCacheSaid : Prop := fnCacheRow.holds Try.pinned (OpenSpec.ofChange fnCacheSpec)

/-- ITS FALSE NEIGHBOUR: 'it returns false'. Refute it at one input. -/
def fnCacheWrong : ChangeSpec := { name := "fnCache", fn := fun _ => fun
  | [d] => { results := [.lit (.bool false)], args := [d] }
  | _ => none }
def FnCacheWrongFalsely : Prop := fnCacheRow.holds Try.pinned (OpenSpec.ofChange fnCacheWrong)

/-- 'laws.FnExactLinkOut': WHATEVER THE INPUT: true; the input reads as it did. -/
def fnExactLinkOutSpec : ChangeSpec := { name := "fnExactLinkOut", fn := fun _ => fun
  | [d1, d2, d3] => { results := [.lit (.bool true)], args := [d1, d2, d3] }
  | _ => none }
def fnExactLinkOutRow : OpenClaim := { program := "yteaniiponikpjaa", sum := "6c6ff2f80b30b3fed8e09b04d78655c85323b87bf7a9b3b42268836687104fc1", func := "loop.example/g00504/laws.FnExactLinkOut", spec := "fnExactLinkOut", apart := false }
def FnExactLinkOutSaid : Prop := fnExactLinkOutRow.holds Try.pinned (OpenSpec.ofChange fnExactLinkOutSpec)

/-- ITS FALSE NEIGHBOUR: 'it returns false'. Refute it at one input. -/
def fnExactLinkOutWrong : ChangeSpec := { name := "fnExactLinkOut", fn := fun _ => fun
  | [d1, d2, d3] => { results := [.lit (.bool false)], args := [d1, d2, d3] }
  | _ => none }
def FnExactLinkOutWrongFalsely : Prop := fnExactLinkOutRow.holds Try.pinned (OpenSpec.ofChange fnExactLinkOutWrong)

/-- 'laws.FnLinkBack': WHATEVER THE INPUT: true; the input reads as it did. -/
def fnLinkBackSpec : ChangeSpec := { name := "fnLinkBack", fn := fun _ => fun
  | [d] => { results := [.lit (.bool true)], args := [d] }
  | _ => none }
def fnLinkBackRow : OpenClaim := { program := "yteaniiponikpjaa", sum := "6c6ff2f80b30b3fed8e09b04d78655c85323b87bf7a9b3b42268836687104fc1", func := "loop.example/g00504/laws.FnLinkBack", spec := "fnLinkBack", apart := false }
def FnLinkBackSaid : Prop := fnLinkBackRow.holds Try.pinned (OpenSpec.ofChange fnLinkBackSpec)

/-- ITS FALSE NEIGHBOUR: 'it returns false'. Refute it at one input. -/
def fnLinkBackWrong : ChangeSpec := { name := "fnLinkBack", fn := fun _ => fun
  | [d] => { results := [.lit (.bool false)], args := [d] }
  | _ => none }
def FnLinkBackWrongFalsely : Prop := fnLinkBackRow.holds Try.pinned (OpenSpec.ofChange fnLinkBackWrong)

/-- 'laws.FnExactLinkIn': WHATEVER THE INPUT: true; the input reads as it did. -/
def fnExactLinkInSpec : ChangeSpec := { name := "fnExactLinkIn", fn := fun _ => fun
  | [d1, d2] => { results := [.lit (.bool true)], args := [d1, d2] }
  | _ => none }
def fnExactLinkInRow : OpenClaim := { program := "yteaniiponikpjaa", sum := "6c6ff2f80b30b3fed8e09b04d78655c85323b87bf7a9b3b42268836687104fc1", func := "loop.example/g00504/laws.FnExactLinkIn", spec := "fnExactLinkIn", apart := false }
def FnExactLinkInSaid : Prop := fnExactLinkInRow.holds Try.pinned (OpenSpec.ofChange fnExactLinkInSpec)

/-- ITS FALSE NEIGHBOUR: 'it returns false'. Refute it at one input. -/
def fnExactLinkInWrong : ChangeSpec := { name := "fnExactLinkIn", fn := fun _ => fun
  | [d1, d2] => { results := [.lit (.bool false)], args := [d1, d2] }
  | _ => none }
def FnExactLinkInWrongFalsely : Prop := fnExactLinkInRow.holds Try.pinned (OpenSpec.ofChange fnExactLinkInWrong)

/-- 'laws.FnLink': WHATEVER THE INPUT: true; the input reads as it did. -/
def fnLinkSpec : ChangeSpec := { name := "fnLink", fn := fun _ => fun
  | [d] => { results := [.lit (.bool true)], args := [d] }
  | _ => none }
def fnLinkRow : OpenClaim := { program := "yteaniiponikpjaa", sum := "6c6ff2f80b30b3fed8e09b04d78655c85323b87bf7a9b3b42268836687104fc1", func := "loop.example/g00504/laws.FnLink", spec := "fnLink", apart := false }
def FnLinkSaid : Prop := fnLinkRow.holds Try.pinned (OpenSpec.ofChange fnLinkSpec)

/-- ITS FALSE NEIGHBOUR: 'it returns false'. Refute it at one input. -/
def fnLinkWrong : ChangeSpec := { name := "fnLink", fn := fun _ => fun
  | [d] => { results := [.lit (.bool false)], args := [d] }
  | _ => none }
def FnLinkWrongFalsely : Prop := fnLinkRow.holds Try.pinned (OpenSpec.ofChange fnLinkWrong)

/- THE SECOND FORM. 'bulk': how many values and letters a reading holds, each counted each time it is reached (what is shared counts as often as it is met; a slice's spare places count too). A statement '..UptoSaid' is the law's where the arguments, and the package variables that the reading takes, are together of bulk at most 1048576: NARROWER than '..Said'. Prove '..Said' where nothing that the law and all that it calls make is longer than what came in: it says more and counts as full. Else prove '..UptoSaid'. A law counts once. -/
mutual
def uptoBulk {H : Type} : DataW H → Nat
  | .lit (.string bytes) => bytes.length + 1
  | .lit _ => 1
  | .nil => 1
  | .ptr d => uptoBulk d + 1
  | .slice elems spare => uptoBulkAll elems + uptoBulkAll spare + 1
  | .agg parts => uptoBulkAll parts + 1
  | .iface _ d => uptoBulk d + 1
  | .map entries => uptoBulkEntries entries + 1
  | .held _ => 1
def uptoBulkAll {H : Type} : List (DataW H) → Nat
  | [] => 0
  | d :: r => uptoBulk d + uptoBulkAll r
def uptoBulkEntries {H : Type} : List (Lit × DataW H) → Nat
  | [] => 0
  | x :: r => uptoBulkEntry x + uptoBulkEntries r
def uptoBulkEntry {H : Type} : Lit × DataW H → Nat
  | (.string bytes, d) => bytes.length + uptoBulk d + 1
  | (_, d) => uptoBulk d + 1
 end
def uptoSmall : (H : Type) → List (DataW H) → Bool := fun _ ds => decide (uptoBulkAll ds ≤ 1048576)
def OpenSpec.upto (s : _root_.Go.ChangeSpec) : _root_.Go.OpenSpec := { _root_.Go.OpenSpec.ofChange s with cond := some uptoSmall }

/-- 'laws.FnExactHwOf', WHERE WHAT IT READS IS OF BULK AT MOST 1048576: true; the input reads as it did. -/
def fnExactHwOfUptoRow : OpenClaim := { program := "yteaniiponikpjaa", sum := "6c6ff2f80b30b3fed8e09b04d78655c85323b87bf7a9b3b42268836687104fc1", func := "loop.example/g00504/laws.FnExactHwOf", spec := "fnExactHwOf", apart := false, narrowed := true }
def FnExactHwOfUptoSaid : Prop := fnExactHwOfUptoRow.holds Try.pinned (OpenSpec.upto fnExactHwOfSpec)

/-- 'laws.FnExactCacheOk', WHERE WHAT IT READS IS OF BULK AT MOST 1048576: true; the input reads as it did. -/
def fnExactCacheOkUptoRow : OpenClaim := { program := "yteaniiponikpjaa", sum := "6c6ff2f80b30b3fed8e09b04d78655c85323b87bf7a9b3b42268836687104fc1", func := "loop.example/g00504/laws.FnExactCacheOk", spec := "fnExactCacheOk", apart := false, narrowed := true }
def FnExactCacheOkUptoSaid : Prop := fnExactCacheOkUptoRow.holds Try.pinned (OpenSpec.upto fnExactCacheOkSpec)

/-- 'laws.FnExactSameLink', WHERE WHAT IT READS IS OF BULK AT MOST 1048576: true; the input reads as it did. -/
def fnExactSameLinkUptoRow : OpenClaim := { program := "yteaniiponikpjaa", sum := "6c6ff2f80b30b3fed8e09b04d78655c85323b87bf7a9b3b42268836687104fc1", func := "loop.example/g00504/laws.FnExactSameLink", spec := "fnExactSameLink", apart := false, narrowed := true }
def FnExactSameLinkUptoSaid : Prop := fnExactSameLinkUptoRow.holds Try.pinned (OpenSpec.upto fnExactSameLinkSpec)

/-- 'laws.FnExactLinkOk', WHERE WHAT IT READS IS OF BULK AT MOST 1048576: true; the input reads as it did. -/
def fnExactLinkOkUptoRow : OpenClaim := { program := "yteaniiponikpjaa", sum := "6c6ff2f80b30b3fed8e09b04d78655c85323b87bf7a9b3b42268836687104fc1", func := "loop.example/g00504/laws.FnExactLinkOk", spec := "fnExactLinkOk", apart := false, narrowed := true }
def FnExactLinkOkUptoSaid : Prop := fnExactLinkOkUptoRow.holds Try.pinned (OpenSpec.upto fnExactLinkOkSpec)

/-- 'laws.FnAged', WHERE WHAT IT READS IS OF BULK AT MOST 1048576: true; the input reads as it did. -/
def fnAgedUptoRow : OpenClaim := { program := "yteaniiponikpjaa", sum := "6c6ff2f80b30b3fed8e09b04d78655c85323b87bf7a9b3b42268836687104fc1", func := "loop.example/g00504/laws.FnAged", spec := "fnAged", apart := false, narrowed := true }
def FnAgedUptoSaid : Prop := fnAgedUptoRow.holds Try.pinned (OpenSpec.upto fnAgedSpec)

/-- 'laws.FnExactLearned', WHERE WHAT IT READS IS OF BULK AT MOST 1048576: true; the input reads as it did. -/
def fnExactLearnedUptoRow : OpenClaim := { program := "yteaniiponikpjaa", sum := "6c6ff2f80b30b3fed8e09b04d78655c85323b87bf7a9b3b42268836687104fc1", func := "loop.example/g00504/laws.FnExactLearned", spec := "fnExactLearned", apart := false, narrowed := true }
def FnExactLearnedUptoSaid : Prop := fnExactLearnedUptoRow.holds Try.pinned (OpenSpec.upto fnExactLearnedSpec)

/-- 'laws.FnCache', WHERE WHAT IT READS IS OF BULK AT MOST 1048576: true; the input reads as it did. -/
def fnCacheUptoRow : OpenClaim := { program := "yteaniiponikpjaa", sum := "6c6ff2f80b30b3fed8e09b04d78655c85323b87bf7a9b3b42268836687104fc1", func := "loop.example/g00504/laws.FnCache", spec := "fnCache", apart := false, narrowed := true }
def FnCacheUptoSaid : Prop := fnCacheUptoRow.holds Try.pinned (OpenSpec.upto fnCacheSpec)

/-- 'laws.FnExactLinkOut', WHERE WHAT IT READS IS OF BULK AT MOST 1048576: true; the input reads as it did. -/
def fnExactLinkOutUptoRow : OpenClaim := { program := "yteaniiponikpjaa", sum := "6c6ff2f80b30b3fed8e09b04d78655c85323b87bf7a9b3b42268836687104fc1", func := "loop.example/g00504/laws.FnExactLinkOut", spec := "fnExactLinkOut", apart := false, narrowed := true }
def FnExactLinkOutUptoSaid : Prop := fnExactLinkOutUptoRow.holds Try.pinned (OpenSpec.upto fnExactLinkOutSpec)

/-- 'laws.FnLinkBack', WHERE WHAT IT READS IS OF BULK AT MOST 1048576: true; the input reads as it did. -/
def fnLinkBackUptoRow : OpenClaim := { program := "yteaniiponikpjaa", sum := "6c6ff2f80b30b3fed8e09b04d78655c85323b87bf7a9b3b42268836687104fc1", func := "loop.example/g00504/laws.FnLinkBack", spec := "fnLinkBack", apart := false, narrowed := true }
def FnLinkBackUptoSaid : Prop := fnLinkBackUptoRow.holds Try.pinned (OpenSpec.upto fnLinkBackSpec)

/-- 'laws.FnExactLinkIn', WHERE WHAT IT READS IS OF BULK AT MOST 1048576: true; the input reads as it did. -/
def fnExactLinkInUptoRow : OpenClaim := { program := "yteaniiponikpjaa", sum := "6c6ff2f80b30b3fed8e09b04d78655c85323b87bf7a9b3b42268836687104fc1", func := "loop.example/g00504/laws.FnExactLinkIn", spec := "fnExactLinkIn", apart := false, narrowed := true }
def FnExactLinkInUptoSaid : Prop := fnExactLinkInUptoRow.holds Try.pinned (OpenSpec.upto fnExactLinkInSpec)

/-- 'laws.FnLink', WHERE WHAT IT READS IS OF BULK AT MOST 1048576: true; the input reads as it did. -/
def fnLinkUptoRow : OpenClaim := { program := "yteaniiponikpjaa", sum := "6c6ff2f80b30b3fed8e09b04d78655c85323b87bf7a9b3b42268836687104fc1", func := "loop.example/g00504/laws.FnLink", spec := "fnLink", apart := false, narrowed := true }
def FnLinkUptoSaid : Prop := fnLinkUptoRow.holds Try.pinned (OpenSpec.upto fnLinkSpec)

end Rows
end Go.Proofs.Yteaniiponikpjaa
