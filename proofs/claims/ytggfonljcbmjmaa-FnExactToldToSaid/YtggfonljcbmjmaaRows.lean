/-
  No cell of these rows narrows 'for every input' (looked for: loops, veiled, ifaces, maps, wideKeys, modest, calm, conditions, laid).
  DERIVED. THE GIVEN ROWS OF THIS SEAT. 3 by the template 'for every input the law returns true; each argument reads behind the call as it read before'; 0 by the template 'total and deterministic' (their statements: YtggfonljcbmjmaaTotals.lean).
  GIVEN WITH THE SEED: the statements are not yours to turn. If you find one false, say at which input.
  Laid BY PROGRAM, IN A SANDBOX (cutbox-rows.mjs): the forced cells as the released guide's own fill.sh prints them over the translation 43229660b65d22a3… (all of the seat's roots in one cut). By AI agents, Wed Nov 11 2026. No macro, syntax, notation, axiom, sorry.
-/
import Derived.Test.YtggfonljcbmjmaaChecked
import GoSem.Claim
import GoSem.ClaimJoined
import GoSem.ClaimMapViews
import Derived.JoinedTies
import Derived.KernelRfl
namespace Go.Proofs.Ytggfonljcbmjmaa
/- THE CELL 'sum', in the pinned program and in every row, IS THE sha256 OF THE DUMP (.gsa) THAT YtggfonljcbmjmaaProg.lean LOADS. Nothing in Lean hashes anything: it is a label: what it is worth is what the hold of that sum in a sandbox is worth. -/
noncomputable def Try.pinned : Pinned := { name := "ytggfonljcbmjmaa", sum := "43229660b65d22a340077e622c8c24d34b7fa9848b0a6f4f4e1041ce3e82ecfb", checked := Try.checked }
namespace Rows
def none {H : Type} : Left H := { results := [], args := [] }

/-- 'laws.FnExactToldTo': WHATEVER THE INPUT: true; the input reads as it did. -/
def fnExactToldToSpec : ChangeSpec := { name := "fnExactToldTo", fn := fun _ => fun
  | [d1, d2] => { results := [.lit (.bool true)], args := [d1, d2] }
  | _ => none }
def fnExactToldToRow : OpenClaim := { program := "ytggfonljcbmjmaa", sum := "43229660b65d22a340077e622c8c24d34b7fa9848b0a6f4f4e1041ce3e82ecfb", func := "loop.example/g00969/laws.FnExactToldTo", spec := "fnExactToldTo", apart := false }
def FnExactToldToSaid : Prop := fnExactToldToRow.holds Try.pinned (OpenSpec.ofChange fnExactToldToSpec)

/-- ITS FALSE NEIGHBOUR: 'it returns false'. Refute it at one input. -/
def fnExactToldToWrong : ChangeSpec := { name := "fnExactToldTo", fn := fun _ => fun
  | [d1, d2] => { results := [.lit (.bool false)], args := [d1, d2] }
  | _ => none }
def FnExactToldToWrongFalsely : Prop := fnExactToldToRow.holds Try.pinned (OpenSpec.ofChange fnExactToldToWrong)

/-- 'laws.FnExactIdleIn': WHATEVER THE INPUT: true; the input reads as it did. -/
def fnExactIdleInSpec : ChangeSpec := { name := "fnExactIdleIn", fn := fun _ => fun
  | [d] => { results := [.lit (.bool true)], args := [d] }
  | _ => none }
def fnExactIdleInRow : OpenClaim := { program := "ytggfonljcbmjmaa", sum := "43229660b65d22a340077e622c8c24d34b7fa9848b0a6f4f4e1041ce3e82ecfb", func := "loop.example/g00969/laws.FnExactIdleIn", spec := "fnExactIdleIn", apart := false }
def FnExactIdleInSaid : Prop := fnExactIdleInRow.holds Try.pinned (OpenSpec.ofChange fnExactIdleInSpec)

/-- ITS FALSE NEIGHBOUR: 'it returns false'. Refute it at one input. -/
def fnExactIdleInWrong : ChangeSpec := { name := "fnExactIdleIn", fn := fun _ => fun
  | [d] => { results := [.lit (.bool false)], args := [d] }
  | _ => none }
def FnExactIdleInWrongFalsely : Prop := fnExactIdleInRow.holds Try.pinned (OpenSpec.ofChange fnExactIdleInWrong)

/-- 'laws.FnExactCellsOf': WHATEVER THE INPUT: true; the input reads as it did. -/
def fnExactCellsOfSpec : ChangeSpec := { name := "fnExactCellsOf", fn := fun _ => fun
  | [d1, d2] => { results := [.lit (.bool true)], args := [d1, d2] }
  | _ => none }
def fnExactCellsOfRow : OpenClaim := { program := "ytggfonljcbmjmaa", sum := "43229660b65d22a340077e622c8c24d34b7fa9848b0a6f4f4e1041ce3e82ecfb", func := "loop.example/g00969/laws.FnExactCellsOf", spec := "fnExactCellsOf", apart := false }
def FnExactCellsOfSaid : Prop := fnExactCellsOfRow.holds Try.pinned (OpenSpec.ofChange fnExactCellsOfSpec)

/-- ITS FALSE NEIGHBOUR: 'it returns false'. Refute it at one input. -/
def fnExactCellsOfWrong : ChangeSpec := { name := "fnExactCellsOf", fn := fun _ => fun
  | [d1, d2] => { results := [.lit (.bool false)], args := [d1, d2] }
  | _ => none }
def FnExactCellsOfWrongFalsely : Prop := fnExactCellsOfRow.holds Try.pinned (OpenSpec.ofChange fnExactCellsOfWrong)

/- THE SECOND FORM. 'bulk': how many values and letters a reading holds, each counted each time it is reached (what is shared counts as often as it is met; a slice's spare places count too). A statement '..UptoSaid' is the law's where the arguments, and the package variables that the reading takes, are together of bulk at most 1048576: NARROWER than '..Said'. Prove '..Said' where nothing that the law and all that it calls make is longer than what came in: it says more and counts as full. Else prove '..UptoSaid'. A law counts once. -/
mutual
def uptoBulk {H : Type} : DataW H → Nat
  | .lit (.string bytes) => bytes.length + 1
  | .lit _ => 1
  | .nil => 1
  | .ptr d => uptoBulk d + 1
  | .slice elems spare => uptoBulkAll elems + uptoBulkAll spare + 1
  | .agg parts => uptoBulkAll parts + 1
  | .iface _ d => uptoBulk d + 1
  | .map entries => uptoBulkEntries entries + 1
  | .held _ => 1
def uptoBulkAll {H : Type} : List (DataW H) → Nat
  | [] => 0
  | d :: r => uptoBulk d + uptoBulkAll r
def uptoBulkEntries {H : Type} : List (Lit × DataW H) → Nat
  | [] => 0
  | x :: r => uptoBulkEntry x + uptoBulkEntries r
def uptoBulkEntry {H : Type} : Lit × DataW H → Nat
  | (.string bytes, d) => bytes.length + uptoBulk d + 1
  | (_, d) => uptoBulk d + 1
 end
def uptoSmall : (H : Type) → List (DataW H) → Bool := fun _ ds => decide (uptoBulkAll ds ≤ 1048576)
def OpenSpec.upto (s : _root_.Go.ChangeSpec) : _root_.Go.OpenSpec := { _root_.Go.OpenSpec.ofChange s with cond := some uptoSmall }

/-- 'laws.FnExactToldTo', WHERE WHAT IT READS IS OF BULK AT MOST 1048576: true; the input reads as it did. -/
def fnExactToldToUptoRow : OpenClaim := { program := "ytggfonljcbmjmaa", sum := "43229660b65d22a340077e622c8c24d34b7fa9848b0a6f4f4e1041ce3e82ecfb", func := "loop.example/g00969/laws.FnExactToldTo", spec := "fnExactToldTo", apart := false, narrowed := true }
def FnExactToldToUptoSaid : Prop := fnExactToldToUptoRow.holds Try.pinned (OpenSpec.upto fnExactToldToSpec)

/-- 'laws.FnExactIdleIn', WHERE WHAT IT READS IS OF BULK AT MOST 1048576: true; the input reads as it did. -/
def fnExactIdleInUptoRow : OpenClaim := { program := "ytggfonljcbmjmaa", sum := "43229660b65d22a340077e622c8c24d34b7fa9848b0a6f4f4e1041ce3e82ecfb", func := "loop.example/g00969/laws.FnExactIdleIn", spec := "fnExactIdleIn", apart := false, narrowed := true }
def FnExactIdleInUptoSaid : Prop := fnExactIdleInUptoRow.holds Try.pinned (OpenSpec.upto fnExactIdleInSpec)

/-- 'laws.FnExactCellsOf', WHERE WHAT IT READS IS OF BULK AT MOST 1048576: true; the input reads as it did. -/
def fnExactCellsOfUptoRow : OpenClaim := { program := "ytggfonljcbmjmaa", sum := "43229660b65d22a340077e622c8c24d34b7fa9848b0a6f4f4e1041ce3e82ecfb", func := "loop.example/g00969/laws.FnExactCellsOf", spec := "fnExactCellsOf", apart := false, narrowed := true }
def FnExactCellsOfUptoSaid : Prop := fnExactCellsOfUptoRow.holds Try.pinned (OpenSpec.upto fnExactCellsOfSpec)

end Rows
end Go.Proofs.Ytggfonljcbmjmaa
