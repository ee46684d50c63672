/-
  No cell of these rows narrows 'for every input' (looked for: loops, veiled, ifaces, maps, wideKeys, modest, calm, conditions, laid).
  DERIVED. THE GIVEN ROWS OF THIS SEAT. 3 by the template 'for every input the law returns true; each argument reads behind the call as it read before'; 0 by the template 'total and deterministic' (their statements: YthaidogcgjnhcaaTotals.lean).
  GIVEN WITH THE SEED: the statements are not yours to turn. If you find one false, say at which input.
  Laid BY PROGRAM, IN A SANDBOX (cutbox-rows.mjs): the forced cells as the released guide's own fill.sh prints them over the translation 2eb70ee01252b6b3… (all of the seat's roots in one cut). By AI agents, Wed Nov 11 2026. No macro, syntax, notation, axiom, sorry.
-/
import Derived.Test.YthaidogcgjnhcaaChecked
import GoSem.Claim
import GoSem.ClaimJoined
import GoSem.ClaimMapViews
import Derived.JoinedTies
import Derived.KernelRfl
namespace Go.Proofs.Ythaidogcgjnhcaa
/- THE CELL 'sum', in the pinned program and in every row, IS THE sha256 OF THE DUMP (.gsa) THAT YthaidogcgjnhcaaProg.lean LOADS. Nothing in Lean hashes anything: it is a label: what it is worth is what the hold of that sum in a sandbox is worth. -/
noncomputable def Try.pinned : Pinned := { name := "ythaidogcgjnhcaa", sum := "2eb70ee01252b6b349fe60cb7c9764249263c3c672ba82a5ab1ad5701318af3e", checked := Try.checked }
namespace Rows
def none {H : Type} : Left H := { results := [], args := [] }

/-- 'commonholdkeep.IntentOrder': WHATEVER THE INPUT: true; the input reads as it did. -/
def intentOrderSpec : ChangeSpec := { name := "intentOrder", fn := fun _ => fun
  | [d1, d2] => { results := [.lit (.bool true)], args := [d1, d2] }
  | _ => none }
def intentOrderRow : OpenClaim := { program := "ythaidogcgjnhcaa", sum := "2eb70ee01252b6b349fe60cb7c9764249263c3c672ba82a5ab1ad5701318af3e", func := "commonhold/commonholdkeep.IntentOrder", spec := "intentOrder", inPlace := ["internal/bytealg.Compare"], apart := false }
def IntentOrderSaid : Prop := intentOrderRow.holds Try.pinned (OpenSpec.ofChange intentOrderSpec)

/-- ITS FALSE NEIGHBOUR: 'it returns false'. Refute it at one input. -/
def intentOrderWrong : ChangeSpec := { name := "intentOrder", fn := fun _ => fun
  | [d1, d2] => { results := [.lit (.bool false)], args := [d1, d2] }
  | _ => none }
def IntentOrderWrongFalsely : Prop := intentOrderRow.holds Try.pinned (OpenSpec.ofChange intentOrderWrong)

/-- 'commonholdkeep.IntentBack': WHATEVER THE INPUT: true; the input reads as it did. -/
def intentBackSpec : ChangeSpec := { name := "intentBack", fn := fun _ => fun
  | [d1, d2, d3] => { results := [.lit (.bool true)], args := [d1, d2, d3] }
  | _ => none }
def intentBackRow : OpenClaim := { program := "ythaidogcgjnhcaa", sum := "2eb70ee01252b6b349fe60cb7c9764249263c3c672ba82a5ab1ad5701318af3e", func := "commonhold/commonholdkeep.IntentBack", spec := "intentBack", inPlace := ["internal/bytealg.Compare"], unfollowed := true, recurses := true, apart := false }
def IntentBackSaid : Prop := intentBackRow.holds Try.pinned (OpenSpec.ofChange intentBackSpec)

/-- ITS FALSE NEIGHBOUR: 'it returns false'. Refute it at one input. -/
def intentBackWrong : ChangeSpec := { name := "intentBack", fn := fun _ => fun
  | [d1, d2, d3] => { results := [.lit (.bool false)], args := [d1, d2, d3] }
  | _ => none }
def IntentBackWrongFalsely : Prop := intentBackRow.holds Try.pinned (OpenSpec.ofChange intentBackWrong)

/-- 'commonholdkeep.IntentFixed': WHATEVER THE INPUT: true; the input reads as it did. -/
def intentFixedSpec : ChangeSpec := { name := "intentFixed", fn := fun _ => fun
  | [d] => { results := [.lit (.bool true)], args := [d] }
  | _ => none }
def intentFixedRow : OpenClaim := { program := "ythaidogcgjnhcaa", sum := "2eb70ee01252b6b349fe60cb7c9764249263c3c672ba82a5ab1ad5701318af3e", func := "commonhold/commonholdkeep.IntentFixed", spec := "intentFixed", inPlace := ["internal/bytealg.Compare"], unfollowed := true, recurses := true, apart := false }
def IntentFixedSaid : Prop := intentFixedRow.holds Try.pinned (OpenSpec.ofChange intentFixedSpec)

/-- ITS FALSE NEIGHBOUR: 'it returns false'. Refute it at one input. -/
def intentFixedWrong : ChangeSpec := { name := "intentFixed", fn := fun _ => fun
  | [d] => { results := [.lit (.bool false)], args := [d] }
  | _ => none }
def IntentFixedWrongFalsely : Prop := intentFixedRow.holds Try.pinned (OpenSpec.ofChange intentFixedWrong)

/- THE SECOND FORM. 'bulk': how many values and letters a reading holds, each counted each time it is reached (what is shared counts as often as it is met; a slice's spare places count too). A statement '..UptoSaid' is the law's where the arguments, and the package variables that the reading takes, are together of bulk at most 1048576: NARROWER than '..Said'. Prove '..Said' where nothing that the law and all that it calls make is longer than what came in: it says more and counts as full. Else prove '..UptoSaid'. A law counts once. -/
mutual
def uptoBulk {H : Type} : DataW H → Nat
  | .lit (.string bytes) => bytes.length + 1
  | .lit _ => 1
  | .nil => 1
  | .ptr d => uptoBulk d + 1
  | .slice elems spare => uptoBulkAll elems + uptoBulkAll spare + 1
  | .agg parts => uptoBulkAll parts + 1
  | .iface _ d => uptoBulk d + 1
  | .map entries => uptoBulkEntries entries + 1
  | .held _ => 1
def uptoBulkAll {H : Type} : List (DataW H) → Nat
  | [] => 0
  | d :: r => uptoBulk d + uptoBulkAll r
def uptoBulkEntries {H : Type} : List (Lit × DataW H) → Nat
  | [] => 0
  | x :: r => uptoBulkEntry x + uptoBulkEntries r
def uptoBulkEntry {H : Type} : Lit × DataW H → Nat
  | (.string bytes, d) => bytes.length + uptoBulk d + 1
  | (_, d) => uptoBulk d + 1
 end
def uptoSmall : (H : Type) → List (DataW H) → Bool := fun _ ds => decide (uptoBulkAll ds ≤ 1048576)
def OpenSpec.upto (s : _root_.Go.ChangeSpec) : _root_.Go.OpenSpec := { _root_.Go.OpenSpec.ofChange s with cond := some uptoSmall }

/-- 'commonholdkeep.IntentOrder', WHERE WHAT IT READS IS OF BULK AT MOST 1048576: true; the input reads as it did. -/
def intentOrderUptoRow : OpenClaim := { program := "ythaidogcgjnhcaa", sum := "2eb70ee01252b6b349fe60cb7c9764249263c3c672ba82a5ab1ad5701318af3e", func := "commonhold/commonholdkeep.IntentOrder", spec := "intentOrder", inPlace := ["internal/bytealg.Compare"], apart := false, narrowed := true }
def IntentOrderUptoSaid : Prop := intentOrderUptoRow.holds Try.pinned (OpenSpec.upto intentOrderSpec)

/-- 'commonholdkeep.IntentBack', WHERE WHAT IT READS IS OF BULK AT MOST 1048576: true; the input reads as it did. -/
def intentBackUptoRow : OpenClaim := { program := "ythaidogcgjnhcaa", sum := "2eb70ee01252b6b349fe60cb7c9764249263c3c672ba82a5ab1ad5701318af3e", func := "commonhold/commonholdkeep.IntentBack", spec := "intentBack", inPlace := ["internal/bytealg.Compare"], unfollowed := true, recurses := true, apart := false, narrowed := true }
def IntentBackUptoSaid : Prop := intentBackUptoRow.holds Try.pinned (OpenSpec.upto intentBackSpec)

/-- 'commonholdkeep.IntentFixed', WHERE WHAT IT READS IS OF BULK AT MOST 1048576: true; the input reads as it did. -/
def intentFixedUptoRow : OpenClaim := { program := "ythaidogcgjnhcaa", sum := "2eb70ee01252b6b349fe60cb7c9764249263c3c672ba82a5ab1ad5701318af3e", func := "commonhold/commonholdkeep.IntentFixed", spec := "intentFixed", inPlace := ["internal/bytealg.Compare"], unfollowed := true, recurses := true, apart := false, narrowed := true }
def IntentFixedUptoSaid : Prop := intentFixedUptoRow.holds Try.pinned (OpenSpec.upto intentFixedSpec)

end Rows
end Go.Proofs.Ythaidogcgjnhcaa
