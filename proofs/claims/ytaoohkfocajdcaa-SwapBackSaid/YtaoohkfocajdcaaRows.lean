/-
  No cell of these rows narrows 'for every input' (looked for: loops, veiled, ifaces, maps, wideKeys, modest, calm, conditions, laid).
  DERIVED. THE GIVEN ROWS OF THIS SEAT. 4 by the template 'for every input the law returns true; each argument reads behind the call as it read before'; 0 by the template 'total and deterministic' (their statements: YtaoohkfocajdcaaTotals.lean).
  GIVEN WITH THE SEED: the statements are not yours to turn. If you find one false, say at which input.
  Laid BY PROGRAM, IN A SANDBOX (cutbox-rows.mjs): the forced cells as the released guide's own fill.sh prints them over the translation e4d732a96e404288… (all of the seat's roots in one cut). By AI agents, Wed Nov 11 2026. No macro, syntax, notation, axiom, sorry.
-/
import Derived.Test.YtaoohkfocajdcaaChecked
import GoSem.Claim
import GoSem.ClaimJoined
import GoSem.ClaimMapViews
import Derived.JoinedTies
import Derived.KernelRfl
namespace Go.Proofs.Ytaoohkfocajdcaa
/- THE CELL 'sum', in the pinned program and in every row, IS THE sha256 OF THE DUMP (.gsa) THAT YtaoohkfocajdcaaProg.lean LOADS. Nothing in Lean hashes anything: it is a label: what it is worth is what the hold of that sum in a sandbox is worth. -/
noncomputable def Try.pinned : Pinned := { name := "ytaoohkfocajdcaa", sum := "e4d732a96e404288ea9e0123cbcd1cc1e07a8c5411c51bbe40bf79050ff3d43a", checked := Try.checked }
namespace Rows
def none {H : Type} : Left H := { results := [], args := [] }

/-- 'commonholdkeep.PlaceNext': WHATEVER THE INPUT: true; the input reads as it did. -/
def placeNextSpec : ChangeSpec := { name := "placeNext", fn := fun _ => fun
  | [d1, d2, d3] => { results := [.lit (.bool true)], args := [d1, d2, d3] }
  | _ => none }
def placeNextRow : OpenClaim := { program := "ytaoohkfocajdcaa", sum := "e4d732a96e404288ea9e0123cbcd1cc1e07a8c5411c51bbe40bf79050ff3d43a", func := "commonhold/commonholdkeep.PlaceNext", spec := "placeNext", unfollowed := true, recurses := true, apart := false }
def PlaceNextSaid : Prop := placeNextRow.holds Try.pinned (OpenSpec.ofChange placeNextSpec)

/-- ITS FALSE NEIGHBOUR: 'it returns false'. Refute it at one input. -/
def placeNextWrong : ChangeSpec := { name := "placeNext", fn := fun _ => fun
  | [d1, d2, d3] => { results := [.lit (.bool false)], args := [d1, d2, d3] }
  | _ => none }
def PlaceNextWrongFalsely : Prop := placeNextRow.holds Try.pinned (OpenSpec.ofChange placeNextWrong)

/-- 'commonholdkeep.PlaceBack': WHATEVER THE INPUT: true; the input reads as it did. -/
def placeBackSpec : ChangeSpec := { name := "placeBack", fn := fun _ => fun
  | [d1, d2, d3, d4, d5] => { results := [.lit (.bool true)], args := [d1, d2, d3, d4, d5] }
  | _ => none }
def placeBackRow : OpenClaim := { program := "ytaoohkfocajdcaa", sum := "e4d732a96e404288ea9e0123cbcd1cc1e07a8c5411c51bbe40bf79050ff3d43a", func := "commonhold/commonholdkeep.PlaceBack", spec := "placeBack", unfollowed := true, recurses := true, apart := false }
def PlaceBackSaid : Prop := placeBackRow.holds Try.pinned (OpenSpec.ofChange placeBackSpec)

/-- ITS FALSE NEIGHBOUR: 'it returns false'. Refute it at one input. -/
def placeBackWrong : ChangeSpec := { name := "placeBack", fn := fun _ => fun
  | [d1, d2, d3, d4, d5] => { results := [.lit (.bool false)], args := [d1, d2, d3, d4, d5] }
  | _ => none }
def PlaceBackWrongFalsely : Prop := placeBackRow.holds Try.pinned (OpenSpec.ofChange placeBackWrong)

/-- 'commonholdkeep.TailRight': WHATEVER THE INPUT: true; the input reads as it did. -/
def tailRightSpec : ChangeSpec := { name := "tailRight", fn := fun _ => fun
  | [d1, d2, d3, d4] => { results := [.lit (.bool true)], args := [d1, d2, d3, d4] }
  | _ => none }
def tailRightRow : OpenClaim := { program := "ytaoohkfocajdcaa", sum := "e4d732a96e404288ea9e0123cbcd1cc1e07a8c5411c51bbe40bf79050ff3d43a", func := "commonhold/commonholdkeep.TailRight", spec := "tailRight", unfollowed := true, recurses := true, apart := false }
def TailRightSaid : Prop := tailRightRow.holds Try.pinned (OpenSpec.ofChange tailRightSpec)

/-- ITS FALSE NEIGHBOUR: 'it returns false'. Refute it at one input. -/
def tailRightWrong : ChangeSpec := { name := "tailRight", fn := fun _ => fun
  | [d1, d2, d3, d4] => { results := [.lit (.bool false)], args := [d1, d2, d3, d4] }
  | _ => none }
def TailRightWrongFalsely : Prop := tailRightRow.holds Try.pinned (OpenSpec.ofChange tailRightWrong)

/-- 'commonholdkeep.SwapBack': WHATEVER THE INPUT: true; the input reads as it did. -/
def swapBackSpec : ChangeSpec := { name := "swapBack", fn := fun _ => fun
  | [d1, d2, d3, d4, d5] => { results := [.lit (.bool true)], args := [d1, d2, d3, d4, d5] }
  | _ => none }
def swapBackRow : OpenClaim := { program := "ytaoohkfocajdcaa", sum := "e4d732a96e404288ea9e0123cbcd1cc1e07a8c5411c51bbe40bf79050ff3d43a", func := "commonhold/commonholdkeep.SwapBack", spec := "swapBack", unfollowed := true, recurses := true, apart := false }
def SwapBackSaid : Prop := swapBackRow.holds Try.pinned (OpenSpec.ofChange swapBackSpec)

/-- ITS FALSE NEIGHBOUR: 'it returns false'. Refute it at one input. -/
def swapBackWrong : ChangeSpec := { name := "swapBack", fn := fun _ => fun
  | [d1, d2, d3, d4, d5] => { results := [.lit (.bool false)], args := [d1, d2, d3, d4, d5] }
  | _ => none }
def SwapBackWrongFalsely : Prop := swapBackRow.holds Try.pinned (OpenSpec.ofChange swapBackWrong)

/- THE SECOND FORM. 'bulk': how many values and letters a reading holds, each counted each time it is reached (what is shared counts as often as it is met; a slice's spare places count too). A statement '..UptoSaid' is the law's where the arguments, and the package variables that the reading takes, are together of bulk at most 1048576: NARROWER than '..Said'. Prove '..Said' where nothing that the law and all that it calls make is longer than what came in: it says more and counts as full. Else prove '..UptoSaid'. A law counts once. -/
mutual
def uptoBulk {H : Type} : DataW H → Nat
  | .lit (.string bytes) => bytes.length + 1
  | .lit _ => 1
  | .nil => 1
  | .ptr d => uptoBulk d + 1
  | .slice elems spare => uptoBulkAll elems + uptoBulkAll spare + 1
  | .agg parts => uptoBulkAll parts + 1
  | .iface _ d => uptoBulk d + 1
  | .map entries => uptoBulkEntries entries + 1
  | .held _ => 1
def uptoBulkAll {H : Type} : List (DataW H) → Nat
  | [] => 0
  | d :: r => uptoBulk d + uptoBulkAll r
def uptoBulkEntries {H : Type} : List (Lit × DataW H) → Nat
  | [] => 0
  | x :: r => uptoBulkEntry x + uptoBulkEntries r
def uptoBulkEntry {H : Type} : Lit × DataW H → Nat
  | (.string bytes, d) => bytes.length + uptoBulk d + 1
  | (_, d) => uptoBulk d + 1
 end
def uptoSmall : (H : Type) → List (DataW H) → Bool := fun _ ds => decide (uptoBulkAll ds ≤ 1048576)
def OpenSpec.upto (s : _root_.Go.ChangeSpec) : _root_.Go.OpenSpec := { _root_.Go.OpenSpec.ofChange s with cond := some uptoSmall }

/-- 'commonholdkeep.PlaceNext', WHERE WHAT IT READS IS OF BULK AT MOST 1048576: true; the input reads as it did. -/
def placeNextUptoRow : OpenClaim := { program := "ytaoohkfocajdcaa", sum := "e4d732a96e404288ea9e0123cbcd1cc1e07a8c5411c51bbe40bf79050ff3d43a", func := "commonhold/commonholdkeep.PlaceNext", spec := "placeNext", unfollowed := true, recurses := true, apart := false, narrowed := true }
def PlaceNextUptoSaid : Prop := placeNextUptoRow.holds Try.pinned (OpenSpec.upto placeNextSpec)

/-- 'commonholdkeep.PlaceBack', WHERE WHAT IT READS IS OF BULK AT MOST 1048576: true; the input reads as it did. -/
def placeBackUptoRow : OpenClaim := { program := "ytaoohkfocajdcaa", sum := "e4d732a96e404288ea9e0123cbcd1cc1e07a8c5411c51bbe40bf79050ff3d43a", func := "commonhold/commonholdkeep.PlaceBack", spec := "placeBack", unfollowed := true, recurses := true, apart := false, narrowed := true }
def PlaceBackUptoSaid : Prop := placeBackUptoRow.holds Try.pinned (OpenSpec.upto placeBackSpec)

/-- 'commonholdkeep.TailRight', WHERE WHAT IT READS IS OF BULK AT MOST 1048576: true; the input reads as it did. -/
def tailRightUptoRow : OpenClaim := { program := "ytaoohkfocajdcaa", sum := "e4d732a96e404288ea9e0123cbcd1cc1e07a8c5411c51bbe40bf79050ff3d43a", func := "commonhold/commonholdkeep.TailRight", spec := "tailRight", unfollowed := true, recurses := true, apart := false, narrowed := true }
def TailRightUptoSaid : Prop := tailRightUptoRow.holds Try.pinned (OpenSpec.upto tailRightSpec)

/-- 'commonholdkeep.SwapBack', WHERE WHAT IT READS IS OF BULK AT MOST 1048576: true; the input reads as it did. -/
def swapBackUptoRow : OpenClaim := { program := "ytaoohkfocajdcaa", sum := "e4d732a96e404288ea9e0123cbcd1cc1e07a8c5411c51bbe40bf79050ff3d43a", func := "commonhold/commonholdkeep.SwapBack", spec := "swapBack", unfollowed := true, recurses := true, apart := false, narrowed := true }
def SwapBackUptoSaid : Prop := swapBackUptoRow.holds Try.pinned (OpenSpec.upto swapBackSpec)

end Rows
end Go.Proofs.Ytaoohkfocajdcaa
