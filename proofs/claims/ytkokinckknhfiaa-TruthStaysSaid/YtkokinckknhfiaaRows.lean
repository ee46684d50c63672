/-
  No cell of these rows narrows 'for every input' (looked for: loops, veiled, ifaces, maps, wideKeys, modest, calm, conditions, laid).
  DERIVED. THE GIVEN ROWS OF THIS SEAT. 8 by the template 'for every input the law returns true; each argument reads behind the call as it read before'; 0 by the template 'total and deterministic' (their statements: YtkokinckknhfiaaTotals.lean).
  GIVEN WITH THE SEED: the statements are not yours to turn. If you find one false, say at which input.
  Laid BY PROGRAM, IN A SANDBOX (cutbox-rows.mjs): the forced cells as the released guide's own fill.sh prints them over the translation 82e979c15a19b4a7… (all of the seat's roots in one cut). By AI agents, Wed Nov 11 2026. No macro, syntax, notation, axiom, sorry.
-/
import Derived.Test.YtkokinckknhfiaaChecked
import GoSem.Claim
import GoSem.ClaimJoined
import GoSem.ClaimMapViews
import Derived.JoinedTies
import Derived.KernelRfl
namespace Go.Proofs.Ytkokinckknhfiaa
/- THE CELL 'sum', in the pinned program and in every row, IS THE sha256 OF THE DUMP (.gsa) THAT YtkokinckknhfiaaProg.lean LOADS. Nothing in Lean hashes anything: it is a label: what it is worth is what the hold of that sum in a sandbox is worth. -/
noncomputable def Try.pinned : Pinned := { name := "ytkokinckknhfiaa", sum := "82e979c15a19b4a7ffd84bd7d3b0c90579cebb2d69c2c3d3febdc26fe220d78b", checked := Try.checked }
namespace Rows
def none {H : Type} : Left H := { results := [], args := [] }

/-- 'commonholdkeep.KeyPrefix': WHATEVER THE INPUT: true; the input reads as it did. -/
def keyPrefixSpec : ChangeSpec := { name := "keyPrefix", fn := fun _ => fun
  | [d1, d2, d3] => { results := [.lit (.bool true)], args := [d1, d2, d3] }
  | _ => none }
def keyPrefixRow : OpenClaim := { program := "ytkokinckknhfiaa", sum := "82e979c15a19b4a7ffd84bd7d3b0c90579cebb2d69c2c3d3febdc26fe220d78b", func := "commonhold/commonholdkeep.KeyPrefix", spec := "keyPrefix", apart := false }
def KeyPrefixSaid : Prop := keyPrefixRow.holds Try.pinned (OpenSpec.ofChange keyPrefixSpec)

/-- ITS FALSE NEIGHBOUR: 'it returns false'. Refute it at one input. -/
def keyPrefixWrong : ChangeSpec := { name := "keyPrefix", fn := fun _ => fun
  | [d1, d2, d3] => { results := [.lit (.bool false)], args := [d1, d2, d3] }
  | _ => none }
def KeyPrefixWrongFalsely : Prop := keyPrefixRow.holds Try.pinned (OpenSpec.ofChange keyPrefixWrong)

/-- 'commonholdkeep.AddBack': WHATEVER THE INPUT: true; the input reads as it did. -/
def addBackSpec : ChangeSpec := { name := "addBack", fn := fun _ => fun
  | [d1, d2] => { results := [.lit (.bool true)], args := [d1, d2] }
  | _ => none }
def addBackRow : OpenClaim := { program := "ytkokinckknhfiaa", sum := "82e979c15a19b4a7ffd84bd7d3b0c90579cebb2d69c2c3d3febdc26fe220d78b", func := "commonhold/commonholdkeep.AddBack", spec := "addBack", apart := false }
def AddBackSaid : Prop := addBackRow.holds Try.pinned (OpenSpec.ofChange addBackSpec)

/-- ITS FALSE NEIGHBOUR: 'it returns false'. Refute it at one input. -/
def addBackWrong : ChangeSpec := { name := "addBack", fn := fun _ => fun
  | [d1, d2] => { results := [.lit (.bool false)], args := [d1, d2] }
  | _ => none }
def AddBackWrongFalsely : Prop := addBackRow.holds Try.pinned (OpenSpec.ofChange addBackWrong)

/-- 'commonholdkeep.TruthStays': WHATEVER THE INPUT: true; the input reads as it did. -/
def truthStaysSpec : ChangeSpec := { name := "truthStays", fn := fun _ => fun
  | [d1, d2, d3] => { results := [.lit (.bool true)], args := [d1, d2, d3] }
  | _ => none }
def truthStaysRow : OpenClaim := { program := "ytkokinckknhfiaa", sum := "82e979c15a19b4a7ffd84bd7d3b0c90579cebb2d69c2c3d3febdc26fe220d78b", func := "commonhold/commonholdkeep.TruthStays", spec := "truthStays", unfollowed := true, recurses := true, apart := false }
def TruthStaysSaid : Prop := truthStaysRow.holds Try.pinned (OpenSpec.ofChange truthStaysSpec)

/-- ITS FALSE NEIGHBOUR: 'it returns false'. Refute it at one input. -/
def truthStaysWrong : ChangeSpec := { name := "truthStays", fn := fun _ => fun
  | [d1, d2, d3] => { results := [.lit (.bool false)], args := [d1, d2, d3] }
  | _ => none }
def TruthStaysWrongFalsely : Prop := truthStaysRow.holds Try.pinned (OpenSpec.ofChange truthStaysWrong)

/-- 'commonholdkeep.NegTwice': WHATEVER THE INPUT: true; the input reads as it did. -/
def negTwiceSpec : ChangeSpec := { name := "negTwice", fn := fun _ => fun
  | [d1, d2] => { results := [.lit (.bool true)], args := [d1, d2] }
  | _ => none }
def negTwiceRow : OpenClaim := { program := "ytkokinckknhfiaa", sum := "82e979c15a19b4a7ffd84bd7d3b0c90579cebb2d69c2c3d3febdc26fe220d78b", func := "commonhold/commonholdkeep.NegTwice", spec := "negTwice", apart := false }
def NegTwiceSaid : Prop := negTwiceRow.holds Try.pinned (OpenSpec.ofChange negTwiceSpec)

/-- ITS FALSE NEIGHBOUR: 'it returns false'. Refute it at one input. -/
def negTwiceWrong : ChangeSpec := { name := "negTwice", fn := fun _ => fun
  | [d1, d2] => { results := [.lit (.bool false)], args := [d1, d2] }
  | _ => none }
def NegTwiceWrongFalsely : Prop := negTwiceRow.holds Try.pinned (OpenSpec.ofChange negTwiceWrong)

/-- 'commonholdkeep.TruthMorgan': WHATEVER THE INPUT: true; the input reads as it did. -/
def truthMorganSpec : ChangeSpec := { name := "truthMorgan", fn := fun _ => fun
  | [d] => { results := [.lit (.bool true)], args := [d] }
  | _ => none }
def truthMorganRow : OpenClaim := { program := "ytkokinckknhfiaa", sum := "82e979c15a19b4a7ffd84bd7d3b0c90579cebb2d69c2c3d3febdc26fe220d78b", func := "commonhold/commonholdkeep.TruthMorgan", spec := "truthMorgan", unfollowed := true, recurses := true, apart := false }
def TruthMorganSaid : Prop := truthMorganRow.holds Try.pinned (OpenSpec.ofChange truthMorganSpec)

/-- ITS FALSE NEIGHBOUR: 'it returns false'. Refute it at one input. -/
def truthMorganWrong : ChangeSpec := { name := "truthMorgan", fn := fun _ => fun
  | [d] => { results := [.lit (.bool false)], args := [d] }
  | _ => none }
def TruthMorganWrongFalsely : Prop := truthMorganRow.holds Try.pinned (OpenSpec.ofChange truthMorganWrong)

/-- 'commonholdkeep.MulSpread': WHATEVER THE INPUT: true; the input reads as it did. -/
def mulSpreadSpec : ChangeSpec := { name := "mulSpread", fn := fun _ => fun
  | [d1, d2, d3] => { results := [.lit (.bool true)], args := [d1, d2, d3] }
  | _ => none }
def mulSpreadRow : OpenClaim := { program := "ytkokinckknhfiaa", sum := "82e979c15a19b4a7ffd84bd7d3b0c90579cebb2d69c2c3d3febdc26fe220d78b", func := "commonhold/commonholdkeep.MulSpread", spec := "mulSpread", apart := false }
def MulSpreadSaid : Prop := mulSpreadRow.holds Try.pinned (OpenSpec.ofChange mulSpreadSpec)

/-- ITS FALSE NEIGHBOUR: 'it returns false'. Refute it at one input. -/
def mulSpreadWrong : ChangeSpec := { name := "mulSpread", fn := fun _ => fun
  | [d1, d2, d3] => { results := [.lit (.bool false)], args := [d1, d2, d3] }
  | _ => none }
def MulSpreadWrongFalsely : Prop := mulSpreadRow.holds Try.pinned (OpenSpec.ofChange mulSpreadWrong)

/-- 'commonholdkeep.MulBack': WHATEVER THE INPUT: true; the input reads as it did. -/
def mulBackSpec : ChangeSpec := { name := "mulBack", fn := fun _ => fun
  | [d1, d2] => { results := [.lit (.bool true)], args := [d1, d2] }
  | _ => none }
def mulBackRow : OpenClaim := { program := "ytkokinckknhfiaa", sum := "82e979c15a19b4a7ffd84bd7d3b0c90579cebb2d69c2c3d3febdc26fe220d78b", func := "commonhold/commonholdkeep.MulBack", spec := "mulBack", apart := false }
def MulBackSaid : Prop := mulBackRow.holds Try.pinned (OpenSpec.ofChange mulBackSpec)

/-- ITS FALSE NEIGHBOUR: 'it returns false'. Refute it at one input. -/
def mulBackWrong : ChangeSpec := { name := "mulBack", fn := fun _ => fun
  | [d1, d2] => { results := [.lit (.bool false)], args := [d1, d2] }
  | _ => none }
def MulBackWrongFalsely : Prop := mulBackRow.holds Try.pinned (OpenSpec.ofChange mulBackWrong)

/-- 'commonholdkeep.DivWhole': WHATEVER THE INPUT: true; the input reads as it did. -/
def divWholeSpec : ChangeSpec := { name := "divWhole", fn := fun _ => fun
  | [d1, d2] => { results := [.lit (.bool true)], args := [d1, d2] }
  | _ => none }
def divWholeRow : OpenClaim := { program := "ytkokinckknhfiaa", sum := "82e979c15a19b4a7ffd84bd7d3b0c90579cebb2d69c2c3d3febdc26fe220d78b", func := "commonhold/commonholdkeep.DivWhole", spec := "divWhole", apart := false }
def DivWholeSaid : Prop := divWholeRow.holds Try.pinned (OpenSpec.ofChange divWholeSpec)

/-- ITS FALSE NEIGHBOUR: 'it returns false'. Refute it at one input. -/
def divWholeWrong : ChangeSpec := { name := "divWhole", fn := fun _ => fun
  | [d1, d2] => { results := [.lit (.bool false)], args := [d1, d2] }
  | _ => none }
def DivWholeWrongFalsely : Prop := divWholeRow.holds Try.pinned (OpenSpec.ofChange divWholeWrong)

/- THE SECOND FORM. 'bulk': how many values and letters a reading holds, each counted each time it is reached (what is shared counts as often as it is met; a slice's spare places count too). A statement '..UptoSaid' is the law's where the arguments, and the package variables that the reading takes, are together of bulk at most 1048576: NARROWER than '..Said'. Prove '..Said' where nothing that the law and all that it calls make is longer than what came in: it says more and counts as full. Else prove '..UptoSaid'. A law counts once. -/
mutual
def uptoBulk {H : Type} : DataW H → Nat
  | .lit (.string bytes) => bytes.length + 1
  | .lit _ => 1
  | .nil => 1
  | .ptr d => uptoBulk d + 1
  | .slice elems spare => uptoBulkAll elems + uptoBulkAll spare + 1
  | .agg parts => uptoBulkAll parts + 1
  | .iface _ d => uptoBulk d + 1
  | .map entries => uptoBulkEntries entries + 1
  | .held _ => 1
def uptoBulkAll {H : Type} : List (DataW H) → Nat
  | [] => 0
  | d :: r => uptoBulk d + uptoBulkAll r
def uptoBulkEntries {H : Type} : List (Lit × DataW H) → Nat
  | [] => 0
  | x :: r => uptoBulkEntry x + uptoBulkEntries r
def uptoBulkEntry {H : Type} : Lit × DataW H → Nat
  | (.string bytes, d) => bytes.length + uptoBulk d + 1
  | (_, d) => uptoBulk d + 1
 end
def uptoSmall : (H : Type) → List (DataW H) → Bool := fun _ ds => decide (uptoBulkAll ds ≤ 1048576)
def OpenSpec.upto (s : _root_.Go.ChangeSpec) : _root_.Go.OpenSpec := { _root_.Go.OpenSpec.ofChange s with cond := some uptoSmall }

/-- 'commonholdkeep.KeyPrefix', WHERE WHAT IT READS IS OF BULK AT MOST 1048576: true; the input reads as it did. -/
def keyPrefixUptoRow : OpenClaim := { program := "ytkokinckknhfiaa", sum := "82e979c15a19b4a7ffd84bd7d3b0c90579cebb2d69c2c3d3febdc26fe220d78b", func := "commonhold/commonholdkeep.KeyPrefix", spec := "keyPrefix", apart := false, narrowed := true }
def KeyPrefixUptoSaid : Prop := keyPrefixUptoRow.holds Try.pinned (OpenSpec.upto keyPrefixSpec)

/-- 'commonholdkeep.AddBack', WHERE WHAT IT READS IS OF BULK AT MOST 1048576: true; the input reads as it did. -/
def addBackUptoRow : OpenClaim := { program := "ytkokinckknhfiaa", sum := "82e979c15a19b4a7ffd84bd7d3b0c90579cebb2d69c2c3d3febdc26fe220d78b", func := "commonhold/commonholdkeep.AddBack", spec := "addBack", apart := false, narrowed := true }
def AddBackUptoSaid : Prop := addBackUptoRow.holds Try.pinned (OpenSpec.upto addBackSpec)

/-- 'commonholdkeep.TruthStays', WHERE WHAT IT READS IS OF BULK AT MOST 1048576: true; the input reads as it did. -/
def truthStaysUptoRow : OpenClaim := { program := "ytkokinckknhfiaa", sum := "82e979c15a19b4a7ffd84bd7d3b0c90579cebb2d69c2c3d3febdc26fe220d78b", func := "commonhold/commonholdkeep.TruthStays", spec := "truthStays", unfollowed := true, recurses := true, apart := false, narrowed := true }
def TruthStaysUptoSaid : Prop := truthStaysUptoRow.holds Try.pinned (OpenSpec.upto truthStaysSpec)

/-- 'commonholdkeep.NegTwice', WHERE WHAT IT READS IS OF BULK AT MOST 1048576: true; the input reads as it did. -/
def negTwiceUptoRow : OpenClaim := { program := "ytkokinckknhfiaa", sum := "82e979c15a19b4a7ffd84bd7d3b0c90579cebb2d69c2c3d3febdc26fe220d78b", func := "commonhold/commonholdkeep.NegTwice", spec := "negTwice", apart := false, narrowed := true }
def NegTwiceUptoSaid : Prop := negTwiceUptoRow.holds Try.pinned (OpenSpec.upto negTwiceSpec)

/-- 'commonholdkeep.TruthMorgan', WHERE WHAT IT READS IS OF BULK AT MOST 1048576: true; the input reads as it did. -/
def truthMorganUptoRow : OpenClaim := { program := "ytkokinckknhfiaa", sum := "82e979c15a19b4a7ffd84bd7d3b0c90579cebb2d69c2c3d3febdc26fe220d78b", func := "commonhold/commonholdkeep.TruthMorgan", spec := "truthMorgan", unfollowed := true, recurses := true, apart := false, narrowed := true }
def TruthMorganUptoSaid : Prop := truthMorganUptoRow.holds Try.pinned (OpenSpec.upto truthMorganSpec)

/-- 'commonholdkeep.MulSpread', WHERE WHAT IT READS IS OF BULK AT MOST 1048576: true; the input reads as it did. -/
def mulSpreadUptoRow : OpenClaim := { program := "ytkokinckknhfiaa", sum := "82e979c15a19b4a7ffd84bd7d3b0c90579cebb2d69c2c3d3febdc26fe220d78b", func := "commonhold/commonholdkeep.MulSpread", spec := "mulSpread", apart := false, narrowed := true }
def MulSpreadUptoSaid : Prop := mulSpreadUptoRow.holds Try.pinned (OpenSpec.upto mulSpreadSpec)

/-- 'commonholdkeep.MulBack', WHERE WHAT IT READS IS OF BULK AT MOST 1048576: true; the input reads as it did. -/
def mulBackUptoRow : OpenClaim := { program := "ytkokinckknhfiaa", sum := "82e979c15a19b4a7ffd84bd7d3b0c90579cebb2d69c2c3d3febdc26fe220d78b", func := "commonhold/commonholdkeep.MulBack", spec := "mulBack", apart := false, narrowed := true }
def MulBackUptoSaid : Prop := mulBackUptoRow.holds Try.pinned (OpenSpec.upto mulBackSpec)

/-- 'commonholdkeep.DivWhole', WHERE WHAT IT READS IS OF BULK AT MOST 1048576: true; the input reads as it did. -/
def divWholeUptoRow : OpenClaim := { program := "ytkokinckknhfiaa", sum := "82e979c15a19b4a7ffd84bd7d3b0c90579cebb2d69c2c3d3febdc26fe220d78b", func := "commonhold/commonholdkeep.DivWhole", spec := "divWhole", apart := false, narrowed := true }
def DivWholeUptoSaid : Prop := divWholeUptoRow.holds Try.pinned (OpenSpec.upto divWholeSpec)

end Rows
end Go.Proofs.Ytkokinckknhfiaa
