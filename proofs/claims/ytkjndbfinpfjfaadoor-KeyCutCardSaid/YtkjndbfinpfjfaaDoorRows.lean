/-
  NARROWER THAN 'FOR EVERY INPUT', by the rows' own cells (each row's printed sentence says how): OrderLine: laid · CompareOne: laid · CompareFlip: laid · SpanApart: laid · KeyOrder: laid · KeyBack: laid · KeyFixed: laid · KeyCut: laid.
  DERIVED. THE GIVEN ROWS OF THIS SEAT. 8 by the template 'for every input the law returns true; each argument reads behind the call as it read before'; 0 by the template 'total and deterministic' (their statements: YtkjndbfinpfjfaaDoorTotals.lean).
  GIVEN WITH THE SEED: the statements are not yours to turn. If you find one false, say at which input.
  Laid BY PROGRAM, IN A SANDBOX (cutbox-rows.mjs): the forced cells as the released guide's own fill.sh prints them over the translation e5413b4693f55620… (all of the seat's roots in one cut). By AI agents, Wed Nov 11 2026. No macro, syntax, notation, axiom, sorry.
-/
import Derived.Test.YtkjndbfinpfjfaaDoorChecked
import GoSem.PinnedTables
import GoSem.Claim
import GoSem.ClaimJoined
import GoSem.ClaimMapViews
import Derived.JoinedTies
import Derived.KernelRfl
namespace Go.Proofs.YtkjndbfinpfjfaaDoor
/- THE CELL 'sum', in the pinned program and in every row, IS THE sha256 OF THE DUMP (.gsa) THAT YtkjndbfinpfjfaaDoorProg.lean LOADS. Nothing in Lean hashes anything: it is a label: what it is worth is what the hold of that sum in a sandbox is worth. -/
noncomputable def Tryd.pinned : Pinned := { name := "ytkjndbfinpfjfaadoor", sum := "e5413b4693f55620e37f3d9c01e24d139c30249b0cbcb859e01b638e055dbe01", checked := Tryd.checked }
namespace Rows
def none {H : Type} : Left H := { results := [], args := [] }

/- WHAT THE LISTED PACKAGE-LEVEL VARIABLES READ AS WHEN THE CALL BEGINS. Each datum BY PROGRAM (the guide's laid-datum.mjs) off the statement by which the dump's own 'gosem.cut.vars' lays the variable. In a bare row this is a premise. The card (YtkjndbfinpfjfaaDoorCards.lean) ties it to the program's text. -/
def laid_unicode_utf8_acceptRanges {H : Type} : DataW H := .agg [.agg [.lit (.int .u8 128), .lit (.int .u8 191)], .agg [.lit (.int .u8 160), .lit (.int .u8 191)], .agg [.lit (.int .u8 128), .lit (.int .u8 159)], .agg [.lit (.int .u8 144), .lit (.int .u8 191)], .agg [.lit (.int .u8 128), .lit (.int .u8 143)], .agg [.lit (.int .u8 0), .lit (.int .u8 0)], .agg [.lit (.int .u8 0), .lit (.int .u8 0)], .agg [.lit (.int .u8 0), .lit (.int .u8 0)], .agg [.lit (.int .u8 0), .lit (.int .u8 0)], .agg [.lit (.int .u8 0), .lit (.int .u8 0)], .agg [.lit (.int .u8 0), .lit (.int .u8 0)], .agg [.lit (.int .u8 0), .lit (.int .u8 0)], .agg [.lit (.int .u8 0), .lit (.int .u8 0)], .agg [.lit (.int .u8 0), .lit (.int .u8 0)], .agg [.lit (.int .u8 0), .lit (.int .u8 0)], .agg [.lit (.int .u8 0), .lit (.int .u8 0)]]
/-- One of Go's own tables, pinned by name: the form's constant. -/
def laid_unicode_utf8_first : DataW Unit := Go.Pinned.utf8First

/-- 'commonholdkeep.OrderLine': WHATEVER THE INPUT: true; the input reads as it did. -/
def orderLineSpec : ChangeSpec := { name := "orderLine", fn := fun _ => fun
  | [d1, d2, d3] => { results := [.lit (.bool true)], args := [d1, d2, d3] }
  | _ => none }
def orderLineRow : OpenClaim := { program := "ytkjndbfinpfjfaadoor", sum := "e5413b4693f55620e37f3d9c01e24d139c30249b0cbcb859e01b638e055dbe01", func := "commonhold/commonholdkeep.OrderLine", spec := "orderLine", inPlace := ["internal/bytealg.abigen_runtime_cmpstring"], named := ["unicode/utf8.first", "unicode/utf8.acceptRanges"], apart := false, laid := [("unicode/utf8.acceptRanges", laid_unicode_utf8_acceptRanges), ("unicode/utf8.first", laid_unicode_utf8_first)] }
def OrderLineSaid : Prop := orderLineRow.holds Tryd.pinned (OpenSpec.ofChange orderLineSpec)

/-- ITS FALSE NEIGHBOUR: 'it returns false'. Refute it at one input. -/
def orderLineWrong : ChangeSpec := { name := "orderLine", fn := fun _ => fun
  | [d1, d2, d3] => { results := [.lit (.bool false)], args := [d1, d2, d3] }
  | _ => none }
def OrderLineWrongFalsely : Prop := orderLineRow.holds Tryd.pinned (OpenSpec.ofChange orderLineWrong)

/-- 'commonholdkeep.CompareOne': WHATEVER THE INPUT: true; the input reads as it did. -/
def compareOneSpec : ChangeSpec := { name := "compareOne", fn := fun _ => fun
  | [d1, d2] => { results := [.lit (.bool true)], args := [d1, d2] }
  | _ => none }
def compareOneRow : OpenClaim := { program := "ytkjndbfinpfjfaadoor", sum := "e5413b4693f55620e37f3d9c01e24d139c30249b0cbcb859e01b638e055dbe01", func := "commonhold/commonholdkeep.CompareOne", spec := "compareOne", inPlace := ["internal/bytealg.abigen_runtime_cmpstring"], named := ["unicode/utf8.first", "unicode/utf8.acceptRanges"], apart := false, laid := [("unicode/utf8.acceptRanges", laid_unicode_utf8_acceptRanges), ("unicode/utf8.first", laid_unicode_utf8_first)] }
def CompareOneSaid : Prop := compareOneRow.holds Tryd.pinned (OpenSpec.ofChange compareOneSpec)

/-- ITS FALSE NEIGHBOUR: 'it returns false'. Refute it at one input. -/
def compareOneWrong : ChangeSpec := { name := "compareOne", fn := fun _ => fun
  | [d1, d2] => { results := [.lit (.bool false)], args := [d1, d2] }
  | _ => none }
def CompareOneWrongFalsely : Prop := compareOneRow.holds Tryd.pinned (OpenSpec.ofChange compareOneWrong)

/-- 'commonholdkeep.CompareFlip': WHATEVER THE INPUT: true; the input reads as it did. -/
def compareFlipSpec : ChangeSpec := { name := "compareFlip", fn := fun _ => fun
  | [d1, d2, d3] => { results := [.lit (.bool true)], args := [d1, d2, d3] }
  | _ => none }
def compareFlipRow : OpenClaim := { program := "ytkjndbfinpfjfaadoor", sum := "e5413b4693f55620e37f3d9c01e24d139c30249b0cbcb859e01b638e055dbe01", func := "commonhold/commonholdkeep.CompareFlip", spec := "compareFlip", inPlace := ["internal/bytealg.abigen_runtime_cmpstring"], named := ["unicode/utf8.first", "unicode/utf8.acceptRanges"], apart := false, laid := [("unicode/utf8.acceptRanges", laid_unicode_utf8_acceptRanges), ("unicode/utf8.first", laid_unicode_utf8_first)] }
def CompareFlipSaid : Prop := compareFlipRow.holds Tryd.pinned (OpenSpec.ofChange compareFlipSpec)

/-- ITS FALSE NEIGHBOUR: 'it returns false'. Refute it at one input. -/
def compareFlipWrong : ChangeSpec := { name := "compareFlip", fn := fun _ => fun
  | [d1, d2, d3] => { results := [.lit (.bool false)], args := [d1, d2, d3] }
  | _ => none }
def CompareFlipWrongFalsely : Prop := compareFlipRow.holds Tryd.pinned (OpenSpec.ofChange compareFlipWrong)

/-- 'commonholdkeep.SpanApart': WHATEVER THE INPUT: true; the input reads as it did. -/
def spanApartSpec : ChangeSpec := { name := "spanApart", fn := fun _ => fun
  | [d1, d2, d3, d4, d5] => { results := [.lit (.bool true)], args := [d1, d2, d3, d4, d5] }
  | _ => none }
def spanApartRow : OpenClaim := { program := "ytkjndbfinpfjfaadoor", sum := "e5413b4693f55620e37f3d9c01e24d139c30249b0cbcb859e01b638e055dbe01", func := "commonhold/commonholdkeep.SpanApart", spec := "spanApart", named := ["unicode/utf8.first", "unicode/utf8.acceptRanges"], apart := false, laid := [("unicode/utf8.acceptRanges", laid_unicode_utf8_acceptRanges), ("unicode/utf8.first", laid_unicode_utf8_first)] }
def SpanApartSaid : Prop := spanApartRow.holds Tryd.pinned (OpenSpec.ofChange spanApartSpec)

/-- ITS FALSE NEIGHBOUR: 'it returns false'. Refute it at one input. -/
def spanApartWrong : ChangeSpec := { name := "spanApart", fn := fun _ => fun
  | [d1, d2, d3, d4, d5] => { results := [.lit (.bool false)], args := [d1, d2, d3, d4, d5] }
  | _ => none }
def SpanApartWrongFalsely : Prop := spanApartRow.holds Tryd.pinned (OpenSpec.ofChange spanApartWrong)

/-- 'commonholdkeep.KeyOrder': WHATEVER THE INPUT: true; the input reads as it did. -/
def keyOrderSpec : ChangeSpec := { name := "keyOrder", fn := fun _ => fun
  | [d1, d2] => { results := [.lit (.bool true)], args := [d1, d2] }
  | _ => none }
def keyOrderRow : OpenClaim := { program := "ytkjndbfinpfjfaadoor", sum := "e5413b4693f55620e37f3d9c01e24d139c30249b0cbcb859e01b638e055dbe01", func := "commonhold/commonholdkeep.KeyOrder", spec := "keyOrder", inPlace := ["internal/bytealg.abigen_runtime_cmpstring"], named := ["unicode/utf8.first", "unicode/utf8.acceptRanges"], apart := false, laid := [("unicode/utf8.acceptRanges", laid_unicode_utf8_acceptRanges), ("unicode/utf8.first", laid_unicode_utf8_first)] }
def KeyOrderSaid : Prop := keyOrderRow.holds Tryd.pinned (OpenSpec.ofChange keyOrderSpec)

/-- ITS FALSE NEIGHBOUR: 'it returns false'. Refute it at one input. -/
def keyOrderWrong : ChangeSpec := { name := "keyOrder", fn := fun _ => fun
  | [d1, d2] => { results := [.lit (.bool false)], args := [d1, d2] }
  | _ => none }
def KeyOrderWrongFalsely : Prop := keyOrderRow.holds Tryd.pinned (OpenSpec.ofChange keyOrderWrong)

/-- 'commonholdkeep.KeyBack': WHATEVER THE INPUT: true; the input reads as it did. -/
def keyBackSpec : ChangeSpec := { name := "keyBack", fn := fun _ => fun
  | [d1, d2] => { results := [.lit (.bool true)], args := [d1, d2] }
  | _ => none }
def keyBackRow : OpenClaim := { program := "ytkjndbfinpfjfaadoor", sum := "e5413b4693f55620e37f3d9c01e24d139c30249b0cbcb859e01b638e055dbe01", func := "commonhold/commonholdkeep.KeyBack", spec := "keyBack", named := ["unicode/utf8.first", "unicode/utf8.acceptRanges"], apart := false, laid := [("unicode/utf8.acceptRanges", laid_unicode_utf8_acceptRanges), ("unicode/utf8.first", laid_unicode_utf8_first)] }
def KeyBackSaid : Prop := keyBackRow.holds Tryd.pinned (OpenSpec.ofChange keyBackSpec)

/-- ITS FALSE NEIGHBOUR: 'it returns false'. Refute it at one input. -/
def keyBackWrong : ChangeSpec := { name := "keyBack", fn := fun _ => fun
  | [d1, d2] => { results := [.lit (.bool false)], args := [d1, d2] }
  | _ => none }
def KeyBackWrongFalsely : Prop := keyBackRow.holds Tryd.pinned (OpenSpec.ofChange keyBackWrong)

/-- 'commonholdkeep.KeyFixed': WHATEVER THE INPUT: true; the input reads as it did. -/
def keyFixedSpec : ChangeSpec := { name := "keyFixed", fn := fun _ => fun
  | [d] => { results := [.lit (.bool true)], args := [d] }
  | _ => none }
def keyFixedRow : OpenClaim := { program := "ytkjndbfinpfjfaadoor", sum := "e5413b4693f55620e37f3d9c01e24d139c30249b0cbcb859e01b638e055dbe01", func := "commonhold/commonholdkeep.KeyFixed", spec := "keyFixed", named := ["unicode/utf8.first", "unicode/utf8.acceptRanges"], apart := false, laid := [("unicode/utf8.acceptRanges", laid_unicode_utf8_acceptRanges), ("unicode/utf8.first", laid_unicode_utf8_first)] }
def KeyFixedSaid : Prop := keyFixedRow.holds Tryd.pinned (OpenSpec.ofChange keyFixedSpec)

/-- ITS FALSE NEIGHBOUR: 'it returns false'. Refute it at one input. -/
def keyFixedWrong : ChangeSpec := { name := "keyFixed", fn := fun _ => fun
  | [d] => { results := [.lit (.bool false)], args := [d] }
  | _ => none }
def KeyFixedWrongFalsely : Prop := keyFixedRow.holds Tryd.pinned (OpenSpec.ofChange keyFixedWrong)

/-- 'commonholdkeep.KeyCut': WHATEVER THE INPUT: true; the input reads as it did. -/
def keyCutSpec : ChangeSpec := { name := "keyCut", fn := fun _ => fun
  | [d1, d2] => { results := [.lit (.bool true)], args := [d1, d2] }
  | _ => none }
def keyCutRow : OpenClaim := { program := "ytkjndbfinpfjfaadoor", sum := "e5413b4693f55620e37f3d9c01e24d139c30249b0cbcb859e01b638e055dbe01", func := "commonhold/commonholdkeep.KeyCut", spec := "keyCut", named := ["unicode/utf8.first", "unicode/utf8.acceptRanges"], apart := false, laid := [("unicode/utf8.acceptRanges", laid_unicode_utf8_acceptRanges), ("unicode/utf8.first", laid_unicode_utf8_first)] }
def KeyCutSaid : Prop := keyCutRow.holds Tryd.pinned (OpenSpec.ofChange keyCutSpec)

/-- ITS FALSE NEIGHBOUR: 'it returns false'. Refute it at one input. -/
def keyCutWrong : ChangeSpec := { name := "keyCut", fn := fun _ => fun
  | [d1, d2] => { results := [.lit (.bool false)], args := [d1, d2] }
  | _ => none }
def KeyCutWrongFalsely : Prop := keyCutRow.holds Tryd.pinned (OpenSpec.ofChange keyCutWrong)

/- THE SECOND FORM. 'bulk': how many values and letters a reading holds, each counted each time it is reached (what is shared counts as often as it is met; a slice's spare places count too). A statement '..UptoSaid' is the law's where the arguments, and the package variables that the reading takes, are together of bulk at most 1048576: NARROWER than '..Said'. Prove '..Said' where nothing that the law and all that it calls make is longer than what came in: it says more and counts as full. Else prove '..UptoSaid'. A law counts once. -/
mutual
def uptoBulk {H : Type} : DataW H → Nat
  | .lit (.string bytes) => bytes.length + 1
  | .lit _ => 1
  | .nil => 1
  | .ptr d => uptoBulk d + 1
  | .slice elems spare => uptoBulkAll elems + uptoBulkAll spare + 1
  | .agg parts => uptoBulkAll parts + 1
  | .iface _ d => uptoBulk d + 1
  | .map entries => uptoBulkEntries entries + 1
  | .held _ => 1
def uptoBulkAll {H : Type} : List (DataW H) → Nat
  | [] => 0
  | d :: r => uptoBulk d + uptoBulkAll r
def uptoBulkEntries {H : Type} : List (Lit × DataW H) → Nat
  | [] => 0
  | x :: r => uptoBulkEntry x + uptoBulkEntries r
def uptoBulkEntry {H : Type} : Lit × DataW H → Nat
  | (.string bytes, d) => bytes.length + uptoBulk d + 1
  | (_, d) => uptoBulk d + 1
 end
def uptoSmall : (H : Type) → List (DataW H) → Bool := fun _ ds => decide (uptoBulkAll ds ≤ 1048576)
def OpenSpec.upto (s : _root_.Go.ChangeSpec) : _root_.Go.OpenSpec := { _root_.Go.OpenSpec.ofChange s with cond := some uptoSmall }

/-- 'commonholdkeep.OrderLine', WHERE WHAT IT READS IS OF BULK AT MOST 1048576: true; the input reads as it did. -/
def orderLineUptoRow : OpenClaim := { program := "ytkjndbfinpfjfaadoor", sum := "e5413b4693f55620e37f3d9c01e24d139c30249b0cbcb859e01b638e055dbe01", func := "commonhold/commonholdkeep.OrderLine", spec := "orderLine", inPlace := ["internal/bytealg.abigen_runtime_cmpstring"], named := ["unicode/utf8.first", "unicode/utf8.acceptRanges"], apart := false, laid := [("unicode/utf8.acceptRanges", laid_unicode_utf8_acceptRanges), ("unicode/utf8.first", laid_unicode_utf8_first)], narrowed := true }
def OrderLineUptoSaid : Prop := orderLineUptoRow.holds Tryd.pinned (OpenSpec.upto orderLineSpec)

/-- 'commonholdkeep.CompareOne', WHERE WHAT IT READS IS OF BULK AT MOST 1048576: true; the input reads as it did. -/
def compareOneUptoRow : OpenClaim := { program := "ytkjndbfinpfjfaadoor", sum := "e5413b4693f55620e37f3d9c01e24d139c30249b0cbcb859e01b638e055dbe01", func := "commonhold/commonholdkeep.CompareOne", spec := "compareOne", inPlace := ["internal/bytealg.abigen_runtime_cmpstring"], named := ["unicode/utf8.first", "unicode/utf8.acceptRanges"], apart := false, laid := [("unicode/utf8.acceptRanges", laid_unicode_utf8_acceptRanges), ("unicode/utf8.first", laid_unicode_utf8_first)], narrowed := true }
def CompareOneUptoSaid : Prop := compareOneUptoRow.holds Tryd.pinned (OpenSpec.upto compareOneSpec)

/-- 'commonholdkeep.CompareFlip', WHERE WHAT IT READS IS OF BULK AT MOST 1048576: true; the input reads as it did. -/
def compareFlipUptoRow : OpenClaim := { program := "ytkjndbfinpfjfaadoor", sum := "e5413b4693f55620e37f3d9c01e24d139c30249b0cbcb859e01b638e055dbe01", func := "commonhold/commonholdkeep.CompareFlip", spec := "compareFlip", inPlace := ["internal/bytealg.abigen_runtime_cmpstring"], named := ["unicode/utf8.first", "unicode/utf8.acceptRanges"], apart := false, laid := [("unicode/utf8.acceptRanges", laid_unicode_utf8_acceptRanges), ("unicode/utf8.first", laid_unicode_utf8_first)], narrowed := true }
def CompareFlipUptoSaid : Prop := compareFlipUptoRow.holds Tryd.pinned (OpenSpec.upto compareFlipSpec)

/-- 'commonholdkeep.SpanApart', WHERE WHAT IT READS IS OF BULK AT MOST 1048576: true; the input reads as it did. -/
def spanApartUptoRow : OpenClaim := { program := "ytkjndbfinpfjfaadoor", sum := "e5413b4693f55620e37f3d9c01e24d139c30249b0cbcb859e01b638e055dbe01", func := "commonhold/commonholdkeep.SpanApart", spec := "spanApart", named := ["unicode/utf8.first", "unicode/utf8.acceptRanges"], apart := false, laid := [("unicode/utf8.acceptRanges", laid_unicode_utf8_acceptRanges), ("unicode/utf8.first", laid_unicode_utf8_first)], narrowed := true }
def SpanApartUptoSaid : Prop := spanApartUptoRow.holds Tryd.pinned (OpenSpec.upto spanApartSpec)

/-- 'commonholdkeep.KeyOrder', WHERE WHAT IT READS IS OF BULK AT MOST 1048576: true; the input reads as it did. -/
def keyOrderUptoRow : OpenClaim := { program := "ytkjndbfinpfjfaadoor", sum := "e5413b4693f55620e37f3d9c01e24d139c30249b0cbcb859e01b638e055dbe01", func := "commonhold/commonholdkeep.KeyOrder", spec := "keyOrder", inPlace := ["internal/bytealg.abigen_runtime_cmpstring"], named := ["unicode/utf8.first", "unicode/utf8.acceptRanges"], apart := false, laid := [("unicode/utf8.acceptRanges", laid_unicode_utf8_acceptRanges), ("unicode/utf8.first", laid_unicode_utf8_first)], narrowed := true }
def KeyOrderUptoSaid : Prop := keyOrderUptoRow.holds Tryd.pinned (OpenSpec.upto keyOrderSpec)

/-- 'commonholdkeep.KeyBack', WHERE WHAT IT READS IS OF BULK AT MOST 1048576: true; the input reads as it did. -/
def keyBackUptoRow : OpenClaim := { program := "ytkjndbfinpfjfaadoor", sum := "e5413b4693f55620e37f3d9c01e24d139c30249b0cbcb859e01b638e055dbe01", func := "commonhold/commonholdkeep.KeyBack", spec := "keyBack", named := ["unicode/utf8.first", "unicode/utf8.acceptRanges"], apart := false, laid := [("unicode/utf8.acceptRanges", laid_unicode_utf8_acceptRanges), ("unicode/utf8.first", laid_unicode_utf8_first)], narrowed := true }
def KeyBackUptoSaid : Prop := keyBackUptoRow.holds Tryd.pinned (OpenSpec.upto keyBackSpec)

/-- 'commonholdkeep.KeyFixed', WHERE WHAT IT READS IS OF BULK AT MOST 1048576: true; the input reads as it did. -/
def keyFixedUptoRow : OpenClaim := { program := "ytkjndbfinpfjfaadoor", sum := "e5413b4693f55620e37f3d9c01e24d139c30249b0cbcb859e01b638e055dbe01", func := "commonhold/commonholdkeep.KeyFixed", spec := "keyFixed", named := ["unicode/utf8.first", "unicode/utf8.acceptRanges"], apart := false, laid := [("unicode/utf8.acceptRanges", laid_unicode_utf8_acceptRanges), ("unicode/utf8.first", laid_unicode_utf8_first)], narrowed := true }
def KeyFixedUptoSaid : Prop := keyFixedUptoRow.holds Tryd.pinned (OpenSpec.upto keyFixedSpec)

/-- 'commonholdkeep.KeyCut', WHERE WHAT IT READS IS OF BULK AT MOST 1048576: true; the input reads as it did. -/
def keyCutUptoRow : OpenClaim := { program := "ytkjndbfinpfjfaadoor", sum := "e5413b4693f55620e37f3d9c01e24d139c30249b0cbcb859e01b638e055dbe01", func := "commonhold/commonholdkeep.KeyCut", spec := "keyCut", named := ["unicode/utf8.first", "unicode/utf8.acceptRanges"], apart := false, laid := [("unicode/utf8.acceptRanges", laid_unicode_utf8_acceptRanges), ("unicode/utf8.first", laid_unicode_utf8_first)], narrowed := true }
def KeyCutUptoSaid : Prop := keyCutUptoRow.holds Tryd.pinned (OpenSpec.upto keyCutSpec)

end Rows
end Go.Proofs.YtkjndbfinpfjfaaDoor
