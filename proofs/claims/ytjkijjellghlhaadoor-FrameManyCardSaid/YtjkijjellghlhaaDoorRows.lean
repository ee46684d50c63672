/-
  NARROWER THAN 'FOR EVERY INPUT', by the rows' own cells (each row's printed sentence says how): FrameBack: laid · FrameTorn: laid · FrameBurst: laid · FrameFixed: laid · FrameMany: laid.
  DERIVED. THE GIVEN ROWS OF THIS SEAT. 5 by the template 'for every input the law returns true; each argument reads behind the call as it read before'; 0 by the template 'total and deterministic' (their statements: YtjkijjellghlhaaDoorTotals.lean).
  GIVEN WITH THE SEED: the statements are not yours to turn. If you find one false, say at which input.
  Laid BY PROGRAM, IN A SANDBOX (cutbox-rows.mjs): the forced cells as the released guide's own fill.sh prints them over the translation 6e6f6f4ec3930cb9… (all of the seat's roots in one cut). By AI agents, Wed Nov 11 2026. No macro, syntax, notation, axiom, sorry.
-/
import Derived.Test.YtjkijjellghlhaaDoorChecked
import GoSem.Claim
import GoSem.ClaimJoined
import GoSem.ClaimMapViews
import Derived.JoinedTies
import Derived.KernelRfl
namespace Go.Proofs.YtjkijjellghlhaaDoor
/- THE CELL 'sum', in the pinned program and in every row, IS THE sha256 OF THE DUMP (.gsa) THAT YtjkijjellghlhaaDoorProg.lean LOADS. Nothing in Lean hashes anything: it is a label: what it is worth is what the hold of that sum in a sandbox is worth. -/
noncomputable def Tryd.pinned : Pinned := { name := "ytjkijjellghlhaadoor", sum := "6e6f6f4ec3930cb94dba4fcf40d38e6857333d1015fe949832b55af7dee155ae", checked := Tryd.checked }
namespace Rows
def none {H : Type} : Left H := { results := [], args := [] }

/- WHAT THE LISTED PACKAGE-LEVEL VARIABLES READ AS WHEN THE CALL BEGINS. Each datum BY PROGRAM (the guide's laid-datum.mjs) off the statement by which the dump's own 'gosem.cut.vars' lays the variable. In a bare row this is a premise. The card (YtjkijjellghlhaaDoorCards.lean) ties it to the program's text. -/
def laid_commonhold_sum_step {H : Type} : DataW H := .agg [.lit (.int .u32 0), .lit (.int .u32 498536548), .lit (.int .u32 997073096), .lit (.int .u32 651767980), .lit (.int .u32 1994146192), .lit (.int .u32 1802195444), .lit (.int .u32 1303535960), .lit (.int .u32 1342533948), .lit (.int .u32 3988292384), .lit (.int .u32 4027552580), .lit (.int .u32 3604390888), .lit (.int .u32 3412177804), .lit (.int .u32 2607071920), .lit (.int .u32 2262029012), .lit (.int .u32 2685067896), .lit (.int .u32 3183342108)]

/-- 'commonholdkeep.FrameBack': WHATEVER THE INPUT: true; the input reads as it did. -/
def frameBackSpec : ChangeSpec := { name := "frameBack", fn := fun _ => fun
  | [d1, d2] => { results := [.lit (.bool true)], args := [d1, d2] }
  | _ => none }
def frameBackRow : OpenClaim := { program := "ytjkijjellghlhaadoor", sum := "6e6f6f4ec3930cb94dba4fcf40d38e6857333d1015fe949832b55af7dee155ae", func := "commonhold/commonholdkeep.FrameBack", spec := "frameBack", named := ["commonhold/sum.step"], apart := false, laid := [("commonhold/sum.step", laid_commonhold_sum_step)] }
def FrameBackSaid : Prop := frameBackRow.holds Tryd.pinned (OpenSpec.ofChange frameBackSpec)

/-- ITS FALSE NEIGHBOUR: 'it returns false'. Refute it at one input. -/
def frameBackWrong : ChangeSpec := { name := "frameBack", fn := fun _ => fun
  | [d1, d2] => { results := [.lit (.bool false)], args := [d1, d2] }
  | _ => none }
def FrameBackWrongFalsely : Prop := frameBackRow.holds Tryd.pinned (OpenSpec.ofChange frameBackWrong)

/-- 'commonholdkeep.FrameTorn': WHATEVER THE INPUT: true; the input reads as it did. -/
def frameTornSpec : ChangeSpec := { name := "frameTorn", fn := fun _ => fun
  | [d1, d2] => { results := [.lit (.bool true)], args := [d1, d2] }
  | _ => none }
def frameTornRow : OpenClaim := { program := "ytjkijjellghlhaadoor", sum := "6e6f6f4ec3930cb94dba4fcf40d38e6857333d1015fe949832b55af7dee155ae", func := "commonhold/commonholdkeep.FrameTorn", spec := "frameTorn", named := ["commonhold/sum.step"], apart := false, laid := [("commonhold/sum.step", laid_commonhold_sum_step)] }
def FrameTornSaid : Prop := frameTornRow.holds Tryd.pinned (OpenSpec.ofChange frameTornSpec)

/-- ITS FALSE NEIGHBOUR: 'it returns false'. Refute it at one input. -/
def frameTornWrong : ChangeSpec := { name := "frameTorn", fn := fun _ => fun
  | [d1, d2] => { results := [.lit (.bool false)], args := [d1, d2] }
  | _ => none }
def FrameTornWrongFalsely : Prop := frameTornRow.holds Tryd.pinned (OpenSpec.ofChange frameTornWrong)

/-- 'commonholdkeep.FrameBurst': WHATEVER THE INPUT: true; the input reads as it did. -/
def frameBurstSpec : ChangeSpec := { name := "frameBurst", fn := fun _ => fun
  | [d1, d2, d3, d4] => { results := [.lit (.bool true)], args := [d1, d2, d3, d4] }
  | _ => none }
def frameBurstRow : OpenClaim := { program := "ytjkijjellghlhaadoor", sum := "6e6f6f4ec3930cb94dba4fcf40d38e6857333d1015fe949832b55af7dee155ae", func := "commonhold/commonholdkeep.FrameBurst", spec := "frameBurst", named := ["commonhold/sum.step"], apart := false, laid := [("commonhold/sum.step", laid_commonhold_sum_step)] }
def FrameBurstSaid : Prop := frameBurstRow.holds Tryd.pinned (OpenSpec.ofChange frameBurstSpec)

/-- ITS FALSE NEIGHBOUR: 'it returns false'. Refute it at one input. -/
def frameBurstWrong : ChangeSpec := { name := "frameBurst", fn := fun _ => fun
  | [d1, d2, d3, d4] => { results := [.lit (.bool false)], args := [d1, d2, d3, d4] }
  | _ => none }
def FrameBurstWrongFalsely : Prop := frameBurstRow.holds Tryd.pinned (OpenSpec.ofChange frameBurstWrong)

/-- 'commonholdkeep.FrameFixed': WHATEVER THE INPUT: true; the input reads as it did. -/
def frameFixedSpec : ChangeSpec := { name := "frameFixed", fn := fun _ => fun
  | [d] => { results := [.lit (.bool true)], args := [d] }
  | _ => none }
def frameFixedRow : OpenClaim := { program := "ytjkijjellghlhaadoor", sum := "6e6f6f4ec3930cb94dba4fcf40d38e6857333d1015fe949832b55af7dee155ae", func := "commonhold/commonholdkeep.FrameFixed", spec := "frameFixed", named := ["commonhold/sum.step"], apart := false, laid := [("commonhold/sum.step", laid_commonhold_sum_step)] }
def FrameFixedSaid : Prop := frameFixedRow.holds Tryd.pinned (OpenSpec.ofChange frameFixedSpec)

/-- ITS FALSE NEIGHBOUR: 'it returns false'. Refute it at one input. -/
def frameFixedWrong : ChangeSpec := { name := "frameFixed", fn := fun _ => fun
  | [d] => { results := [.lit (.bool false)], args := [d] }
  | _ => none }
def FrameFixedWrongFalsely : Prop := frameFixedRow.holds Tryd.pinned (OpenSpec.ofChange frameFixedWrong)

/-- 'commonholdkeep.FrameMany': WHATEVER THE INPUT: true; the input reads as it did. -/
def frameManySpec : ChangeSpec := { name := "frameMany", fn := fun _ => fun
  | [d1, d2, d3] => { results := [.lit (.bool true)], args := [d1, d2, d3] }
  | _ => none }
def frameManyRow : OpenClaim := { program := "ytjkijjellghlhaadoor", sum := "6e6f6f4ec3930cb94dba4fcf40d38e6857333d1015fe949832b55af7dee155ae", func := "commonhold/commonholdkeep.FrameMany", spec := "frameMany", named := ["commonhold/sum.step"], apart := false, laid := [("commonhold/sum.step", laid_commonhold_sum_step)] }
def FrameManySaid : Prop := frameManyRow.holds Tryd.pinned (OpenSpec.ofChange frameManySpec)

/-- ITS FALSE NEIGHBOUR: 'it returns false'. Refute it at one input. -/
def frameManyWrong : ChangeSpec := { name := "frameMany", fn := fun _ => fun
  | [d1, d2, d3] => { results := [.lit (.bool false)], args := [d1, d2, d3] }
  | _ => none }
def FrameManyWrongFalsely : Prop := frameManyRow.holds Tryd.pinned (OpenSpec.ofChange frameManyWrong)

/- THE SECOND FORM. 'bulk': how many values and letters a reading holds, each counted each time it is reached (what is shared counts as often as it is met; a slice's spare places count too). A statement '..UptoSaid' is the law's where the arguments, and the package variables that the reading takes, are together of bulk at most 1048576: NARROWER than '..Said'. Prove '..Said' where nothing that the law and all that it calls make is longer than what came in: it says more and counts as full. Else prove '..UptoSaid'. A law counts once. -/
mutual
def uptoBulk {H : Type} : DataW H → Nat
  | .lit (.string bytes) => bytes.length + 1
  | .lit _ => 1
  | .nil => 1
  | .ptr d => uptoBulk d + 1
  | .slice elems spare => uptoBulkAll elems + uptoBulkAll spare + 1
  | .agg parts => uptoBulkAll parts + 1
  | .iface _ d => uptoBulk d + 1
  | .map entries => uptoBulkEntries entries + 1
  | .held _ => 1
def uptoBulkAll {H : Type} : List (DataW H) → Nat
  | [] => 0
  | d :: r => uptoBulk d + uptoBulkAll r
def uptoBulkEntries {H : Type} : List (Lit × DataW H) → Nat
  | [] => 0
  | x :: r => uptoBulkEntry x + uptoBulkEntries r
def uptoBulkEntry {H : Type} : Lit × DataW H → Nat
  | (.string bytes, d) => bytes.length + uptoBulk d + 1
  | (_, d) => uptoBulk d + 1
 end
def uptoSmall : (H : Type) → List (DataW H) → Bool := fun _ ds => decide (uptoBulkAll ds ≤ 1048576)
def OpenSpec.upto (s : _root_.Go.ChangeSpec) : _root_.Go.OpenSpec := { _root_.Go.OpenSpec.ofChange s with cond := some uptoSmall }

/-- 'commonholdkeep.FrameBack', WHERE WHAT IT READS IS OF BULK AT MOST 1048576: true; the input reads as it did. -/
def frameBackUptoRow : OpenClaim := { program := "ytjkijjellghlhaadoor", sum := "6e6f6f4ec3930cb94dba4fcf40d38e6857333d1015fe949832b55af7dee155ae", func := "commonhold/commonholdkeep.FrameBack", spec := "frameBack", named := ["commonhold/sum.step"], apart := false, laid := [("commonhold/sum.step", laid_commonhold_sum_step)], narrowed := true }
def FrameBackUptoSaid : Prop := frameBackUptoRow.holds Tryd.pinned (OpenSpec.upto frameBackSpec)

/-- 'commonholdkeep.FrameTorn', WHERE WHAT IT READS IS OF BULK AT MOST 1048576: true; the input reads as it did. -/
def frameTornUptoRow : OpenClaim := { program := "ytjkijjellghlhaadoor", sum := "6e6f6f4ec3930cb94dba4fcf40d38e6857333d1015fe949832b55af7dee155ae", func := "commonhold/commonholdkeep.FrameTorn", spec := "frameTorn", named := ["commonhold/sum.step"], apart := false, laid := [("commonhold/sum.step", laid_commonhold_sum_step)], narrowed := true }
def FrameTornUptoSaid : Prop := frameTornUptoRow.holds Tryd.pinned (OpenSpec.upto frameTornSpec)

/-- 'commonholdkeep.FrameBurst', WHERE WHAT IT READS IS OF BULK AT MOST 1048576: true; the input reads as it did. -/
def frameBurstUptoRow : OpenClaim := { program := "ytjkijjellghlhaadoor", sum := "6e6f6f4ec3930cb94dba4fcf40d38e6857333d1015fe949832b55af7dee155ae", func := "commonhold/commonholdkeep.FrameBurst", spec := "frameBurst", named := ["commonhold/sum.step"], apart := false, laid := [("commonhold/sum.step", laid_commonhold_sum_step)], narrowed := true }
def FrameBurstUptoSaid : Prop := frameBurstUptoRow.holds Tryd.pinned (OpenSpec.upto frameBurstSpec)

/-- 'commonholdkeep.FrameFixed', WHERE WHAT IT READS IS OF BULK AT MOST 1048576: true; the input reads as it did. -/
def frameFixedUptoRow : OpenClaim := { program := "ytjkijjellghlhaadoor", sum := "6e6f6f4ec3930cb94dba4fcf40d38e6857333d1015fe949832b55af7dee155ae", func := "commonhold/commonholdkeep.FrameFixed", spec := "frameFixed", named := ["commonhold/sum.step"], apart := false, laid := [("commonhold/sum.step", laid_commonhold_sum_step)], narrowed := true }
def FrameFixedUptoSaid : Prop := frameFixedUptoRow.holds Tryd.pinned (OpenSpec.upto frameFixedSpec)

/-- 'commonholdkeep.FrameMany', WHERE WHAT IT READS IS OF BULK AT MOST 1048576: true; the input reads as it did. -/
def frameManyUptoRow : OpenClaim := { program := "ytjkijjellghlhaadoor", sum := "6e6f6f4ec3930cb94dba4fcf40d38e6857333d1015fe949832b55af7dee155ae", func := "commonhold/commonholdkeep.FrameMany", spec := "frameMany", named := ["commonhold/sum.step"], apart := false, laid := [("commonhold/sum.step", laid_commonhold_sum_step)], narrowed := true }
def FrameManyUptoSaid : Prop := frameManyUptoRow.holds Tryd.pinned (OpenSpec.upto frameManySpec)

end Rows
end Go.Proofs.YtjkijjellghlhaaDoor
