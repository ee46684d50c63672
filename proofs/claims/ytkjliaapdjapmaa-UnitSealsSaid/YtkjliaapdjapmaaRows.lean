/-
  No cell of these rows narrows 'for every input' (looked for: loops, veiled, ifaces, maps, wideKeys, modest, calm, conditions, laid).
  DERIVED. THE GIVEN ROWS OF THIS SEAT. 5 by the template 'for every input the law returns true; each argument reads behind the call as it read before'; 0 by the template 'total and deterministic' (their statements: YtkjliaapdjapmaaTotals.lean).
  GIVEN WITH THE SEED: the statements are not yours to turn. If you find one false, say at which input.
  Laid BY PROGRAM, IN A SANDBOX (cutbox-rows.mjs): the forced cells as the released guide's own fill.sh prints them over the translation 3bb578d28df5e331… (all of the seat's roots in one cut). By AI agents, Wed Nov 11 2026. No macro, syntax, notation, axiom, sorry.
-/
import Derived.Test.YtkjliaapdjapmaaChecked
import GoSem.Claim
import GoSem.ClaimJoined
import GoSem.ClaimMapViews
import Derived.JoinedTies
import Derived.KernelRfl
namespace Go.Proofs.Ytkjliaapdjapmaa
/- THE CELL 'sum', in the pinned program and in every row, IS THE sha256 OF THE DUMP (.gsa) THAT YtkjliaapdjapmaaProg.lean LOADS. Nothing in Lean hashes anything: it is a label: what it is worth is what the hold of that sum in a sandbox is worth. -/
noncomputable def Try.pinned : Pinned := { name := "ytkjliaapdjapmaa", sum := "3bb578d28df5e3314ae54231aacc5c74d178fb222e56e98bcbadffc13d5da6cc", checked := Try.checked }
namespace Rows
def none {H : Type} : Left H := { results := [], args := [] }

/-- 'commonholdkeep.UnitOnce': WHATEVER THE INPUT: true; the input reads as it did. -/
def unitOnceSpec : ChangeSpec := { name := "unitOnce", fn := fun _ => fun
  | [d] => { results := [.lit (.bool true)], args := [d] }
  | _ => none }
def unitOnceRow : OpenClaim := { program := "ytkjliaapdjapmaa", sum := "3bb578d28df5e3314ae54231aacc5c74d178fb222e56e98bcbadffc13d5da6cc", func := "commonhold/commonholdkeep.UnitOnce", spec := "unitOnce", unfollowed := true, recurses := true, apart := false }
def UnitOnceSaid : Prop := unitOnceRow.holds Try.pinned (OpenSpec.ofChange unitOnceSpec)

/-- ITS FALSE NEIGHBOUR: 'it returns false'. Refute it at one input. -/
def unitOnceWrong : ChangeSpec := { name := "unitOnce", fn := fun _ => fun
  | [d] => { results := [.lit (.bool false)], args := [d] }
  | _ => none }
def UnitOnceWrongFalsely : Prop := unitOnceRow.holds Try.pinned (OpenSpec.ofChange unitOnceWrong)

/-- 'commonholdkeep.UnitSeals': WHATEVER THE INPUT: true; the input reads as it did. -/
def unitSealsSpec : ChangeSpec := { name := "unitSeals", fn := fun _ => fun
  | [d1, d2, d3] => { results := [.lit (.bool true)], args := [d1, d2, d3] }
  | _ => none }
def unitSealsRow : OpenClaim := { program := "ytkjliaapdjapmaa", sum := "3bb578d28df5e3314ae54231aacc5c74d178fb222e56e98bcbadffc13d5da6cc", func := "commonhold/commonholdkeep.UnitSeals", spec := "unitSeals", unfollowed := true, recurses := true, apart := false }
def UnitSealsSaid : Prop := unitSealsRow.holds Try.pinned (OpenSpec.ofChange unitSealsSpec)

/-- ITS FALSE NEIGHBOUR: 'it returns false'. Refute it at one input. -/
def unitSealsWrong : ChangeSpec := { name := "unitSeals", fn := fun _ => fun
  | [d1, d2, d3] => { results := [.lit (.bool false)], args := [d1, d2, d3] }
  | _ => none }
def UnitSealsWrongFalsely : Prop := unitSealsRow.holds Try.pinned (OpenSpec.ofChange unitSealsWrong)

/-- 'commonholdkeep.UnitTorn': WHATEVER THE INPUT: true; the input reads as it did. -/
def unitTornSpec : ChangeSpec := { name := "unitTorn", fn := fun _ => fun
  | [d1, d2, d3, d4] => { results := [.lit (.bool true)], args := [d1, d2, d3, d4] }
  | _ => none }
def unitTornRow : OpenClaim := { program := "ytkjliaapdjapmaa", sum := "3bb578d28df5e3314ae54231aacc5c74d178fb222e56e98bcbadffc13d5da6cc", func := "commonhold/commonholdkeep.UnitTorn", spec := "unitTorn", unfollowed := true, recurses := true, apart := false }
def UnitTornSaid : Prop := unitTornRow.holds Try.pinned (OpenSpec.ofChange unitTornSpec)

/-- ITS FALSE NEIGHBOUR: 'it returns false'. Refute it at one input. -/
def unitTornWrong : ChangeSpec := { name := "unitTorn", fn := fun _ => fun
  | [d1, d2, d3, d4] => { results := [.lit (.bool false)], args := [d1, d2, d3, d4] }
  | _ => none }
def UnitTornWrongFalsely : Prop := unitTornRow.holds Try.pinned (OpenSpec.ofChange unitTornWrong)

/-- 'commonholdkeep.UnitTail': WHATEVER THE INPUT: true; the input reads as it did. -/
def unitTailSpec : ChangeSpec := { name := "unitTail", fn := fun _ => fun
  | [d] => { results := [.lit (.bool true)], args := [d] }
  | _ => none }
def unitTailRow : OpenClaim := { program := "ytkjliaapdjapmaa", sum := "3bb578d28df5e3314ae54231aacc5c74d178fb222e56e98bcbadffc13d5da6cc", func := "commonhold/commonholdkeep.UnitTail", spec := "unitTail", unfollowed := true, recurses := true, apart := false }
def UnitTailSaid : Prop := unitTailRow.holds Try.pinned (OpenSpec.ofChange unitTailSpec)

/-- ITS FALSE NEIGHBOUR: 'it returns false'. Refute it at one input. -/
def unitTailWrong : ChangeSpec := { name := "unitTail", fn := fun _ => fun
  | [d] => { results := [.lit (.bool false)], args := [d] }
  | _ => none }
def UnitTailWrongFalsely : Prop := unitTailRow.holds Try.pinned (OpenSpec.ofChange unitTailWrong)

/-- 'commonholdkeep.UnitFirst': WHATEVER THE INPUT: true; the input reads as it did. -/
def unitFirstSpec : ChangeSpec := { name := "unitFirst", fn := fun _ => fun
  | [d1, d2, d3, d4, d5] => { results := [.lit (.bool true)], args := [d1, d2, d3, d4, d5] }
  | _ => none }
def unitFirstRow : OpenClaim := { program := "ytkjliaapdjapmaa", sum := "3bb578d28df5e3314ae54231aacc5c74d178fb222e56e98bcbadffc13d5da6cc", func := "commonhold/commonholdkeep.UnitFirst", spec := "unitFirst", unfollowed := true, recurses := true, apart := false }
def UnitFirstSaid : Prop := unitFirstRow.holds Try.pinned (OpenSpec.ofChange unitFirstSpec)

/-- ITS FALSE NEIGHBOUR: 'it returns false'. Refute it at one input. -/
def unitFirstWrong : ChangeSpec := { name := "unitFirst", fn := fun _ => fun
  | [d1, d2, d3, d4, d5] => { results := [.lit (.bool false)], args := [d1, d2, d3, d4, d5] }
  | _ => none }
def UnitFirstWrongFalsely : Prop := unitFirstRow.holds Try.pinned (OpenSpec.ofChange unitFirstWrong)

/- THE SECOND FORM. 'bulk': how many values and letters a reading holds, each counted each time it is reached (what is shared counts as often as it is met; a slice's spare places count too). A statement '..UptoSaid' is the law's where the arguments, and the package variables that the reading takes, are together of bulk at most 1048576: NARROWER than '..Said'. Prove '..Said' where nothing that the law and all that it calls make is longer than what came in: it says more and counts as full. Else prove '..UptoSaid'. A law counts once. -/
mutual
def uptoBulk {H : Type} : DataW H → Nat
  | .lit (.string bytes) => bytes.length + 1
  | .lit _ => 1
  | .nil => 1
  | .ptr d => uptoBulk d + 1
  | .slice elems spare => uptoBulkAll elems + uptoBulkAll spare + 1
  | .agg parts => uptoBulkAll parts + 1
  | .iface _ d => uptoBulk d + 1
  | .map entries => uptoBulkEntries entries + 1
  | .held _ => 1
def uptoBulkAll {H : Type} : List (DataW H) → Nat
  | [] => 0
  | d :: r => uptoBulk d + uptoBulkAll r
def uptoBulkEntries {H : Type} : List (Lit × DataW H) → Nat
  | [] => 0
  | x :: r => uptoBulkEntry x + uptoBulkEntries r
def uptoBulkEntry {H : Type} : Lit × DataW H → Nat
  | (.string bytes, d) => bytes.length + uptoBulk d + 1
  | (_, d) => uptoBulk d + 1
 end
def uptoSmall : (H : Type) → List (DataW H) → Bool := fun _ ds => decide (uptoBulkAll ds ≤ 1048576)
def OpenSpec.upto (s : _root_.Go.ChangeSpec) : _root_.Go.OpenSpec := { _root_.Go.OpenSpec.ofChange s with cond := some uptoSmall }

/-- 'commonholdkeep.UnitOnce', WHERE WHAT IT READS IS OF BULK AT MOST 1048576: true; the input reads as it did. -/
def unitOnceUptoRow : OpenClaim := { program := "ytkjliaapdjapmaa", sum := "3bb578d28df5e3314ae54231aacc5c74d178fb222e56e98bcbadffc13d5da6cc", func := "commonhold/commonholdkeep.UnitOnce", spec := "unitOnce", unfollowed := true, recurses := true, apart := false, narrowed := true }
def UnitOnceUptoSaid : Prop := unitOnceUptoRow.holds Try.pinned (OpenSpec.upto unitOnceSpec)

/-- 'commonholdkeep.UnitSeals', WHERE WHAT IT READS IS OF BULK AT MOST 1048576: true; the input reads as it did. -/
def unitSealsUptoRow : OpenClaim := { program := "ytkjliaapdjapmaa", sum := "3bb578d28df5e3314ae54231aacc5c74d178fb222e56e98bcbadffc13d5da6cc", func := "commonhold/commonholdkeep.UnitSeals", spec := "unitSeals", unfollowed := true, recurses := true, apart := false, narrowed := true }
def UnitSealsUptoSaid : Prop := unitSealsUptoRow.holds Try.pinned (OpenSpec.upto unitSealsSpec)

/-- 'commonholdkeep.UnitTorn', WHERE WHAT IT READS IS OF BULK AT MOST 1048576: true; the input reads as it did. -/
def unitTornUptoRow : OpenClaim := { program := "ytkjliaapdjapmaa", sum := "3bb578d28df5e3314ae54231aacc5c74d178fb222e56e98bcbadffc13d5da6cc", func := "commonhold/commonholdkeep.UnitTorn", spec := "unitTorn", unfollowed := true, recurses := true, apart := false, narrowed := true }
def UnitTornUptoSaid : Prop := unitTornUptoRow.holds Try.pinned (OpenSpec.upto unitTornSpec)

/-- 'commonholdkeep.UnitTail', WHERE WHAT IT READS IS OF BULK AT MOST 1048576: true; the input reads as it did. -/
def unitTailUptoRow : OpenClaim := { program := "ytkjliaapdjapmaa", sum := "3bb578d28df5e3314ae54231aacc5c74d178fb222e56e98bcbadffc13d5da6cc", func := "commonhold/commonholdkeep.UnitTail", spec := "unitTail", unfollowed := true, recurses := true, apart := false, narrowed := true }
def UnitTailUptoSaid : Prop := unitTailUptoRow.holds Try.pinned (OpenSpec.upto unitTailSpec)

/-- 'commonholdkeep.UnitFirst', WHERE WHAT IT READS IS OF BULK AT MOST 1048576: true; the input reads as it did. -/
def unitFirstUptoRow : OpenClaim := { program := "ytkjliaapdjapmaa", sum := "3bb578d28df5e3314ae54231aacc5c74d178fb222e56e98bcbadffc13d5da6cc", func := "commonhold/commonholdkeep.UnitFirst", spec := "unitFirst", unfollowed := true, recurses := true, apart := false, narrowed := true }
def UnitFirstUptoSaid : Prop := unitFirstUptoRow.holds Try.pinned (OpenSpec.upto unitFirstSpec)

end Rows
end Go.Proofs.Ytkjliaapdjapmaa
