/- What the listed variables of utf8 hold, from the row's condition. -/
import Derived.Test.YtmgoekfgdgejiaaDoorRows
import Derived.Test.YtmgoekfgdgejiaaDoorUtf
import Derived.Test.YtmgoekfgdgejiaaDoorVmLaid
set_option linter.unusedVariables false
set_option linter.unusedSimpArgs false
set_option maxRecDepth 20000
set_option maxHeartbeats 20000000
namespace Go.Proofs.YtmgoekfgdgejiaaDoor
open Go Go.Vm Go.Proofs

theorem utfG_met {l : List (String × DataW Unit)} (hl : ("unicode/utf8.first", Rows.laid_unicode_utf8_first) ∈ l ∧ ("unicode/utf8.acceptRanges", Rows.laid_unicode_utf8_acceptRanges) ∈ l) (W : World) (h : laidMet Tryd.prog l W) : ∀ x cs, (x, cs) ∈ utfG →
    x < W.heap.size ∧ BelL 0 cs ∧ ∃ us, RepL Tryd.prog ⟨[], [], W, fun _ => False⟩ us cs ∧ CellsAt W x 0 us := by
  obtain ⟨hl1, hl2⟩ := hl
  intro x cs hm
  rcases List.mem_cons.1 hm with e | hm
  · obtain ⟨rfl, rfl⟩ := Prod.mk.inj e
    have e : (Rows.laid_unicode_utf8_first : DataW Unit) = .agg (utfFirst.map fun x => .lit (.int .u8 x)) := by kernel_rfl
    rw [e] at hl1
    exact glob_nums (t := 81) (e := 5) (N := 256) h hl1 ((by kernel_rfl : Tryd.prog.globalNamed "unicode/utf8.first" = some 0)) (by kernel_rfl) (by kernel_rfl) (by kernel_rfl) (by kernel_rfl) (by kernel_rfl)
  · rcases List.mem_cons.1 hm with e | hm
    · obtain ⟨rfl, rfl⟩ := Prod.mk.inj e
      have e : (Rows.laid_unicode_utf8_acceptRanges : DataW Unit) = .agg (utfAcc.map fun x => .agg [.lit (.int .u8 x.1), .lit (.int .u8 x.2)]) := by kernel_rfl
      rw [e] at hl2
      exact glob_pairs (t := 84) (e := 83) (u := 5) (N := 16) (f0 := _) (f1 := _) h hl2 ((by kernel_rfl : Tryd.prog.globalNamed "unicode/utf8.acceptRanges" = some 1)) (by kernel_rfl) (by kernel_rfl) Tryd.underlying83 ⟨rfl, rfl⟩ ⟨rfl, rfl⟩ (by kernel_rfl) (by kernel_rfl) (by kernel_rfl) (by kernel_rfl)
    · cases hm
end Go.Proofs.YtmgoekfgdgejiaaDoor
