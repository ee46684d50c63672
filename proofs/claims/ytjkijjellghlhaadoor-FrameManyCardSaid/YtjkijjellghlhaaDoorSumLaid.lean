/- What the listed variable holds, from the row's condition. -/
import Derived.Test.YtjkijjellghlhaaDoorRows
import Derived.Test.YtjkijjellghlhaaDoorSum
import Derived.Test.YtjkijjellghlhaaDoorVmLaid
set_option linter.unusedVariables false
set_option linter.unusedSimpArgs false
set_option maxRecDepth 20000
set_option maxHeartbeats 1000000
namespace Go.Proofs.YtjkijjellghlhaaDoor
open Go Go.Vm Go.Proofs

theorem tabG_met {l : List (String × DataW Unit)} (hl : ("commonhold/sum.step", Rows.laid_commonhold_sum_step) ∈ l) (W : World) (h : laidMet Tryd.prog l W) : ∀ x cs, (x, cs) ∈ tabG →
    x < W.heap.size ∧ BelL 0 cs ∧ ∃ us, RepL Tryd.prog ⟨[], [], W, fun _ => False⟩ us cs ∧ CellsAt W x 0 us := by
  intro x cs hm
  have hm2 : (x, cs) = (0, (crcTab.map fun n : Nat => (n : Int)).map (D.int .u32)) := by simpa [tabG] using hm
  obtain ⟨rfl, rfl⟩ := Prod.mk.inj hm2
  have e : (Rows.laid_commonhold_sum_step : DataW Unit) = .agg ((crcTab.map fun n : Nat => (n : Int)).map fun x => .lit (.int .u32 x)) := rfl
  rw [e] at hl
  refine glob_nums (t := 52) (e := 51) (N := 16) h hl ((by kernel_rfl : Tryd.prog.globalNamed "commonhold/sum.step" = some 0)) (by kernel_rfl) (by kernel_rfl) (by kernel_rfl) (by kernel_rfl) (by kernel_rfl)
end Go.Proofs.YtjkijjellghlhaaDoor
