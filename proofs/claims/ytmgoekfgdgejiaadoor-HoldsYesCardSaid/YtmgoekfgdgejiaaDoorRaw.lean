/- A Raw, as the row reads it; that texts are valid. -/
import Derived.Test.YtmgoekfgdgejiaaDoorUtf
import Derived.Test.YtmgoekfgdgejiaaDoorOrder
set_option linter.unusedVariables false
set_option linter.unusedSimpArgs false
set_option maxRecDepth 20000
set_option maxHeartbeats 20000000
namespace Go.Proofs.YtmgoekfgdgejiaaDoor
open Go Go.Vm Go.Proofs

abbrev RawP : List (List D → Prop) := [fun ds => ∃ n, (Lit.int .i64 n).wf = true ∧ ds = [.int .i64 n], fun ds => ∃ n, (Lit.int .i64 n).wf = true ∧ ds = [.int .i64 n], fun ds => ∃ s : ByteArray, s.size ≤ 140737488351232 ∧ ds = [.str s]]
theorem raw_of {a : List D} (h : Parts RawP a) : ∃ (k i : Int) (s : ByteArray), (Lit.int .i64 k).wf = true ∧ (Lit.int .i64 i).wf = true ∧ s.size ≤ 140737488351232 ∧ a = [.int .i64 k, .int .i64 i, .str s] := by
  obtain ⟨_, _, ⟨k, hk, rfl⟩, ⟨_, _, ⟨i, hi, rfl⟩, ⟨_, _, ⟨s, hs, rfl⟩, rfl, rfl⟩, rfl⟩, rfl⟩ := h
  exact ⟨k, i, s, hk, hi, hs, rfl⟩
theorem vstr : VStr utfG := by
  intro L hL hl
  refine (validStrF (bytesS L) (by rw [bytesS_size]; omega)).mono ?_
  rintro r rfl
  rw [bytesS_toList, hL.2]
end Go.Proofs.YtmgoekfgdgejiaaDoor
