/- A Wish, as the row reads it. -/
import Derived.Test.YthaidogcgjnhcaaIntentOf
import Derived.Test.YthaidogcgjnhcaaVmRow
set_option linter.unusedVariables false
set_option linter.unusedSimpArgs false
set_option maxRecDepth 20000
set_option maxHeartbeats 20000000
namespace Go.Proofs.Ythaidogcgjnhcaa
open Go Go.Vm Go.Proofs

abbrev IntP : List D → Prop := fun ds => ∃ n, (Lit.int .i64 n).wf = true ∧ ds = [.int .i64 n]
abbrev IntsP : List D → Prop := fun ds => ∃ ls, Vm.Rows IntP ls ∧ ls.length * 8 ≤ 140737488351232 ∧ ls.length ≤ 9223372036854775807 ∧ ds = [.sl false ls.flatten ls.length]
abbrev BoolP : List D → Prop := fun ds => ∃ b, ds = [.bool b]
abbrev WishP : List (List D → Prop) := [IntP, IntP, IntP, IntsP, IntsP, BoolP]
theorem ints_of {ds : List D} (h : IntsP ds) : ∃ l : List Int, (∀ x ∈ l, -9223372036854775808 ≤ x ∧ x ≤ 9223372036854775807) ∧ l.length ≤ 140737488351232 ∧ ds = [numsD .i64 l] := by
  obtain ⟨ls, h1, h2, h3, rfl⟩ := h
  obtain ⟨l, k1, k2, k3⟩ := rows_ints h1
  exact ⟨l, fun x hx => wf_i64 (k1 x hx), by omega, by rw [k2, k3]; rfl⟩
theorem wish_of {a : List D} (h : Parts WishP a) : ∃ (c n b : Int) (rs ws : List Int) (g : Bool), rs.length ≤ 140737488351232 ∧ (∀ x ∈ rs, -9223372036854775808 ≤ x ∧ x ≤ 9223372036854775807) ∧ ws.length ≤ 140737488351232 ∧ D.agg a = wishD c n b rs ws g := by
  obtain ⟨_, _, ⟨c, _, rfl⟩, ⟨_, _, ⟨n, _, rfl⟩, ⟨_, _, ⟨b, _, rfl⟩, ⟨_, _, hr, ⟨_, _, hw, ⟨_, _, ⟨g, rfl⟩, rfl, rfl⟩, rfl⟩, rfl⟩, rfl⟩, rfl⟩, rfl⟩ := h
  obtain ⟨rs, r1, r2, rfl⟩ := ints_of hr
  obtain ⟨ws, w1, w2, rfl⟩ := ints_of hw
  exact ⟨c, n, b, rs, ws, g, r2, r1, w2, rfl⟩
end Go.Proofs.Ythaidogcgjnhcaa
