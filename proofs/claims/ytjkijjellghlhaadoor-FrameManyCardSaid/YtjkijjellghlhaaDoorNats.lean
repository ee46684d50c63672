/- Bytes as natural numbers. -/
import Derived.Test.YtjkijjellghlhaaDoorSum
import Derived.Test.YtjkijjellghlhaaDoorOctets
set_option linter.unusedVariables false
set_option linter.unusedSimpArgs false
set_option maxRecDepth 20000
set_option maxHeartbeats 1000000
namespace Go.Proofs.YtjkijjellghlhaaDoor
open Go Go.Vm Go.Proofs

def toNats (l : List Int) : List Nat := l.map Int.toNat
theorem bytes_nats {l : List Int} (h : ∀ x ∈ l, 0 ≤ x ∧ x < 256) : bytesD l = natsD (toNats l) := by
  unfold natsD toNats
  congr 1
  rw [List.map_map]
  exact (List.map_id l).symm.trans (List.map_congr_left fun x hx => by have := h x hx; simp; omega)
theorem toNats_lt {l : List Int} (h : ∀ x ∈ l, 0 ≤ x ∧ x < 256) : ∀ b ∈ toNats l, b < 256 := by
  intro b hb
  unfold toNats at hb
  obtain ⟨x, hx, rfl⟩ := List.mem_map.1 hb
  have := h x hx; omega

theorem nats_of {l : List Int} (h : ∀ n ∈ l, (Lit.int .u8 n).wf = true) : ∃ L : List Nat, l = L.map (fun n : Nat => (n : Int)) ∧ (∀ x ∈ L, x < 256) ∧ L.length = l.length := by
  refine ⟨toNats l, ?_, toNats_lt fun x hx => wf_u8 (h x hx), by simp [toNats]⟩
  unfold toNats
  rw [List.map_map]
  exact (List.map_id l).symm.trans (List.map_congr_left fun x hx => by have := wf_u8 (h x hx); simp; omega)

theorem octetsN {G : Globals} (l : List Nat) (n : Nat) (hl : l.length ≤ 140737488355328) (hn : n ≤ 9223372036854775807) : FV Tryd.prog G 8 [natsD l, .int .i64 n] (fun r => r = natsD (l.take n)) := by
  have := octets (G := G) (l.map fun n : Nat => (n : Int)) n (by simpa using hl) hn
  rw [← List.map_take] at this
  exact this

end Go.Proofs.YtjkijjellghlhaaDoor
