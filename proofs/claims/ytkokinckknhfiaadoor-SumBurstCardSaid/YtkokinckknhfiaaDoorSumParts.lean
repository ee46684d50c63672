/- SumParts: the walk. -/
import Derived.Test.YtkokinckknhfiaaDoorSum
import Derived.Test.YtkokinckknhfiaaDoorOctets
set_option linter.unusedVariables false
set_option linter.unusedSimpArgs false
set_option maxRecDepth 20000
set_option maxHeartbeats 1000000
namespace Go.Proofs.YtkokinckknhfiaaDoor
open Go Go.Vm Go.Proofs

def toNats (l : List Int) : List Nat := l.map Int.toNat
theorem bytes_nats {l : List Int} (h : ∀ x ∈ l, 0 ≤ x ∧ x < 256) : bytesD l = natsD (toNats l) := by
  unfold natsD toNats
  congr 1
  rw [List.map_map]
  exact (List.map_id l).symm.trans (List.map_congr_left fun x hx => by have := h x hx; simp; omega)
theorem toNats_lt {l : List Int} (h : ∀ x ∈ l, 0 ≤ x ∧ x < 256) : ∀ b ∈ toNats l, b < 256 := by
  intro b hb
  unfold toNats at hb
  obtain ⟨x, hx, rfl⟩ := List.mem_map.1 hb
  have := h x hx; omega

theorem sumParts (a : List Int) (hwa1 : ∀ n ∈ a, (Lit.int .u8 n).wf = true) (ha1 : a.length * 1 ≤ 140737488351232) (_ : a.length ≤ 9223372036854775807) (b : List Int) (hwb1 : ∀ n ∈ b, (Lit.int .u8 n).wf = true) (hb1 : b.length * 1 ≤ 140737488351232) (_ : b.length ≤ 9223372036854775807) :
    FV Tryd.prog tabG 3 [bytesD a, bytesD b] (fun r => r = .bool true) := by
  have ha : a.length ≤ 140737488351232 := by omega
  have hb : b.length ≤ 140737488351232 := by omega
  have hwa : ∀ x ∈ a, 0 ≤ x ∧ x < 256 := fun x hx => wf_u8 (hwa1 x hx)
  have hwb : ∀ x ∈ b, 0 ≤ x ∧ x < 256 := fun x hx => wf_u8 (hwb1 x hx)
  clear hwa1 hwb1 ha1 hb1
  have ha' : (a.take 2000).length ≤ 2000 := by simp; omega
  have hb' : (b.take 2000).length ≤ 2000 := by simp; omega
  have hwa' : ∀ x ∈ a.take 2000, 0 ≤ x ∧ x < 256 := fun x hx => hwa x (List.mem_of_mem_take hx)
  have hwb' : ∀ x ∈ b.take 2000, 0 ≤ x ∧ x < 256 := fun x hx => hwb x (List.mem_of_mem_take hx)
  have hoa := octets (G := tabG) a 2000 (by omega) (by omega)
  have hob := octets (G := tabG) b 2000 (by omega) (by omega)
  generalize a.take 2000 = A at *
  generalize b.take 2000 = B at *
  have hAB : ∀ x ∈ A ++ B, 0 ≤ x ∧ x < 256 := fun x hx => (List.mem_append.1 hx).elim (hwa' x) (hwb' x)
  have hlA : (toNats A).length ≤ 2000 := by simpa [toNats] using ha'
  have hlB : (toNats B).length ≤ 2000 := by simpa [toNats] using hb'
  have hlAB : (toNats (A ++ B)).length ≤ 4000 := by simp [toNats]; omega
  have hsA := sumOf (toNats A) (toNats_lt hwa') (by omega)
  have hc0 : crcMore 0 (toNats A) < 4294967296 := crcMore_lt (by decide) (toNats_lt hwa')
  have hsB := sumMore (crcMore 0 (toNats A)) hc0 (toNats B) (toNats_lt hwb') (by omega)
  have hsAB := sumOf (toNats (A ++ B)) (toNats_lt hAB) (by omega)
  rw [← bytes_nats hwa'] at hsA
  rw [← bytes_nats hwb'] at hsB
  rw [← bytes_nats hAB] at hsAB
  have hdig := sumOf [49, 50, 51, 52, 53, 54, 55, 56, 57] (by decide) (by decide)
  rw [crc_digits] at hdig
  have happ : crcMore 0 (toNats (A ++ B)) = crcMore (crcMore 0 (toNats A)) (toNats B) := by
    rw [show toNats (A ++ B) = toNats A ++ toNats B by simp [toNats]]
    exact (crcMore_append _ _ _).symm
  refine fv_enter Tryd.func3 rfl rfl fun Q hQ => ?_
  ((repeat refine jw_seq_k fun K hK => ?_); refine jw_reg ?_; simp [Tryd.f3]; (first | (apply hK; clear hK) | (clear hK; apply hK; clear hK) | (clear hK; clear hK; apply hK; clear hK) | (clear hK; clear hK; clear hK; apply hK; clear hK) | (clear hK; clear hK; clear hK; clear hK; apply hK; clear hK) | (clear hK; clear hK; clear hK; clear hK; clear hK; apply hK; clear hK) | (clear hK; clear hK; clear hK; clear hK; clear hK; clear hK; apply hK; clear hK)))
  ((repeat refine jw_seq_k fun K hK => ?_); refine jw_c ?_; simp)
  refine jl_call (f := 7) rfl rfl rfl rfl rfl (hoa) (by simp [BelL, Bel]) ?_
  rintro r rfl
  simp
  (first | (apply hK; clear hK) | (clear hK; apply hK; clear hK) | (clear hK; clear hK; apply hK; clear hK) | (clear hK; clear hK; clear hK; apply hK; clear hK) | (clear hK; clear hK; clear hK; clear hK; apply hK; clear hK) | (clear hK; clear hK; clear hK; clear hK; clear hK; apply hK; clear hK) | (clear hK; clear hK; clear hK; clear hK; clear hK; clear hK; apply hK; clear hK))
  ((repeat refine jw_seq_k fun K hK => ?_); refine jw_c ?_; simp)
  refine jl_call (f := 7) rfl rfl rfl rfl rfl (hob) (by simp [BelL, Bel]) ?_
  rintro r rfl
  simp
  (first | (apply hK; clear hK) | (clear hK; apply hK; clear hK) | (clear hK; clear hK; apply hK; clear hK) | (clear hK; clear hK; clear hK; apply hK; clear hK) | (clear hK; clear hK; clear hK; clear hK; apply hK; clear hK) | (clear hK; clear hK; clear hK; clear hK; clear hK; apply hK; clear hK) | (clear hK; clear hK; clear hK; clear hK; clear hK; clear hK; apply hK; clear hK))
  ((repeat refine jw_seq_k fun K hK => ?_); refine jw_c ?_; simp)
  refine jl_call (f := 9) rfl rfl rfl rfl rfl (hsA) (by simp [BelL, Bel]) ?_
  rintro r rfl
  simp
  refine jl_call (f := 8) rfl rfl rfl rfl rfl (hsB) (by simp [BelL, Bel]) ?_
  rintro r rfl
  simp
  (first | (apply hK; clear hK) | (clear hK; apply hK; clear hK) | (clear hK; clear hK; apply hK; clear hK) | (clear hK; clear hK; clear hK; apply hK; clear hK) | (clear hK; clear hK; clear hK; clear hK; apply hK; clear hK) | (clear hK; clear hK; clear hK; clear hK; clear hK; apply hK; clear hK) | (clear hK; clear hK; clear hK; clear hK; clear hK; clear hK; apply hK; clear hK))
  ((repeat refine jw_seq_k fun K hK => ?_); refine jw_c ?_; simp [show A.length ≤ 140737488355328 by omega, show A.length + B.length ≤ 140737488355328 by omega])
  refine jl_wkf (List.replicate 4 .any ++ [.bool false, .any, .any, .int .i64 (crcMore (crcMore 0 (toNats A)) (toNats B) : Nat), .int .i64 0] ++ List.replicate 13 .any ++ [.bool true, .int .i64 (crcMore (crcMore 0 (toNats A)) (toNats B) : Nat), .any, .any, .any, bytesD (A ++ B)] ++ List.replicate 9 .any) ?_ ?_
  · simp [frzL_flat, flatD, List.take_of_length_le, -List.mapM_append, -List.mapM_map]
  refine jl_call (f := 9) rfl rfl rfl rfl rfl (hsAB) (by simp [BelL, Bel]) ?_
  rintro r rfl
  simp [happ]
  refine jl_wkf (List.replicate 4 .any ++ [.bool false] ++ List.replicate 26 .any ++ [.bool true, .any, bytesD ([49, 50, 51, 52, 53, 54, 55, 56, 57] : List Int)] ++ List.replicate 3 .any) ?_ ?_
  · simp [frzL_flat, flatD, List.take_of_length_le, -List.mapM_append, -List.mapM_map]
  refine jl_call (f := 9) rfl rfl rfl rfl rfl (hdig) (by simp [BelL, Bel]) ?_
  rintro r rfl
  simp
  (first | (apply hK; clear hK) | (clear hK; apply hK; clear hK) | (clear hK; clear hK; apply hK; clear hK) | (clear hK; clear hK; clear hK; apply hK; clear hK) | (clear hK; clear hK; clear hK; clear hK; apply hK; clear hK) | (clear hK; clear hK; clear hK; clear hK; clear hK; apply hK; clear hK) | (clear hK; clear hK; clear hK; clear hK; clear hK; clear hK; apply hK; clear hK))
  exact jw_ret (hQ _ _ (.inr rfl) ⟨5, _, _, rfl, rfl, rfl⟩)
end Go.Proofs.YtkokinckknhfiaaDoor
