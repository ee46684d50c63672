/- The checksum in plain numbers. -/
import Derived.Laws.BitsAllLaws
set_option linter.unusedVariables false
set_option linter.unusedSimpArgs false
set_option maxRecDepth 20000
set_option maxHeartbeats 1000000
namespace Go.Proofs.YtjkijjellghlhaaDoor

def crcTab : List Nat := [0, 498536548, 997073096, 651767980, 1994146192, 1802195444, 1303535960, 1342533948, 3988292384, 4027552580, 3604390888, 3412177804, 2607071920, 2262029012, 2685067896, 3183342108]
def nib (c : Nat) : Nat := (c / 16) ^^^ crcTab.getD (c % 16) 0
def byteStep (c b : Nat) : Nat := nib (nib (c ^^^ b))
def crcRaw (c : Nat) (l : List Nat) : Nat := l.foldl byteStep c
def crcMore (c : Nat) (l : List Nat) : Nat := 4294967295 ^^^ crcRaw (4294967295 ^^^ c) l

theorem tab_lt (i : Nat) : crcTab.getD i 0 < 4294967296 := by
  by_cases h : i < 16
  · have : ∀ j : Fin 16, crcTab.getD j.val 0 < 4294967296 := by decide
    exact this ⟨i, h⟩
  · rw [List.getD_eq_getElem?_getD, List.getElem?_eq_none (by simp [crcTab]; omega)]; decide
theorem nib_lt {c : Nat} (h : c < 4294967296) : nib c < 4294967296 :=
  Nat.xor_lt_two_pow (n := 32) (by omega) (tab_lt _)
theorem byteStep_lt {c b : Nat} (h : c < 4294967296) (hb : b < 256) : byteStep c b < 4294967296 :=
  nib_lt (nib_lt (Nat.xor_lt_two_pow (n := 32) h (by omega)))
theorem crcRaw_lt : ∀ {l : List Nat} {c : Nat}, c < 4294967296 → (∀ b ∈ l, b < 256) → crcRaw c l < 4294967296
  | [], _, h, _ => h
  | b :: l, c, h, hl => crcRaw_lt (l := l) (byteStep_lt h (hl b (by simp))) fun x hx => hl x (by simp [hx])
theorem crcMore_lt {l : List Nat} {c : Nat} (h : c < 4294967296) (hl : ∀ b ∈ l, b < 256) : crcMore c l < 4294967296 :=
  Nat.xor_lt_two_pow (n := 32) (by decide) (crcRaw_lt (Nat.xor_lt_two_pow (n := 32) (by decide) h) hl)
theorem crcMore_append (c : Nat) (a b : List Nat) : crcMore (crcMore c a) b = crcMore c (a ++ b) := by
  unfold crcMore
  rw [← Nat.xor_assoc, Nat.xor_self, Nat.zero_xor]
  unfold crcRaw
  rw [List.foldl_append]
theorem crc_digits : crcMore 0 [49, 50, 51, 52, 53, 54, 55, 56, 57] = 3421780262 := by decide +kernel

/-! ### The table is linear, so is the sum -/
theorem tab_xor (i j : Nat) (hi : i < 16) (hj : j < 16) : crcTab.getD (i ^^^ j) 0 = crcTab.getD i 0 ^^^ crcTab.getD j 0 := by
  have : ∀ a b : Fin 16, crcTab.getD (a.val ^^^ b.val) 0 = crcTab.getD a.val 0 ^^^ crcTab.getD b.val 0 := by decide +kernel
  exact this ⟨i, hi⟩ ⟨j, hj⟩
theorem nib_xor (x y : Nat) : nib (x ^^^ y) = nib x ^^^ nib y := by
  unfold nib
  have h1 : (x ^^^ y) / 16 = x / 16 ^^^ y / 16 := by
    have := Nat.shiftRight_xor_distrib (a := x) (b := y) (i := 4)
    simpa [Nat.shiftRight_eq_div_pow] using this
  have h2 : (x ^^^ y) % 16 = x % 16 ^^^ y % 16 := Nat.xor_mod_two_pow (n := 4)
  rw [h1, h2, tab_xor _ _ (Nat.mod_lt _ (by decide)) (Nat.mod_lt _ (by decide))]
  ac_rfl
theorem byteStep_xor (c d a b : Nat) : byteStep (c ^^^ d) (a ^^^ b) = byteStep c a ^^^ byteStep d b := by
  unfold byteStep
  rw [show c ^^^ d ^^^ (a ^^^ b) = (c ^^^ a) ^^^ (d ^^^ b) by ac_rfl, nib_xor, nib_xor]
end Go.Proofs.YtjkijjellghlhaaDoor
