/- utf8.ValidString, from the shelf's contract: over what the two tables hold. -/
import Derived.Test.YtmgoekfgdgejiaaDoorShelf
import Derived.Test.YtmgoekfgdgejiaaDoorVa
set_option linter.unusedVariables false
set_option linter.unusedSimpArgs false
set_option maxRecDepth 20000
set_option maxHeartbeats 20000000
namespace Go.Proofs.YtmgoekfgdgejiaaDoor
open Go Go.Vm Go.Proofs

def utfFirst : List Int := (List.range 256).map fun c => (Lib.firstT c : Int)
def utfAcc : List (Int × Int) := (List.range 16).map fun i => ((Lib.accLo i : Int), (Lib.accHi i : Int))
def utfG : Globals := [(0, utfFirst.map (D.int .u8)), (1, utfAcc.flatMap fun x => [D.int .u8 x.1, D.int .u8 x.2])]

theorem repL_ints {g : Sg} {k : IntKind} : ∀ {ns : List Int} {xs : List Value}, RepL Tryd.prog g xs (ns.map (D.int k)) → xs = ns.map (Value.int k)
  | [], _, .nil => rfl
  | n :: ns, _, .cons _ _ _ _ (.int _ _) t => by rw [repL_ints t]; rfl

theorem cell_of {w : World} {b : Nat} {xs : List Value} (h : CellsAt w b 0 xs) {i : Nat} {v : Value} (hi : xs[i]? = some v) : w.cell? ⟨b, i, none⟩ = some v := by
  have := h i v hi
  simpa using this

theorem flat_ints {l : List (Int × Int)} : (l.flatMap fun x => [D.int .u8 x.1, D.int .u8 x.2]) = (l.flatMap fun x => [x.1, x.2]).map (D.int .u8) := by
  induction l with
  | nil => rfl
  | cons x l ih => simp [ih]

theorem tabs_of {w0 : World} {B : Nat} {g : Sg} (hG : Vm.Good Tryd.prog utfG w0 B g) : Lib.Utf8Tabs 0 1 g.w := by
  obtain ⟨_, _, _, xs, h1, h2⟩ := hG.glob 0 (utfFirst.map (D.int .u8)) (List.mem_cons_self ..)
  obtain ⟨_, _, _, us, h3, h4⟩ := hG.glob 1 (utfAcc.flatMap fun x => [D.int .u8 x.1, D.int .u8 x.2]) (List.mem_cons_of_mem _ (List.mem_cons_self ..))
  rw [flat_ints] at h3
  have e1 := repL_ints h1
  have e2 := repL_ints h3
  subst e1 e2
  refine ⟨fun c hc => cell_of h2 ?_, fun i hi => ⟨cell_of h4 ?_, cell_of h4 ?_⟩⟩
  · rw [List.getElem?_map, utfFirst, List.getElem?_map, List.getElem?_range hc]; rfl
  · have : ∀ i : Fin 16, ((utfAcc.flatMap fun x => [x.1, x.2]).map (Value.int .u8))[2 * i.val]? = some (.int .u8 (Lib.accLo i.val)) := by
      intro i
      rw [List.getElem?_map]
      have h : ∀ i : Fin 16, (utfAcc.flatMap fun x => [x.1, x.2])[2 * i.val]? = some (Lib.accLo i.val : Int) := by decide +kernel
      rw [h i]; rfl
    exact this ⟨i, hi⟩
  · have : ∀ i : Fin 16, ((utfAcc.flatMap fun x => [x.1, x.2]).map (Value.int .u8))[2 * i.val + 1]? = some (.int .u8 (Lib.accHi i.val)) := by
      intro i
      rw [List.getElem?_map]
      have h : ∀ i : Fin 16, (utfAcc.flatMap fun x => [x.1, x.2])[2 * i.val + 1]? = some (Lib.accHi i.val : Int) := by decide +kernel
      rw [h i]; rfl
    exact this ⟨i, hi⟩

theorem validStrF (s : ByteArray) (hs : s.size ≤ 9223372036854775807) : FV Tryd.prog utfG 27 [.str s] (fun r => r = .bool (Lib.validD s.data.toList)) := by
  refine ⟨⟨_, Tryd.func27, rfl, by kernel_rfl⟩, fun w0 B X φ w xs hG hr => ?_⟩
  cases hr with
  | cons v _ xs _ h t =>
    cases t
    cases h
    refine (Any.utf8_ValidString Tryd.lays196 s w hs (tabs_of hG)).mono ?_
    rintro e w' ⟨rfl, hb⟩
    obtain ⟨h1, h2⟩ := good_keeps hG hb
    exact ⟨_, _, _, _, rfl, ⟨rfl, rfl⟩, h1, h2, .bool _⟩
end Go.Proofs.YtmgoekfgdgejiaaDoor
