/- TreeTells: what the seven deeds say. Plain law (hoist) -/
import Derived.Test.YtibcjkklgifgmaaTreeDs
import Derived.Test.YtibcjkklgifgmaaVmRow
set_option linter.unusedVariables false
set_option linter.unusedSimpArgs false
set_option maxRecDepth 20000
set_option maxHeartbeats 20000000
namespace Go.Proofs.Ytibcjkklgifgmaa
open Go Go.Vm Go.Proofs

theorem at_cons (x : En) (xs : List En) (k : List Int) : atE (x :: xs) k = if cmpL x.k k < 0 then atE xs k + 1 else 0 := by
  unfold atE
  rw [List.takeWhile_cons]
  by_cases h : cmpL x.k k < 0 <;> simp [h]
theorem atF_cons (x : En) (xs : List En) (k : List Int) : atF (x :: xs) k = if cmpL x.k k < 0 then atF xs k else decide (cmpL x.k k = 0) := by
  unfold atF
  rw [at_cons]
  by_cases h : cmpL x.k k < 0 <;> simp [h]
theorem ins_nil (e : En) : ins [] e = [e] := by simp [ins, atE]
theorem ins_cons (x : En) (xs : List En) (e : En) : ins (x :: xs) e = if cmpL x.k e.k < 0 then x :: ins xs e else if cmpL x.k e.k = 0 then e :: xs else e :: x :: xs := by
  unfold ins
  rw [at_cons, atF_cons]
  by_cases h : cmpL x.k e.k < 0
  · simp only [if_pos h, List.take_succ_cons, List.cons_append]
    rw [show atE xs e.k + 1 + (atF xs e.k).toNat = atE xs e.k + (atF xs e.k).toNat + 1 by omega, List.drop_succ_cons]
  · by_cases h0 : cmpL x.k e.k = 0
    · simp [h0]
    · simp [h, h0]
/-- Two that differ may be put in either order. -/
theorem ins_comm : ∀ (es : List En) {a b : En}, cmpL a.k b.k ≠ 0 → ins (ins es a) b = ins (ins es b) a
  | [], a, b, h => by
    have h2 := cmpL_anti a.k b.k
    rw [ins_nil, ins_nil, ins_cons, ins_cons, ins_nil, ins_nil]
    by_cases h1 : cmpL a.k b.k < 0
    · rw [if_pos h1, if_neg (by omega), if_neg (by omega)]
    · rw [if_neg h1, if_neg h, if_pos (by omega)]
  | x :: xs, a, b, h => by
    have h2 := cmpL_anti a.k b.k
    have ax := cmpL_anti a.k x.k
    have bx := cmpL_anti b.k x.k
    rw [ins_cons x xs a, ins_cons x xs b]
    by_cases xa : cmpL x.k a.k < 0
    · rw [if_pos xa]
      by_cases xb : cmpL x.k b.k < 0
      · rw [if_pos xb, ins_cons, if_pos xb, ins_cons, if_pos xa, ins_comm xs h]
      · rw [if_neg xb, ins_cons, if_neg xb]
        by_cases eb : cmpL x.k b.k = 0
        · rw [if_pos eb, if_pos eb, ins_cons, if_pos (by rw [← cmpL_zero_l a.k eb]; exact xa)]
        · have : cmpL b.k a.k < 0 := cmpL_lt (b := x.k) (by omega) (Int.le_of_lt xa)
          rw [if_neg eb, if_neg eb, ins_cons, if_pos this, ins_cons, if_pos xa]
    · rw [if_neg xa]
      by_cases ea : cmpL x.k a.k = 0
      · rw [if_pos ea]
        have e1 := cmpL_zero_l b.k ea
        by_cases xb : cmpL x.k b.k < 0
        · rw [if_pos xb, ins_cons, if_pos (by omega), ins_cons, if_neg xa, if_pos ea]
        · rw [if_neg xb, if_neg (by omega), ins_cons, if_neg (by omega), if_neg h, ins_cons, if_pos (by omega), ins_cons, if_neg xa, if_pos ea]
      · rw [if_neg ea]
        by_cases xb : cmpL x.k b.k < 0
        · have : cmpL a.k b.k < 0 := cmpL_lt (b := x.k) (by omega) (Int.le_of_lt xb)
          rw [if_pos xb, ins_cons, if_pos this, ins_cons, if_pos xb, ins_cons, if_neg xa, if_neg ea]
        · rw [if_neg xb]
          by_cases eb : cmpL x.k b.k = 0
          · have e1 := cmpL_zero_l a.k eb
            rw [if_pos eb, ins_cons, if_pos (by omega), ins_cons, if_neg xb, if_pos eb, ins_cons, if_neg (by omega), if_neg (by omega)]
          · rw [if_neg eb, ins_cons, ins_cons]
            by_cases ab : cmpL a.k b.k < 0
            · rw [if_pos ab, ins_cons, if_neg xb, if_neg eb, if_neg (by omega), if_neg (by omega)]
            · rw [if_neg ab, if_neg h, ins_cons, if_pos (by omega), ins_cons, if_neg xa, if_neg ea]
theorem ins_two {es : List En} {a b : En} (h : cmpL a.k b.k ≠ 0) : 2 ≤ (ins (ins es a) b).length := by
  have h1 := ins_len (es := ins es a) b
  cases es with
  | nil =>
    rw [ins_nil, ins_cons, ins_nil]
    split
    · simp
    · simp [h]
  | cons x xs =>
    rw [ins_cons] at h1 ⊢
    by_cases xa : cmpL x.k a.k < 0
    · rw [if_pos xa, ins_cons]
      have := ins_len (es := xs) a
      have h3 : 1 ≤ (ins xs a).length := by unfold ins; simp; omega
      split
      · have := ins_len (es := ins xs a) b; simp; omega
      · split <;> simp <;> omega
    · rw [if_neg xa]
      by_cases ea : cmpL x.k a.k = 0
      · rw [if_pos ea, ins_cons]
        split
        · have h3 : 1 ≤ (ins xs b).length := by unfold ins; simp; omega
          simp; omega
        · simp [h]
      · rw [if_neg xa, if_neg ea] at h1
        rw [if_neg ea]
        simp only [List.length_cons] at h1
        omega
/-! ### What is looked up -/
theorem look_cons (x : En) (xs : List En) (k : List Int) : lookE (x :: xs) k = if cmpL x.k k < 0 then lookE xs k else if cmpL x.k k = 0 then some x.v else none := by
  unfold lookE
  rw [atF_cons, at_cons]
  by_cases h : cmpL x.k k < 0
  · simp [h]
  · by_cases h0 : cmpL x.k k = 0 <;> simp [h, h0]
theorem look_ins : ∀ (es : List En) (e : En), lookE (ins es e) e.k = some e.v
  | [], e => by rw [ins_nil, look_cons, cmpL_self]; simp
  | x :: xs, e => by
    rw [ins_cons]
    by_cases h : cmpL x.k e.k < 0
    · rw [if_pos h, look_cons, if_pos h, look_ins xs e]
    · by_cases h0 : cmpL x.k e.k = 0
      · rw [if_neg h, if_pos h0, look_cons, cmpL_self]; simp
      · rw [if_neg h, if_neg h0, look_cons, cmpL_self]; simp
theorem look_other : ∀ (es : List En) {e : En} {k : List Int}, cmpL e.k k ≠ 0 → lookE (ins es e) k = lookE es k
  | [], e, k, h => by
    rw [ins_nil, look_cons]
    rw [if_neg h]
    split <;> rfl
  | x :: xs, e, k, h => by
    rw [ins_cons, look_cons x xs k]
    by_cases xe : cmpL x.k e.k < 0
    · rw [if_pos xe, look_cons, look_other xs h]
    · rw [if_neg xe]
      by_cases ee : cmpL x.k e.k = 0
      · have e1 := cmpL_zero_l k ee
        rw [if_pos ee, look_cons, if_neg h, e1, if_neg h]
      · rw [if_neg ee, look_cons, if_neg h, look_cons]
        by_cases ek : cmpL e.k k < 0
        · rw [if_pos ek]
        · rw [if_neg ek]
          have e2 := cmpL_anti e.k x.k
          have e3 := cmpL_anti x.k k
          have e4 := cmpL_anti e.k k
          have : cmpL k x.k < 0 := cmpL_lt (b := e.k) (by omega) (by omega)
          rw [if_neg (by omega), if_neg (by omega)]
theorem look_gt {xs : List En} {k : List Int} (h : ∀ a ∈ xs, 0 < cmpL a.k k) : lookE xs k = none := by
  cases xs with
  | nil => rfl
  | cons x xs =>
    have := h x (by simp)
    rw [look_cons, if_neg (by omega), if_neg (by omega)]
theorem del_cons (x : En) (xs : List En) (k : List Int) : del (x :: xs) k = if cmpL x.k k < 0 then x :: del xs k else xs := by
  unfold del
  rw [at_cons]
  by_cases h : cmpL x.k k < 0 <;> simp [h]
theorem look_del : ∀ {es : List En} {k : List Int}, Srt es → atF es k = true → lookE (del es k) k = none
  | [], k, _, h => by simp [atF] at h
  | x :: xs, k, hs, h => by
    obtain ⟨h1, h2⟩ := List.pairwise_cons.1 hs
    rw [atF_cons] at h
    rw [del_cons]
    by_cases c : cmpL x.k k < 0
    · rw [if_pos c] at h ⊢
      rw [look_cons, if_pos c, look_del h2 h]
    · rw [if_neg c] at h ⊢
      have h0 : cmpL x.k k = 0 := by simpa using h
      refine look_gt fun a ha => ?_
      have := h1 a ha
      have e1 := cmpL_zero_r a.k h0
      have e2 := cmpL_anti a.k x.k
      omega
theorem look_del_other : ∀ {es : List En} {k k' : List Int}, Srt es → atF es k = true → cmpL k k' ≠ 0 → lookE (del es k) k' = lookE es k'
  | [], k, k', _, h, _ => by simp [atF] at h
  | x :: xs, k, k', hs, h, hk => by
    obtain ⟨h1, h2⟩ := List.pairwise_cons.1 hs
    rw [atF_cons] at h
    rw [del_cons, look_cons x xs]
    by_cases c : cmpL x.k k < 0
    · rw [if_pos c] at h ⊢
      rw [look_cons, look_del_other h2 h hk]
    · rw [if_neg c] at h ⊢
      have h0 : cmpL x.k k = 0 := by simpa using h
      have e1 := cmpL_zero_l k' h0
      by_cases c2 : cmpL x.k k' < 0
      · rw [if_pos c2]
      · rw [if_neg c2, if_neg (by omega)]
        refine look_gt fun a ha => ?_
        have e2 := h1 a ha
        have e3 := cmpL_anti a.k k'
        have e4 := cmpL_anti x.k k'
        have : cmpL k' a.k < 0 := cmpL_lt' (b := x.k) (by omega) e2
        omega

def lkF (es : List En) (k : List Int) : Fo := match lookE es k with
  | none => { code := 6 }
  | some v => { val := v }
theorem step_put2 {C : Cont} {ver : Int} (h0 : 0 ≤ ver) (h1 : ver < C.length) (k w u : Int) : stepC C ⟨1, ver, kO k, [w, u], 0⟩ = ({ ver := C.length }, C ++ [ins (contAt C ver) ⟨kO k, [w, u]⟩]) := by
  unfold stepC
  rw [if_neg (by dsimp only; omega), if_neg (by dsimp only; omega), if_pos rfl, if_neg (by simp [kO])]
theorem step_look {C : Cont} {ver : Int} (h0 : 0 ≤ ver) (h1 : ver < C.length) (k : Int) : stepC C ⟨3, ver, kO k, [], 0⟩ = (lkF (contAt C ver) (kO k), C) := by
  unfold stepC lkF
  rw [if_neg (by dsimp only; omega), if_neg (by dsimp only; omega), if_neg (by dsimp only; omega), if_neg (by dsimp only; omega)]
  dsimp only
  cases lookE (contAt C ver) (kO k) with
  | none => rfl
  | some v => exact if_pos rfl
theorem step_dropS {C : Cont} {ver : Int} (h0 : 0 ≤ ver) (h1 : ver < C.length) (k : Int) {v : List Int} (hv : lookE (contAt C ver) (kO k) = some v) : stepC C ⟨2, ver, kO k, [], 0⟩ = ({ ver := C.length }, C ++ [del (contAt C ver) (kO k)]) := by
  unfold stepC
  rw [if_neg (by dsimp only; omega), if_neg (by dsimp only; omega), if_neg (by dsimp only; omega), if_neg (by dsimp only; omega)]
  dsimp only
  rw [hv]
  exact if_neg (by omega)
theorem cont_app (C : Cont) (es : List En) {n : Nat} (h : C.length = n) : contAt (C ++ [es]) (n : Int) = es := by
  unfold contAt
  rw [Int.toNat_natCast, List.getD_eq_getElem?_getD, List.getElem?_append_right (by omega), show n - C.length = 0 by omega]; rfl
theorem cont_old (C D : Cont) {n : Nat} (h : n < C.length) : contAt (C ++ D) (n : Int) = contAt C n := by
  unfold contAt
  rw [Int.toNat_natCast, List.getD_eq_getElem?_getD, List.getD_eq_getElem?_getD, List.getElem?_append_left h]
theorem tells_law (S : List Fo × Cont) {n : Nat} (hV : S.2.length = n + 1) (hs : Srt (contAt S.2 n)) (k o w u : Int) :
    (List.foldl runT S [⟨1, n, kO k, [w, u], 0⟩, ⟨3, (n + 1 : Nat), kO k, [], 0⟩, ⟨3, n, kO o, [], 0⟩, ⟨3, (n + 1 : Nat), kO o, [], 0⟩, ⟨2, (n + 1 : Nat), kO k, [], 0⟩, ⟨3, (n + 2 : Nat), kO k, [], 0⟩, ⟨3, (n + 2 : Nat), kO o, [], 0⟩]).1 =
      S.1 ++ [{ ver := (n + 1 : Nat) }, { val := [w, u] }, lkF (contAt S.2 n) (kO o), lkF (ins (contAt S.2 n) ⟨kO k, [w, u]⟩) (kO o), { ver := (n + 2 : Nat) }, { code := 6 }, lkF (del (ins (contAt S.2 n) ⟨kO k, [w, u]⟩) (kO k)) (kO o)] := by
  obtain ⟨L, C⟩ := S
  dsimp only at hV hs ⊢
  simp only [List.foldl_cons, List.foldl_nil]
  obtain ⟨E, hE⟩ : ∃ E, ins (contAt C n) ⟨kO k, [w, u]⟩ = E := ⟨_, rfl⟩
  have hlk : lookE E (kO k) = some [w, u] := by rw [← hE]; exact look_ins _ ⟨kO k, [w, u]⟩
  have haf := lookE_atF hlk
  have hsE : Srt E := by rw [← hE]; exact srt_ins hs _
  have hld := look_del hsE haf
  have l1 : (C ++ [E]).length = n + 2 := by simp; omega
  have l2 : (C ++ [E] ++ [del E (kO k)]).length = n + 3 := by simp; omega
  have c0 : contAt (C ++ [E]) (n : Int) = contAt C n := cont_old C [E] (by omega)
  have c1 : contAt (C ++ [E]) ((n + 1 : Nat) : Int) = E := cont_app C E hV
  have c2 : contAt (C ++ [E] ++ [del E (kO k)]) ((n + 2 : Nat) : Int) = del E (kO k) := cont_app _ _ l1
  have s1 := step_put2 (C := C) (ver := (n : Int)) (by omega) (by omega) k w u
  rw [hE, hV] at s1
  have s2 := step_look (C := C ++ [E]) (ver := ((n + 1 : Nat) : Int)) (by omega) (by omega) k
  have s3 := step_look (C := C ++ [E]) (ver := (n : Int)) (by omega) (by omega) o
  have s4 := step_look (C := C ++ [E]) (ver := ((n + 1 : Nat) : Int)) (by omega) (by omega) o
  have s5 := step_dropS (C := C ++ [E]) (ver := ((n + 1 : Nat) : Int)) (by omega) (by omega) k (v := [w, u]) (by rw [c1]; exact hlk)
  have s6 := step_look (C := C ++ [E] ++ [del E (kO k)]) (ver := ((n + 2 : Nat) : Int)) (by omega) (by omega) k
  have s7 := step_look (C := C ++ [E] ++ [del E (kO k)]) (ver := ((n + 2 : Nat) : Int)) (by omega) (by omega) o
  rw [c1] at s2 s4 s5
  rw [c0] at s3
  rw [c2] at s6 s7
  rw [l1] at s5
  have k2 : lkF E (kO k) = { val := [w, u] } := by unfold lkF; rw [hlk]
  have k6 : lkF (del E (kO k)) (kO k) = { code := 6 } := by unfold lkF; rw [hld]
  rw [k2] at s2
  rw [k6] at s6
  rw [hE]
  simp only [runT, s1, s2, s3, s4, s5, s6, s7]
  simp
abbrev IntP : List D → Prop := fun ds => ∃ n, (Lit.int .i64 n).wf = true ∧ ds = [.int .i64 n]
abbrev MvP : List (List D → Prop) := [fun ds => ∃ b : Bool, ds = [.bool b], IntP, IntP, IntP]
theorem mvs_of : ∀ {ls : List (List D)}, Vm.Rows (Parts MvP) ls → ∃ l : List Mv, ls.flatten = l.flatMap mvC ∧ ls.length = l.length
  | [], _ => ⟨[], rfl, rfl⟩
  | _ :: _, .cons _ ls h t => by
    obtain ⟨l, g2, g3⟩ := mvs_of t
    obtain ⟨_, _, ⟨d, rfl⟩, ⟨_, _, ⟨a, _, rfl⟩, ⟨_, _, ⟨b, _, rfl⟩, ⟨_, _, ⟨c, _, rfl⟩, rfl, rfl⟩, rfl⟩, rfl⟩, rfl⟩ := h
    exact ⟨⟨d, a, b, c⟩ :: l, by simp [mvC, g2], by simp [g3]⟩
theorem cont_stays {ds es : List Deed} {v : Int} (h0 : 0 ≤ v) (h1 : v < (runC ds).2.length) : contAt (runC (ds ++ es)).2 v = contAt (runC ds).2 v ∧ v < (runC (ds ++ es)).2.length := by
  obtain ⟨r, h⟩ := run_pre ds es
  rw [h]
  refine ⟨?_, by simp; omega⟩
  unfold contAt
  rw [List.getD_eq_getElem?_getD, List.getD_eq_getElem?_getD, List.getElem?_append_left (by omega)]
theorem cont_mem {C : Cont} {v : Int} (h0 : 0 ≤ v) (h1 : v < C.length) : contAt C v ∈ C := by
  unfold contAt
  rw [List.getD_eq_getElem?_getD, List.getElem?_eq_getElem (show v.toNat < C.length by omega)]
  exact List.getElem_mem _
theorem treeTellsW (l : List Mv) (hl : l.length ≤ 140737488351232) (k w o : Int) : FV Try.prog [] 4 [mvsD l, .int .i64 k, .int .i64 w, .int .i64 o] (fun r => r = .bool true) := by
  refine fv_enter_v Try.func4 rfl rfl fun Q hQ => ?_
  repeat' first
    | refine jw_ret (hQ _ _ (.inr rfl) ⟨5, _, _, rfl, rfl, ?_⟩)
    | refine jw_ret (hQ _ _ (.inr rfl) ⟨_, rfl, ?_⟩)
    | refine jw_seq_k fun K hK => ?_
    | refine jw_block ?_
    | ((first | refine jw_skip ?_ | refine jw_exit ?_); try simp)
    | (refine jw_cond rfl (fun hc => ?_) (fun hc => ?_) <;> (try simp at hc) <;> (try (exfalso; first | omega | exact absurd hc (by assumption))))
    | ((fail_if_success (refine jw_c (id := 2) ?_)); (refine jw_c ?_; simp (maxSteps := 1000000) [Try.f4]))
    | ((fail_if_success (refine jw_draw_j (id := 2) mixed (by kernel_rfl) ?_)); (refine jw_draw_j mixed (by kernel_rfl) ?_; simp (maxSteps := 1000000) [Try.f4]))
    | (first | (apply hK; clear hK) | (clear hK; apply hK; clear hK) | (clear hK; clear hK; apply hK; clear hK) | (clear hK; clear hK; clear hK; apply hK; clear hK))
    | exact hQ _ _ (.inl rfl) ⟨5, _, _, rfl, rfl, rfl⟩
    | refine hQ _ _ (.inl rfl) ⟨5, _, _, rfl, rfl, ?_⟩
    | refine hQ _ _ (.inl rfl) ⟨_, rfl, ?_⟩
    | (refine jl_call (f := 8) rfl rfl rfl rfl rfl (deedsF l hl 30 (by omega) true) (by simp [BelL, Bel]) ?_; rintro r ⟨ds, hok, rfl⟩; simp (maxSteps := 1000000) [Try.f4])
    | ((first | refine jd_newc rfl rfl (by simp) ?_ | refine okN_or ?_); simp (maxSteps := 1000000) [thD, thL, Try.f4])
    | ((first | refine okC_guard (fun hc => ?_) (fun hc => ?_) | refine okJ_guard (fun hc => ?_) (fun hc => ?_)) <;> (first | have hd := of_decide_eq_true hc | have hd := of_decide_eq_false hc | have hd := hc) <;> simp (maxSteps := 1000000) [hc, hd, Try.f4] <;> (try simp at hc) <;> (try (exfalso; first | omega | exact absurd hc (by assumption))))
    | (refine And.intro (by first | assumption | omega | (simp [BelL, Bel]; done) | (simp; omega)) ?_; try simp (maxSteps := 1000000) [Try.f4])
    | (refine okC_or ?_; simp (maxSteps := 1000000) [Try.f4])
  have hM := madeF (G := []) ds (by have := hok.len; omega) hok.kb
  have hmd := hok.made
  have hml := madeN_le (runC ds).1
  rw [runC_len] at hml
  have hdl := hok.len
  obtain ⟨n, hn⟩ : ∃ n, madeN (runC ds).1 = n := ⟨_, rfl⟩
  rw [hn] at hM hmd
  have hV : (runC ds).2.length = n + 1 := by omega
  have hw1 := wrap_i64 (n := (n : Int) + 1) (by omega) (by omega)
  have hw2 := wrap_i64 (n := (n : Int) + 2) (by omega) (by omega)
  have hka := keyOfF (G := []) k
  have hkb := keyOfF (G := []) o
  have hdf := des_len ds
  have hct : List.take (ds.length * 5) (ds.flatMap deC) = ds.flatMap deC := List.take_of_length_le (by omega)
  have hz9 : ds.length * 72 ≤ 140737488355328 := by omega
  have hz10 : (ds.length + 7) * 72 ≤ 140737488355328 := by omega
  repeat' first
    | refine jw_ret (hQ _ _ (.inr rfl) ⟨5, _, _, rfl, rfl, ?_⟩)
    | refine jw_ret (hQ _ _ (.inr rfl) ⟨_, rfl, ?_⟩)
    | refine jw_seq_k fun K hK => ?_
    | refine jw_block ?_
    | ((first | refine jw_skip ?_ | refine jw_exit ?_); try simp)
    | (refine jw_cond rfl (fun hc => ?_) (fun hc => ?_) <;> (try simp at hc) <;> (try (exfalso; first | omega | exact absurd hc (by assumption))))
    | ((fail_if_success (refine jw_c (id := 8) ?_)); (refine jw_c ?_; simp (maxSteps := 1000000) [desD, hw1, hw2, hdf, hct, okC_des, okCell, okRef, numsD, hz9, hz10]))
    | ((fail_if_success (refine jw_draw_j (id := 8) mixed (by kernel_rfl) ?_)); (refine jw_draw_j mixed (by kernel_rfl) ?_; simp (maxSteps := 1000000) [desD, hw1, hw2, hdf, hct, okC_des, okCell, okRef, numsD, hz9, hz10]))
    | (first | (apply hK; clear hK) | (clear hK; apply hK; clear hK) | (clear hK; clear hK; apply hK; clear hK) | (clear hK; clear hK; clear hK; apply hK; clear hK))
    | exact hQ _ _ (.inl rfl) ⟨5, _, _, rfl, rfl, rfl⟩
    | refine hQ _ _ (.inl rfl) ⟨5, _, _, rfl, rfl, ?_⟩
    | refine hQ _ _ (.inl rfl) ⟨_, rfl, ?_⟩
    | ((first | (refine jl_call (f := 9) rfl rfl rfl rfl rfl (hM) (by simp [BelL, Bel]) ?_; rintro r rfl) | refine jd_call (f := 9) rfl rfl rfl rfl rfl (hM) (by simp [BelL, Bel]) ?_ | (refine jl_call (f := 12) rfl rfl rfl rfl rfl (hka) (by simp [BelL, Bel]) ?_; rintro r rfl) | refine jd_call (f := 12) rfl rfl rfl rfl rfl (hka) (by simp [BelL, Bel]) ?_ | (refine jl_call (f := 12) rfl rfl rfl rfl rfl (hkb) (by simp [BelL, Bel]) ?_; rintro r rfl) | refine jd_call (f := 12) rfl rfl rfl rfl rfl (hkb) (by simp [BelL, Bel]) ?_); simp (maxSteps := 1000000) [desD, hw1, hw2, hdf, hct, okC_des, okCell, okRef, numsD, hz9, hz10])
    | ((first | refine jd_newc rfl rfl (by simp) ?_ | refine okN_or ?_); simp (maxSteps := 1000000) [thD, thL, desD, hw1, hw2, hdf, hct, okC_des, okCell, okRef, numsD, hz9, hz10])
    | ((first | refine okC_guard (fun hc => ?_) (fun hc => ?_) | refine okJ_guard (fun hc => ?_) (fun hc => ?_)) <;> (first | have hd := of_decide_eq_true hc | have hd := of_decide_eq_false hc | have hd := hc) <;> simp (maxSteps := 1000000) [hc, hd, desD, hw1, hw2, hdf, hct, okC_des, okCell, okRef, numsD, hz9, hz10] <;> (try simp at hc) <;> (try (exfalso; first | omega | exact absurd hc (by assumption))))
    | (refine And.intro (by first | assumption | omega | (simp [BelL, Bel]; done) | (simp; omega)) ?_; try simp (maxSteps := 1000000) [desD, hw1, hw2, hdf, hct, okC_des, okCell, okRef, numsD, hz9, hz10])
    | (refine okC_or ?_; simp (maxSteps := 1000000) [desD, hw1, hw2, hdf, hct, okC_des, okCell, okRef, numsD, hz9, hz10])
  (refine jw_view (view_frz 1 _ rfl (by simp [BelL, Bel, thL_flat, thL_app])) ?_; simp (maxSteps := 1000000) [thL, thD, thS, thOb, thL_flat, thL_app])
  obtain ⟨u, hu⟩ : ∃ u, IntKind.u8.wrap w = u := ⟨_, rfl⟩
  rw [hu]
  obtain ⟨X, hX⟩ : ∃ X : List Deed, X = ds ++ [⟨1, n, kO k, [u, 7], 0⟩, ⟨3, (n + 1 : Nat), kO k, [], 0⟩, ⟨3, n, kO o, [], 0⟩, ⟨3, (n + 1 : Nat), kO o, [], 0⟩, ⟨2, (n + 1 : Nat), kO k, [], 0⟩, ⟨3, (n + 2 : Nat), kO k, [], 0⟩, ⟨3, (n + 2 : Nat), kO o, [], 0⟩] := ⟨_, rfl⟩
  have hXl : X.length = ds.length + 7 := by rw [hX]; simp
  have hXd := des_len X
  rw [hXl] at hXd
  refine jw_view (s0 := ⟨_, [some (.c (X.flatMap deC)), none, none]⟩) (view_lewS (by rw [hX]; simp [numsD, deC, List.flatMap_append])) ?_
  have hXk : ∀ x ∈ X, KB x.key := fun x hx => by
    rw [hX] at hx
    rcases List.mem_append.1 hx with h | h
    · exact hok.kb x h
    · simp only [List.mem_cons, List.not_mem_nil, or_false] at h
      rcases h with rfl | rfl | rfl | rfl | rfl | rfl | rfl <;> exact kO_kb _
  have hP := PlayV (G := []) X (by omega) hXk
  have hcm := runC_cont ds hok.kb _ (cont_mem (C := (runC ds).2) (v := (n : Int)) (by omega) (by omega))
  have hT := tells_law (runC ds) hV hcm.1.srt k o u 7
  have hRX : (runC X).1 = (List.foldl runT (runC ds) [⟨1, n, kO k, [u, 7], 0⟩, ⟨3, (n + 1 : Nat), kO k, [], 0⟩, ⟨3, n, kO o, [], 0⟩, ⟨3, (n + 1 : Nat), kO o, [], 0⟩, ⟨2, (n + 1 : Nat), kO k, [], 0⟩, ⟨3, (n + 2 : Nat), kO k, [], 0⟩, ⟨3, (n + 2 : Nat), kO o, [], 0⟩]).1 := by rw [hX]; unfold runC; rw [List.foldl_append]
  rw [runC_fos X hXk, hRX, hT] at hP
  have hXct : List.take ((ds.length + 7) * 5) (X.flatMap deC) = X.flatMap deC := List.take_of_length_le (by omega)
  have h35 : ds.length * 5 + 35 = (ds.length + 7) * 5 := by omega
  (refine jw_view (view_frz 0 _ rfl (by simp [BelL, Bel, thL_flat, hXct, hXd, h35])) ?_; simp (maxSteps := 1000000) [thL, thD, thS, thOb, thL_flat, hXct, hXd, h35])
  have hsame : kO k ≠ kO o → lkF (ins (contAt (runC ds).2 n) ⟨kO k, [u, 7]⟩) (kO o) = lkF (contAt (runC ds).2 n) (kO o) ∧ lkF (del (ins (contAt (runC ds).2 n) ⟨kO k, [u, 7]⟩) (kO k)) (kO o) = lkF (contAt (runC ds).2 n) (kO o) := by
    intro hne
    have hc : cmpL (kO k) (kO o) ≠ 0 := fun h => hne ((cmpL_eq (kO_kb k) (kO_kb o)).1 h)
    have e1 := look_other (contAt (runC ds).2 n) (e := ⟨kO k, [u, 7]⟩) (k := kO o) hc
    have e2 := look_del_other (k' := kO o) (srt_ins hcm.1.srt ⟨kO k, [u, 7]⟩) (lookE_atF (look_ins (contAt (runC ds).2 n) ⟨kO k, [u, 7]⟩)) hc
    dsimp only at e2
    unfold lkF
    rw [e2, e1]
    exact ⟨rfl, rfl⟩
  have hvl : (lkF (contAt (runC ds).2 n) (kO o)).val.length ≤ 4000 := by
    unfold lkF
    cases hq : lookE (contAt (runC ds).2 n) (kO o) with
    | none => simp
    | some v =>
      have haf := lookE_atF hq
      unfold lookE at hq
      rw [haf, if_pos rfl, Option.map_eq_some_iff] at hq
      obtain ⟨e, he, rfl⟩ := hq
      exact (hcm.1.bnd e (List.mem_of_getElem? he)).2
  generalize lkF (del (ins (contAt (runC ds).2 n) ⟨kO k, [u, 7]⟩) (kO k)) (kO o) = f7 at *
  generalize lkF (ins (contAt (runC ds).2 n) ⟨kO k, [u, 7]⟩) (kO o) = f4 at *
  generalize lkF (contAt (runC ds).2 n) (kO o) = f3 at *
  have hrl := runC_len ds
  generalize (runC ds).1 = R at *
  have hrf := fos_len R
  rw [hrl] at hrf
  obtain ⟨Y, hY⟩ : ∃ Y : List D, Y = [.int .i64 0, .int .i64 ((n : Int) + 1), .sl false [] 0, .sl false [] 0, .int .i64 0, .int .i64 0, bytesD [u, 7], .sl false [] 0] ++ foC f3 ++ foC f4 ++ [.int .i64 0, .int .i64 ((n : Int) + 2), .sl false [] 0, .sl false [] 0, .int .i64 6, .int .i64 0, .sl false [] 0, .sl false [] 0] ++ foC f7 := ⟨_, rfl⟩
  have e2 : fosD (R ++ [{ ver := (n + 1 : Nat) }, { val := [u, 7] }, f3, f4, { ver := (n + 2 : Nat) }, { code := 6 }, f7]) = .sl false (R.flatMap foC ++ Y) (ds.length + 7) := by
    unfold fosD
    rw [List.flatMap_append, List.length_append, hrl, hY]
    simp [foC, numsD, ensD]
  rw [e2] at hP
  have hYd : List.drop (ds.length * 4) (R.flatMap foC ++ Y) = Y := by rw [← hrf, List.drop_left']; rfl
  have hYl : Y.length = 28 := by rw [hY]; rfl
  have hYt : List.take 28 Y = Y := List.take_of_length_le (by omega)
  have hPD : FV Try.prog [] 14 [.sl false (X.flatMap deC) (ds.length + 7)] (fun r => r = .tup [.sl false (R.flatMap foC ++ Y) (ds.length + 7), .int .i64 0]) := by
    unfold desD at hP; rw [hXl] at hP; exact hP
  have hS1 := sameBytes (G := []) [u, 7] [u, 7] (by simp)
  rw [decide_eq_true rfl] at hS1
  have hS2 := sameBytes (G := []) (kO k) (kO o) (by simp [kO])
  have t1 : ((ds.length : Int) + 7).toNat - ds.length = 7 := by omega
  have t2 : ((ds.length : Int) + 7).toNat = ds.length + 7 := by omega
  have hz7 : (ds.length : Int) ≤ (ds.length : Int) + 7 := by omega
  have hz8 : ds.length + 7 - ds.length = 7 := by omega
  have hz9 : ds.length ≤ ds.length + 7 := by omega
  repeat' first
    | refine jw_ret (hQ _ _ (.inr rfl) ⟨5, _, _, rfl, rfl, ?_⟩)
    | refine jw_ret (hQ _ _ (.inr rfl) ⟨_, rfl, ?_⟩)
    | refine jw_seq_k fun K hK => ?_
    | refine jw_block ?_
    | ((first | refine jw_skip ?_ | refine jw_exit ?_); try simp)
    | (refine jw_cond rfl (fun hc => ?_) (fun hc => ?_) <;> (try simp at hc) <;> (try (exfalso; first | omega | exact absurd hc (by assumption))))
    | ((fail_if_success (refine jw_c (id := 12) ?_)); (refine jw_c ?_; simp (maxSteps := 1000000) [hXl, hYd, hYl, hYt, hrf, t1, t2, hz7, hz8, hz9]))
    | ((fail_if_success (refine jw_draw_j (id := 12) mixed (by kernel_rfl) ?_)); (refine jw_draw_j mixed (by kernel_rfl) ?_; simp (maxSteps := 1000000) [hXl, hYd, hYl, hYt, hrf, t1, t2, hz7, hz8, hz9]))
    | (first | (apply hK; clear hK) | (clear hK; apply hK; clear hK) | (clear hK; clear hK; apply hK; clear hK) | (clear hK; clear hK; clear hK; apply hK; clear hK))
    | exact hQ _ _ (.inl rfl) ⟨5, _, _, rfl, rfl, rfl⟩
    | refine hQ _ _ (.inl rfl) ⟨5, _, _, rfl, rfl, ?_⟩
    | refine hQ _ _ (.inl rfl) ⟨_, rfl, ?_⟩
    | ((first | (refine jl_call (f := 14) rfl rfl rfl rfl rfl (hPD) (by simp [BelL, Bel]) ?_; rintro r rfl) | refine jd_call (f := 14) rfl rfl rfl rfl rfl (hPD) (by simp [BelL, Bel]) ?_); simp (maxSteps := 1000000) [hXl, hYd, hYl, hYt, hrf, t1, t2, hz7, hz8, hz9])
    | ((first | refine jd_newc rfl rfl (by simp) ?_ | refine okN_or ?_); simp (maxSteps := 1000000) [thD, thL, hXl, hYd, hYl, hYt, hrf, t1, t2, hz7, hz8, hz9])
    | ((first | refine okC_guard (fun hc => ?_) (fun hc => ?_) | refine okJ_guard (fun hc => ?_) (fun hc => ?_)) <;> (first | have hd := of_decide_eq_true hc | have hd := of_decide_eq_false hc | have hd := hc) <;> simp (maxSteps := 1000000) [hc, hd, hXl, hYd, hYl, hYt, hrf, t1, t2, hz7, hz8, hz9] <;> (try simp at hc) <;> (try (exfalso; first | omega | exact absurd hc (by assumption))))
    | (refine And.intro (by first | assumption | omega | (simp [BelL, Bel]; done) | (simp; omega)) ?_; try simp (maxSteps := 1000000) [hXl, hYd, hYl, hYt, hrf, t1, t2, hz7, hz8, hz9])
    | (refine okC_or ?_; simp (maxSteps := 1000000) [hXl, hYd, hYl, hYt, hrf, t1, t2, hz7, hz8, hz9])
  clear hYd hYt hYl e2
  unfold foC at hY
  simp only [List.cons_append, List.nil_append] at hY
  subst hY
  repeat' first
    | refine jw_ret (hQ _ _ (.inr rfl) ⟨5, _, _, rfl, rfl, ?_⟩)
    | refine jw_ret (hQ _ _ (.inr rfl) ⟨_, rfl, ?_⟩)
    | refine jw_seq_k fun K hK => ?_
    | refine jw_block ?_
    | ((first | refine jw_skip ?_ | refine jw_exit ?_); try simp)
    | (refine jw_cond rfl (fun hc => ?_) (fun hc => ?_) <;> (try simp at hc) <;> (try (exfalso; first | omega | exact absurd hc (by assumption))))
    | ((first | refine jw_c ?_ | refine jw_draw_j mixed (by kernel_rfl) ?_); simp (maxSteps := 1000000) [hw1, hw2, hu])
    | (first | (apply hK; clear hK) | (clear hK; apply hK; clear hK) | (clear hK; clear hK; apply hK; clear hK) | (clear hK; clear hK; clear hK; apply hK; clear hK))
    | exact hQ _ _ (.inl rfl) ⟨5, _, _, rfl, rfl, rfl⟩
    | refine hQ _ _ (.inl rfl) ⟨5, _, _, rfl, rfl, ?_⟩
    | refine hQ _ _ (.inl rfl) ⟨_, rfl, ?_⟩
    | ((first | refine jd_newc rfl rfl (by simp) ?_ | refine okN_or ?_); simp (maxSteps := 1000000) [thD, thL, hw1, hw2, hu])
    | ((first | refine okC_guard (fun hc => ?_) (fun hc => ?_) | refine okJ_guard (fun hc => ?_) (fun hc => ?_)) <;> (first | have hd := of_decide_eq_true hc | have hd := of_decide_eq_false hc | have hd := hc) <;> simp (maxSteps := 1000000) [hc, hd, hw1, hw2, hu] <;> (try simp at hc) <;> (try (exfalso; first | omega | exact absurd hc (by assumption))))
    | (refine And.intro (by first | assumption | omega | (simp [BelL, Bel]; done) | (simp; omega)) ?_; try simp (maxSteps := 1000000) [hw1, hw2, hu])
    | (refine okC_or ?_; simp (maxSteps := 1000000) [hw1, hw2, hu])
  (refine jl_view (view_frz 3 _ rfl (by simp [BelL, Bel, thL_flat])) ?_; simp (maxSteps := 1000000) [thL, thD, thS, thOb, thL_flat])
  repeat' first
    | refine jw_ret (hQ _ _ (.inr rfl) ⟨5, _, _, rfl, rfl, ?_⟩)
    | refine jw_ret (hQ _ _ (.inr rfl) ⟨_, rfl, ?_⟩)
    | refine jw_seq_k fun K hK => ?_
    | refine jw_block ?_
    | ((first | refine jw_skip ?_ | refine jw_exit ?_); try simp)
    | (refine jw_cond rfl (fun hc => ?_) (fun hc => ?_) <;> (try simp at hc) <;> (try (exfalso; first | omega | exact absurd hc (by assumption))))
    | ((fail_if_success (refine jw_c (id := 14) ?_)); (refine jw_c ?_; simp (maxSteps := 1000000) [hw1, hw2, hu]))
    | ((fail_if_success (refine jw_draw_j (id := 14) mixed (by kernel_rfl) ?_)); (refine jw_draw_j mixed (by kernel_rfl) ?_; simp (maxSteps := 1000000) [hw1, hw2, hu]))
    | (first | (apply hK; clear hK) | (clear hK; apply hK; clear hK) | (clear hK; clear hK; apply hK; clear hK) | (clear hK; clear hK; clear hK; apply hK; clear hK))
    | exact hQ _ _ (.inl rfl) ⟨5, _, _, rfl, rfl, rfl⟩
    | refine hQ _ _ (.inl rfl) ⟨5, _, _, rfl, rfl, ?_⟩
    | refine hQ _ _ (.inl rfl) ⟨_, rfl, ?_⟩
    | ((first | (refine jl_call (f := 15) rfl rfl rfl rfl rfl (hS1) (by simp [BelL, Bel]) ?_; rintro r rfl) | refine jd_call (f := 15) rfl rfl rfl rfl rfl (hS1) (by simp [BelL, Bel]) ?_); simp (maxSteps := 1000000) [hw1, hw2, hu])
    | ((first | refine jd_newc rfl rfl (by simp) ?_ | refine okN_or ?_); simp (maxSteps := 1000000) [thD, thL, hw1, hw2, hu])
    | ((first | refine okC_guard (fun hc => ?_) (fun hc => ?_) | refine okJ_guard (fun hc => ?_) (fun hc => ?_)) <;> (first | have hd := of_decide_eq_true hc | have hd := of_decide_eq_false hc | have hd := hc) <;> simp (maxSteps := 1000000) [hc, hd, hw1, hw2, hu] <;> (try simp at hc) <;> (try (exfalso; first | omega | exact absurd hc (by assumption))))
    | (refine And.intro (by first | assumption | omega | (simp [BelL, Bel]; done) | (simp; omega)) ?_; try simp (maxSteps := 1000000) [hw1, hw2, hu])
    | (refine okC_or ?_; simp (maxSteps := 1000000) [hw1, hw2, hu])
  by_cases hab : kO k = kO o
  · rw [decide_eq_true hab] at hS2
    repeat' first
      | refine jw_seq_k fun K hK => ?_
      | refine jw_block ?_
      | ((first | refine jw_skip ?_ | refine jw_exit ?_); try simp)
      | (refine jw_cond rfl (fun hc => ?_) (fun hc => ?_) <;> (try simp at hc) <;> (try (exfalso; first | omega | exact absurd hc (by assumption))))
      | ((first | refine jw_c ?_ | refine jw_draw_j mixed (by kernel_rfl) ?_ | (refine jl_call (f := 15) rfl rfl rfl rfl rfl (hS2) (by simp [BelL, Bel]) ?_; rintro r rfl) | refine jd_call (f := 15) rfl rfl rfl rfl rfl (hS2) (by simp [BelL, Bel]) ?_); simp (maxSteps := 1000000))
      | (first | (apply hK; clear hK) | (clear hK; apply hK; clear hK) | (clear hK; clear hK; apply hK; clear hK) | (clear hK; clear hK; clear hK; apply hK; clear hK))
      | ((first | refine jw_ret (hQ _ _ (.inr rfl) (ret_ok 0 ?_ (by first | omega | simp))) | refine hQ _ _ (.inl rfl) (ret_ok 0 ?_ (by first | omega | simp))); simp (maxSteps := 1000000) [okRet, BelL, Bel, BelS, BelOb])
      | ((first | refine jd_newc rfl rfl (by simp) ?_ | refine okN_or ?_); simp (maxSteps := 1000000) [thD, thL])
      | ((first | refine okC_guard (fun hc => ?_) (fun hc => ?_) | refine okJ_guard (fun hc => ?_) (fun hc => ?_)) <;> (first | have hd := of_decide_eq_true hc | have hd := of_decide_eq_false hc | have hd := hc) <;> simp (maxSteps := 1000000) [hc, hd] <;> (try simp at hc) <;> (try (exfalso; first | omega | exact absurd hc (by assumption))))
      | (refine And.intro (by first | assumption | omega | (simp [BelL, Bel]; done) | (simp; omega)) ?_; try simp (maxSteps := 1000000))
      | (refine okC_or ?_; simp (maxSteps := 1000000))
  · rw [decide_eq_false hab] at hS2
    obtain ⟨q1, q2⟩ := hsame hab
    have hS3 := sameBytes (G := []) f3.val f3.val (by omega)
    rw [decide_eq_true rfl] at hS3
    subst q1 q2
    repeat' first
      | refine jw_ret (hQ _ _ (.inr rfl) ⟨5, _, _, rfl, rfl, ?_⟩)
      | refine jw_ret (hQ _ _ (.inr rfl) ⟨_, rfl, ?_⟩)
      | refine jw_seq_k fun K hK => ?_
      | refine jw_block ?_
      | ((first | refine jw_skip ?_ | refine jw_exit ?_); try simp)
      | (refine jw_cond rfl (fun hc => ?_) (fun hc => ?_) <;> (try simp at hc) <;> (try (exfalso; first | omega | exact absurd hc (by assumption))))
      | ((fail_if_success (refine jw_c (id := 16) ?_)); (refine jw_c ?_; simp (maxSteps := 1000000) [hab]))
      | ((fail_if_success (refine jw_draw_j (id := 16) mixed (by kernel_rfl) ?_)); (refine jw_draw_j mixed (by kernel_rfl) ?_; simp (maxSteps := 1000000) [hab]))
      | (first | (apply hK; clear hK) | (clear hK; apply hK; clear hK) | (clear hK; clear hK; apply hK; clear hK) | (clear hK; clear hK; clear hK; apply hK; clear hK))
      | exact hQ _ _ (.inl rfl) ⟨5, _, _, rfl, rfl, rfl⟩
      | refine hQ _ _ (.inl rfl) ⟨5, _, _, rfl, rfl, ?_⟩
      | refine hQ _ _ (.inl rfl) ⟨_, rfl, ?_⟩
      | ((first | (refine jl_call (f := 15) rfl rfl rfl rfl rfl (hS2) (by simp [BelL, Bel]) ?_; rintro r rfl) | refine jd_call (f := 15) rfl rfl rfl rfl rfl (hS2) (by simp [BelL, Bel]) ?_); simp (maxSteps := 1000000) [hab])
      | ((first | refine jd_newc rfl rfl (by simp) ?_ | refine okN_or ?_); simp (maxSteps := 1000000) [thD, thL, hab])
      | ((first | refine okC_guard (fun hc => ?_) (fun hc => ?_) | refine okJ_guard (fun hc => ?_) (fun hc => ?_)) <;> (first | have hd := of_decide_eq_true hc | have hd := of_decide_eq_false hc | have hd := hc) <;> simp (maxSteps := 1000000) [hc, hd, hab] <;> (try simp at hc) <;> (try (exfalso; first | omega | exact absurd hc (by assumption))))
      | (refine And.intro (by first | assumption | omega | (simp [BelL, Bel]; done) | (simp; omega)) ?_; try simp (maxSteps := 1000000) [hab])
      | (refine okC_or ?_; simp (maxSteps := 1000000) [hab])
    repeat' first
      | refine jw_seq_k fun K hK => ?_
      | refine jw_block ?_
      | ((first | refine jw_skip ?_ | refine jw_exit ?_); try simp)
      | (refine jw_cond rfl (fun hc => ?_) (fun hc => ?_) <;> (try simp at hc) <;> (try (exfalso; first | omega | exact absurd hc (by assumption))))
      | ((first | refine jw_c ?_ | refine jw_draw_j mixed (by kernel_rfl) ?_ | (refine jl_call (f := 15) rfl rfl rfl rfl rfl (hS3) (by simp [BelL, Bel]) ?_; rintro r rfl) | refine jd_call (f := 15) rfl rfl rfl rfl rfl (hS3) (by simp [BelL, Bel]) ?_ | refine js_call (f := 15) rfl rfl rfl rfl rfl (hS3) (by simp [BelL, Bel]) rfl ?_ | refine js_newc rfl rfl (by simp) rfl ?_ | refine okM_or ?_ | refine okS_or ?_); simp (maxSteps := 1000000) [hab])
      | (first | (apply hK; clear hK) | (clear hK; apply hK; clear hK) | (clear hK; clear hK; apply hK; clear hK) | (clear hK; clear hK; clear hK; apply hK; clear hK))
      | ((first | refine jw_ret (hQ _ _ (.inr rfl) (ret_ok 0 ?_ (by first | omega | simp))) | refine hQ _ _ (.inl rfl) (ret_ok 0 ?_ (by first | omega | simp))); simp (maxSteps := 1000000) [okRet, BelL, Bel, BelS, BelOb, hab])
      | ((first | refine jd_newc rfl rfl (by simp) ?_ | refine okN_or ?_); simp (maxSteps := 1000000) [thD, thL, hab])
      | ((first | refine okS_guard (fun hc => ?_) (fun hc => ?_) | refine okC_guard (fun hc => ?_) (fun hc => ?_) | refine okJ_guard (fun hc => ?_) (fun hc => ?_)) <;> (first | have hd := of_decide_eq_true hc | have hd := of_decide_eq_false hc | have hd := hc) <;> simp (maxSteps := 1000000) [hc, hd, hab] <;> (try simp at hc) <;> (try (exfalso; first | omega | exact absurd hc (by assumption))))
      | (refine And.intro (by first | assumption | omega | (simp [BelL, Bel]; done) | (simp; omega)) ?_; try simp (maxSteps := 1000000) [hab])
      | (refine okC_or ?_; simp (maxSteps := 1000000) [hab])
theorem treeTells (ls : List (List D)) (hr : Vm.Rows (Parts MvP) ls) (hz : ls.length * 32 ≤ 140737488351232) (_ : ls.length ≤ 9223372036854775807) (k : Int) (_ : (Lit.int .i64 k).wf = true) (w : Int) (_ : (Lit.int .i64 w).wf = true) (o : Int) (_ : (Lit.int .i64 o).wf = true) :
    FV Try.prog [] 4 [.sl false ls.flatten ls.length, .int .i64 k, .int .i64 w, .int .i64 o] (fun r => r = .bool true) := by
  obtain ⟨l, h2, h3⟩ := mvs_of hr
  rw [h2, h3]
  exact treeTellsW l (by omega) k w o
end Go.Proofs.Ytibcjkklgifgmaa
