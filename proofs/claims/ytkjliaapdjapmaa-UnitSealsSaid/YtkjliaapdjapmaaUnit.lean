/- A unit: slots that are written once. What its functions compute. -/
import Derived.Test.YtkjliaapdjapmaaClone
set_option linter.unusedVariables false
set_option linter.unusedSimpArgs false
set_option maxRecDepth 20000
set_option maxHeartbeats 20000000
namespace Go.Proofs.Ytkjliaapdjapmaa
open Go Go.Vm Go.Proofs

inductive Slot where
  | none | data (b : List Int) | junk | trim
  deriving DecidableEq
structure Un where
  slots : List Slot
  epoch : Int
  torn : Int
structure Job where
  kind : Int
  epoch : Int
  addr : Int
  data : List Int
  deriving DecidableEq
structure Rp where
  code : Int := 0
  junk : Bool := false
  data : List Int := []
  tail : Int := 0
  deriving DecidableEq

def slotD : Slot → D
  | .none => .nif
  | .data b => .ifc 61 (bytesD b)
  | .junk => .ifc 60 (.agg [])
  | .trim => .ifc 59 (.agg [])
def unC (u : Un) : List D := u.slots.map slotD ++ [.int .i64 u.epoch, .int .i64 u.torn]
def rpC (r : Rp) : List D := [.int .i64 r.code, .bool r.junk, bytesD r.data, .int .i64 r.tail]
def rpD (r : Rp) : D := .agg (rpC r)
def jobC (j : Job) : List D := [.int .i64 j.kind, .int .i64 j.epoch, .int .i64 j.addr, bytesD j.data]
def jobD (j : Job) : D := .agg (jobC j)
@[simp] theorem bel_slot (n : Nat) (s : Slot) : Bel n (slotD s) := by cases s <;> simp [slotD, Bel, BelL]
@[simp] theorem belL_slots (n : Nat) : ∀ l : List Slot, BelL n (l.map slotD)
  | [] => trivial
  | s :: l => ⟨bel_slot n s, belL_slots n l⟩
theorem belL_app {n : Nat} : ∀ {a b : List D}, BelL n a → BelL n b → BelL n (a ++ b)
  | [], _, _, h => h
  | _ :: a, _, h, k => ⟨h.1, belL_app (a := a) h.2 k⟩
@[simp] theorem belL_un (n : Nat) (u : Un) : BelL n (unC u) := belL_app (belL_slots n _) ⟨trivial, trivial, trivial⟩
@[simp] theorem bel_rp (n : Nat) (r : Rp) : Bel n (rpD r) := ⟨trivial, trivial, bel_nums _ _ _, trivial, trivial⟩
@[simp] theorem belL_rp (n : Nat) (r : Rp) : BelL n (rpC r) := ⟨trivial, trivial, bel_nums _ _ _, trivial, trivial⟩
@[simp] theorem belL_job (n : Nat) (r : Job) : BelL n (jobC r) := ⟨trivial, trivial, trivial, bel_nums _ _ _, trivial⟩

/-- What a slot tells. -/
def tell : Slot → Rp
  | .none => { code := 17 }
  | .data b => { data := b }
  | .junk => { junk := true }
  | .trim => { code := 16 }
def slotOk : Slot → Prop
  | .data b => b.length ≤ 4000
  | _ => True

theorem tellF {G : Globals} (s : Slot) (hs : slotOk s) : FV Try.prog G 20 [slotD s] (fun r => r = rpD (tell s)) := by
  refine fv_to ?_
  refine fv_enter Try.func20 rfl rfl fun Q hQ => ?_
  cases s with
  | data b =>
    have hb : b.length ≤ 4000 := hs
    repeat' first
      | refine jw_ret (hQ _ _ (.inr rfl) ⟨5, _, _, rfl, rfl, ?_⟩)
      | refine jw_ret (hQ _ _ (.inr rfl) ⟨_, rfl, ?_⟩)
      | (refine jw_ret (hQ _ _ (.inr rfl) (res_ok 9 ?_)); simp (maxSteps := 1000000) [okRes, -List.mapM_map, -List.mapM_append, Try.f20, slotD, vAssert])
      | refine jw_seq_k fun K hK => ?_
      | refine jw_block ?_
      | (refine jw_skip ?_; try simp)
      | (refine jw_exit ?_; try simp)
      | (refine jw_cond rfl (fun hc => ?_) (fun hc => ?_) <;> (try simp at hc) <;> (try (exfalso; first | omega | exact absurd hc (by assumption))))
      | (refine jw_c ?_; simp (maxSteps := 1000000) [Try.f20, slotD, vAssert])
      | (refine jw_draw_j mixed (by kernel_rfl) ?_; simp (maxSteps := 1000000) [Try.f20, slotD, vAssert])
      | (first | (apply hK; clear hK) | (clear hK; apply hK; clear hK) | (clear hK; clear hK; apply hK; clear hK) | (clear hK; clear hK; clear hK; apply hK; clear hK))
      | exact hQ _ _ (.inl rfl) ⟨5, _, _, rfl, rfl, rfl⟩
      | refine hQ _ _ (.inl rfl) ⟨5, _, _, rfl, rfl, ?_⟩
      | refine hQ _ _ (.inl rfl) ⟨_, rfl, ?_⟩
      | (refine hQ _ _ (.inl rfl) (res_ok 9 ?_); simp (maxSteps := 1000000) [okRes, -List.mapM_map, -List.mapM_append, Try.f20, slotD, vAssert])
      | (refine jl_call (f := 21) rfl rfl rfl rfl rfl (cloneF b (by omega)) (by simp [BelL, Bel]) ?_; rintro r rfl; simp (maxSteps := 1000000) [Try.f20, slotD, vAssert])
      | (refine jd_call (f := 21) rfl rfl rfl rfl rfl (cloneF b (by omega)) (by simp [BelL, Bel]) ?_; simp (maxSteps := 1000000) [Try.f20, slotD, vAssert])
      | (refine jd_newc rfl rfl (by simp) ?_; simp (maxSteps := 1000000) [thD, thL, Try.f20, slotD, vAssert])
      | (refine okN_or ?_; simp (maxSteps := 1000000) [thD, thL, Try.f20, slotD, vAssert])
      | (refine okC_guard (fun hc => ?_) (fun hc => ?_) <;> (first | simp (maxSteps := 1000000) [hc, of_decide_eq_true hc, Try.f20, slotD, vAssert] | simp (maxSteps := 1000000) [hc, of_decide_eq_false hc, Try.f20, slotD, vAssert] | simp (maxSteps := 1000000) [hc, Try.f20, slotD, vAssert]) <;> (try simp at hc) <;> (try (exfalso; first | omega | exact absurd hc (by assumption))))
      | (refine okJ_guard (fun hc => ?_) (fun hc => ?_) <;> (first | simp (maxSteps := 1000000) [hc, of_decide_eq_true hc, Try.f20, slotD, vAssert] | simp (maxSteps := 1000000) [hc, of_decide_eq_false hc, Try.f20, slotD, vAssert] | simp (maxSteps := 1000000) [hc, Try.f20, slotD, vAssert]) <;> (try simp at hc) <;> (try (exfalso; first | omega | exact absurd hc (by assumption))))
      | (refine And.intro (by first | assumption | omega | (simp [BelL, Bel]; done) | (simp; omega)) ?_; try simp (maxSteps := 1000000) [Try.f20, slotD, vAssert])
      | (refine okC_or ?_; simp (maxSteps := 1000000) [Try.f20, slotD, vAssert])
    all_goals simp [rpD, rpC, tell, numsD]
  | _ =>
    repeat' first
      | refine jw_ret (hQ _ _ (.inr rfl) ⟨5, _, _, rfl, rfl, ?_⟩)
      | refine jw_ret (hQ _ _ (.inr rfl) ⟨_, rfl, ?_⟩)
      | refine jw_seq_k fun K hK => ?_
      | refine jw_block ?_
      | (refine jw_skip ?_; try simp)
      | (refine jw_exit ?_; try simp)
      | (refine jw_cond rfl (fun hc => ?_) (fun hc => ?_) <;> (try simp at hc) <;> (try (exfalso; first | omega | exact absurd hc (by assumption))))
      | (refine jw_c ?_; simp (maxSteps := 1000000) [Try.f20, slotD, vAssert])
      | (refine jw_draw_j mixed (by kernel_rfl) ?_; simp (maxSteps := 1000000) [Try.f20, slotD, vAssert])
      | (first | (apply hK; clear hK) | (clear hK; apply hK; clear hK) | (clear hK; clear hK; apply hK; clear hK) | (clear hK; clear hK; clear hK; apply hK; clear hK))
      | exact hQ _ _ (.inl rfl) ⟨5, _, _, rfl, rfl, rfl⟩
      | refine hQ _ _ (.inl rfl) ⟨5, _, _, rfl, rfl, ?_⟩
      | refine hQ _ _ (.inl rfl) ⟨_, rfl, ?_⟩
      | (refine jd_newc rfl rfl (by simp) ?_; simp (maxSteps := 1000000) [thD, thL, Try.f20, slotD, vAssert])
      | (refine okN_or ?_; simp (maxSteps := 1000000) [thD, thL, Try.f20, slotD, vAssert])
      | (refine okC_guard (fun hc => ?_) (fun hc => ?_) <;> (first | simp (maxSteps := 1000000) [hc, of_decide_eq_true hc, Try.f20, slotD, vAssert] | simp (maxSteps := 1000000) [hc, of_decide_eq_false hc, Try.f20, slotD, vAssert] | simp (maxSteps := 1000000) [hc, Try.f20, slotD, vAssert]) <;> (try simp at hc) <;> (try (exfalso; first | omega | exact absurd hc (by assumption))))
      | (refine okJ_guard (fun hc => ?_) (fun hc => ?_) <;> (first | simp (maxSteps := 1000000) [hc, of_decide_eq_true hc, Try.f20, slotD, vAssert] | simp (maxSteps := 1000000) [hc, of_decide_eq_false hc, Try.f20, slotD, vAssert] | simp (maxSteps := 1000000) [hc, Try.f20, slotD, vAssert]) <;> (try simp at hc) <;> (try (exfalso; first | omega | exact absurd hc (by assumption))))
      | (refine And.intro (by first | assumption | omega | (simp [BelL, Bel]; done) | (simp; omega)) ?_; try simp (maxSteps := 1000000) [Try.f20, slotD, vAssert])
      | (refine okC_or ?_; simp (maxSteps := 1000000) [Try.f20, slotD, vAssert])
    all_goals simp [rpD, rpC, tell, numsD]

@[simp] theorem unC_length (u : Un) : (unC u).length = u.slots.length + 2 := by simp [unC]
theorem put_one (cs : List D) (i : Nat) (d : D) (h : i < cs.length) : putCells cs i [d] = cs.set i d := by
  unfold putCells
  rw [List.set_eq_take_append_cons_drop, if_pos h]
  simp
theorem put_all (cs ds : List D) (h : cs.length = ds.length) : putCells cs 0 ds = ds := by
  unfold putCells
  simp [← h]
theorem un_slot {u : Un} {i : Nat} (h : i < u.slots.length) : (unC u)[i]? = some (slotD (u.slots.getD i .none)) := by
  unfold unC
  rw [List.getElem?_append_left (by simpa using h), List.getElem?_map, List.getD_eq_getElem?_getD, List.getElem?_eq_getElem h]
  rfl
theorem un_head {u : Un} (h : u.slots.length = 64) : (unC u).head? = some (slotD (u.slots.getD 0 .none)) := by
  rw [List.head?_eq_getElem?]; exact un_slot (by omega)
theorem un_epoch {u : Un} (h : u.slots.length = 64) : (unC u)[64]? = some (.int .i64 u.epoch) := by
  unfold unC; rw [List.getElem?_append_right (by simp [h])]; simp [h]
theorem un_torn {u : Un} (h : u.slots.length = 64) : (unC u)[65]? = some (.int .i64 u.torn) := by
  unfold unC; rw [List.getElem?_append_right (by simp [h])]; simp [h]
theorem un_setslot {u : Un} {i : Nat} (h : i < u.slots.length) (s : Slot) : (unC u).set i (slotD s) = unC { u with slots := u.slots.set i s } := by
  unfold unC
  rw [List.set_append_left _ _ (by simpa using h), List.map_set]
theorem un_setepoch {u : Un} (h : u.slots.length = 64) (e : Int) : (unC u).set 64 (.int .i64 e) = unC { u with epoch := e } := by
  unfold unC
  rw [List.set_append_right _ _ (by simp [h])]; simp [h]
theorem un_settorn {u : Un} (h : u.slots.length = 64) (e : Int) : (unC u).set 65 (.int .i64 e) = unC { u with torn := e } := by
  unfold unC
  rw [List.set_append_right _ _ (by simp [h])]; simp [h]

theorem get_of {cs : List D} {i : Nat} {d : D} (h : cs[i]? = some d) (hi : i < cs.length) : cs[i]'hi = d := by
  rw [List.getElem?_eq_getElem hi] at h; exact Option.some.inj h
theorem un_epoch' {u : Un} (h : u.slots.length = 64) (hi : 64 < (unC u).length) : (unC u)[64]'hi = .int .i64 u.epoch := get_of (un_epoch h) hi
theorem un_torn' {u : Un} (h : u.slots.length = 64) (hi : 65 < (unC u).length) : (unC u)[65]'hi = .int .i64 u.torn := get_of (un_torn h) hi

/-- What may stand in a unit. -/
def UnOk (u : Un) : Prop := u.slots.length = 64 ∧ ∀ s ∈ u.slots, slotOk s
theorem UnOk.get {u : Un} (h : UnOk u) {i : Nat} (hi : i < 64) : slotOk (u.slots.getD i .none) := by
  rw [List.getD_eq_getElem?_getD, List.getElem?_eq_getElem (by rw [h.1]; exact hi)]
  exact h.2 _ (List.getElem_mem _)
theorem UnOk.set {u : Un} (h : UnOk u) (i : Nat) {s : Slot} (hs : slotOk s) (e t : Int) : UnOk ⟨u.slots.set i s, e, t⟩ := by
  refine ⟨by simpa using h.1, fun x hx => ?_⟩
  rcases List.mem_or_eq_of_mem_set hx with hx | rfl
  · exact h.2 x hx
  · exact hs

/-- Store, Fetch, Fill, Trim. -/
def slotR (u : Un) (j : Job) : Rp × Un :=
  if j.kind = 2 then (tell (u.slots.getD j.addr.toNat .none), u)
  else if j.kind = 4 then ({}, { u with slots := u.slots.set j.addr.toNat .trim })
  else if j.kind = 1 ∧ 4000 < (j.data.length : Int) then ({ code := 1 }, u)
  else if (tell (u.slots.getD j.addr.toNat .none)).code = 0 then ({ tell (u.slots.getD j.addr.toNat .none) with code := 15 }, u)
  else if (tell (u.slots.getD j.addr.toNat .none)).code = 16 then (tell (u.slots.getD j.addr.toNat .none), u)
  else if j.kind = 3 then ({}, { u with slots := u.slots.set j.addr.toNat .junk })
  else ({}, { u with slots := u.slots.set j.addr.toNat (.data j.data), torn := j.addr + 1 })

theorem slotF {G : Globals} (u : Un) (hu : UnOk u) (j : Job) (hk : 1 ≤ j.kind ∧ j.kind ≤ 4) (ha : 0 ≤ j.addr ∧ j.addr < 64) (hj : j.data.length ≤ 100000) :
    FC Try.prog G 17 [.ptr 0 66 0, jobD j] [some (.c (unC u))] (fun d σ' => d = rpD (slotR u j).1 ∧ σ' = [some (.c (unC (slotR u j).2))]) := by
  obtain ⟨k, e, a, b⟩ := j
  dsimp only at hk ha hj
  have hl := hu.1
  have hi : a.toNat < u.slots.length := by omega
  have ht := tellF (G := G) (u.slots.getD a.toNat .none) (hu.get (by omega))
  have hg := un_slot hi
  have hgg := fun h => get_of hg h
  have hp1 := un_setslot hi .trim
  have hp2 := un_setslot hi .junk
  have hp3 := un_setslot hi (.data b)
  have hw := wrap_i64 (n := a + 1) (by omega) (by omega)
  simp only [slotD, numsD] at hp1 hp2 hp3
  refine fc_to ?_
  refine fc_enter_v Try.func17 rfl rfl fun Q hQ => ?_
  unfold slotR at hQ
  dsimp only at hQ
  generalize u.slots.getD a.toNat .none = s at *
  have hk4 : k = 1 ∨ k = 2 ∨ k = 3 ∨ k = 4 := by omega
  rcases hk4 with rfl | rfl | rfl | rfl
  all_goals
    repeat' first
      | refine jw_seq_k fun K hK => ?_
      | refine jw_block ?_
      | (refine jw_skip ?_; try simp)
      | (refine jw_exit ?_; try simp)
      | (refine jw_cond rfl (fun hc => ?_) (fun hc => ?_) <;> (try simp at hc) <;> (try (exfalso; first | omega | exact absurd hc (by assumption))))
      | (refine jw_c ?_; simp (maxSteps := 1000000) [Try.f17, jobD, jobC, hl, hg, hgg, ha.1, ha.2, rpD, rpC, numsD, hp1, hp2, hp3, un_head, un_settorn, hw, okCell, -putCells, put_one, put_all, show a.toNat < 66 by omega])
      | (refine jw_draw_j mixed (by kernel_rfl) ?_; simp (maxSteps := 1000000) [Try.f17, jobD, jobC, hl, hg, hgg, ha.1, ha.2, rpD, rpC, numsD, hp1, hp2, hp3, un_head, un_settorn, hw, okCell, -putCells, put_one, put_all, show a.toNat < 66 by omega])
      | (first | (apply hK; clear hK) | (clear hK; apply hK; clear hK) | (clear hK; clear hK; apply hK; clear hK) | (clear hK; clear hK; clear hK; apply hK; clear hK))
      | (refine jw_ret (hQ _ _ (.inr rfl) (ret_ok 1 ?_ (by first | omega | simp))); simp (maxSteps := 1000000) [okRet, BelL, Bel, BelS, BelOb, Try.f17, jobD, jobC, hl, hg, hgg, ha.1, ha.2, rpD, rpC, numsD, hp1, hp2, hp3, un_head, un_settorn, hw, okCell, -putCells, put_one, put_all, show a.toNat < 66 by omega])
      | (refine hQ _ _ (.inl rfl) (ret_ok 1 ?_ (by first | omega | simp)); simp (maxSteps := 1000000) [okRet, BelL, Bel, BelS, BelOb, Try.f17, jobD, jobC, hl, hg, hgg, ha.1, ha.2, rpD, rpC, numsD, hp1, hp2, hp3, un_head, un_settorn, hw, okCell, -putCells, put_one, put_all, show a.toNat < 66 by omega])
      | (refine jl_call (f := 20) rfl rfl rfl rfl rfl (ht) (by simp [BelL, Bel]) ?_; rintro r rfl; simp (maxSteps := 1000000) [Try.f17, jobD, jobC, hl, hg, hgg, ha.1, ha.2, rpD, rpC, numsD, hp1, hp2, hp3, un_head, un_settorn, hw, okCell, -putCells, put_one, put_all, show a.toNat < 66 by omega])
      | (refine jd_call (f := 20) rfl rfl rfl rfl rfl (ht) (by simp [BelL, Bel]) ?_; simp (maxSteps := 1000000) [Try.f17, jobD, jobC, hl, hg, hgg, ha.1, ha.2, rpD, rpC, numsD, hp1, hp2, hp3, un_head, un_settorn, hw, okCell, -putCells, put_one, put_all, show a.toNat < 66 by omega])
      | (refine jl_call (f := 21) rfl rfl rfl rfl rfl (cloneF b (by omega)) (by simp [BelL, Bel]) ?_; rintro r rfl; simp (maxSteps := 1000000) [Try.f17, jobD, jobC, hl, hg, hgg, ha.1, ha.2, rpD, rpC, numsD, hp1, hp2, hp3, un_head, un_settorn, hw, okCell, -putCells, put_one, put_all, show a.toNat < 66 by omega])
      | (refine jd_call (f := 21) rfl rfl rfl rfl rfl (cloneF b (by omega)) (by simp [BelL, Bel]) ?_; simp (maxSteps := 1000000) [Try.f17, jobD, jobC, hl, hg, hgg, ha.1, ha.2, rpD, rpC, numsD, hp1, hp2, hp3, un_head, un_settorn, hw, okCell, -putCells, put_one, put_all, show a.toNat < 66 by omega])
      | (refine jd_newc rfl rfl (by simp) ?_; simp (maxSteps := 1000000) [thD, thL, Try.f17, jobD, jobC, hl, hg, hgg, ha.1, ha.2, rpD, rpC, numsD, hp1, hp2, hp3, un_head, un_settorn, hw, okCell, -putCells, put_one, put_all, show a.toNat < 66 by omega])
      | (refine okN_or ?_; simp (maxSteps := 1000000) [thD, thL, Try.f17, jobD, jobC, hl, hg, hgg, ha.1, ha.2, rpD, rpC, numsD, hp1, hp2, hp3, un_head, un_settorn, hw, okCell, -putCells, put_one, put_all, show a.toNat < 66 by omega])
      | (refine okC_guard (fun hc => ?_) (fun hc => ?_) <;> (first | simp (maxSteps := 1000000) [hc, of_decide_eq_true hc, Try.f17, jobD, jobC, hl, hg, hgg, ha.1, ha.2, rpD, rpC, numsD, hp1, hp2, hp3, un_head, un_settorn, hw, okCell, -putCells, put_one, put_all, show a.toNat < 66 by omega] | simp (maxSteps := 1000000) [hc, of_decide_eq_false hc, Try.f17, jobD, jobC, hl, hg, hgg, ha.1, ha.2, rpD, rpC, numsD, hp1, hp2, hp3, un_head, un_settorn, hw, okCell, -putCells, put_one, put_all, show a.toNat < 66 by omega] | simp (maxSteps := 1000000) [hc, Try.f17, jobD, jobC, hl, hg, hgg, ha.1, ha.2, rpD, rpC, numsD, hp1, hp2, hp3, un_head, un_settorn, hw, okCell, -putCells, put_one, put_all, show a.toNat < 66 by omega]) <;> (try simp at hc) <;> (try (exfalso; first | omega | exact absurd hc (by assumption))))
      | (refine okJ_guard (fun hc => ?_) (fun hc => ?_) <;> (first | simp (maxSteps := 1000000) [hc, of_decide_eq_true hc, Try.f17, jobD, jobC, hl, hg, hgg, ha.1, ha.2, rpD, rpC, numsD, hp1, hp2, hp3, un_head, un_settorn, hw, okCell, -putCells, put_one, put_all, show a.toNat < 66 by omega] | simp (maxSteps := 1000000) [hc, of_decide_eq_false hc, Try.f17, jobD, jobC, hl, hg, hgg, ha.1, ha.2, rpD, rpC, numsD, hp1, hp2, hp3, un_head, un_settorn, hw, okCell, -putCells, put_one, put_all, show a.toNat < 66 by omega] | simp (maxSteps := 1000000) [hc, Try.f17, jobD, jobC, hl, hg, hgg, ha.1, ha.2, rpD, rpC, numsD, hp1, hp2, hp3, un_head, un_settorn, hw, okCell, -putCells, put_one, put_all, show a.toNat < 66 by omega]) <;> (try simp at hc) <;> (try (exfalso; first | omega | exact absurd hc (by assumption))))
      | (refine And.intro (by first | assumption | omega | (simp [BelL, Bel]; done) | (simp; omega)) ?_; try simp (maxSteps := 1000000) [Try.f17, jobD, jobC, hl, hg, hgg, ha.1, ha.2, rpD, rpC, numsD, hp1, hp2, hp3, un_head, un_settorn, hw, okCell, -putCells, put_one, put_all, show a.toNat < 66 by omega])
      | (refine okC_or ?_; simp (maxSteps := 1000000) [Try.f17, jobD, jobC, hl, hg, hgg, ha.1, ha.2, rpD, rpC, numsD, hp1, hp2, hp3, un_head, un_settorn, hw, okCell, -putCells, put_one, put_all, show a.toNat < 66 by omega])
  all_goals (first | clear hQ hK | clear hQ)
  all_goals (repeat' split)
  all_goals first | (exfalso; omega) | simp_all
end Go.Proofs.Ytkjliaapdjapmaa
