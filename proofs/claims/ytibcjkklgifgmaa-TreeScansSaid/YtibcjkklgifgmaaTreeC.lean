/- Trees: what a play says, over what the versions hold alone. Plain law. -/
import Derived.Test.YtibcjkklgifgmaaTreeF
set_option linter.unusedVariables false
set_option linter.unusedSimpArgs false
set_option maxRecDepth 20000
set_option maxHeartbeats 20000000
namespace Go.Proofs.Ytibcjkklgifgmaa
open Go Go.Vm Go.Proofs

abbrev Cont := List (List En)
def contAt (C : Cont) (v : Int) : List En := C.getD v.toNat []
def stepC (C : Cont) (x : Deed) : Fo × Cont :=
  if x.kind < 1 ∨ 4 < x.kind then ({ code := 3 }, C)
  else if x.ver < 0 ∨ C.length ≤ x.ver then ({ code := 2 }, C)
  else if x.kind = 1 then
    if x.key = [] ∨ 1200 < x.key.length ∨ 4000 < x.val.length then ({ code := 1 }, C)
    else ({ ver := C.length }, C ++ [ins (contAt C x.ver) ⟨x.key, x.val⟩])
  else if x.kind = 4 then (scanR (contAt C x.ver) x, C)
  else match lookE (contAt C x.ver) x.key with
    | none => ({ code := 6 }, C)
    | some v => if x.kind = 3 then ({ val := v }, C) else ({ ver := C.length }, C ++ [del (contAt C x.ver) x.key])
/-- What a version holds is bytes, in order. -/
structure EOk (es : List En) : Prop where
  srt : Srt es
  kb : ∀ e ∈ es, KB e.k
  bnd : ∀ e ∈ es, e.k.length ≤ 1200 ∧ e.v.length ≤ 4000
structure VOkC (n : Nat) (p : Ver) : Prop where
  ok : Ok p.1 p.2
  big : 0 < p.1 → 2 ≤ p.2.size
  cont : EOk p.2.en
  len : p.2.en.length ≤ n
theorem VOkC.t {n : Nat} {p : Ver} (h : VOkC n p) (hn : n ≤ 10000) : VOkT p := ⟨h.ok, h.big, h.cont.srt, Nat.le_trans h.len hn, fun e he => by have := h.cont.bnd e he; omega⟩
theorem mem_ins {es : List En} {e x : En} (h : x ∈ ins es e) : x = e ∨ x ∈ es := by
  unfold ins at h
  rcases List.mem_append.1 h with h | h
  · exact .inr (List.mem_of_mem_take h)
  · rcases List.mem_cons.1 h with h | h
    · exact .inl h
    · exact .inr (List.mem_of_mem_drop h)
theorem mem_del {es : List En} {k : List Int} {x : En} (h : x ∈ del es k) : x ∈ es := by
  unfold del at h
  exact (List.mem_append.1 h).elim List.mem_of_mem_take List.mem_of_mem_drop
theorem srt_drop {es : List En} (h : Srt es) (n : Nat) : Srt (es.drop n) := h.sublist (List.drop_sublist _ _)
theorem srt_ins {es : List En} (h : Srt es) (e : En) : Srt (ins es e) := by
  obtain ⟨h1, h2⟩ := at_split h e.k
  have hgt : ∀ a ∈ es.drop (atE es e.k + (atF es e.k).toNat), 0 < cmpL a.k e.k := by
    intro a ha
    cases hF : atF es e.k with
    | true =>
      have hb := atF_bd hF
      rw [hF] at ha
      simp only [Bool.toNat_true] at ha
      unfold atF at hF
      rw [List.getElem?_eq_getElem hb] at hF
      have h0 : cmpL es[atE es e.k].k e.k = 0 := by simpa using hF
      obtain ⟨j, hj, rfl⟩ := List.mem_iff_getElem.1 ha
      rw [List.getElem_drop]
      rw [List.length_drop] at hj
      have := srt_lt h (show atE es e.k < atE es e.k + 1 + j by omega) (by omega)
      have e1 := cmpL_zero_l (es[atE es e.k + 1 + j]).k h0
      have e2 := cmpL_anti e.k (es[atE es e.k + 1 + j]).k
      omega
    | false =>
      rw [hF] at ha
      simp only [Bool.toNat_false, Nat.add_zero] at ha
      have h3 := h2 a ha
      by_cases h0 : cmpL a.k e.k = 0
      · exfalso
        have hb : atE es e.k < es.length := by
          have := List.length_pos_of_mem ha
          rw [List.length_drop] at this; omega
        have e0 : es.drop (atE es e.k) = es[atE es e.k] :: es.drop (atE es e.k + 1) := List.drop_eq_getElem_cons hb
        rw [e0] at ha
        unfold atF at hF
        rw [List.getElem?_eq_getElem hb] at hF
        have hne : ¬ cmpL es[atE es e.k].k e.k = 0 := by simpa using hF
        have hge := h2 es[atE es e.k] (by have hm : es[atE es e.k] ∈ es[atE es e.k] :: es.drop (atE es e.k + 1) := List.mem_cons_self; rwa [← e0] at hm)
        rcases List.mem_cons.1 ha with rfl | ha
        · exact hne h0
        · obtain ⟨j, hj, rfl⟩ := List.mem_iff_getElem.1 ha
          rw [List.getElem_drop] at h0
          rw [List.length_drop] at hj
          have := srt_lt h (show atE es e.k < atE es e.k + 1 + j by omega) (by omega)
          have e1 := cmpL_lt this (Int.le_of_eq h0)
          omega
      · omega
  unfold ins
  refine List.pairwise_append.2 ⟨h.sublist (List.take_sublist _ _), List.pairwise_cons.2 ⟨fun a ha => ?_, h.sublist (List.drop_sublist _ _)⟩, fun a ha b hb => ?_⟩
  · have := hgt a ha
    have := cmpL_anti a.k e.k
    omega
  · rcases List.mem_cons.1 hb with rfl | hb
    · exact h1 a ha
    · have h3 := hgt b hb
      have h4 := cmpL_anti b.k e.k
      exact cmpL_lt (h1 a ha) (by omega)
theorem srt_del {es : List En} (h : Srt es) (k : List Int) : Srt (del es k) := by
  unfold del
  have e : es.take (atE es k) ++ es.drop (atE es k + 1) = es.eraseIdx (atE es k) := by
    rw [List.eraseIdx_eq_take_drop_succ]
  rw [e]
  exact h.sublist (List.eraseIdx_sublist _ _)
theorem eok_ins {es : List En} (h : EOk es) {e : En} (hk : KB e.k) (h1 : e.k.length ≤ 1200) (h2 : e.v.length ≤ 4000) : EOk (ins es e) :=
  ⟨srt_ins h.srt e, fun x hx => (mem_ins hx).elim (fun h => h ▸ hk) (h.kb x), fun x hx => (mem_ins hx).elim (fun h => h ▸ ⟨h1, h2⟩) (h.bnd x)⟩
theorem eok_del {es : List En} (h : EOk es) (k : List Int) : EOk (del es k) :=
  ⟨srt_del h.srt k, fun x hx => h.kb x (mem_del hx), fun x hx => h.bnd x (mem_del hx)⟩
theorem del_len (es : List En) (k : List Int) : (del es k).length ≤ es.length := by unfold del; simp; omega
theorem bigger_law {d n : Nat} {l : List T} (h : Two d n l) : Ok (bigger d l).1 (bigger d l).2 ∧ (0 < (bigger d l).1 → d = 0 ∨ 2 ≤ n → 2 ≤ (bigger d l).2.size) ∧ (bigger d l).2.en = T.ens l := by
  rcases h with ⟨u, e, h1, h2, h3⟩ | ⟨u, v, e, h1, h2, h3, h4⟩
  · rw [e]
    refine ⟨h1, fun hd hn => ?_, by simp [bigger]⟩
    rcases hn with hn | hn
    · simp [bigger] at hd; omega
    · simp [bigger]; omega
  · rw [e]
    refine ⟨ok_knot (by simp) (by simp) (by simp; exact ⟨⟨h1, h3⟩, h2, h4⟩), fun _ _ => ?_, by simp [bigger]⟩
    simp [bigger, size_knot]
theorem smaller_law {d : Nat} {x : T} (h : Ok d x) (h1 : 1 ≤ x.size ∨ d = 0) : Ok (smaller d x).1 (smaller d x).2 ∧ (0 < (smaller d x).1 → 2 ≤ (smaller d x).2.size) ∧ (smaller d x).2.en = x.en := by
  unfold smaller
  cases d with
  | zero =>
    have := h.1
    rw [this]
    exact ⟨h, by simp, rfl⟩
  | succ d =>
    obtain ⟨a, b, c, e, f⟩ := h
    have hsz : x.size = x.ks.length := by unfold T.size; rw [a]; simp
    match hx : x.ks with
    | [] => exact (b hx).elim
    | [u] =>
      have hu := f u (by rw [hx]; simp)
      refine ⟨by simpa using hu.1, fun _ => hu.2, ?_⟩
      rw [en_eq x, a, hx]; simp
    | u :: v :: l =>
      refine ⟨⟨a, b, c, e, f⟩, fun _ => ?_, rfl⟩
      rw [hsz, hx]; simp
/-- A step, over trees, is one over what they hold. -/
theorem step_law {n : Nat} {F : List Ver} {x : Deed} (hF : ∀ p ∈ F, VOkC n p) (hk : KB x.key) :
    (stepD F x).1 = (stepC (F.map fun p => p.2.en) x).1 ∧ (stepD F x).2.map (fun p => p.2.en) = (stepC (F.map fun p => p.2.en) x).2 ∧ (∀ p ∈ (stepD F x).2, VOkC (n + 1) p) ∧ (stepD F x).2.length ≤ F.length + 1 := by
  have hF1 : ∀ p ∈ F, VOkC (n + 1) p := fun p hp => { hF p hp with len := Nat.le_succ_of_le (hF p hp).len }
  have hl : (F.map fun p => p.2.en).length = F.length := by simp
  unfold stepD stepC
  rw [hl]
  by_cases h1 : x.kind < 1 ∨ 4 < x.kind
  · rw [if_pos h1, if_pos h1]; exact ⟨rfl, rfl, hF1, by simp⟩
  rw [if_neg h1, if_neg h1]
  by_cases h2 : x.ver < 0 ∨ (F.length : Int) ≤ x.ver
  · rw [if_pos h2, if_pos h2]; exact ⟨rfl, rfl, hF1, by simp⟩
  rw [if_neg h2, if_neg h2]
  have hi : x.ver.toNat < F.length := by omega
  obtain ⟨p, hp⟩ : ∃ p, F[x.ver.toNat]? = some p := ⟨_, List.getElem?_eq_getElem hi⟩
  have hv : verAt F x.ver = p := by unfold verAt; rw [List.getD_eq_getElem?_getD, hp]; rfl
  have hc : contAt (F.map fun p => p.2.en) x.ver = p.2.en := by unfold contAt; rw [List.getD_eq_getElem?_getD, List.getElem?_map, hp]; rfl
  have hpo := hF p (List.mem_of_getElem? hp)
  rw [hv, hc]
  obtain ⟨d, t⟩ := p
  obtain ⟨o1, o2, o3, o4⟩ := hpo
  dsimp only at o1 o2 o3 o4 ⊢
  have app : ∀ q : Ver, VOkC (n + 1) q → ∀ p ∈ F ++ [q], VOkC (n + 1) p := fun q hq p hp => (List.mem_append.1 hp).elim (hF1 p) (fun h => by rw [List.mem_singleton.1 h]; exact hq)
  by_cases h3 : x.kind = 1
  · rw [if_pos h3, if_pos h3]
    by_cases h4 : x.key = [] ∨ 1200 < x.key.length ∨ 4000 < x.val.length
    · rw [if_pos h4, if_pos h4]; exact ⟨rfl, rfl, hF1, by simp⟩
    rw [if_neg h4, if_neg h4]
    obtain ⟨t1, t2⟩ := put_law ⟨x.key, x.val⟩ o1 o3.srt
    obtain ⟨b1, b2, b3⟩ := bigger_law t1
    rw [t2] at b3
    have hil := (ins_len (es := t.en) ⟨x.key, x.val⟩).2
    refine ⟨rfl, by simp [b3], app _ ⟨b1, fun h => b2 h ?_, by rw [b3]; exact eok_ins o3 hk (by dsimp only; omega) (by dsimp only; omega), by rw [b3]; omega⟩, by simp⟩
    by_cases hd : d = 0
    · exact .inl hd
    · exact .inr (o2 (by omega))
  rw [if_neg h3, if_neg h3]
  by_cases h4 : x.kind = 4
  · rw [if_pos h4, if_pos h4]; exact ⟨rfl, rfl, hF1, by simp⟩
  rw [if_neg h4, if_neg h4]
  cases hlk : lookE t.en x.key with
  | none => exact ⟨rfl, rfl, hF1, by simp⟩
  | some v =>
    dsimp only
    by_cases h5 : x.kind = 3
    · rw [if_pos h5, if_pos h5]; exact ⟨rfl, rfl, hF1, by simp⟩
    rw [if_neg h5, if_neg h5]
    obtain ⟨q1, q2, q3⟩ := drop_law o1 o2 o3.srt (lookE_atF hlk)
    obtain ⟨s1, s2, s3⟩ := smaller_law q1 (by
      by_cases hd : d = 0
      · exact .inr hd
      · have := o2 (by omega); exact .inl (by omega))
    rw [q2] at s3
    have hdl := del_len t.en x.key
    exact ⟨rfl, by simp [s3], app _ ⟨s1, s2, by rw [s3]; exact eok_del o3 x.key, by rw [s3]; omega⟩, by simp⟩
end Go.Proofs.Ytibcjkklgifgmaa
