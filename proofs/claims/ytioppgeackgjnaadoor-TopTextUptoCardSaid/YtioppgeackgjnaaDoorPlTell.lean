/- How many are read: as many as lines end, but one. -/
import Derived.Test.YtioppgeackgjnaaDoorPlParse
namespace Go.Proofs.YtioppgeackgjnaaDoor.Txt
open Go.RowKit Go.Proofs.YtioppgeackgjnaaDoor.Bt Go.Proofs.YtioppgeackgjnaaDoorW.PrintWords Go.Proofs.YtioppgeackgjnaaDoorW.PrintLast
set_option linter.unusedVariables false
theorem count_cut {t a b : List UInt8} (h : cutAt 10 t = (a, b, true)) : t.count 10 = b.count 10 + 1 := by
  have h1 := (index_one 10 t).1 (by rw [h])
  rw [h] at h1
  obtain ⟨_, a2, a3⟩ := h1
  simp only at a2 a3
  rw [a2, List.count_append, List.count_cons_self, List.count_eq_zero_of_not_mem a3]
  omega
theorem parseS_count : ∀ (n : Nat) (t : List UInt8) (room : Int) (out : List S36) (idx : Nat) (r : Int) (o : List S36), parseS n t room out idx = some (r, o) → o.length + (if idx = 0 then 1 else 0) = out.length + t.count 10
  | 0, _, _, _, _, _, _, h => by simp [parseS] at h
  | n + 1, t, room, out, idx, r, o, h => by
    rw [parseS] at h
    by_cases hc : idx ≠ 0 ∧ t = []
    · rw [if_pos hc] at h
      simp only [Option.some.injEq, Prod.mk.injEq] at h
      obtain ⟨rfl, rfl⟩ := h
      rw [hc.2, if_neg hc.1]
      simp
    · rw [if_neg hc] at h
      by_cases hk : (cutAt 10 t).2.2 = true ∧ (numsOf (cutAt 10 t).1 (idx == 0)).2 = true
      · rw [if_pos hk] at h
        rcases hq : cutAt 10 t with ⟨a, b, c⟩
        rw [hq] at h hk
        obtain rfl : c = true := hk.1
        have hcnt := count_cut hq
        by_cases h0 : idx = 0
        · rw [if_pos h0] at h
          have := parseS_count n _ _ _ _ _ _ h
          rw [if_pos h0]
          simp at this
          omega
        · rw [if_neg h0] at h
          have := parseS_count n _ _ _ _ _ _ h
          rw [if_neg h0]
          simp at this
          omega
      · rw [if_neg hk] at h
        cases h
def Fit (x : Int) : Prop := 0 ≤ x ∧ x ≤ 1099511627776
theorem rd_fit {l : List Int} {i : Nat} (hi : i < l.length) (h : ∀ x ∈ l, 0 ≤ x ∧ x ≤ 1099511627776) : Fit (rd l (i : Int)) := by
  have : rd l (i : Int) = l[i] := by simp [rd, hi]
  rw [this]
  exact h _ (List.getElem_mem hi)
theorem parseS_fit : ∀ (n : Nat) (t : List UInt8) (room : Int) (out : List S36) (idx : Nat) (r : Int) (o : List S36), t.length < 4294967281 → (∀ c ∈ out, Fit c.f0 ∧ Fit c.f1) → parseS n t room out idx = some (r, o) → ∀ c ∈ o, Fit c.f0 ∧ Fit c.f1
  | 0, _, _, _, _, _, _, _, _, h => by simp [parseS] at h
  | n + 1, t, room, out, idx, r, o, ht, ho, h => by
    rw [parseS] at h
    by_cases hc : idx ≠ 0 ∧ t = []
    · rw [if_pos hc] at h
      simp only [Option.some.injEq, Prod.mk.injEq] at h
      obtain ⟨rfl, rfl⟩ := h
      exact ho
    · rw [if_neg hc] at h
      by_cases hk : (cutAt 10 t).2.2 = true ∧ (numsOf (cutAt 10 t).1 (idx == 0)).2 = true
      · rw [if_pos hk] at h
        obtain ⟨hl1, hl2⟩ := cutAt_lens t
        have hl2 := hl2 hk.1
        by_cases h0 : idx = 0
        · rw [if_pos h0] at h
          exact parseS_fit n _ _ _ _ _ _ (by omega) ho h
        · rw [if_neg h0] at h
          have hb : (idx == 0) = false := beq_eq_false_iff_ne.2 h0
          rw [hb] at hk
          obtain ⟨n1, n2⟩ := numsOf_len (cutAt 10 t).1 false (by omega) hk.2
          refine parseS_fit n _ _ _ _ _ _ (by omega) (fun c hm => ?_) h
          rcases List.mem_append.1 hm with hm | hm
          · exact ho c hm
          · rw [List.mem_singleton.1 hm]
            exact ⟨rd_fit (i := 0) (by rw [n1]; decide) n2, rd_fit (i := 1) (by rw [n1]; decide) n2⟩
      · rw [if_neg hk] at h
        cases h
/-! ### the pool -/
structure PoolOK (room came : Int) (has : List Int) : Prop where
  rooms : 1 ≤ room ∧ room ≤ 400
  comes : 0 ≤ came ∧ came ≤ 1099511627776
  len : (has.length : Int) = mn room came
  fit : ∀ x ∈ has, 0 ≤ x ∧ x ≤ 1099511627776
theorem right_ok {room came : Int} {has : List Int} (h : PoolOK room came has) : pool_Right.f room came has = some true := by
  unfold pool_Right.f
  rw [if_pos h.rooms.1, if_pos h.rooms.2, if_pos h.comes.1, if_pos h.comes.2, h.len]
  simp
theorem clone_ok {l : List Int} (h : l.length ≤ 1000) : slices_Clone_int_int.f l = some l := by
  unfold slices_Clone_int_int.f
  rw [Option.bind_some, if_pos (by simp; omega)]
  simp
theorem len_le {room came : Int} {has : List Int} (h : PoolOK room came has) : has.length ≤ 400 := by
  have h1 := h.len
  have h2 := h.rooms
  unfold mn at h1
  split at h1 <;> omega
/-- pool.Add answers; a pool that it hands back without error is one. -/
theorem add_total {room came : Int} {has : List Int} (h : PoolOK room came has) (x d : Int) (hx : 0 ≤ x ∧ x ≤ 1099511627776) : ∃ r1 r2 r3 e, pool_Add.f room came has x d = some (r1, r2, r3, e) ∧ (e = 0 → PoolOK r1 r2 r3) ∧ 0 ≤ e ∧ e ≤ 4 := by
  have hl := len_le h
  have hlen := h.len
  have hr := h.rooms
  have hc := h.comes
  unfold pool_Add.f
  rw [right_ok h, Option.bind_some, if_pos rfl]
  by_cases c1 : came = 1099511627776
  · rw [if_pos c1]; exact ⟨_, _, _, _, rfl, fun h => absurd h (by decide), by omega, by omega⟩
  rw [if_neg c1]
  by_cases c2 : d < 0
  · rw [if_pos c2]; exact ⟨_, _, _, _, rfl, fun h => absurd h (by decide), by omega, by omega⟩
  rw [if_neg c2]
  by_cases c3 : d > came
  · rw [if_pos c3]; exact ⟨_, _, _, _, rfl, fun h => absurd h (by decide), by omega, by omega⟩
  rw [if_neg c3, clone_ok (by omega), Option.bind_some, wrap_ok (by omega) (by omega)]
  unfold mn at hlen
  by_cases c4 : (has.length : Int) < room
  · rw [if_pos c4, if_pos (by omega)]
    refine ⟨_, _, _, _, rfl, fun _ => ⟨hr, by omega, ?_, ?_⟩, by omega, by omega⟩
    · unfold mn
      rw [List.length_append]
      split at hlen <;> split <;> simp <;> omega
    · intro y hy
      rcases List.mem_append.1 hy with hy | hy
      · exact h.fit y hy
      · rw [List.mem_singleton.1 hy]; exact hx
  · rw [if_neg c4]
    by_cases c5 : d < room
    · rw [if_pos c5, if_pos (by omega), if_pos (by split at hlen <;> omega)]
      refine ⟨_, _, _, _, rfl, fun _ => ⟨hr, by omega, ?_, ?_⟩, by omega, by omega⟩
      · unfold mn
        rw [List.length_set]
        split at hlen <;> split <;> omega
      · intro y hy
        rcases List.mem_or_eq_of_mem_set hy with hy | hy
        · exact h.fit y hy
        · rw [hy]; exact hx
    · rw [if_neg c5]
      refine ⟨_, _, _, _, rfl, fun _ => ⟨hr, by omega, ?_, h.fit⟩, by omega, by omega⟩
      unfold mn
      split at hlen <;> split <;> omega
end Go.Proofs.YtioppgeackgjnaaDoor.Txt
