/- Of a row put in one by one, in whatever order, however often: the same lowest. -/
import Derived.Test.YthhbdampbpndpaaBo12
namespace Go.Proofs.Ythhbdampbpndpaa.Pure
open Go.RowKit Go.Proofs.Ythhbdampbpndpaa.Bo Go.Proofs.YthhbdampbpndpaaW.PrintWords Go.Proofs.YthhbdampbpndpaaW.PrintLast
set_option linter.unusedVariables false
set_option linter.unusedSimpArgs false
theorem rd_get (l : List Int) (j : Nat) (h : j < l.length) : rd l (j : Int) = l[j] := by
  simp [rd, h]
theorem right_loop (s : Int) (l : List Int) (hs : Rk.Word s) (hw : ∀ x ∈ l, Rk.Word x) (hi : Rk.Inc s l) (hl : l.length ≤ 4000000) : ∀ (n k i : Nat), 1 ≤ i → i ≤ l.length + 1 → l.length ≤ i + n → n + 1 ≤ k → bottom_Right.l0 k s l (i : Int) = some true
  | n, 0, i, h1, h1', h2, h3 => by omega
  | 0, k + 1, i, h1, h1', h2, h3 => by
    rw [bottom_Right.l0, if_neg (by omega)]
  | n + 1, k + 1, i, h1, h1', h2, h3 => by
    rw [bottom_Right.l0]
    by_cases h : (i : Int) < (l.length : Int)
    · have w1 : wrap64 ((i : Int) - 1) = ((i - 1 : Nat) : Int) := by rw [wrap_ok (by omega) (by omega)]; omega
      have w2 : wrap64 ((i : Int) + 1) = ((i + 1 : Nat) : Int) := by rw [wrap_ok (by omega) (by omega)]; omega
      rw [if_pos h, w1, w2, if_pos (by omega), if_pos (by omega), rd_get l (i - 1) (by omega), rd_get l i (by omega), Rk.rank_some hs (hw _ (List.getElem_mem _)), Option.bind_some, if_pos (by omega), Rk.rank_some hs (hw _ (List.getElem_mem _)), Option.bind_some]
      have hlt : Rk.rk s l[i - 1] < Rk.rk s l[i] := List.pairwise_iff_getElem.1 hi (i - 1) i (by omega) (by omega) (by omega)
      rw [if_neg (by omega)]
      exact right_loop s l hs hw hi hl n k (i + 1) (by omega) (by omega) (by omega) (by omega)
    · rw [if_neg h]
theorem right_ok (k : Nat) (s room : Int) (l : List Int) (hs : Rk.Word s) (hw : ∀ x ∈ l, Rk.Word x) (hi : Rk.Inc s l) (h0 : 1 ≤ room) (h1 : room ≤ 400) (hl : (l.length : Int) ≤ room) (hk : 403 ≤ k) : bottom_Right.f k s room l = some true := by
  unfold bottom_Right.f
  rw [if_neg (by omega), if_neg (by omega), decide_eq_false (by omega)]
  obtain ⟨k, rfl⟩ : ∃ j, k = j + 1 := ⟨k - 1, by omega⟩
  rw [bottom_Right.j0, if_neg (by decide)]
  exact right_loop s l hs hw hi (by omega) l.length k 1 (by omega) (by omega) (by omega) (by omega)
theorem inc_take {s : Int} {l : List Int} (h : Rk.Inc s l) (n : Nat) : Rk.Inc s (l.take n) := List.Pairwise.sublist (List.take_sublist n l) h
theorem join_one (k : Nat) (s room : Int) (l : List Int) (y : Int) (hs : Rk.Word s) (hw : ∀ x ∈ l, Rk.Word x) (hy : Rk.Word y) (hi : Rk.Inc s l) (h0 : 1 ≤ room) (h1 : room ≤ 400) (hl : (l.length : Int) ≤ room) (hk : 403 ≤ k) :
    bottom_Join.f k s room l [y] = some ((Rk.ins s y l).take room.toNat, 0) := by
  unfold bottom_Join.f
  have hy1 : ∀ x ∈ [y], Rk.Word x := fun x hx => by rw [List.mem_singleton] at hx; subst hx; exact hy
  rw [right_ok k s room l hs hw hi h0 h1 hl hk, Option.bind_some, if_pos rfl, right_ok k s room [y] hs hy1 (List.pairwise_singleton _ _) h0 h1 (by simpa using h0) hk, Option.bind_some, if_pos rfl, if_pos]
  · rfl
  · unfold joinCond
    exact decide_eq_true ⟨hs, hw, hy1, hi, by omega, by simp, by omega, h1⟩
theorem take_len (l : List Int) (room : Int) (h0 : 1 ≤ room) : ((l.take room.toNat).length : Int) ≤ room := by
  rw [List.length_take]; omega
theorem all_loop (s room : Int) (l : List Int) (hs : Rk.Word s) (hw : ∀ x ∈ l, Rk.Word x) (h0 : 1 ≤ room) (h1 : room ≤ 400) (hl : l.length ≤ 4000000) : ∀ (n k i : Nat), i + n = l.length → n + 405 ≤ k →
    bottom_All.l0 k s room ((Rk.insAll s [] (l.take i)).take room.toNat) l (l.length : Int) (i : Int) = some ((Rk.insAll s [] l).take room.toNat, 0)
  | n, 0, i, h2, h3 => by omega
  | 0, k + 1, i, h2, h3 => by
    rw [bottom_All.l0, if_neg (by omega), (show l.take i = l from List.take_of_length_le (by omega))]
  | n + 1, k + 1, i, h2, h3 => by
    have hwi : ∀ x ∈ l.take i, Rk.Word x := fun x hx => hw x (List.mem_of_mem_take hx)
    obtain ⟨q1, q2⟩ := Rk.insAll_ok hs (l.take i) [] (by simp) hwi List.Pairwise.nil
    have w2 : wrap64 ((i : Int) + 1) = ((i + 1 : Nat) : Int) := by rw [wrap_ok (by omega) (by omega)]; omega
    have hil : i < l.length := by omega
    rw [bottom_All.l0, if_pos (by omega), if_pos (by omega), if_pos (by omega), rd_get l i hil,
      join_one k s room _ _ hs (fun x hx => q2 x (List.mem_of_mem_take hx)) (hw _ (List.getElem_mem _)) (inc_take q1 _) h0 h1 (take_len _ room h0) (by omega), Option.bind_some, if_pos rfl, w2, Rk.take_ins]
    have e : Rk.ins s l[i] (Rk.insAll s [] (l.take i)) = Rk.insAll s [] (l.take (i + 1)) := by
      rw [List.take_succ_eq_append_getElem hil]
      unfold Rk.insAll
      rw [List.foldl_append]
      rfl
    show bottom_All.l0 k s room ((Rk.ins s l[i] (Rk.insAll s [] (l.take i))).take room.toNat) l (l.length : Int) ((i + 1 : Nat) : Int) = _
    rw [e]
    exact all_loop s room l hs hw h0 h1 hl n k (i + 1) (by omega) (by omega)
/-- What All answers. -/
def allS (s room : Int) (l : List Int) : List Int × Int := if 1 ≤ room ∧ room ≤ 400 then ((Rk.insAll s [] l).take room.toNat, 0) else ([], 2)
theorem all_ok (k : Nat) (s room : Int) (l : List Int) (hs : Rk.Word s) (hw : ∀ x ∈ l, Rk.Word x) (hl : l.length ≤ 4000000) (hk : l.length + 410 ≤ k) : bottom_All.f k s room l = some (allS s room l) := by
  obtain ⟨k, rfl⟩ : ∃ j, k = j + 1 := ⟨k - 1, by omega⟩
  unfold bottom_All.f allS
  by_cases h0 : room < 1
  · rw [if_pos h0, if_neg (by omega), bottom_All.j0, if_pos rfl]
  · rw [if_neg h0]
    by_cases h1 : room > 400
    · rw [decide_eq_true h1, if_neg (by omega), bottom_All.j0, if_pos rfl]
    · rw [decide_eq_false h1, if_pos (by omega), bottom_All.j0, if_neg (by decide)]
      have := all_loop s room l hs hw (by omega) (by omega) hl l.length k 0 (by omega) (by omega)
      simpa [Rk.insAll] using this
theorem all_same (s room : Int) (l m : List Int) (hs : Rk.Word s) (hl : ∀ x ∈ l, Rk.Word x) (hm : ∀ x ∈ m, Rk.Word x) (h : ∀ z, z ∈ m ↔ z ∈ l) : allS s room m = allS s room l := by
  have e : Rk.insAll s [] m = Rk.insAll s [] l := Rk.inc_unique _ _ (Rk.insAll_ok hs m [] (by simp) hm List.Pairwise.nil).1 (Rk.insAll_ok hs l [] (by simp) hl List.Pairwise.nil).1 (fun z => by rw [Rk.insAll_mem, Rk.insAll_mem, h z])
  unfold allS
  rw [e]
theorem equal_loop (l : List Int) (hl : l.length ≤ 4000000) : ∀ (n k i : Nat), i + n = l.length → n + 1 ≤ k → slices_Equal_uint64_uint64.l0 k l l (l.length : Int) (i : Int) = some true
  | n, 0, i, h2, h3 => by omega
  | 0, k + 1, i, h2, h3 => by rw [slices_Equal_uint64_uint64.l0, if_neg (by omega)]
  | n + 1, k + 1, i, h2, h3 => by
    have w2 : wrap64 ((i : Int) + 1) = ((i + 1 : Nat) : Int) := by rw [wrap_ok (by omega) (by omega)]; omega
    rw [slices_Equal_uint64_uint64.l0, if_pos (by omega), if_pos (by omega), if_pos (by omega), if_pos (by omega), if_pos rfl, w2]
    exact equal_loop l hl n k (i + 1) (by omega) (by omega)
theorem equal_self (k : Nat) (l : List Int) (hl : l.length ≤ 4000000) (hk : l.length + 1 ≤ k) : slices_Equal_uint64_uint64.f k l l = some true := by
  unfold slices_Equal_uint64_uint64.f
  rw [if_pos rfl]
  exact equal_loop l hl l.length k 0 (by omega) hk
theorem reverse_loop (l : List Int) (hl : l.length ≤ 4000000) : ∀ (n k i : Nat) (x : List Int), x.Perm l → i ≤ l.length → l.length ≤ i + n → n + 1 ≤ k → ∃ y, slices_Reverse_uint64_uint64.l0 k x (i : Int) ((l.length : Int) - 1 - i) = some y ∧ y.Perm l
  | n, 0, i, x, hx, h1, h2, h3 => by omega
  | 0, k + 1, i, x, hx, h1, h2, h3 => by
    rw [slices_Reverse_uint64_uint64.l0, if_neg (by omega)]
    exact ⟨x, rfl, hx⟩
  | n + 1, k + 1, i, x, hx, h1, h2, h3 => by
    have hxl := hx.length_eq
    rw [slices_Reverse_uint64_uint64.l0]
    by_cases h : (i : Int) < (l.length : Int) - 1 - i
    · obtain ⟨j, hj⟩ : ∃ j : Nat, (l.length : Int) - 1 - i = (j : Int) := ⟨l.length - 1 - i, by omega⟩
      have w1 : wrap64 ((i : Int) + 1) = ((i + 1 : Nat) : Int) := by rw [wrap_ok (by omega) (by omega)]; omega
      have w2 : wrap64 ((j : Int) - 1) = (l.length : Int) - 1 - ((i + 1 : Nat) : Int) := by rw [wrap_ok (by omega) (by omega)]; omega
      rw [if_pos h, if_pos (by omega), if_pos (by omega), if_pos (by omega), if_pos (by omega), hj, w1, w2, rd_get x j (by omega), rd_get x i (by omega), Int.toNat_natCast, Int.toNat_natCast]
      have hp : ((x.set i x[j]).set j x[i]).Perm x := List.set_set_perm (by omega) (by omega)
      exact reverse_loop l hl n k (i + 1) _ (hp.trans hx) (by omega) (by omega) (by omega)
    · rw [if_neg h]
      exact ⟨x, rfl, hx⟩
theorem reverse_ok (k : Nat) (l : List Int) (hl : l.length ≤ 4000000) (hk : l.length + 1 ≤ k) : ∃ y, slices_Reverse_uint64_uint64.f k l = some y ∧ y.Perm l := by
  unfold slices_Reverse_uint64_uint64.f
  rw [wrap_ok (by omega) (by omega)]
  have := reverse_loop l hl l.length k 0 l (List.Perm.refl _) (by omega) (by omega) hk
  simpa using this
theorem order_loop (s room : Int) (l p : List Int) (hs : Rk.Word s) (hw : ∀ x ∈ l, Rk.Word x) (hl : l.length ≤ 1048576) (hp : p.length ≤ 1048576) :
    ∀ (n k i : Nat) (m : List Int), i + n = p.length → n + 3000000 ≤ k → (∀ z, z ∈ m ↔ z ∈ l) → m.length ≤ 1048576 + i → lotdrawerkeep_BottomOrder.l0 k s room l (allS s room l).1 (allS s room l).2 m p (p.length : Int) (i : Int) = some true
  | n, 0, i, m, h2, h3, hm, hml => by omega
  | 0, k + 1, i, m, h2, h3, hm, hml => by
    have hmw : ∀ x ∈ m, Rk.Word x := fun x hx => hw x ((hm x).1 hx)
    have hle : (allS s room l).1.length ≤ 400 := by
      unfold allS
      split
      · rw [List.length_take]; omega
      · simp
    rw [lotdrawerkeep_BottomOrder.l0, if_neg (by omega), all_ok k s room m hs hmw (by omega) (by omega), Option.bind_some, all_same s room l m hs hw hmw hm, if_pos rfl, equal_self k _ (by omega) (by omega), Option.bind_some, if_pos rfl]
    by_cases hr : 1 ≤ room ∧ room ≤ 400
    · have ea : allS s room l = ((Rk.insAll s [] l).take room.toNat, 0) := by unfold allS; rw [if_pos hr]
      obtain ⟨q1, q2⟩ := Rk.insAll_ok hs l [] (by simp) hw List.Pairwise.nil
      rw [ea, if_pos rfl, right_ok k s room _ hs (fun x hx => q2 x (List.mem_of_mem_take hx)) (inc_take q1 _) hr.1 hr.2 (take_len _ room hr.1) (by omega), Option.bind_some]
    · have ea : allS s room l = ([], 2) := by unfold allS; rw [if_neg hr]
      rw [ea, if_neg (by decide)]
  | n + 1, k + 1, i, m, h2, h3, hm, hml => by
    have w2 : wrap64 ((i : Int) + 1) = ((i + 1 : Nat) : Int) := by rw [wrap_ok (by omega) (by omega)]; omega
    rw [lotdrawerkeep_BottomOrder.l0, if_pos (by omega), if_pos (by omega), if_pos (by omega), w2]
    by_cases hz : (l.length : Int) > 0
    · have hn0 : (l.length : Int) ≠ 0 := by omega
      have t0 : -(l.length : Int) < Int.tmod (rd p (i : Int)) (l.length : Int) ∧ Int.tmod (rd p (i : Int)) (l.length : Int) < (l.length : Int) := by
        constructor
        · have := Int.tmod_lt_of_pos (-(rd p (i : Int))) hz
          rw [Int.neg_tmod] at this
          omega
        · exact Int.tmod_lt_of_pos _ hz
      have w3 : wrap64 (Int.tmod (rd p (i : Int)) (l.length : Int) + (l.length : Int)) = Int.tmod (rd p (i : Int)) (l.length : Int) + (l.length : Int) := wrap_ok (by omega) (by omega)
      have t1 : 0 ≤ Int.tmod (Int.tmod (rd p (i : Int)) (l.length : Int) + (l.length : Int)) (l.length : Int) := Int.tmod_nonneg _ (by omega)
      have t2 : Int.tmod (Int.tmod (rd p (i : Int)) (l.length : Int) + (l.length : Int)) (l.length : Int) < (l.length : Int) := Int.tmod_lt_of_pos _ hz
      rw [if_pos hz, if_neg hn0, w3, if_pos t1, if_pos t2, if_pos (by omega)]
      obtain ⟨j, hj⟩ : ∃ j : Nat, Int.tmod (Int.tmod (rd p (i : Int)) (l.length : Int) + (l.length : Int)) (l.length : Int) = (j : Int) := ⟨_, (Int.toNat_of_nonneg t1).symm⟩
      rw [hj] at t2 ⊢
      rw [rd_get l j (by omega)]
      refine order_loop s room l p hs hw hl hp n k (i + 1) _ (by omega) (by omega) (fun z => ?_) (by rw [List.length_append, List.length_singleton]; omega)
      rw [List.mem_append, List.mem_singleton, hm z]
      constructor
      · rintro (h | rfl)
        · exact h
        · exact List.getElem_mem _
      · exact .inl
    · rw [if_neg hz]
      exact order_loop s room l p hs hw hl hp n k (i + 1) m (by omega) (by omega) hm (by omega)
theorem alive : lotdrawerkeep_alive12.f 450 = some true := by decide +kernel
theorem BottomOrder (s room : Int) (l p : List Int) (hs : Rk.Word s) (hw : ∀ x ∈ l, Rk.Word x) (hl : l.length ≤ 1048576) (hp : p.length ≤ 1048576) : ∃ k, lotdrawerkeep_BottomOrder.f k s room l p = some true := by
  refine ⟨9000000, ?_⟩
  have ha : lotdrawerkeep_alive12.f 9000000 = some true := at_rounds (g := fun k => lotdrawerkeep_alive12.f k) lotdrawerkeep_alive12.mono (by omega) alive
  obtain ⟨m, hm, hmp⟩ := reverse_ok 9000000 l (by omega) (by omega)
  have hc : slices_Clone_u64.f l = some l := by
    unfold slices_Clone_u64.f
    rw [Option.bind_some, if_pos (by simp; omega), List.nil_append]
  unfold lotdrawerkeep_BottomOrder.f
  rw [ha, Option.bind_some, if_pos rfl, all_ok 9000000 s room l hs hw (by omega) (by omega), Option.bind_some, hc, Option.bind_some, hm, Option.bind_some]
  exact order_loop s room l p hs hw hl hp p.length 9000000 0 m (by omega) (by omega) (fun z => hmp.mem_iff) (by have := hmp.length_eq; omega)
end Go.Proofs.Ythhbdampbpndpaa.Pure
