/- bench.numbers answers at every line; where it says yes there are as many numbers as were asked. -/
import Derived.Test.YtioppgeackgjnaaDoorPlText
namespace Go.Proofs.YtioppgeackgjnaaDoor.Txt
open Go.RowKit Go.Proofs.YtioppgeackgjnaaDoor.Bt Go.Proofs.YtioppgeackgjnaaDoorW.PrintWords Go.Proofs.YtioppgeackgjnaaDoorW.PrintLast
set_option linter.unusedVariables false
theorem wrap_ok {x : Int} (h0 : -1000000000000000000 ≤ x) (h1 : x ≤ 1000000000000000000) : wrap64 x = x := by unfold wrap64; omega
theorem atoi_total (s : ByteArray) (h : s.size ≤ 281474976710656) : ∃ v b, strconv_Atoi.f s = some (v, b) := by
  unfold strconv_Atoi.f
  rw [if_pos h]
  split
  · exact ⟨_, _, rfl⟩
  · exact ⟨_, _, rfl⟩
  · exact ⟨_, _, rfl⟩
theorem fits_eq (v : Int) : bench_fits.f v = some (decide (0 ≤ v ∧ v ≤ 1099511627776)) := by
  unfold bench_fits.f
  by_cases h : v ≥ 0
  · rw [if_pos h]
    congr 1
    by_cases h2 : v ≤ 1099511627776
    · rw [decide_eq_true h2, decide_eq_true ⟨h, h2⟩]
    · rw [decide_eq_false h2, decide_eq_false (fun e => h2 e.2)]
  · rw [if_neg h, decide_eq_false (fun e => h e.1)]
theorem itoa_ok (v : Int) (h : 0 ≤ v ∧ v ≤ 1099511627776) : strconv_Itoa.f v = some ⟨(Lib.itoa v).toArray⟩ := by
  unfold strconv_Itoa.f
  rw [if_pos (by omega)]
theorem numbers_l0 (y : List ByteArray) (hy : ∀ s ∈ y, s.size ≤ 281474976710656) (hl : y.length ≤ 10000000000) : ∀ (d k i : Nat) (out : List Int), i + d = y.length → d < k → out.length = i → (∀ x ∈ out, 0 ≤ x ∧ x ≤ 1099511627776) → ∃ r, bench_numbers.l0 k out y (y.length : Int) (i : Int) = some r ∧ (r.2 = true → r.1.length = y.length ∧ ∀ x ∈ r.1, 0 ≤ x ∧ x ≤ 1099511627776) := by
  intro d
  induction d with
  | zero =>
    intro k i out hi hk ho hx
    obtain ⟨k, rfl⟩ : ∃ m, k = m + 1 := ⟨k - 1, by omega⟩
    refine ⟨(out, true), ?_, fun _ => ⟨by show out.length = _; omega, hx⟩⟩
    rw [bench_numbers.l0, if_neg (by omega)]
  | succ d ih =>
    intro k i out hi hk ho hx
    obtain ⟨k, rfl⟩ : ∃ m, k = m + 1 := ⟨k - 1, by omega⟩
    have hlt : i < y.length := by omega
    have hs : (rdOf ByteArray.empty y (i : Int)).size ≤ 281474976710656 := by
      have : rdOf ByteArray.empty y (i : Int) = y[i] := by simp [rdOf, hlt]
      rw [this]
      exact hy _ (List.getElem_mem hlt)
    obtain ⟨v, b, hv⟩ := atoi_total _ hs
    rw [bench_numbers.l0, if_pos (by omega), if_pos (by omega), if_pos (by omega), hv, Option.bind_some]
    cases b with
    | true => exact ⟨_, if_pos rfl, fun h => by cases h⟩
    | false =>
      rw [if_neg (fun h => by cases h), fits_eq, Option.bind_some]
      by_cases hf : 0 ≤ v ∧ v ≤ 1099511627776
      · rw [decide_eq_true hf, if_pos rfl]
        dsimp only
        rw [itoa_ok v hf, Option.bind_some]
        split
        · rw [if_pos (by omega), wrap_ok (by omega) (by omega)]
          exact ih k (i + 1) _ (by omega) (by omega) (by simp; omega) (fun x hm => by
            rcases List.mem_append.1 hm with hm | hm
            · exact hx x hm
            · rw [List.mem_singleton.1 hm]; exact hf)
        · exact ⟨_, rfl, fun h => by cases h⟩
      · rw [decide_eq_false hf, if_neg (by decide)]
        exact ⟨_, rfl, fun h => by cases h⟩
theorem splitB_sizes (sep : ByteArray) : ∀ (k : Nat) (s : ByteArray), ∀ x ∈ Lib.splitB sep 0 k s, x.size ≤ s.size
  | 0, s, x, h => by
    rw [Lib.splitB_zero] at h
    rw [List.mem_singleton.1 h]
    exact Nat.le_refl _
  | k + 1, s, x, h => by
    unfold Lib.splitB at h
    split at h
    · rw [List.mem_singleton.1 h]
      exact Nat.le_refl _
    · rcases List.mem_cons.1 h with e | e
      · rw [e, ByteArray.size_extract]
        omega
      · have := splitB_sizes sep k _ x e
        rw [ByteArray.size_extract] at this
        omega
theorem j0_yes (k : Nat) (t : List ByteArray) : bench_numbers.j0 (k + 1) t true = some ([], false) := by
  rw [bench_numbers.j0, if_pos rfl]
/-- bench.numbers answers. -/
theorem numbers_total (line word : ByteArray) (many : Nat) (hm : many ≤ 2) (hl : line.size < 4294967281) : ∃ k r, bench_numbers.f k line word (many : Int) = some r ∧ (r.2 = true → r.1.length = many ∧ ∀ x ∈ r.1, 0 ≤ x ∧ x ≤ 1099511627776) := by
  obtain ⟨t, ht⟩ : ∃ t, t = Lib.splitB ⟨#[32]⟩ 0 (Lib.countB line ⟨#[32]⟩) line := ⟨_, rfl⟩
  have hsz : ∀ s ∈ t, s.size ≤ 281474976710656 := fun s hs => by
    rw [ht] at hs
    have := splitB_sizes _ _ _ s hs
    omega
  have hsp : strings_Split.f line ⟨#[32]⟩ = some t := by
    unfold strings_Split.f
    rw [if_pos ⟨hl, by decide⟩, ht]
  by_cases hlen : t.length = many + 1
  · by_cases hw : ((rdOf ByteArray.empty t 0).toList != word.toList) = true
    · refine ⟨1, ([], false), ?_, fun h => by cases h⟩
      unfold bench_numbers.f
      rw [hsp, Option.bind_some, wrap_ok (by omega) (by omega), if_pos (by omega), if_pos (by omega), hw]
      exact j0_yes 0 t
    · obtain ⟨r, hr, hr2⟩ := numbers_l0 (t.drop 1) (fun s hs => hsz s (List.mem_of_mem_drop hs)) (by rw [List.length_drop]; omega) (t.drop 1).length ((t.drop 1).length + 1) 0 [] (by omega) (by omega) rfl (by simp)
      refine ⟨(t.drop 1).length + 1 + 1, r, ?_, fun h => ⟨by rw [(hr2 h).1, List.length_drop]; omega, (hr2 h).2⟩⟩
      unfold bench_numbers.f
      rw [hsp, Option.bind_some, wrap_ok (by omega) (by omega), if_pos (by omega), if_pos (by omega), Bool.eq_false_iff.2 hw, bench_numbers.j0, if_neg (by decide), if_pos (by omega), Option.bind_some]
      exact hr
  · refine ⟨1, ([], false), ?_, fun h => by cases h⟩
    unfold bench_numbers.f
    rw [hsp, Option.bind_some, wrap_ok (by omega) (by omega), if_neg (by omega)]
    exact j0_yes 0 t
end Go.Proofs.YtioppgeackgjnaaDoor.Txt
