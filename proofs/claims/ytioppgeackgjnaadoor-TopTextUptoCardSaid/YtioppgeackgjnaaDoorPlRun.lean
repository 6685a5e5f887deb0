/- bench.Tell answers: nothing at an error, else a line for each and one more. -/
import Derived.Test.YtioppgeackgjnaaDoorPlMore
namespace Go.Proofs.YtioppgeackgjnaaDoor.Txt
open Go.RowKit Go.Proofs.YtioppgeackgjnaaDoor.Bt Go.Proofs.YtioppgeackgjnaaDoorW.PrintWords Go.Proofs.YtioppgeackgjnaaDoorW.PrintLast
set_option linter.unusedVariables false
theorem size_list (t : ByteArray) : t.data.toList.length = t.size := by rw [Array.length_toList]; rfl
theorem new_of (r : Int) : (1 ≤ r ∧ r ≤ 400 ∧ pool_New.f r = some (r, 0, [], 0)) ∨ pool_New.f r = some (0, 0, [], 2) := by
  unfold pool_New.f pool_Right.f
  by_cases h1 : r ≥ 1
  · by_cases h2 : r ≤ 400
    · left
      refine ⟨h1, h2, ?_⟩
      rw [if_pos h1, if_pos h2, if_pos (by omega), if_pos (by omega), Option.bind_some]
      have : mn r 0 = 0 := by unfold mn; split <;> omega
      rw [this]
      rfl
    · right
      rw [if_pos h1, if_neg h2]
      rfl
  · right
    rw [if_neg h1]
    rfl
theorem new_ok {r : Int} (h : 1 ≤ r ∧ r ≤ 400) : PoolOK r 0 [] := ⟨h, by omega, by unfold mn; split <;> simp <;> omega, by simp⟩
theorem tell_run (t : ByteArray) (ht : t.size < 4294967281) : ∃ k, ∃ res : List ByteArray × Int, bench_Tell.f k t = some res ∧ (res.2 ≠ 0 → res.1 = []) ∧ (res.2 = 0 → ∃ n r o last, parseS n t.data.toList 0 [] 0 = some (r, o) ∧ res.1 = linesS (r, 0, []) o ++ [last]) := by
  have hz := size_list t
  obtain ⟨k, i, hk⟩ := parse_run (t.data.toList.length + 1) t.data.toList 0 [] 0 (by omega) (by omega) (by simp) (by omega)
  rw [T_of] at hk
  cases hp : parseS (t.data.toList.length + 1) t.data.toList 0 [] 0 with
  | none =>
    rw [hp] at hk
    refine ⟨k, ([], 1), ?_, fun _ => rfl, fun h => absurd h (by decide)⟩
    unfold bench_Tell.f bench_Parse.f
    rw [show ((0 : Nat) : Int) = 0 from rfl] at hk
    rw [hk, Option.bind_some, if_neg (show ¬ (1 : Int) = 0 by decide)]
  | some p =>
    obtain ⟨r, o⟩ := p
    rw [hp] at hk
    rcases new_of r with ⟨h1, h2, h3⟩ | h3
    · have hfit := parseS_fit _ _ _ _ _ _ _ (by omega) (by simp) hp
      have hcnt := parseS_count _ _ _ _ _ _ _ hp
      have hle : t.data.toList.count 10 ≤ t.data.toList.length := List.count_le_length
      obtain ⟨k2, last, h⟩ := tell_l0 o [] [] (r, 0, []) (new_ok ⟨h1, h2⟩) hfit (by rw [if_pos rfl] at hcnt; show 0 + o.length ≤ _; simp only [List.length_nil] at hcnt; omega) rfl
      refine ⟨k + k2, (linesS (r, 0, []) o ++ [last], 0), ?_, fun h => absurd rfl h, fun _ => ⟨_, r, o, last, hp, rfl⟩⟩
      have hk' := at_rounds (bench_Parse.mono t) (show k ≤ k + k2 by omega) (show bench_Parse.f k t = some (r, o, 0, 0) from hk)
      have h' := at_rounds (fun k => (bench_Tell.mono_l k).1 _ _ _ _ _ _ _) (show k2 ≤ k + k2 by omega) h
      unfold bench_Tell.f
      rw [hk', Option.bind_some, if_pos rfl, h3, Option.bind_some, if_pos rfl]
      simpa using h'
    · refine ⟨k, ([], 2), ?_, fun _ => rfl, fun h => absurd h (by decide)⟩
      unfold bench_Tell.f
      rw [show bench_Parse.f k t = some (r, o, 0, 0) from hk, Option.bind_some, if_pos rfl, h3, Option.bind_some, if_neg (by decide)]
theorem equal_self (l : List ByteArray) (hl : l.length ≤ 4000000000) : ∃ k, slices_Equal_string_string.f k l l = some true := by
  have : ∀ (d k i : Nat), i + d = l.length → d < k → slices_Equal_string_string.l0 k l l (l.length : Int) (i : Int) = some true := by
    intro d
    induction d with
    | zero =>
      intro k i hi hk
      obtain ⟨k, rfl⟩ : ∃ m, k = m + 1 := ⟨k - 1, by omega⟩
      rw [slices_Equal_string_string.l0, if_neg (by omega)]
    | succ d ih =>
      intro k i hi hk
      obtain ⟨k, rfl⟩ : ∃ m, k = m + 1 := ⟨k - 1, by omega⟩
      rw [slices_Equal_string_string.l0, if_pos (by omega), if_pos (by omega), if_pos (by omega), if_pos (by omega), if_pos rfl, wrap_ok (by omega) (by omega)]
      exact ih k (i + 1) (by omega) (by omega)
  refine ⟨l.length + 1, ?_⟩
  unfold slices_Equal_string_string.f
  rw [if_pos rfl]
  exact this l.length _ 0 (by omega) (by omega)
end Go.Proofs.YtioppgeackgjnaaDoor.Txt
