/- Texts of lines: strings.Cut at a line's end, told by recursion. -/
import Derived.Test.YtioppgeackgjnaaDoorBt20
import Derived.Lib.IndexLaws
namespace Go.Proofs.YtioppgeackgjnaaDoor.Txt
open Go.RowKit Go.Proofs.YtioppgeackgjnaaDoor.Bt Go.Proofs.YtioppgeackgjnaaDoorW.PrintWords Go.Proofs.YtioppgeackgjnaaDoorW.PrintLast
set_option linter.unusedVariables false

/-- The text up to the first c, what is behind it, and whether there is one. -/
def cutAt (c : UInt8) : List UInt8 → List UInt8 × List UInt8 × Bool
  | [] => ([], [], false)
  | b :: l => if b = c then ([], l, true) else (b :: (cutAt c l).1, (cutAt c l).2.1, (cutAt c l).2.2)
theorem index_one (c : UInt8) : ∀ s : List UInt8, ((cutAt c s).2.2 = true → Lib.index s [c] = (cutAt c s).1.length ∧ s = (cutAt c s).1 ++ c :: (cutAt c s).2.1 ∧ c ∉ (cutAt c s).1) ∧ ((cutAt c s).2.2 = false → Lib.index s [c] = -1 ∧ (cutAt c s).1 = s ∧ (cutAt c s).2.1 = [] ∧ c ∉ s)
  | [] => ⟨fun h => (by cases h), fun _ => ⟨rfl, rfl, rfl, by simp⟩⟩
  | b :: l => by
    obtain ⟨i1, i2⟩ := index_one c l
    by_cases hb : b = c
    · subst hb
      refine ⟨fun _ => ?_, fun h => ?_⟩
      · simp [cutAt, Lib.index]
      · simp [cutAt] at h
    · have hp : [c].isPrefixOf (b :: l) = false := by
        simp [List.isPrefixOf, Ne.symm hb]
      simp only [cutAt, if_neg hb]
      refine ⟨fun h => ?_, fun h => ?_⟩
      · obtain ⟨a1, a2, a3⟩ := i1 h
        refine ⟨?_, ?_, ?_⟩
        · simp only [Lib.index, hp, Bool.false_eq_true, if_false, a1, List.length_cons]
          rw [if_neg (by first | (simp; done) | (simp; omega))]
          rfl
        · rw [List.cons_append, ← a2]
        · simp [a3, Ne.symm hb]
      · obtain ⟨a1, a2, a3, a4⟩ := i2 h
        refine ⟨?_, by rw [a2], a3, by simp [a4, Ne.symm hb]⟩
        simp only [Lib.index, hp, Bool.false_eq_true, if_false, a1]
        rfl
theorem cut_one (c : UInt8) (s : List UInt8) : Lib.cut s [c] = cutAt c s := by
  obtain ⟨h1, h2⟩ := index_one c s
  unfold Lib.cut
  rcases hw : (cutAt c s) with ⟨l, r, w⟩
  cases w with
  | true =>
    rw [hw] at h1
    obtain ⟨a1, a2, a3⟩ := h1 rfl
    simp only at a1 a2
    rw [a1, if_pos (by omega), Int.toNat_natCast, a2]
    simp
  | false =>
    rw [hw] at h2
    obtain ⟨a1, a2, a3, _⟩ := h2 rfl
    simp only at a2 a3
    rw [a1, if_neg (by omega), a2, a3]
theorem cutAt_line (c : UInt8) : ∀ (l r : List UInt8), c ∉ l → cutAt c (l ++ c :: r) = (l, r, true)
  | [], r, _ => by simp [cutAt]
  | b :: l, r, h => by
    have hb : ¬ b = c := fun e => h (by rw [e]; exact List.mem_cons_self)
    rw [List.cons_append, cutAt, if_neg hb, cutAt_line c l r (fun hm => h (List.mem_cons_of_mem _ hm))]
theorem cutAt_more {c : UInt8} {s l r : List UInt8} (h : cutAt c s = (l, r, true)) (m : List UInt8) : cutAt c (s ++ m) = (l, r ++ m, true) := by
  have h1 := (index_one c s).1 (by rw [h])
  rw [h] at h1
  obtain ⟨_, a2, a3⟩ := h1
  simp only at a2 a3
  rw [a2, List.append_assoc, List.cons_append]
  exact cutAt_line c l (r ++ m) a3
end Go.Proofs.YtioppgeackgjnaaDoor.Txt
