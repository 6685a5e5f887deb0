/- With more lines behind it a text tells the same first. -/
import Derived.Test.YtioppgeackgjnaaDoorPlRun
import Derived.Test.YtioppgeackgjnaaDoorBt36
namespace Go.Proofs.YtioppgeackgjnaaDoor.Pure
open Go.RowKit Go.Proofs.YtioppgeackgjnaaDoor.Bt Go.Proofs.YtioppgeackgjnaaDoorW.PrintWords Go.Proofs.YtioppgeackgjnaaDoorW.PrintLast Go.Proofs.YtioppgeackgjnaaDoor.Txt
set_option linter.unusedVariables false
theorem alive26_yes : lotdrawerkeep_alive26.f 80 = some true := by decide +kernel
theorem BenchMore : lotdrawerkeep_BenchMore.Pure := by
  intro a0 a1 h0 h1
  obtain ⟨k1, r1, e1, n1, y1⟩ := tell_run a0 (by omega)
  have hz : (a0 ++ a1).size = a0.size + a1.size := ByteArray.size_append
  obtain ⟨k2, r2, e2, n2, y2⟩ := tell_run (a0 ++ a1) (by omega)
  have hfin : ∃ k, lotdrawerkeep_BenchMore.j0 k a0 r1.1 r1.2 r2.1 (if r1.2 = 0 then (r2.2 != 0) else true) = some true := by
    by_cases c1 : r1.2 = 0
    · by_cases c2 : r2.2 = 0
      · obtain ⟨m1, p1, o1, s1, q1, l1⟩ := y1 c1
        obtain ⟨m2, p2, o2, s2, q2, l2⟩ := y2 c2
        have hl : (a0 ++ a1).data.toList = a0.data.toList ++ a1.data.toList := by simp
        rw [hl] at q2
        obtain ⟨rfl, x, rfl⟩ := parseS_more _ _ _ _ _ _ _ _ _ _ _ q1 q2
        have hc := parseS_count _ _ _ _ _ _ _ q1
        have hle : a0.data.toList.count 10 ≤ a0.data.toList.length := List.count_le_length
        have hs := size_list a0
        obtain ⟨z, hz⟩ := linesS_more o1 x (p2, 0, [])
        have e : Lib.countByte a0.data.toList 10 = a0.data.toList.count 10 := rfl
        rw [if_pos rfl] at hc
        have len1 : r1.1.length = o1.length + 1 := by rw [l1]; simp [linesS_length]
        have len2 : r1.1.length ≤ r2.1.length := by rw [len1, l2, hz]; simp [linesS_length]
        have t1 : r1.1.take o1.length = linesS (p2, 0, []) o1 := by
          rw [l1, ← linesS_length o1 (p2, 0, [])]; exact List.take_left' rfl
        have t2 : r2.1.take o1.length = linesS (p2, 0, []) o1 := by
          rw [l2, hz, List.append_assoc, ← linesS_length o1 (p2, 0, [])]; exact List.take_left' rfl
        simp only [List.length_nil] at hc
        obtain ⟨k, hk⟩ := equal_self (linesS (p2, 0, []) o1) (by rw [linesS_length]; omega)
        refine ⟨k + 1, ?_⟩
        have hn : wrap64 (((Lib.countByte a0.data.toList 10 : Nat) : Int) - 1) = (o1.length : Int) := by
          rw [e, wrap_ok (by omega) (by omega)]; omega
        have hcnt : strings_Count.f a0 ⟨#[10]⟩ = some ((Lib.countByte a0.data.toList 10 : Nat) : Int) := if_pos rfl
        rw [if_pos c1, c2, lotdrawerkeep_BenchMore.j0, if_neg (by decide), hcnt, Option.bind_some, hn, wrap_ok (by omega) (by omega), if_pos (by omega), if_pos (by omega), if_pos (by omega), if_pos (by omega), if_pos (by omega), Int.toNat_natCast, t1, t2, hk, Option.bind_some]
      · refine ⟨1, ?_⟩
        rw [if_pos c1, show (r2.2 != 0) = true from bne_iff_ne.2 c2, lotdrawerkeep_BenchMore.j0, if_pos rfl, if_pos c1]
    · refine ⟨1, ?_⟩
      rw [if_neg c1, lotdrawerkeep_BenchMore.j0, if_pos rfl, if_neg c1, n1 c1]
      rfl
  obtain ⟨k3, hk3⟩ := hfin
  refine ⟨80 + k1 + k2 + k3, ?_⟩
  have a := at_rounds lotdrawerkeep_alive26.mono (show 80 ≤ 80 + k1 + k2 + k3 by omega) alive26_yes
  have b := at_rounds (bench_Tell.mono a0) (show k1 ≤ 80 + k1 + k2 + k3 by omega) e1
  have c := at_rounds (bench_Tell.mono (a0 ++ a1)) (show k2 ≤ 80 + k1 + k2 + k3 by omega) e2
  have d := at_rounds (fun k => lotdrawerkeep_BenchMore.mono_l k _ _ _ _ _) (show k3 ≤ 80 + k1 + k2 + k3 by omega) hk3
  unfold lotdrawerkeep_BenchMore.f
  rw [a, Option.bind_some, if_pos rfl, b, Option.bind_some, if_pos (by omega), c, Option.bind_some]
  by_cases c1 : r1.2 = 0
  · rw [if_pos c1]; rw [if_pos c1] at d; exact d
  · rw [if_neg c1]; rw [if_neg c1] at d; exact d
end Go.Proofs.YtioppgeackgjnaaDoor.Pure
