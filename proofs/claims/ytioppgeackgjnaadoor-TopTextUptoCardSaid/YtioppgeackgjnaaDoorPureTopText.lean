/- The text says what the calls do. -/
import Derived.Test.YtioppgeackgjnaaDoorPlTe
import Derived.Test.YtioppgeackgjnaaDoorBt122
namespace Go.Proofs.YtioppgeackgjnaaDoor.Pure
open Go.RowKit Go.Proofs.YtioppgeackgjnaaDoor.Bt Go.Proofs.YtioppgeackgjnaaDoorW.PrintWords Go.Proofs.YtioppgeackgjnaaDoorW.PrintLast Go.Proofs.YtioppgeackgjnaaDoor.Txt
set_option linter.unusedVariables false
theorem alive_yes : lotdrawertop_alive.f 60 = some true := by decide +kernel
theorem prefix_yes (a z : ByteArray) : strings_HasPrefix.f (a ++ z) a = some true := by
  unfold strings_HasPrefix.f stringslite_HasPrefix.f
  have hz : (a ++ z).size = a.size + z.size := ByteArray.size_append
  rw [if_pos (by omega), if_pos (by omega), if_pos (by omega), Option.bind_some, Int.toNat_natCast]
  have : ((a ++ z).extract 0 a.size).toList = a.toList := by
    rw [ByteArray.toList_eq, ByteArray.toList_eq, Lib.extract_from_zero]
    have : (a ++ z).data.toList = a.data.toList ++ z.data.toList := by simp
    rw [this, ← size_list a]
    exact List.take_left' rfl
  rw [this]
  simp
theorem line_ok (p : Pool) (c : S36) : ((lineS p c).toList == ([111, 107] : List UInt8)) = ((addS p c).2.2.2 == 0) := by
  by_cases he : (addS p c).2.2.2 = 0
  · have : lineS p c = T [111, 107] := by unfold lineS; rw [if_pos he]; rfl
    rw [this, T_toList, he]
    rfl
  · have : lineS p c = T ([101, 114, 114, 111, 114, 32] ++ Lib.itoa (addS p c).2.2.2) := by
      unfold lineS; rw [if_neg he, ← T_append]; rfl
    rw [this, T_toList, beq_eq_false_iff_ne.2 he]
    rfl
theorem rdOf_at (pre : List ByteArray) (x : ByteArray) (post : List ByteArray) : rdOf ByteArray.empty (pre ++ x :: post) (pre.length : Int) = x := by simp [rdOf]
theorem loop (l1 : List S36) (told : List ByteArray) (hl1 : l1.length ≤ 1048576) : ∀ (rest done : List S36) (pre : List ByteArray) (p : Pool), l1 = done ++ rest → told = pre ++ linesS p rest ++ [lastS (runS p rest)] → pre.length = done.length → PoolOK p.1 p.2.1 p.2.2 → (∀ c ∈ rest, FitC c) →
    ∃ k, lotdrawertop_TopText.l0 k l1 told l1 (l1.length : Int) (done.length : Int) p.1 p.2.1 p.2.2 = some true
  | [], done, pre, p, h1, h2, h3, hp, hf => by
    have hlen : l1.length = done.length := by rw [h1, List.append_nil]
    have ht : told = pre ++ lastS p :: [] := by rw [h2]; simp [linesS, runS]
    have htl : told.length = done.length + 1 := by rw [ht]; simp [h3]
    obtain ⟨z, hz⟩ := last_prefix p
    have hc := hp.comes
    have hs := itoaB_size p.2.1 (by omega)
    refine ⟨1, ?_⟩
    rw [lotdrawertop_TopText.l0, if_neg (by omega), if_pos (by omega), if_pos (by omega), itoa_some _ (by omega), Option.bind_some, if_pos (by omega), hlen, ht, ← h3, rdOf_at, hz]
    show ((strings_HasPrefix.f (keptB p.2.1 ++ z) (keptB p.2.1)).bind fun t242 => some t242) = some true
    rw [prefix_yes, Option.bind_some]
  | c :: rest, done, pre, p, h1, h2, h3, hp, hf => by
    obtain ⟨hc0, hc1⟩ := hf c List.mem_cons_self
    obtain ⟨a1, a2, a3, a4⟩ := add_eq hp c hc0
    have hlen : l1.length = done.length + (rest.length + 1) := by rw [h1]; simp
    have ht : told = pre ++ lineS p c :: (linesS (nextS p c) rest ++ [lastS (runS (nextS p c) rest)]) := by rw [h2]; simp [linesS, runS]
    have htl : told.length = pre.length + (rest.length + 2) := by rw [ht]; simp [linesS_length]
    obtain ⟨k, h⟩ := loop l1 told hl1 rest (done ++ [c]) (pre ++ [lineS p c]) (nextS p c) (by rw [h1]; simp) (by rw [ht]; simp) (by simp [h3]) (next_ok hp c hc0) (fun x hx => hf x (List.mem_cons_of_mem _ hx))
    have e3 : (((done ++ [c]).length : Nat) : Int) = (done.length : Int) + 1 := by simp
    rw [e3] at h
    refine ⟨k + 1, ?_⟩
    have hrd : rd_T36 l1 (done.length : Int) = c := by rw [h1]; exact rd_T36_at done c rest
    have hrt : rdOf ByteArray.empty told (done.length : Int) = lineS p c := by rw [ht, ← h3]; exact rdOf_at _ _ _
    rw [lotdrawertop_TopText.l0, if_pos (by omega), if_pos (by omega), if_pos (by omega), hrd, a1, Option.bind_some, if_pos (by omega), hrt, line_ok, if_neg (by simp), wrap_ok (by omega) (by omega)]
    by_cases he : (addS p c).2.2.2 = 0
    · have hn : nextS p c = ((addS p c).1, (addS p c).2.1, (addS p c).2.2.1) := by unfold nextS; rw [if_pos he]
      rw [if_pos he]
      rw [hn] at h
      exact h
    · have hn : nextS p c = p := by unfold nextS; rw [if_neg he]
      rw [if_neg he]
      rw [hn] at h
      exact h
theorem TopText (a0 : Int) (l1 : List S36) (hl : l1.length ≤ 1048576) : ∃ k, lotdrawertop_TopText.f k a0 l1 = some true := by
  obtain ⟨k1, hp⟩ := print_run a0 l1 hl
  rcases hp with ⟨⟨hr, hf⟩, hp⟩ | ⟨_, hp⟩
  · obtain ⟨k2, ht⟩ := tell_printed a0 l1 hr hf hl
    rcases ht with ⟨r1, r2, ht⟩ | ⟨hnew, ht⟩
    · have hnew : pool_New.f a0 = some (a0, 0, [], 0) := by
        rcases new_of a0 with ⟨_, _, h⟩ | h
        · exact h
        · unfold pool_New.f pool_Right.f at h
          rw [if_pos r1, if_pos r2, if_pos (by omega), if_pos (by omega), Option.bind_some] at h
          have : mn a0 0 = 0 := by unfold mn; split <;> omega
          rw [this] at h
          simp at h
      obtain ⟨k3, h3⟩ := loop l1 (linesS (a0, 0, []) l1 ++ [lastS (runS (a0, 0, []) l1)]) hl l1 [] [] (a0, 0, []) rfl rfl rfl (new_ok ⟨r1, r2⟩) hf
      have hlen : ((linesS (a0, 0, []) l1 ++ [lastS (runS (a0, 0, []) l1)]).length : Int) = (l1.length : Int) + 1 := by simp [linesS_length]
      refine ⟨60 + k1 + k2 + (k3 + 1), ?_⟩
      have a := at_rounds lotdrawertop_alive.mono (show 60 ≤ 60 + k1 + k2 + (k3 + 1) by omega) alive_yes
      have b := at_rounds (bench_Print.mono a0 l1) (show k1 ≤ 60 + k1 + k2 + (k3 + 1) by omega) hp
      have c := at_rounds (bench_Tell.mono (T (printL a0 l1))) (show k2 ≤ 60 + k1 + k2 + (k3 + 1) by omega) ht
      have h3' := at_rounds (fun k => (lotdrawertop_TopText.mono_l k).2 _ _ _ _ _ _ _ _) (show k3 ≤ 60 + k1 + k2 + k3 by omega) h3
      unfold lotdrawertop_TopText.f
      rw [a, Option.bind_some, if_pos rfl, b, Option.bind_some, if_pos rfl, c, Option.bind_some, hnew, Option.bind_some, if_pos rfl, if_pos rfl, hlen, wrap_ok (by omega) (by omega)]
      show lotdrawertop_TopText.j0 (60 + k1 + k2 + k3 + 1) _ _ _ _ _ _ = _
      rw [lotdrawertop_TopText.j0, if_neg (by simp)]
      exact h3'
    · refine ⟨60 + k1 + k2, ?_⟩
      have a := at_rounds lotdrawertop_alive.mono (show 60 ≤ 60 + k1 + k2 by omega) alive_yes
      have b := at_rounds (bench_Print.mono a0 l1) (show k1 ≤ 60 + k1 + k2 by omega) hp
      have c := at_rounds (bench_Tell.mono (T (printL a0 l1))) (show k2 ≤ 60 + k1 + k2 by omega) ht
      unfold lotdrawertop_TopText.f
      rw [a, Option.bind_some, if_pos rfl, b, Option.bind_some, if_pos rfl, c, Option.bind_some, hnew, Option.bind_some, if_neg (by decide), if_pos rfl]
      rfl
  · refine ⟨60 + k1, ?_⟩
    have a := at_rounds lotdrawertop_alive.mono (show 60 ≤ 60 + k1 by omega) alive_yes
    have b := at_rounds (bench_Print.mono a0 l1) (show k1 ≤ 60 + k1 by omega) hp
    unfold lotdrawertop_TopText.f
    rw [a, Option.bind_some, if_pos rfl, b, Option.bind_some, if_neg (by decide)]
    show some ((T []).toList == ([] : List UInt8)) = _
    rw [T_toList]
    rfl
end Go.Proofs.YtioppgeackgjnaaDoor.Pure
