-- written by a program of this session (wip/tools/mp.sh: a patched copy of the kit's printer)
import Derived.Test.YtohknfbfmobggaaCy0
namespace Go.Proofs.Ytohknfbfmobggaa.Cy
open Go.RowKit Go.Proofs.YtohknfbfmobggaaW.PrintWords Go.Proofs.YtohknfbfmobggaaW.PrintLast Go.Proofs.YtohknfbfmobggaaW.PrintMore
attribute [local go_sem] max2_int min2_int max_two min_two max_three min_three max_four min_four   -- for this text's walks alone
set_option linter.unusedVariables false
set_option linter.unusedSimpArgs false

-- NOT PRINTED: function 23 (slices_IndexFunc_int_int)

-- NOT PRINTED: function 14 (slices_ContainsFunc_int_int)

-- NOT PRINTED: function 4 (lotdrawerkeep_CyclesTimes)

/-! ### lotdrawerref_DFact: function 16 -/
def lotdrawerref_DFact.f : Nat → Int → Option (Int)
  | 0, _ => none
  | k + 1, a0 => if a0 < 2 then (some 1) else ((lotdrawerref_DFact.f k (wrap64 (a0 - 1))).bind fun t225 => (some (wrap64 (a0 * t225))))
theorem lotdrawerref_DFact.mono_l : ∀ k, (∀ y0, LeO (lotdrawerref_DFact.f k y0) (lotdrawerref_DFact.f (k + 1) y0))
  | 0 => fun _ r h => by simp [lotdrawerref_DFact.f] at h
  | k + 1 => by
    have ih0 := lotdrawerref_DFact.mono_l k
    · intro y0
      unfold lotdrawerref_DFact.f
      repeat' first
      | (with_reducible exact ih0 _)
      | (with_reducible exact LeO.refl _)
      | (with_reducible exact LeO.none _)
      | (with_reducible refine LeO.ite ?_ ?_)
      | (with_reducible refine LeO.bind ?_ (fun _ => ?_))
      | exact ih0 _
      | exact LeO.none _
      | refine LeO.ite ?_ ?_
      | refine LeO.bind ?_ (fun _ => ?_)
theorem lotdrawerref_DFact.mono : ∀ a0 k, LeO (lotdrawerref_DFact.f k a0) (lotdrawerref_DFact.f (k + 1) a0) := by
  intro a0 k
  have ih0 := lotdrawerref_DFact.mono_l k
  exact ih0 a0
set_option maxHeartbeats 8000000 in
set_option maxRecDepth 100000 in
theorem lotdrawerref_DFact.calls (k : Nat) : ∀ (a0 : Int) (r : Int) (w : World) (h : lotdrawerref_DFact.f k a0 = some r),
    Calls Try.prog 16 #[.int .i64 a0] w fun e w' => e = .returned (.int .i64 r) ∧ Drawn0 w w' := by
  induction k using Nat.strongRecOn with
  | _ k ih =>
  intro a0 r w h
  cases k with
  | zero => exact absurd h (by simp [lotdrawerref_DFact.f])
  | succ k =>
  simp only [lotdrawerref_DFact.f] at h
  have H : (if a0 < 2 then (some 1) else ((lotdrawerref_DFact.f k (wrap64 (a0 - 1))).bind fun t225 => (some (wrap64 (a0 * t225))))) = some r := h
  clear h
  by_cases c2 : a0 < 2
  · rw [if_pos c2] at H
    have c2b0 : decide (a0 < 2) = true := decide_eq_true c2
    clear c2
    obtain rfl := Option.some.inj H
    go_enter Try.func16, Try.ntmps16
    go_wp2
    go_ret
    exact ⟨by first | rfl | (simp; done) | (simp [*]; done), by repeat (first | exact Drawn0.refl _ | apply Drawn0.step)⟩
  · rw [if_neg c2] at H
    have c2b0 : decide (a0 < 2) = false := decide_eq_false c2
    clear c2
    replace H := Option.bind_eq_some_iff.mp H
    obtain ⟨t225, A30, H⟩ := H
    replace H : (some (wrap64 (a0 * t225))) = some r := H
    have A3 := Aside0.mk A30
    clear A30
    obtain rfl := Option.some.inj H
    go_enter Try.func16, Try.ntmps16
    go_wp2_with (first | ((with_reducible refine gate_callee (f := 16) rfl ?_); refine goesL_ (some 8) rfl rfl Try.func16 (by kernel_rfl) rfl #[.int .i64 (wrap64 (a0 - 1))] rfl (by (try simp only [List.map_toArray, List.map_cons, List.map_nil]); first | done | rfl | (simp only [List.length_drop, List.length_take]; rfl)) ?_; (with_reducible refine (ih k (by omega) (wrap64 (a0 - 1)) t225 _ A3.out).mono ?_); rintro e w' ⟨rfl, ⟨nd, rfl⟩⟩; refine ⟨_, rfl, ?_⟩))
    go_ret
    exact ⟨by first | rfl | (simp; done) | (simp [*]; done), by repeat (first | exact Drawn0.refl _ | apply Drawn0.step)⟩

end Go.Proofs.Ytohknfbfmobggaa.Cy
