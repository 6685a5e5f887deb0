/- bottom.Join's callees: cmp.Compare, the closure that ranks, slices.Compact at a row of the call's own, slices.Clip. -/
import Derived.Test.YthhbdampbpndpaaPlIn
import Derived.Test.YthhbdampbpndpaaBo2
import Derived.Test.YthhbdampbpndpaaHaA
import Derived.Test.YthhbdampbpndpaaHaS0
import Derived.Test.YthhbdampbpndpaaShelf
import Derived.Lib.OwnBridge
namespace Go.Proofs.Ythhbdampbpndpaa.Bo
open Go.RowKit Go.Proofs.YthhbdampbpndpaaW.PrintWords Go.Proofs.YthhbdampbpndpaaW.PrintLast Go.Proofs.YthhbdampbpndpaaW.PrintMore
set_option linter.unusedVariables false
set_option linter.unusedSimpArgs false
set_option maxRecDepth 100000 in
theorem isNaN_calls (x : Int) (w : World) : Calls Try.prog 33 #[.int .u64 x] w fun e w' => e = .returned (.bool false) ∧ Drawn0 w w' := by
  go_enter Try.func33, Try.ntmps33
  go_wp2
  go_ret
  exact ⟨by simp, by repeat (first | exact Drawn0.refl _ | apply Drawn0.step)⟩
def cmpS (x y : Int) : Int := if x < y then -1 else if y < x then 1 else 0
set_option maxHeartbeats 1000000 in
set_option maxRecDepth 100000 in
theorem compare_calls (x y : Int) (w : World) : Calls Try.prog 27 #[.int .u64 x, .int .u64 y] w fun e w' => e = .returned (.int .i64 (cmpS x y)) ∧ Drawn0 w w' := by
  by_cases h1 : x < y
  · have hv : cmpS x y = -1 := by rw [cmpS, if_pos h1]
    have e1 : decide (x < y) = true := decide_eq_true h1
    go_enter Try.func27, Try.ntmps27
    go_wp2_with (first | (go_at_call 33; (with_reducible refine (isNaN_calls _ _).mono ?_); rintro e w' ⟨rfl, ⟨nd, rfl⟩⟩))
    go_ret
    exact ⟨by rw [hv]; rfl, by repeat (first | exact Drawn0.refl _ | apply Drawn0.step)⟩
  · have e1 : decide (x < y) = false := decide_eq_false h1
    by_cases h2 : y < x
    · have hv : cmpS x y = 1 := by rw [cmpS, if_neg h1, if_pos h2]
      have e2 : decide (y < x) = true := decide_eq_true h2
      go_enter Try.func27, Try.ntmps27
      go_wp2_with (first | (go_at_call 33; (with_reducible refine (isNaN_calls _ _).mono ?_); rintro e w' ⟨rfl, ⟨nd, rfl⟩⟩))
      go_ret
      exact ⟨by rw [hv]; rfl, by repeat (first | exact Drawn0.refl _ | apply Drawn0.step)⟩
    · have hv : cmpS x y = 0 := by rw [cmpS, if_neg h1, if_neg h2]
      have e2 : decide (y < x) = false := decide_eq_false h2
      go_enter Try.func27, Try.ntmps27
      go_wp2_with (first | (go_at_call 33; (with_reducible refine (isNaN_calls _ _).mono ?_); rintro e w' ⟨rfl, ⟨nd, rfl⟩⟩))
      go_ret
      exact ⟨by rw [hv]; rfl, by repeat (first | exact Drawn0.refl _ | apply Drawn0.step)⟩
set_option maxRecDepth 100000 in
theorem clip_calls (A : Option Addr) (n c : Nat) (w : World) (hn : n ≤ c) (hm : n ≤ 9223372036854775807) : Calls Try.prog 28 #[.slice A n c] w fun e w' => e = .returned (.slice A n n) ∧ Drawn0 w w' := by
  go_enter Try.func28, Try.ntmps28
  go_wp2
  go_ret
  exact ⟨rfl, by repeat (first | exact Drawn0.refl _ | apply Drawn0.step)⟩
set_option maxRecDepth 100000 in
theorem compact_nil (w : World) : Calls Try.prog 12 #[.slice none 0 0] w fun e w' => e = .returned (.slice none 0 0) ∧ Drawn0 w w' := by
  go_enter Try.func12, Try.ntmps12
  go_wp2
  go_ret
  exact ⟨rfl, by repeat (first | exact Drawn0.refl _ | apply Drawn0.step)⟩
theorem below_drawn {B : Nat} {w0 w w' : World} (h : Below B w0 w) (hd : Drawn0 w w') : Below B w0 w' := by
  obtain ⟨nd, rfl⟩ := hd
  exact pw_below_drewN h nd
theorem compact_own (B : Nat) (v : Value) (xs : List Int) (w0 W : World) (hown : W.ownsRow B 22 1 v xs.length (xs.map (Value.int .u64))) (hB : Below B w0 W) :
    Calls Try.prog 12 #[v] W fun e w' => ∃ v', e = .returned v' ∧ w'.ownsRow B 22 1 v' (Lib.compact xs).length ((Lib.compact xs).map (Value.int .u64)) ∧ Below B w0 w' := by
  by_cases hv : v = .slice none 0 0
  · subst hv
    have hx : xs = [] := by
      rcases hown.2 with ⟨_, h0⟩ | ⟨g, cap, cur, h, _⟩
      · exact List.eq_nil_of_length_eq_zero h0
      · cases h
    subst hx
    refine (compact_nil W).mono ?_
    rintro e w' ⟨rfl, hd⟩
    exact ⟨_, rfl, World.ownsRow_nil _ _ _ _, below_drawn hB hd⟩
  · obtain ⟨g, cap, rfl, hb, hlt, hn, hm, hl, hH⟩ := Lib.holds_of_ownsRow hown hv
    have hmx : maxLen = 9223372036854775807 := rfl
    have hcon := Try.slices_Compact (Value.int .u64) (fun _ => rfl) (Go.Proofs.EqlAt.intD _ _ _) (Go.Proofs.NeqAt.intD _ _ _) 0 Try.zeroValue22 g 0 cap xs.toArray W hH (by simp; omega) (by simp; omega)
    rw [List.size_toArray] at hcon
    refine hcon.mono ?_
    rintro e w' ⟨rfl, q, rfl⟩
    have hlen : (Lib.compactUpTo xs.toArray xs.length).length ≤ xs.length := by
      unfold Lib.compactUpTo
      rw [List.length_map]
      exact Nat.le_trans (List.length_filter_le _ _) (by simp)
    refine ⟨_, rfl, ?_, Lib.below_putRow hB hb⟩
    have := Lib.ownsRow_putRow (q := q) (k := (Lib.compactUpTo xs.toArray xs.length).length) (ys := Lib.compactUpTo xs.toArray xs.length ++ List.replicate (xs.length - (Lib.compactUpTo xs.toArray xs.length).length) 0) hown (by simp; omega) hlen
    rw [List.take_left' rfl] at this
    exact this
end Go.Proofs.Ythhbdampbpndpaa.Bo
