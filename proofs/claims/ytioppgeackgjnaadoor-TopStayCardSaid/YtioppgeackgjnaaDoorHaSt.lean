-- written by a program of this session (wip/tools/mp.sh: a patched copy of the kit's printer)
import Derived.Test.YtioppgeackgjnaaDoorBt0
import Derived.Test.YtioppgeackgjnaaDoorBt20
import Derived.Test.YtioppgeackgjnaaDoorBt324
import Derived.Test.YtioppgeackgjnaaDoorBt325
import Derived.Test.YtioppgeackgjnaaDoorBt326
import Derived.Test.YtioppgeackgjnaaDoorHaB
import Derived.Test.YtioppgeackgjnaaDoorHaMp
import Derived.Test.YtioppgeackgjnaaDoorHaT
import Derived.Carry
import Derived.Test.YtioppgeackgjnaaDoorWGuard
namespace Go.Proofs.YtioppgeackgjnaaDoor.Bt
open Go.RowKit Go.Proofs.YtioppgeackgjnaaDoorW.PrintWords Go.Proofs.YtioppgeackgjnaaDoorW.PrintLast Go.Proofs.YtioppgeackgjnaaDoorW.PrintMore
attribute [local go_sem] max2_int min2_int max_two min_two max_three min_three max_four min_four   -- for this text's walks alone
set_option linter.unusedVariables false
set_option linter.unusedSimpArgs false

/-! ### lotdrawertop_TopStay: function 4 -/
mutual
def lotdrawertop_TopStay.j0 : Nat → Int → Bool → Option (Bool)
  | 0, _, _ => none
  | k + 1, x0, x25 => if x25 = true then (some true) else (lotdrawertop_TopStay.l0 k x0 0 0 1 2)
def lotdrawertop_TopStay.l0 : Nat → Int → Int → Int → Int → Int → Option (Bool)
  | 0, _, _, _, _, _ => none
  | k + 1, x0, x3, x4, x5, x6 => if x6 ≤ x0 then (lotdrawertop_TopStay.l0 k x0 x3 x4 (wrap64 (x5 * x6)) (wrap64 (x6 + 1))) else (lotdrawertop_TopStay.l1 k x0 x3 x4 x5 x5 0)
def lotdrawertop_TopStay.l1 : Nat → Int → Int → Int → Int → Int → Int → Option (Bool)
  | 0, _, _, _, _, _, _ => none
  | k + 1, x0, x3, x4, x5, x35, x36 => if x36 < x35 then ((perm_At.f k x0 x36).bind fun bt284 => ((cycles_Of.f k bt284.1).bind fun bt288 => (if bt284.2 = 0 then (lotdrawertop_TopStay.j3 k x0 x3 x4 x5 bt288.1 x35 x36 (bt288.2 != 0)) else (lotdrawertop_TopStay.j3 k x0 x3 x4 x5 bt288.1 x35 x36 true)))) else ((urns_Wrongly.f k x0).bind fun bt295 => (lotdrawertop_TopStay.l2 k x0 x3 x4 x5 bt295.1 bt295.2 0 (wrap64 (x0 + 1)) 0))
def lotdrawertop_TopStay.j3 : Nat → Int → Int → Int → Int → List (List Int) → Int → Int → Bool → Option (Bool)
  | 0, _, _, _, _, _, _, _, _ => none
  | k + 1, x0, x3, x4, x5, x10, x35, x36, x55 => if x55 = true then (some false) else ((slices_ContainsFunc_int_int.f k x10 0).bind fun t292 => (if t292 = true then ((map_inc.f x4 (x10.length : Int)).bind fun t293 => (lotdrawertop_TopStay.l1 k x0 x3 t293 x5 x35 (wrap64 (x36 + 1)))) else ((map_inc.f x4 (x10.length : Int)).bind fun t294 => (lotdrawertop_TopStay.l1 k x0 (wrap64 (x3 + 1)) t294 x5 x35 (wrap64 (x36 + 1))))))
def lotdrawertop_TopStay.l2 : Nat → Int → Int → Int → Int → Int → Int → Int → Int → Int → Option (Bool)
  | 0, _, _, _, _, _, _, _, _, _ => none
  | k + 1, x0, x3, x4, x5, x12, x13, x14, x73, x74 => if x74 < x73 then ((urns_Parts.f k x0 x74).bind fun bt297 => (if bt297.2 = 0 then (if bt297.1 > 0 then (if (mget x4 x74) < bt297.1 then (some false) else (lotdrawertop_TopStay.l2 k x0 x3 x4 x5 x12 x13 (wrap64 (x14 + (mget x4 x74))) x73 (wrap64 (x74 + 1)))) else (lotdrawertop_TopStay.l2 k x0 x3 x4 x5 x12 x13 (wrap64 (x14 + (mget x4 x74))) x73 (wrap64 (x74 + 1)))) else (some false))) else (if x13 = 0 then (if x3 = x12 then (some (x14 == x5)) else (some false)) else (some false))
end
def lotdrawertop_TopStay.f (k : Nat) (a0 : Int) : Option (Bool) := (lotdrawertop_alive.f k).bind fun t283 => (if t283 = true then (if a0 < 0 then (lotdrawertop_TopStay.j0 k a0 true) else (lotdrawertop_TopStay.j0 k a0 (decide (a0 > 6)))) else (some false))
theorem lotdrawertop_TopStay.mono_l : ∀ k, (∀ y0 y1, LeO (lotdrawertop_TopStay.j0 k y0 y1) (lotdrawertop_TopStay.j0 (k + 1) y0 y1)) ∧ (∀ y0 y1 y2 y3 y4, LeO (lotdrawertop_TopStay.l0 k y0 y1 y2 y3 y4) (lotdrawertop_TopStay.l0 (k + 1) y0 y1 y2 y3 y4)) ∧ (∀ y0 y1 y2 y3 y4 y5, LeO (lotdrawertop_TopStay.l1 k y0 y1 y2 y3 y4 y5) (lotdrawertop_TopStay.l1 (k + 1) y0 y1 y2 y3 y4 y5)) ∧ (∀ y0 y1 y2 y3 y4 y5 y6 y7, LeO (lotdrawertop_TopStay.j3 k y0 y1 y2 y3 y4 y5 y6 y7) (lotdrawertop_TopStay.j3 (k + 1) y0 y1 y2 y3 y4 y5 y6 y7)) ∧ (∀ y0 y1 y2 y3 y4 y5 y6 y7 y8, LeO (lotdrawertop_TopStay.l2 k y0 y1 y2 y3 y4 y5 y6 y7 y8) (lotdrawertop_TopStay.l2 (k + 1) y0 y1 y2 y3 y4 y5 y6 y7 y8))
  | 0 => ⟨fun _ _ r h => by simp [lotdrawertop_TopStay.j0] at h, fun _ _ _ _ _ r h => by simp [lotdrawertop_TopStay.l0] at h, fun _ _ _ _ _ _ r h => by simp [lotdrawertop_TopStay.l1] at h, fun _ _ _ _ _ _ _ _ r h => by simp [lotdrawertop_TopStay.j3] at h, fun _ _ _ _ _ _ _ _ _ r h => by simp [lotdrawertop_TopStay.l2] at h⟩
  | k + 1 => by
    obtain ⟨ih0, ih1, ih2, ih3, ih4⟩ := lotdrawertop_TopStay.mono_l k
    refine ⟨?_, ?_, ?_, ?_, ?_⟩
    · intro y0 y1
      unfold lotdrawertop_TopStay.j0
      repeat' first
      | (with_reducible exact ih0 _ _)
      | (with_reducible exact ih1 _ _ _ _ _)
      | (with_reducible exact ih2 _ _ _ _ _ _)
      | (with_reducible exact ih3 _ _ _ _ _ _ _ _)
      | (with_reducible exact ih4 _ _ _ _ _ _ _ _ _)
      | (with_reducible exact cycles_Of.mono _ _)
      | (with_reducible exact lotdrawertop_alive.mono _)
      | (with_reducible exact perm_At.mono _ _ _)
      | (with_reducible exact slices_ContainsFunc_int_int.mono _ _ _)
      | (with_reducible exact urns_Parts.mono _ _ _)
      | (with_reducible exact urns_Wrongly.mono _ _)
      | (with_reducible exact LeO.refl _)
      | (with_reducible exact LeO.none _)
      | (with_reducible refine LeO.ite ?_ ?_)
      | (with_reducible refine LeO.bind ?_ (fun _ => ?_))
      | exact ih0 _ _
      | exact ih1 _ _ _ _ _
      | exact ih2 _ _ _ _ _ _
      | exact ih3 _ _ _ _ _ _ _ _
      | exact ih4 _ _ _ _ _ _ _ _ _
      | exact cycles_Of.mono _ _
      | exact lotdrawertop_alive.mono _
      | exact perm_At.mono _ _ _
      | exact slices_ContainsFunc_int_int.mono _ _ _
      | exact urns_Parts.mono _ _ _
      | exact urns_Wrongly.mono _ _
      | exact LeO.none _
      | refine LeO.ite ?_ ?_
      | refine LeO.bind ?_ (fun _ => ?_)
    · intro y0 y1 y2 y3 y4
      unfold lotdrawertop_TopStay.l0
      repeat' first
      | (with_reducible exact ih0 _ _)
      | (with_reducible exact ih1 _ _ _ _ _)
      | (with_reducible exact ih2 _ _ _ _ _ _)
      | (with_reducible exact ih3 _ _ _ _ _ _ _ _)
      | (with_reducible exact ih4 _ _ _ _ _ _ _ _ _)
      | (with_reducible exact cycles_Of.mono _ _)
      | (with_reducible exact lotdrawertop_alive.mono _)
      | (with_reducible exact perm_At.mono _ _ _)
      | (with_reducible exact slices_ContainsFunc_int_int.mono _ _ _)
      | (with_reducible exact urns_Parts.mono _ _ _)
      | (with_reducible exact urns_Wrongly.mono _ _)
      | (with_reducible exact LeO.refl _)
      | (with_reducible exact LeO.none _)
      | (with_reducible refine LeO.ite ?_ ?_)
      | (with_reducible refine LeO.bind ?_ (fun _ => ?_))
      | exact ih0 _ _
      | exact ih1 _ _ _ _ _
      | exact ih2 _ _ _ _ _ _
      | exact ih3 _ _ _ _ _ _ _ _
      | exact ih4 _ _ _ _ _ _ _ _ _
      | exact cycles_Of.mono _ _
      | exact lotdrawertop_alive.mono _
      | exact perm_At.mono _ _ _
      | exact slices_ContainsFunc_int_int.mono _ _ _
      | exact urns_Parts.mono _ _ _
      | exact urns_Wrongly.mono _ _
      | exact LeO.none _
      | refine LeO.ite ?_ ?_
      | refine LeO.bind ?_ (fun _ => ?_)
    · intro y0 y1 y2 y3 y4 y5
      unfold lotdrawertop_TopStay.l1
      repeat' first
      | (with_reducible exact ih0 _ _)
      | (with_reducible exact ih1 _ _ _ _ _)
      | (with_reducible exact ih2 _ _ _ _ _ _)
      | (with_reducible exact ih3 _ _ _ _ _ _ _ _)
      | (with_reducible exact ih4 _ _ _ _ _ _ _ _ _)
      | (with_reducible exact cycles_Of.mono _ _)
      | (with_reducible exact lotdrawertop_alive.mono _)
      | (with_reducible exact perm_At.mono _ _ _)
      | (with_reducible exact slices_ContainsFunc_int_int.mono _ _ _)
      | (with_reducible exact urns_Parts.mono _ _ _)
      | (with_reducible exact urns_Wrongly.mono _ _)
      | (with_reducible exact LeO.refl _)
      | (with_reducible exact LeO.none _)
      | (with_reducible refine LeO.ite ?_ ?_)
      | (with_reducible refine LeO.bind ?_ (fun _ => ?_))
      | exact ih0 _ _
      | exact ih1 _ _ _ _ _
      | exact ih2 _ _ _ _ _ _
      | exact ih3 _ _ _ _ _ _ _ _
      | exact ih4 _ _ _ _ _ _ _ _ _
      | exact cycles_Of.mono _ _
      | exact lotdrawertop_alive.mono _
      | exact perm_At.mono _ _ _
      | exact slices_ContainsFunc_int_int.mono _ _ _
      | exact urns_Parts.mono _ _ _
      | exact urns_Wrongly.mono _ _
      | exact LeO.none _
      | refine LeO.ite ?_ ?_
      | refine LeO.bind ?_ (fun _ => ?_)
    · intro y0 y1 y2 y3 y4 y5 y6 y7
      unfold lotdrawertop_TopStay.j3
      repeat' first
      | (with_reducible exact ih0 _ _)
      | (with_reducible exact ih1 _ _ _ _ _)
      | (with_reducible exact ih2 _ _ _ _ _ _)
      | (with_reducible exact ih3 _ _ _ _ _ _ _ _)
      | (with_reducible exact ih4 _ _ _ _ _ _ _ _ _)
      | (with_reducible exact cycles_Of.mono _ _)
      | (with_reducible exact lotdrawertop_alive.mono _)
      | (with_reducible exact perm_At.mono _ _ _)
      | (with_reducible exact slices_ContainsFunc_int_int.mono _ _ _)
      | (with_reducible exact urns_Parts.mono _ _ _)
      | (with_reducible exact urns_Wrongly.mono _ _)
      | (with_reducible exact LeO.refl _)
      | (with_reducible exact LeO.none _)
      | (with_reducible refine LeO.ite ?_ ?_)
      | (with_reducible refine LeO.bind ?_ (fun _ => ?_))
      | exact ih0 _ _
      | exact ih1 _ _ _ _ _
      | exact ih2 _ _ _ _ _ _
      | exact ih3 _ _ _ _ _ _ _ _
      | exact ih4 _ _ _ _ _ _ _ _ _
      | exact cycles_Of.mono _ _
      | exact lotdrawertop_alive.mono _
      | exact perm_At.mono _ _ _
      | exact slices_ContainsFunc_int_int.mono _ _ _
      | exact urns_Parts.mono _ _ _
      | exact urns_Wrongly.mono _ _
      | exact LeO.none _
      | refine LeO.ite ?_ ?_
      | refine LeO.bind ?_ (fun _ => ?_)
    · intro y0 y1 y2 y3 y4 y5 y6 y7 y8
      unfold lotdrawertop_TopStay.l2
      repeat' first
      | (with_reducible exact ih0 _ _)
      | (with_reducible exact ih1 _ _ _ _ _)
      | (with_reducible exact ih2 _ _ _ _ _ _)
      | (with_reducible exact ih3 _ _ _ _ _ _ _ _)
      | (with_reducible exact ih4 _ _ _ _ _ _ _ _ _)
      | (with_reducible exact cycles_Of.mono _ _)
      | (with_reducible exact lotdrawertop_alive.mono _)
      | (with_reducible exact perm_At.mono _ _ _)
      | (with_reducible exact slices_ContainsFunc_int_int.mono _ _ _)
      | (with_reducible exact urns_Parts.mono _ _ _)
      | (with_reducible exact urns_Wrongly.mono _ _)
      | (with_reducible exact LeO.refl _)
      | (with_reducible exact LeO.none _)
      | (with_reducible refine LeO.ite ?_ ?_)
      | (with_reducible refine LeO.bind ?_ (fun _ => ?_))
      | exact ih0 _ _
      | exact ih1 _ _ _ _ _
      | exact ih2 _ _ _ _ _ _
      | exact ih3 _ _ _ _ _ _ _ _
      | exact ih4 _ _ _ _ _ _ _ _ _
      | exact cycles_Of.mono _ _
      | exact lotdrawertop_alive.mono _
      | exact perm_At.mono _ _ _
      | exact slices_ContainsFunc_int_int.mono _ _ _
      | exact urns_Parts.mono _ _ _
      | exact urns_Wrongly.mono _ _
      | exact LeO.none _
      | refine LeO.ite ?_ ?_
      | refine LeO.bind ?_ (fun _ => ?_)
theorem lotdrawertop_TopStay.mono : ∀ a0 k, LeO (lotdrawertop_TopStay.f k a0) (lotdrawertop_TopStay.f (k + 1) a0) := by
  intro a0 k
  obtain ⟨ih0, ih1, ih2, ih3, ih4⟩ := lotdrawertop_TopStay.mono_l k
  unfold lotdrawertop_TopStay.f
  repeat' first
      | (with_reducible exact ih0 _ _)
      | (with_reducible exact ih1 _ _ _ _ _)
      | (with_reducible exact ih2 _ _ _ _ _ _)
      | (with_reducible exact ih3 _ _ _ _ _ _ _ _)
      | (with_reducible exact ih4 _ _ _ _ _ _ _ _ _)
      | (with_reducible exact cycles_Of.mono _ _)
      | (with_reducible exact lotdrawertop_alive.mono _)
      | (with_reducible exact perm_At.mono _ _ _)
      | (with_reducible exact slices_ContainsFunc_int_int.mono _ _ _)
      | (with_reducible exact urns_Parts.mono _ _ _)
      | (with_reducible exact urns_Wrongly.mono _ _)
      | (with_reducible exact LeO.refl _)
      | (with_reducible exact LeO.none _)
      | (with_reducible refine LeO.ite ?_ ?_)
      | (with_reducible refine LeO.bind ?_ (fun _ => ?_))
      | exact ih0 _ _
      | exact ih1 _ _ _ _ _
      | exact ih2 _ _ _ _ _ _
      | exact ih3 _ _ _ _ _ _ _ _
      | exact ih4 _ _ _ _ _ _ _ _ _
      | exact cycles_Of.mono _ _
      | exact lotdrawertop_alive.mono _
      | exact perm_At.mono _ _ _
      | exact slices_ContainsFunc_int_int.mono _ _ _
      | exact urns_Parts.mono _ _ _
      | exact urns_Wrongly.mono _ _
      | exact LeO.none _
      | refine LeO.ite ?_ ?_
      | refine LeO.bind ?_ (fun _ => ?_)
set_option maxHeartbeats 8000000 in
set_option maxRecDepth 100000 in
theorem lotdrawertop_TopStay.calls (k : Nat) (a0 : Int) (r : Bool) (w : World) (hL : Laid w) (h : lotdrawertop_TopStay.f k a0 = some r) :
    Calls Tryd.prog 4 #[.int .i64 a0] w fun e w' => e = .returned (.bool r) ∧ Below w.heap.size w w' := by
  have HLaid := Aside0.mk hL
  clear hL
  have hmm := @run_makeMap Tryd.prog
  have HB := Aside0.mk (Below.refl w.heap.size w)
  have H : ((lotdrawertop_alive.f k).bind fun t283 => (if t283 = true then (if a0 < 0 then (lotdrawertop_TopStay.j0 k a0 true) else (lotdrawertop_TopStay.j0 k a0 (decide (a0 > 6)))) else (some false))) = some r := h
  clear h
  replace H := Option.bind_eq_some_iff.mp H
  obtain ⟨t283, A20, H⟩ := H
  replace H : (if t283 = true then (if a0 < 0 then (lotdrawertop_TopStay.j0 k a0 true) else (lotdrawertop_TopStay.j0 k a0 (decide (a0 > 6)))) else (some false)) = some r := H
  have A2 := Aside0.mk A20
  clear A20
  by_cases c3 : t283 = true
  · subst c3
    have H1 : (if a0 < 0 then (lotdrawertop_TopStay.j0 k a0 true) else (lotdrawertop_TopStay.j0 k a0 (decide (a0 > 6)))) = some r := by rw [if_pos rfl] at H; exact H
    clear H
    have H := H1
    clear H1
    have HC4 := Aside0.mk H
    clear H
    go_enter Tryd.func4, Tryd.ntmps4
    go_upto_region 3 with (first | ((with_reducible refine gate_callee (f := 9) rfl ?_); refine goesL_ (some 18) rfl rfl Tryd.func9 (by kernel_rfl) rfl #[] rfl (by (try simp only [List.map_toArray, List.map_cons, List.map_nil]); first | done | rfl | (simp only [List.length_drop, List.length_take]; rfl)) ?_; (with_reducible refine (lotdrawertop_alive.calls k  true _ ?sideL A2.out).mono ?_); (case sideL => first | exact HLaid.out | exact Laid.below HLaid.out (by repeat (first | (with_reducible first | exact HB.out | apply below_alloc | apply pw_below_drewN | apply below_drew1) | exact HB.out)) | exact Laid.below HLaid.out (by repeat (first | (with_reducible first | exact HB.out | apply below_alloc | apply pw_below_drewN | apply below_drew1) | exact HB.out | exact Below.refl _ _))); rintro e w5 ⟨rfl, hb⟩; refine ⟨_, rfl, ?_⟩; have n0_ := Aside0.mk (below_step (by repeat (first | (with_reducible first | exact HB.out | apply below_alloc | apply pw_below_drewN | apply below_drew1) | exact HB.out)) hb); clear HB; have HB := n0_; clear n0_; (try clear hb); (try clear hb2); (try clear hk); (try clear hi)))
    (try simp only [Act.put, List.setIfInBounds_toArray, List.set_cons_zero, List.set_cons_succ])
    go_cut [25] (fun v25 wc => ∃ (kq : Nat) (x25_3 : Bool), v25 = .bool x25_3 ∧ Aside0 (lotdrawertop_TopStay.j0 kq a0 x25_3 = some r) ∧ Aside0 (kq ≤ k) ∧ Aside0 (Below w.heap.size w wc))
    case first =>
      have H := HC4.out
      clear HC4
      by_cases c6 : a0 < 0
      · rw [if_pos c6] at H
        have c6b0 : decide (a0 < 0) = true := decide_eq_true c6
        clear c6
        (first | rw [c6b0] | (simp only [i64_w, i32_w]; rw [c6b0]) | skip)
        have H' := Aside0.mk H
        clear H
        go_wp2
        go_meet
        case rel => exact ⟨_, (true), (by first | rfl | (simp; done) | (simp [*]; done)), H', ⟨by first | omega | exact Nat.le_refl _⟩, ⟨by repeat (first | (with_reducible first | exact HB.out | apply below_alloc | apply pw_below_drewN | apply below_drew1) | exact HB.out)⟩⟩
      · rw [if_neg c6] at H
        have c6b0 : decide (a0 < 0) = false := decide_eq_false c6
        clear c6
        (first | rw [c6b0] | (simp only [i64_w, i32_w]; rw [c6b0]) | skip)
        have H' := Aside0.mk H
        clear H
        go_wp2
        go_meet
        case rel => exact ⟨_, (decide (a0 > 6)), (by first | rfl | (simp; done) | (simp [*]; done)), H', ⟨by first | omega | exact Nat.le_refl _⟩, ⟨by repeat (first | (with_reducible first | exact HB.out | apply below_alloc | apply pw_below_drewN | apply below_drew1) | exact HB.out)⟩⟩
    case rest =>
      clear HC4
      try clear p2
      try clear c3
      try clear c4
      try clear c6
      try clear c6b0
      obtain ⟨kq, x25_3, rfl, HA, HJ3, HB⟩ := hcut
      cases kq with
      | zero => exact absurd HA.out (by simp [lotdrawertop_TopStay.j0])
      | succ kj3 =>
        have H := HA.out
        clear HA
        simp only [lotdrawertop_TopStay.j0] at H
        by_cases c7 : x25_3 = true
        · subst c7
          have H1 : (some true) = some r := by rw [if_pos rfl] at H; exact H
          clear H
          have H := H1
          clear H1
          obtain rfl := Option.some.inj H
          go_wp2
          go_ret
          exact ⟨by first | rfl | (simp [errW_none, errW_some] <;> rfl) | (simp [*, errW_none, errW_some] <;> rfl), by repeat (first | (with_reducible first | exact HB.out | apply below_alloc | apply pw_below_drewN | apply below_drew1) | exact HB.out)⟩
        · replace c7 := Bool.eq_false_iff.mpr c7
          subst c7
          have H1 : (lotdrawertop_TopStay.l0 kj3 a0 0 0 1 2) = some r := by rw [if_neg (show ¬ (false = true) by decide)] at H; exact H
          clear H
          have H := H1
          clear H1
          have H' := Aside0.mk H
          clear H
          go_wp2_with (first | ((with_reducible refine gate_dst (N := 26) rfl ?_); refine MO_new rfl rfl ?_; intro b4 hb4_ wm hwm; have HM := Aside0.mk (show MO wm b4 0 from by rw [hwm, hb4_]; exact MO_made _); have hb4 : w.heap.size ≤ b4 := (by rw [hb4_]; exact below_size (by repeat (first | (with_reducible first | exact HB.out | apply below_alloc | apply pw_below_drewN | apply below_drew1) | exact HB.out))); have n0_ : Aside0 (Below w.heap.size w wm) := ⟨by rw [hwm]; exact (by repeat (first | (with_reducible first | exact HB.out | apply below_alloc | apply pw_below_drewN | apply below_drew1) | exact HB.out))⟩; clear HB hwm hb4_; have HB := n0_; clear n0_))
          go_loopg [5, 6] kj3 (fun kq v5 v6 w' => ∃ (x5_2 : Int) (x6_2 : Int), v5 = .int .i64 x5_2 ∧ v6 = .int .i64 x6_2 ∧ Aside0 (lotdrawertop_TopStay.l0 kq a0 0 0 x5_2 x6_2 = some r) ∧ Aside0 (kq ≤ kj3) ∧ Aside0 (MO w' b4 0) ∧ Aside0 (Below w.heap.size w w'))
          case atStart => exact ⟨(1), (2), (by first | rfl | (simp; done) | (simp [*]; done)), (by first | rfl | (simp; done) | (simp [*]; done)), H', ⟨Nat.le_refl _⟩, ⟨(by (with_reducible repeat (first | apply MO_alloc | apply MO_drewN | apply MO_drew)); exact HM.out)⟩, ⟨by repeat (first | (with_reducible first | exact HB.out | apply below_alloc | apply pw_below_drewN | apply below_drew1) | exact HB.out)⟩⟩
          case round =>
            clear H'
            try clear p2
            try clear c3
            try clear c4
            try clear c6
            try clear c6b0
            try clear c7
            try clear p2
            clear HM
            obtain ⟨x5_2, x6_2, rfl, rfl, HA, HK2, HM, HB⟩ := hrel
            cases gk with
            | zero => exact absurd HA.out (by simp [lotdrawertop_TopStay.l0])
            | succ k2 =>
              have H := HA.out
              clear HA
              simp only [lotdrawertop_TopStay.l0] at H
              by_cases c8 : x6_2 ≤ a0
              · rw [if_pos c8] at H
                have c8b0 : decide (x6_2 ≤ a0) = true := decide_eq_true c8
                clear c8
                have H' := Aside0.mk H
                clear H
                go_wp2
                go_roundg k2
                case measure => have := HJ3.out; have := HK2.out; omega
                case rel => exact ⟨(wrap64 (x5_2 * x6_2)), (wrap64 (x6_2 + 1)), (by first | rfl | (simp; done) | (simp [*]; done)), (by first | rfl | (simp; done) | (simp [*]; done)), H', ⟨by have := HJ3.out; have := HK2.out; omega⟩, ⟨(by (with_reducible repeat (first | apply MO_alloc | apply MO_drewN | apply MO_drew)); exact HM.out)⟩, ⟨by repeat (first | (with_reducible first | exact HB.out | apply below_alloc | apply pw_below_drewN | apply below_drew1) | exact HB.out)⟩⟩
              · rw [if_neg c8] at H
                have c8b0 : decide (x6_2 ≤ a0) = false := decide_eq_false c8
                clear c8
                have H' := Aside0.mk H
                clear H
                go_wp2
                go_loopg [3, 36] k2 (fun kq v3 v36 w' => ∃ (x3_3 : Int) (x4_3 : Int) (x36_3 : Int), v3 = .int .i64 x3_3 ∧ Aside0 (MO w' b4 x4_3) ∧ v36 = .int .i64 x36_3 ∧ Aside0 (lotdrawertop_TopStay.l1 kq a0 x3_3 x4_3 x5_2 x5_2 x36_3 = some r) ∧ Aside0 (kq ≤ k2) ∧ Aside0 (Below w.heap.size w w'))
                case atStart => exact ⟨(0), (0), (0), (by first | rfl | (simp; done) | (simp [*]; done)), ⟨(by (with_reducible repeat (first | apply MO_alloc | apply MO_drewN | apply MO_drew)); exact HM.out)⟩, (by first | rfl | (simp; done) | (simp [*]; done)), H', ⟨Nat.le_refl _⟩, ⟨by repeat (first | (with_reducible first | exact HB.out | apply below_alloc | apply pw_below_drewN | apply below_drew1) | exact HB.out)⟩⟩
                case round =>
                  clear H'
                  try clear p2
                  try clear c3
                  try clear c4
                  try clear c6
                  try clear c6b0
                  try clear p6
                  try clear c7
                  try clear c8
                  try clear c8b0
                  try clear p2
                  clear HM
                  obtain ⟨x3_3, x4_3, x36_3, rfl, HM, rfl, HA, HK3, HB⟩ := hrel
                  cases gk with
                  | zero => exact absurd HA.out (by simp [lotdrawertop_TopStay.l1])
                  | succ k3 =>
                    have H := HA.out
                    clear HA
                    simp only [lotdrawertop_TopStay.l1] at H
                    by_cases c9 : x36_3 < x5_2
                    · rw [if_pos c9] at H
                      have c9b0 : decide (x36_3 < x5_2) = true := decide_eq_true c9
                      clear c9
                      replace H := Option.bind_eq_some_iff.mp H
                      obtain ⟨⟨t284, t285⟩, A100, H⟩ := H
                      replace H : ((cycles_Of.f k3 t284).bind fun bt288 => (if t285 = 0 then (lotdrawertop_TopStay.j3 k3 a0 x3_3 x4_3 x5_2 bt288.1 x5_2 x36_3 (bt288.2 != 0)) else (lotdrawertop_TopStay.j3 k3 a0 x3_3 x4_3 x5_2 bt288.1 x5_2 x36_3 true))) = some r := H
                      have A10 := Aside0.mk A100
                      clear A100
                      replace H := Option.bind_eq_some_iff.mp H
                      obtain ⟨⟨t288, t289⟩, A110, H⟩ := H
                      replace H : (if t285 = 0 then (lotdrawertop_TopStay.j3 k3 a0 x3_3 x4_3 x5_2 t288 x5_2 x36_3 (t289 != 0)) else (lotdrawertop_TopStay.j3 k3 a0 x3_3 x4_3 x5_2 t288 x5_2 x36_3 true)) = some r := H
                      have A11 := Aside0.mk A110
                      clear A110
                      have HC12 := Aside0.mk H
                      clear H
                      go_upto_region 17 with (first | ((with_reducible refine gate_callee (f := 16) rfl ?_); refine goesL_ (some 42) rfl rfl Tryd.func16 (by kernel_rfl) rfl #[.int .i64 a0, .int .i64 x36_3] rfl (by (try simp only [List.map_toArray, List.map_cons, List.map_nil]); first | done | rfl | (simp only [List.length_drop, List.length_take]; rfl)) ?_; (with_reducible refine (perm_At.calls k3 a0 x36_3 t284 t285 _ A10.out).mono ?_); rintro e w13 ⟨v286, rfl, ho0, hb⟩; refine ⟨_, rfl, ?_⟩; have m0_ := Aside0.mk (MO_below (by (with_reducible repeat (first | apply MO_alloc | apply MO_drewN | apply MO_drew)); exact HM.out) hb); clear HM; have HM := m0_; clear m0_; have n0_ := Aside0.mk (Kd.R_lower ho0 (below_size (by repeat (first | (with_reducible first | exact HB.out | apply below_alloc | apply pw_below_drewN | apply below_drew1) | exact HB.out)))); have n1_ := Aside0.mk (below_step (by repeat (first | (with_reducible first | exact HB.out | apply below_alloc | apply pw_below_drewN | apply below_drew1) | exact HB.out)) hb); clear HB; have HO287 := n0_; have HB := n1_; clear n0_ n1_; (try clear hb); (try clear hb2); (try clear hk); (try clear hi); (try clear ho0); obtain ⟨Ao14, co14, eo14⟩ := Kd.R_slice HO287.out; subst eo14) | ((with_reducible refine gate_callee (f := 17) rfl ?_); refine goesL_ (some 47) rfl rfl Tryd.func17 (by kernel_rfl) rfl #[.slice Ao14 t284.length co14] rfl (by (try simp only [List.map_toArray, List.map_cons, List.map_nil]); first | done | rfl | (simp only [List.length_drop, List.length_take]; rfl)) ?_; (with_reducible refine (cycles_Of.calls k3 _ _ t284 t288 t289 _ ?side1 ?side2 A11.out).mono ?_); (case side1 => repeat (first | exact (Kd.R_reads' HO287.out).2.2 | (with_reducible refine Kd.C_alloc ?_ _) | (with_reducible refine Kd.C_drewN ?_ _) | (with_reducible refine Kd.C_drew ?_))); (case side2 => exact (Kd.R_reads' HO287.out).2.1); rintro e w15 ⟨v290, rfl, ho0, hb⟩; refine ⟨_, rfl, ?_⟩; have m0_ := Aside0.mk (MO_below (by (with_reducible repeat (first | apply MO_alloc | apply MO_drewN | apply MO_drew)); exact HM.out) hb); clear HM; have HM := m0_; clear m0_; have n0_ := Aside0.mk (Kd.R_below (by (with_reducible repeat (first | apply Kd.R_alloc | apply Kd.R_drewN | apply Kd.R_drew)); exact HO287.out) hb); have n1_ := Aside0.mk (Kd.S_lower (Kd.S_new' ho0 (Kd.R_lt (by (with_reducible repeat (first | apply Kd.R_alloc | apply Kd.R_drewN | apply Kd.R_drew)); exact HO287.out))) (below_size (by repeat (first | (with_reducible first | exact HB.out | apply below_alloc | apply pw_below_drewN | apply below_drew1) | exact HB.out)))); have n2_ := Aside0.mk (below_step (by repeat (first | (with_reducible first | exact HB.out | apply below_alloc | apply pw_below_drewN | apply below_drew1) | exact HB.out)) hb); clear HO287; clear HB; have HO287 := n0_; have HO291 := n1_; have HB := n2_; clear n0_ n1_ n2_; (try clear hb); (try clear hb2); (try clear hk); (try clear hi); (try clear ho0)))
                      (try simp only [Act.put, List.setIfInBounds_toArray, List.set_cons_zero, List.set_cons_succ])
                      go_cut [55] (fun v55 wc => ∃ (kq : Nat) (x55_11 : Bool), v55 = .bool x55_11 ∧ Aside0 (lotdrawertop_TopStay.j3 kq a0 x3_3 x4_3 x5_2 t288 x5_2 x36_3 x55_11 = some r) ∧ Aside0 (kq ≤ k3) ∧ Aside0 (MO wc b4 x4_3) ∧ Aside0 (Kd.S (Kd.slice 3 (Kd.int .i64)) 30 wc w.heap.size (fun _ => True) v290 t288) ∧ Aside0 (Below w.heap.size w wc))
                      case first =>
                        have H := HC12.out
                        clear HC12
                        by_cases c16 : t285 = 0
                        · rw [if_pos c16] at H
                          have c16b0 : (t285 == 0) = true := beq_iff_eq.mpr c16
                          have c16b1 : (t285 != 0) = false := bne_eq_false_iff_eq.mpr c16
                          clear c16
                          (first | rw [c16b0] | (simp only [i64_w, i32_w]; rw [c16b0]) | skip)
                          have H' := Aside0.mk H
                          clear H
                          go_wp2
                          go_meet
                          case rel => exact ⟨_, ((t289 != 0)), (by first | rfl | (simp; done) | (simp [*]; done)), H', ⟨by have := HJ3.out; have := HK2.out; have := HK3.out; first | omega | exact Nat.le_refl _⟩, ⟨(by (with_reducible repeat (first | apply MO_alloc | apply MO_drewN | apply MO_drew)); exact HM.out)⟩, ⟨by (with_reducible repeat (first | apply Kd.S_alloc | apply Kd.S_drewN | apply Kd.S_drew)); exact Kd.S_mono HO291.out (fun _ hk => trivial)⟩, ⟨by repeat (first | (with_reducible first | exact HB.out | apply below_alloc | apply pw_below_drewN | apply below_drew1) | exact HB.out)⟩⟩
                        · rw [if_neg c16] at H
                          have c16b0 : (t285 == 0) = false := beq_eq_false_iff_ne.mpr c16
                          have c16b1 : (t285 != 0) = true := bne_iff_ne.mpr c16
                          (first | rw [c16b0] | (simp only [i64_w, i32_w]; rw [c16b0]) | skip)
                          have H' := Aside0.mk H
                          clear H
                          go_wp2
                          go_meet
                          case rel => exact ⟨_, (true), (by first | rfl | (simp; done) | (simp [*]; done)), H', ⟨by have := HJ3.out; have := HK2.out; have := HK3.out; first | omega | exact Nat.le_refl _⟩, ⟨(by (with_reducible repeat (first | apply MO_alloc | apply MO_drewN | apply MO_drew)); exact HM.out)⟩, ⟨by (with_reducible repeat (first | apply Kd.S_alloc | apply Kd.S_drewN | apply Kd.S_drew)); exact Kd.S_mono HO291.out (fun _ hk => trivial)⟩, ⟨by repeat (first | (with_reducible first | exact HB.out | apply below_alloc | apply pw_below_drewN | apply below_drew1) | exact HB.out)⟩⟩
                      case rest =>
                        clear HC12
                        try clear c1
                        try clear p2
                        try clear c3
                        try clear c4
                        try clear c6
                        try clear c6b0
                        try clear p6
                        try clear c7
                        try clear c8
                        try clear c8b0
                        try clear c9
                        try clear c9b0
                        try clear c16
                        try clear c16b0
                        try clear c16b1
                        try clear p2
                        try clear p6
                        clear HM
                        obtain ⟨kq, x55_11, rfl, HA, HJ11, HM, HO_10, HB⟩ := hcut
                        cases kq with
                        | zero => exact absurd HA.out (by simp [lotdrawertop_TopStay.j3])
                        | succ kj11 =>
                          have H := HA.out
                          clear HA
                          simp only [lotdrawertop_TopStay.j3] at H
                          by_cases c17 : x55_11 = true
                          · subst c17
                            have H1 : (some false) = some r := by rw [if_pos rfl] at H; exact H
                            clear H
                            have H := H1
                            clear H1
                            obtain rfl := Option.some.inj H
                            go_wp2
                            go_ret
                            exact ⟨by first | rfl | (simp [errW_none, errW_some] <;> rfl) | (simp [*, errW_none, errW_some] <;> rfl), by repeat (first | (with_reducible first | exact HB.out | apply below_alloc | apply pw_below_drewN | apply below_drew1) | exact HB.out)⟩
                          · replace c17 := Bool.eq_false_iff.mpr c17
                            subst c17
                            have H1 : ((slices_ContainsFunc_int_int.f kj11 t288 0).bind fun t292 => (if t292 = true then ((map_inc.f x4_3 (t288.length : Int)).bind fun t293 => (lotdrawertop_TopStay.l1 kj11 a0 x3_3 t293 x5_2 x5_2 (wrap64 (x36_3 + 1)))) else ((map_inc.f x4_3 (t288.length : Int)).bind fun t294 => (lotdrawertop_TopStay.l1 kj11 a0 (wrap64 (x3_3 + 1)) t294 x5_2 x5_2 (wrap64 (x36_3 + 1)))))) = some r := by rw [if_neg (show ¬ (false = true) by decide)] at H; exact H
                            clear H
                            have H := H1
                            clear H1
                            replace H := Option.bind_eq_some_iff.mp H
                            obtain ⟨t292, A180, H⟩ := H
                            replace H : (if t292 = true then ((map_inc.f x4_3 (t288.length : Int)).bind fun t293 => (lotdrawertop_TopStay.l1 kj11 a0 x3_3 t293 x5_2 x5_2 (wrap64 (x36_3 + 1)))) else ((map_inc.f x4_3 (t288.length : Int)).bind fun t294 => (lotdrawertop_TopStay.l1 kj11 a0 (wrap64 (x3_3 + 1)) t294 x5_2 x5_2 (wrap64 (x36_3 + 1))))) = some r := H
                            have A18 := Aside0.mk A180
                            clear A180
                            by_cases c19 : t292 = true
                            · subst c19
                              have H1 : ((map_inc.f x4_3 (t288.length : Int)).bind fun t293 => (lotdrawertop_TopStay.l1 kj11 a0 x3_3 t293 x5_2 x5_2 (wrap64 (x36_3 + 1)))) = some r := by rw [if_pos rfl] at H; exact H
                              clear H
                              have H := H1
                              clear H1
                              replace H := Option.bind_eq_some_iff.mp H
                              obtain ⟨t293, A200, H⟩ := H
                              replace H : (lotdrawertop_TopStay.l1 kj11 a0 x3_3 t293 x5_2 x5_2 (wrap64 (x36_3 + 1))) = some r := H
                              have A20 := Aside0.mk A200
                              clear A200
                              have H' := Aside0.mk H
                              clear H
                              obtain ⟨Ao21, co21, eo21⟩ := Kd.S_slice HO_10.out
                              subst eo21
                              go_wp2_with (first | ((with_reducible refine gate_callee (f := 18) rfl ?_); refine goesL_ (some 57) rfl rfl Tryd.func18 (by kernel_rfl) rfl #[.slice Ao21 t288.length co21, .func (.func 19) #[] #[]] rfl (by (try simp only [List.map_toArray, List.map_cons, List.map_nil]); first | done | rfl | (simp only [List.length_drop, List.length_take]; rfl)) ?_; (with_reducible refine (slices_ContainsFunc_int_int.calls kj11 _ _ t288 0 true _ ?side1 ?side2 A18.out).mono ?_); (case side1 => repeat (first | exact (Kd.S_reads' HO_10.out).2.2 | (with_reducible refine Kd.C_alloc ?_ _) | (with_reducible refine Kd.C_drewN ?_ _) | (with_reducible refine Kd.C_drew ?_))); (case side2 => exact (Kd.S_reads' HO_10.out).2.1); rintro e w' ⟨rfl, ⟨nd, rfl⟩⟩; refine ⟨_, rfl, ?_⟩) | (at_lookup; refine MO_look rfl _ _ rfl b4 x4_3 (by (with_reducible repeat (first | apply MO_alloc | apply MO_drewN | apply MO_drew)); exact HM.out) (t288.length : Int) (inc_wf A20.out) rfl rfl ?_) | (at_mapUpdate; refine MO_upd rfl _ _ _ rfl b4 x4_3 t293 (by (with_reducible repeat (first | apply MO_alloc | apply MO_drewN | apply MO_drew)); exact HM.out) (t288.length : Int) A20.out rfl rfl rfl ?_; intro w50 hM hgr; have n0_ := Aside0.mk (Below.grown (show Below w.heap.size w _ from (by repeat (first | (with_reducible first | exact HB.out | apply below_alloc | apply pw_below_drewN | apply below_drew1) | exact HB.out))) hgr (below_size (by repeat (first | (with_reducible first | exact HB.out | apply below_alloc | apply pw_below_drewN | apply below_drew1) | exact HB.out))) (fun k_ hk_ => by cases hk_; exact hb4)); have m0_ := Aside0.mk hM; clear HM HB; have HM := m0_; have HB := n0_; clear n0_ m0_ hM hgr))
                              go_roundg kj11
                              case measure => have := HJ3.out; have := HK2.out; have := HK3.out; have := HJ11.out; omega
                              case rel => exact ⟨(x3_3), (t293), (wrap64 (x36_3 + 1)), (by first | rfl | (simp; done) | (simp [*]; done)), ⟨(by (with_reducible repeat (first | apply MO_alloc | apply MO_drewN | apply MO_drew)); exact HM.out)⟩, (by first | rfl | (simp; done) | (simp [*]; done)), H', ⟨by have := HJ3.out; have := HK2.out; have := HK3.out; have := HJ11.out; omega⟩, ⟨by repeat (first | (with_reducible first | exact HB.out | apply below_alloc | apply pw_below_drewN | apply below_drew1) | exact HB.out)⟩⟩
                            · replace c19 := Bool.eq_false_iff.mpr c19
                              subst c19
                              have H1 : ((map_inc.f x4_3 (t288.length : Int)).bind fun t294 => (lotdrawertop_TopStay.l1 kj11 a0 (wrap64 (x3_3 + 1)) t294 x5_2 x5_2 (wrap64 (x36_3 + 1)))) = some r := by rw [if_neg (show ¬ (false = true) by decide)] at H; exact H
                              clear H
                              have H := H1
                              clear H1
                              replace H := Option.bind_eq_some_iff.mp H
                              obtain ⟨t294, A220, H⟩ := H
                              replace H : (lotdrawertop_TopStay.l1 kj11 a0 (wrap64 (x3_3 + 1)) t294 x5_2 x5_2 (wrap64 (x36_3 + 1))) = some r := H
                              have A22 := Aside0.mk A220
                              clear A220
                              have H' := Aside0.mk H
                              clear H
                              obtain ⟨Ao23, co23, eo23⟩ := Kd.S_slice HO_10.out
                              subst eo23
                              go_wp2_with (first | ((with_reducible refine gate_callee (f := 18) rfl ?_); refine goesL_ (some 57) rfl rfl Tryd.func18 (by kernel_rfl) rfl #[.slice Ao23 t288.length co23, .func (.func 19) #[] #[]] rfl (by (try simp only [List.map_toArray, List.map_cons, List.map_nil]); first | done | rfl | (simp only [List.length_drop, List.length_take]; rfl)) ?_; (with_reducible refine (slices_ContainsFunc_int_int.calls kj11 _ _ t288 0 false _ ?side1 ?side2 A18.out).mono ?_); (case side1 => repeat (first | exact (Kd.S_reads' HO_10.out).2.2 | (with_reducible refine Kd.C_alloc ?_ _) | (with_reducible refine Kd.C_drewN ?_ _) | (with_reducible refine Kd.C_drew ?_))); (case side2 => exact (Kd.S_reads' HO_10.out).2.1); rintro e w' ⟨rfl, ⟨nd, rfl⟩⟩; refine ⟨_, rfl, ?_⟩) | (at_lookup; refine MO_look rfl _ _ rfl b4 x4_3 (by (with_reducible repeat (first | apply MO_alloc | apply MO_drewN | apply MO_drew)); exact HM.out) (t288.length : Int) (inc_wf A22.out) rfl rfl ?_) | (at_mapUpdate; refine MO_upd rfl _ _ _ rfl b4 x4_3 t294 (by (with_reducible repeat (first | apply MO_alloc | apply MO_drewN | apply MO_drew)); exact HM.out) (t288.length : Int) A22.out rfl rfl rfl ?_; intro w50 hM hgr; have n0_ := Aside0.mk (Below.grown (show Below w.heap.size w _ from (by repeat (first | (with_reducible first | exact HB.out | apply below_alloc | apply pw_below_drewN | apply below_drew1) | exact HB.out))) hgr (below_size (by repeat (first | (with_reducible first | exact HB.out | apply below_alloc | apply pw_below_drewN | apply below_drew1) | exact HB.out))) (fun k_ hk_ => by cases hk_; exact hb4)); have m0_ := Aside0.mk hM; clear HM HB; have HM := m0_; have HB := n0_; clear n0_ m0_ hM hgr))
                              go_roundg kj11
                              case measure => have := HJ3.out; have := HK2.out; have := HK3.out; have := HJ11.out; omega
                              case rel => exact ⟨(wrap64 (x3_3 + 1)), (t294), (wrap64 (x36_3 + 1)), (by first | rfl | (simp; done) | (simp [*]; done)), ⟨(by (with_reducible repeat (first | apply MO_alloc | apply MO_drewN | apply MO_drew)); exact HM.out)⟩, (by first | rfl | (simp; done) | (simp [*]; done)), H', ⟨by have := HJ3.out; have := HK2.out; have := HK3.out; have := HJ11.out; omega⟩, ⟨by repeat (first | (with_reducible first | exact HB.out | apply below_alloc | apply pw_below_drewN | apply below_drew1) | exact HB.out)⟩⟩
                    · rw [if_neg c9] at H
                      have c9b0 : decide (x36_3 < x5_2) = false := decide_eq_false c9
                      clear c9
                      replace H := Option.bind_eq_some_iff.mp H
                      obtain ⟨⟨t295, t296⟩, A240, H⟩ := H
                      replace H : (lotdrawertop_TopStay.l2 k3 a0 x3_3 x4_3 x5_2 t295 t296 0 (wrap64 (a0 + 1)) 0) = some r := H
                      have A24 := Aside0.mk A240
                      clear A240
                      have H' := Aside0.mk H
                      clear H
                      go_wp2_with (first | ((with_reducible refine gate_callee (f := 20) rfl ?_); refine goesL_ (some 69) rfl rfl Tryd.func20 (by kernel_rfl) rfl #[.int .i64 a0] rfl (by (try simp only [List.map_toArray, List.map_cons, List.map_nil]); first | done | rfl | (simp only [List.length_drop, List.length_take]; rfl)) ?_; (with_reducible refine (urns_Wrongly.calls k3 a0 t295 t296 _ A24.out).mono ?_); rintro e w' ⟨rfl, ⟨nd, rfl⟩⟩; refine ⟨_, rfl, ?_⟩))
                      go_loopg [14, 74] k3 (fun kq v14 v74 w' => ∃ (x14_4 : Int) (x74_4 : Int), v14 = .int .i64 x14_4 ∧ v74 = .int .i64 x74_4 ∧ Aside0 (lotdrawertop_TopStay.l2 kq a0 x3_3 x4_3 x5_2 t295 t296 x14_4 (wrap64 (a0 + 1)) x74_4 = some r) ∧ Aside0 (kq ≤ k3) ∧ (Lit.int .i64 x74_4).wf = true ∧ Aside0 (MO w' b4 x4_3) ∧ Aside0 (Below w.heap.size w w'))
                      case atStart => exact ⟨(0), (0), (by first | rfl | (simp; done) | (simp [*]; done)), (by first | rfl | (simp; done) | (simp [*]; done)), H', ⟨Nat.le_refl _⟩, (by decide), ⟨(by (with_reducible repeat (first | apply MO_alloc | apply MO_drewN | apply MO_drew)); exact HM.out)⟩, ⟨by repeat (first | (with_reducible first | exact HB.out | apply below_alloc | apply pw_below_drewN | apply below_drew1) | exact HB.out)⟩⟩
                      case round =>
                        clear H'
                        try clear c1
                        try clear c2
                        try clear p2
                        try clear c3
                        try clear c4
                        try clear c6
                        try clear c6b0
                        try clear p6
                        try clear c7
                        try clear c8
                        try clear c8b0
                        try clear c9
                        try clear c9b0
                        try clear c16
                        try clear c16b0
                        try clear c16b1
                        try clear c17
                        try clear c18
                        try clear c19
                        try clear c20
                        try clear p2
                        try clear p6
                        clear HM
                        obtain ⟨x14_4, x74_4, rfl, rfl, HA, HK4, hw74, HM, HB⟩ := hrel
                        cases gk with
                        | zero => exact absurd HA.out (by simp [lotdrawertop_TopStay.l2])
                        | succ k4 =>
                          have H := HA.out
                          clear HA
                          simp only [lotdrawertop_TopStay.l2] at H
                          by_cases c25 : x74_4 < (wrap64 (a0 + 1))
                          · rw [if_pos c25] at H
                            have c25b0 : decide (x74_4 < (wrap64 (a0 + 1))) = true := decide_eq_true c25
                            clear c25
                            replace H := Option.bind_eq_some_iff.mp H
                            obtain ⟨⟨t297, t298⟩, A260, H⟩ := H
                            replace H : (if t298 = 0 then (if t297 > 0 then (if (mget x4_3 x74_4) < t297 then (some false) else (lotdrawertop_TopStay.l2 k4 a0 x3_3 x4_3 x5_2 t295 t296 (wrap64 (x14_4 + (mget x4_3 x74_4))) (wrap64 (a0 + 1)) (wrap64 (x74_4 + 1)))) else (lotdrawertop_TopStay.l2 k4 a0 x3_3 x4_3 x5_2 t295 t296 (wrap64 (x14_4 + (mget x4_3 x74_4))) (wrap64 (a0 + 1)) (wrap64 (x74_4 + 1)))) else (some false)) = some r := H
                            have A26 := Aside0.mk A260
                            clear A260
                            by_cases c27 : t298 = 0
                            · rw [if_pos c27] at H
                              have c27b0 : (t298 == 0) = true := beq_iff_eq.mpr c27
                              have c27b1 : (t298 != 0) = false := bne_eq_false_iff_eq.mpr c27
                              clear c27
                              by_cases c28 : t297 > 0
                              · rw [if_pos c28] at H
                                have c28b0 : decide (0 < t297) = true := decide_eq_true c28
                                clear c28
                                by_cases c29 : (mget x4_3 x74_4) < t297
                                · rw [if_pos c29] at H
                                  have c29b0 : decide ((mget x4_3 x74_4) < t297) = true := decide_eq_true c29
                                  clear c29
                                  obtain rfl := Option.some.inj H
                                  go_wp2_with (first | ((with_reducible refine gate_callee (f := 21) rfl ?_); refine goesL_ (some 80) rfl rfl Tryd.func21 (by kernel_rfl) rfl #[.int .i64 a0, .int .i64 x74_4] rfl (by (try simp only [List.map_toArray, List.map_cons, List.map_nil]); first | done | rfl | (simp only [List.length_drop, List.length_take]; rfl)) ?_; (with_reducible refine (urns_Parts.calls k4 a0 x74_4 t297 t298 _ A26.out).mono ?_); rintro e w30 ⟨rfl, hb⟩; refine ⟨_, rfl, ?_⟩; have m0_ := Aside0.mk (MO_below (by (with_reducible repeat (first | apply MO_alloc | apply MO_drewN | apply MO_drew)); exact HM.out) hb); clear HM; have HM := m0_; clear m0_; have n0_ := Aside0.mk (below_step (by repeat (first | (with_reducible first | exact HB.out | apply below_alloc | apply pw_below_drewN | apply below_drew1) | exact HB.out)) hb); clear HB; have HB := n0_; clear n0_; (try clear hb); (try clear hb2); (try clear hk); (try clear hi)) | (at_lookup; (try (refine gate_guard (by rfl) ?_)); refine MO_look rfl _ _ rfl b4 x4_3 (by (with_reducible repeat (first | apply MO_alloc | apply MO_drewN | apply MO_drew)); exact HM.out) x74_4 hw74 rfl rfl ?_) | (at_lookup; refine skip_guard (by rfl) ?_))
                                  go_ret
                                  exact ⟨by first | rfl | (simp [errW_none, errW_some] <;> rfl) | (simp [*, errW_none, errW_some] <;> rfl), by repeat (first | (with_reducible first | exact HB.out | apply below_alloc | apply pw_below_drewN | apply below_drew1) | exact HB.out)⟩
                                · rw [if_neg c29] at H
                                  have c29b0 : decide ((mget x4_3 x74_4) < t297) = false := decide_eq_false c29
                                  clear c29
                                  have H' := Aside0.mk H
                                  clear H
                                  go_wp2_with (first | ((with_reducible refine gate_callee (f := 21) rfl ?_); refine goesL_ (some 80) rfl rfl Tryd.func21 (by kernel_rfl) rfl #[.int .i64 a0, .int .i64 x74_4] rfl (by (try simp only [List.map_toArray, List.map_cons, List.map_nil]); first | done | rfl | (simp only [List.length_drop, List.length_take]; rfl)) ?_; (with_reducible refine (urns_Parts.calls k4 a0 x74_4 t297 t298 _ A26.out).mono ?_); rintro e w31 ⟨rfl, hb⟩; refine ⟨_, rfl, ?_⟩; have m0_ := Aside0.mk (MO_below (by (with_reducible repeat (first | apply MO_alloc | apply MO_drewN | apply MO_drew)); exact HM.out) hb); clear HM; have HM := m0_; clear m0_; have n0_ := Aside0.mk (below_step (by repeat (first | (with_reducible first | exact HB.out | apply below_alloc | apply pw_below_drewN | apply below_drew1) | exact HB.out)) hb); clear HB; have HB := n0_; clear n0_; (try clear hb); (try clear hb2); (try clear hk); (try clear hi)) | (at_lookup; (try (refine gate_guard (by rfl) ?_)); refine MO_look rfl _ _ rfl b4 x4_3 (by (with_reducible repeat (first | apply MO_alloc | apply MO_drewN | apply MO_drew)); exact HM.out) x74_4 hw74 rfl rfl ?_) | (at_lookup; refine skip_guard (by rfl) ?_))
                                  go_roundg k4
                                  case measure => have := HJ3.out; have := HK2.out; have := HK3.out; have := HK4.out; omega
                                  case rel => exact ⟨(wrap64 (x14_4 + (mget x4_3 x74_4))), (wrap64 (x74_4 + 1)), (by first | rfl | (simp; done) | (simp [*]; done)), (by first | rfl | (simp; done) | (simp [*]; done)), H', ⟨by have := HJ3.out; have := HK2.out; have := HK3.out; have := HK4.out; omega⟩, (wrap64_wf _), ⟨(by (with_reducible repeat (first | apply MO_alloc | apply MO_drewN | apply MO_drew)); exact HM.out)⟩, ⟨by repeat (first | (with_reducible first | exact HB.out | apply below_alloc | apply pw_below_drewN | apply below_drew1) | exact HB.out)⟩⟩
                              · rw [if_neg c28] at H
                                have c28b0 : decide (0 < t297) = false := decide_eq_false c28
                                clear c28
                                have H' := Aside0.mk H
                                clear H
                                go_wp2_with (first | ((with_reducible refine gate_callee (f := 21) rfl ?_); refine goesL_ (some 80) rfl rfl Tryd.func21 (by kernel_rfl) rfl #[.int .i64 a0, .int .i64 x74_4] rfl (by (try simp only [List.map_toArray, List.map_cons, List.map_nil]); first | done | rfl | (simp only [List.length_drop, List.length_take]; rfl)) ?_; (with_reducible refine (urns_Parts.calls k4 a0 x74_4 t297 t298 _ A26.out).mono ?_); rintro e w32 ⟨rfl, hb⟩; refine ⟨_, rfl, ?_⟩; have m0_ := Aside0.mk (MO_below (by (with_reducible repeat (first | apply MO_alloc | apply MO_drewN | apply MO_drew)); exact HM.out) hb); clear HM; have HM := m0_; clear m0_; have n0_ := Aside0.mk (below_step (by repeat (first | (with_reducible first | exact HB.out | apply below_alloc | apply pw_below_drewN | apply below_drew1) | exact HB.out)) hb); clear HB; have HB := n0_; clear n0_; (try clear hb); (try clear hb2); (try clear hk); (try clear hi)) | (at_lookup; (try (refine gate_guard (by rfl) ?_)); refine MO_look rfl _ _ rfl b4 x4_3 (by (with_reducible repeat (first | apply MO_alloc | apply MO_drewN | apply MO_drew)); exact HM.out) x74_4 hw74 rfl rfl ?_) | (at_lookup; refine skip_guard (by rfl) ?_))
                                go_roundg k4
                                case measure => have := HJ3.out; have := HK2.out; have := HK3.out; have := HK4.out; omega
                                case rel => exact ⟨(wrap64 (x14_4 + (mget x4_3 x74_4))), (wrap64 (x74_4 + 1)), (by first | rfl | (simp; done) | (simp [*]; done)), (by first | rfl | (simp; done) | (simp [*]; done)), H', ⟨by have := HJ3.out; have := HK2.out; have := HK3.out; have := HK4.out; omega⟩, (wrap64_wf _), ⟨(by (with_reducible repeat (first | apply MO_alloc | apply MO_drewN | apply MO_drew)); exact HM.out)⟩, ⟨by repeat (first | (with_reducible first | exact HB.out | apply below_alloc | apply pw_below_drewN | apply below_drew1) | exact HB.out)⟩⟩
                            · rw [if_neg c27] at H
                              have c27b0 : (t298 == 0) = false := beq_eq_false_iff_ne.mpr c27
                              have c27b1 : (t298 != 0) = true := bne_iff_ne.mpr c27
                              obtain rfl := Option.some.inj H
                              go_wp2_with (first | ((with_reducible refine gate_callee (f := 21) rfl ?_); refine goesL_ (some 80) rfl rfl Tryd.func21 (by kernel_rfl) rfl #[.int .i64 a0, .int .i64 x74_4] rfl (by (try simp only [List.map_toArray, List.map_cons, List.map_nil]); first | done | rfl | (simp only [List.length_drop, List.length_take]; rfl)) ?_; (with_reducible refine (urns_Parts.calls k4 a0 x74_4 t297 t298 _ A26.out).mono ?_); rintro e w33 ⟨rfl, hb⟩; refine ⟨_, rfl, ?_⟩; have m0_ := Aside0.mk (MO_below (by (with_reducible repeat (first | apply MO_alloc | apply MO_drewN | apply MO_drew)); exact HM.out) hb); clear HM; have HM := m0_; clear m0_; have n0_ := Aside0.mk (below_step (by repeat (first | (with_reducible first | exact HB.out | apply below_alloc | apply pw_below_drewN | apply below_drew1) | exact HB.out)) hb); clear HB; have HB := n0_; clear n0_; (try clear hb); (try clear hb2); (try clear hk); (try clear hi)) | (at_lookup; (try (refine gate_guard (by rfl) ?_)); refine MO_look rfl _ _ rfl b4 x4_3 (by (with_reducible repeat (first | apply MO_alloc | apply MO_drewN | apply MO_drew)); exact HM.out) x74_4 hw74 rfl rfl ?_) | (at_lookup; refine skip_guard (by rfl) ?_))
                              go_ret
                              exact ⟨by first | rfl | (simp [errW_none, errW_some] <;> rfl) | (simp [*, errW_none, errW_some] <;> rfl), by repeat (first | (with_reducible first | exact HB.out | apply below_alloc | apply pw_below_drewN | apply below_drew1) | exact HB.out)⟩
                          · rw [if_neg c25] at H
                            have c25b0 : decide (x74_4 < (wrap64 (a0 + 1))) = false := decide_eq_false c25
                            clear c25
                            by_cases c34 : t296 = 0
                            · rw [if_pos c34] at H
                              have c34b0 : (t296 == 0) = true := beq_iff_eq.mpr c34
                              have c34b1 : (t296 != 0) = false := bne_eq_false_iff_eq.mpr c34
                              clear c34
                              by_cases c35 : x3_3 = t295
                              · rw [if_pos c35] at H
                                have c35b0 : (x3_3 == t295) = true := beq_iff_eq.mpr c35
                                have c35b1 : (x3_3 != t295) = false := bne_eq_false_iff_eq.mpr c35
                                clear c35
                                obtain rfl := Option.some.inj H
                                go_wp2
                                go_ret
                                exact ⟨by first | rfl | (simp [errW_none, errW_some] <;> rfl) | (simp [*, errW_none, errW_some] <;> rfl), by repeat (first | (with_reducible first | exact HB.out | apply below_alloc | apply pw_below_drewN | apply below_drew1) | exact HB.out)⟩
                              · rw [if_neg c35] at H
                                have c35b0 : (x3_3 == t295) = false := beq_eq_false_iff_ne.mpr c35
                                have c35b1 : (x3_3 != t295) = true := bne_iff_ne.mpr c35
                                obtain rfl := Option.some.inj H
                                go_wp2
                                go_ret
                                exact ⟨by first | rfl | (simp [errW_none, errW_some] <;> rfl) | (simp [*, errW_none, errW_some] <;> rfl), by repeat (first | (with_reducible first | exact HB.out | apply below_alloc | apply pw_below_drewN | apply below_drew1) | exact HB.out)⟩
                            · rw [if_neg c34] at H
                              have c34b0 : (t296 == 0) = false := beq_eq_false_iff_ne.mpr c34
                              have c34b1 : (t296 != 0) = true := bne_iff_ne.mpr c34
                              obtain rfl := Option.some.inj H
                              go_wp2
                              go_ret
                              exact ⟨by first | rfl | (simp [errW_none, errW_some] <;> rfl) | (simp [*, errW_none, errW_some] <;> rfl), by repeat (first | (with_reducible first | exact HB.out | apply below_alloc | apply pw_below_drewN | apply below_drew1) | exact HB.out)⟩
  · replace c3 := Bool.eq_false_iff.mpr c3
    subst c3
    have H1 : (some false) = some r := by rw [if_neg (show ¬ (false = true) by decide)] at H; exact H
    clear H
    have H := H1
    clear H1
    obtain rfl := Option.some.inj H
    go_enter Tryd.func4, Tryd.ntmps4
    go_wp2_with (first | ((with_reducible refine gate_callee (f := 9) rfl ?_); refine goesL_ (some 18) rfl rfl Tryd.func9 (by kernel_rfl) rfl #[] rfl (by (try simp only [List.map_toArray, List.map_cons, List.map_nil]); first | done | rfl | (simp only [List.length_drop, List.length_take]; rfl)) ?_; (with_reducible refine (lotdrawertop_alive.calls k  false _ ?sideL A2.out).mono ?_); (case sideL => first | exact HLaid.out | exact Laid.below HLaid.out (by repeat (first | (with_reducible first | exact HB.out | apply below_alloc | apply pw_below_drewN | apply below_drew1) | exact HB.out)) | exact Laid.below HLaid.out (by repeat (first | (with_reducible first | exact HB.out | apply below_alloc | apply pw_below_drewN | apply below_drew1) | exact HB.out | exact Below.refl _ _))); rintro e w36 ⟨rfl, hb⟩; refine ⟨_, rfl, ?_⟩; have n0_ := Aside0.mk (below_step (by repeat (first | (with_reducible first | exact HB.out | apply below_alloc | apply pw_below_drewN | apply below_drew1) | exact HB.out)) hb); clear HB; have HB := n0_; clear n0_; (try clear hb); (try clear hb2); (try clear hk); (try clear hi)))
    go_ret
    exact ⟨by first | rfl | (simp [errW_none, errW_some] <;> rfl) | (simp [*, errW_none, errW_some] <;> rfl), by repeat (first | (with_reducible first | exact HB.out | apply below_alloc | apply pw_below_drewN | apply below_drew1) | exact HB.out)⟩

/-- THE ONE PURE STATEMENT of lotdrawertop_TopStay: yours. -/
def lotdrawertop_TopStay.Pure : Prop := ∀ (a0 : Int), (Lit.int .i64 a0).wf = true → ∃ k, lotdrawertop_TopStay.f k a0 = some true
theorem lotdrawertop_TopStay.walk (P : lotdrawertop_TopStay.Pure) (a0 : Int) (w : World) (hL : Laid w) (w0 : (Lit.int .i64 a0).wf = true) :
    Calls Tryd.prog 4 #[.int .i64 a0] w fun e w' => e = .returned (.bool true) ∧ Below w.heap.size w w' := by
  obtain ⟨k, h⟩ := P a0 w0
  refine (lotdrawertop_TopStay.calls k a0 true w hL h).mono ?_
  rintro e w' ⟨rfl, hd⟩
  exact ⟨rfl, hd⟩

end Go.Proofs.YtioppgeackgjnaaDoor.Bt
