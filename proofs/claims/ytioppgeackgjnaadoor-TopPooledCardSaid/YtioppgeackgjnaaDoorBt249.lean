-- written by a program of this session (wip/tools/mp.sh: a patched copy of the kit's printer)
import Derived.Test.YtioppgeackgjnaaDoorBt0
import Derived.Test.YtioppgeackgjnaaDoorBt248
namespace Go.Proofs.YtioppgeackgjnaaDoor.Bt
open Go.RowKit Go.Proofs.YtioppgeackgjnaaDoorW.PrintWords Go.Proofs.YtioppgeackgjnaaDoorW.PrintLast Go.Proofs.YtioppgeackgjnaaDoorW.PrintMore
attribute [local go_sem] max2_int min2_int max_two min_two max_three min_three max_four min_four   -- for this text's walks alone
set_option linter.unusedVariables false
set_option linter.unusedSimpArgs false

/-! ### tape_Below: function 35 -/
mutual
def tape_Below.j0 : Nat → List Bool → Int → Bool → Option (Int × Int × Int)
  | 0, _, _, _ => none
  | k + 1, x0, x1, x17 => if x17 = true then (some (0, 0, 2)) else ((tape_width.f x1).bind fun t422 => (tape_Below.l0 k x0 x1 t422 0))
def tape_Below.l0 : Nat → List Bool → Int → Int → Int → Option (Int × Int × Int)
  | 0, _, _, _, _ => none
  | k + 1, x0, x1, x7, x8 => if (wrap64 ((x0.length : Int) - x8)) < x7 then (some (0, 0, 7)) else (if 0 ≤ x8 then (if x8 ≤ (wrap64 (x8 + x7)) then (if (wrap64 (x8 + x7)) ≤ (x0.length : Int) then (tape_Below.l1 k x0 x1 x7 x8 0 ((x0.take ((wrap64 (x8 + x7)) : Int).toNat).drop (x8 : Int).toNat) (((x0.take ((wrap64 (x8 + x7)) : Int).toNat).drop (x8 : Int).toNat).length : Int) 0) else (none)) else (none)) else (none))
def tape_Below.l1 : Nat → List Bool → Int → Int → Int → Int → List Bool → Int → Int → Option (Int × Int × Int)
  | 0, _, _, _, _, _, _, _, _ => none
  | k + 1, x0, x1, x7, x8, x9, x31, x32, x33 => if x33 < x32 then (if 0 ≤ x33 then (if x33 < (x31.length : Int) then (if rdOf false x31 x33 = true then (tape_Below.l1 k x0 x1 x7 x8 (wrap64 ((wrap64 (x9 * 2)) + 1)) x31 x32 (wrap64 (x33 + 1))) else (tape_Below.l1 k x0 x1 x7 x8 (wrap64 (x9 * 2)) x31 x32 (wrap64 (x33 + 1)))) else (none)) else (none)) else (if x9 < x1 then (some (x9, wrap64 (x8 + x7), 0)) else (tape_Below.l0 k x0 x1 x7 (wrap64 (x8 + x7))))
end
def tape_Below.f (k : Nat) (l0 : List Bool) (a1 : Int) : Option (Int × Int × Int) := if a1 < 1 then (tape_Below.j0 k l0 a1 true) else (tape_Below.j0 k l0 a1 (decide (a1 > 1099511627776)))
theorem tape_Below.mono_l : ∀ k, (∀ y0 y1 y2, LeO (tape_Below.j0 k y0 y1 y2) (tape_Below.j0 (k + 1) y0 y1 y2)) ∧ (∀ y0 y1 y2 y3, LeO (tape_Below.l0 k y0 y1 y2 y3) (tape_Below.l0 (k + 1) y0 y1 y2 y3)) ∧ (∀ y0 y1 y2 y3 y4 y5 y6 y7, LeO (tape_Below.l1 k y0 y1 y2 y3 y4 y5 y6 y7) (tape_Below.l1 (k + 1) y0 y1 y2 y3 y4 y5 y6 y7))
  | 0 => ⟨fun _ _ _ r h => by simp [tape_Below.j0] at h, fun _ _ _ _ r h => by simp [tape_Below.l0] at h, fun _ _ _ _ _ _ _ _ r h => by simp [tape_Below.l1] at h⟩
  | k + 1 => by
    obtain ⟨ih0, ih1, ih2⟩ := tape_Below.mono_l k
    refine ⟨?_, ?_, ?_⟩
    · intro y0 y1 y2
      unfold tape_Below.j0
      repeat' first
      | (with_reducible exact ih0 _ _ _)
      | (with_reducible exact ih1 _ _ _ _)
      | (with_reducible exact ih2 _ _ _ _ _ _ _ _)
      | (with_reducible exact LeO.refl _)
      | (with_reducible exact LeO.none _)
      | (with_reducible refine LeO.ite ?_ ?_)
      | (with_reducible refine LeO.bind ?_ (fun _ => ?_))
      | exact ih0 _ _ _
      | exact ih1 _ _ _ _
      | exact ih2 _ _ _ _ _ _ _ _
      | exact LeO.none _
      | refine LeO.ite ?_ ?_
      | refine LeO.bind ?_ (fun _ => ?_)
    · intro y0 y1 y2 y3
      unfold tape_Below.l0
      repeat' first
      | (with_reducible exact ih0 _ _ _)
      | (with_reducible exact ih1 _ _ _ _)
      | (with_reducible exact ih2 _ _ _ _ _ _ _ _)
      | (with_reducible exact LeO.refl _)
      | (with_reducible exact LeO.none _)
      | (with_reducible refine LeO.ite ?_ ?_)
      | (with_reducible refine LeO.bind ?_ (fun _ => ?_))
      | exact ih0 _ _ _
      | exact ih1 _ _ _ _
      | exact ih2 _ _ _ _ _ _ _ _
      | exact LeO.none _
      | refine LeO.ite ?_ ?_
      | refine LeO.bind ?_ (fun _ => ?_)
    · intro y0 y1 y2 y3 y4 y5 y6 y7
      unfold tape_Below.l1
      repeat' first
      | (with_reducible exact ih0 _ _ _)
      | (with_reducible exact ih1 _ _ _ _)
      | (with_reducible exact ih2 _ _ _ _ _ _ _ _)
      | (with_reducible exact LeO.refl _)
      | (with_reducible exact LeO.none _)
      | (with_reducible refine LeO.ite ?_ ?_)
      | (with_reducible refine LeO.bind ?_ (fun _ => ?_))
      | exact ih0 _ _ _
      | exact ih1 _ _ _ _
      | exact ih2 _ _ _ _ _ _ _ _
      | exact LeO.none _
      | refine LeO.ite ?_ ?_
      | refine LeO.bind ?_ (fun _ => ?_)
theorem tape_Below.mono : ∀ a0 a1 k, LeO (tape_Below.f k a0 a1) (tape_Below.f (k + 1) a0 a1) := by
  intro a0 a1 k
  obtain ⟨ih0, ih1, ih2⟩ := tape_Below.mono_l k
  unfold tape_Below.f
  repeat' first
      | (with_reducible exact ih0 _ _ _)
      | (with_reducible exact ih1 _ _ _ _)
      | (with_reducible exact ih2 _ _ _ _ _ _ _ _)
      | (with_reducible exact LeO.refl _)
      | (with_reducible exact LeO.none _)
      | (with_reducible refine LeO.ite ?_ ?_)
      | (with_reducible refine LeO.bind ?_ (fun _ => ?_))
      | exact ih0 _ _ _
      | exact ih1 _ _ _ _
      | exact ih2 _ _ _ _ _ _ _ _
      | exact LeO.none _
      | refine LeO.ite ?_ ?_
      | refine LeO.bind ?_ (fun _ => ?_)
set_option maxHeartbeats 8000000 in
set_option maxRecDepth 100000 in
theorem tape_Below.calls (k : Nat) (A0 : Option Addr) (c0 : Nat) (l0 : List Bool) (a1 : Int) (r1 : Int) (r2 : Int) (r3 : Int) (w : World) (hr0 : Kd.C Kd.bool w A0 l0.length l0) (hc0 : l0.length ≤ c0) (h : tape_Below.f k l0 a1 = some (r1, r2, r3)) :
    Calls Tryd.prog 35 #[.slice A0 l0.length c0, .int .i64 a1] w fun e w' => e = .returned (.tuple #[.int .i64 r1, .int .i64 r2, .int .i64 r3]) ∧ Drawn0 w w' := by
  have HR0 := Aside0.mk hr0
  have HC0 := Aside0.mk hc0
  clear hr0 hc0
  have H : (if a1 < 1 then (tape_Below.j0 k l0 a1 true) else (tape_Below.j0 k l0 a1 (decide (a1 > 1099511627776)))) = some (r1, r2, r3) := h
  clear h
  have HC3 := Aside0.mk H
  clear H
  go_enter Tryd.func35, Tryd.ntmps35
  go_upto_region 1 with (fail)
  go_cut [17] (fun v17 wc => ∃ (kq : Nat) (x17_2 : Bool), v17 = .bool x17_2 ∧ Aside0 (tape_Below.j0 kq l0 a1 x17_2 = some (r1, r2, r3)) ∧ Aside0 (kq ≤ k) ∧ Drawn0 w wc)
  case first =>
    have H := HC3.out
    clear HC3
    by_cases c4 : a1 < 1
    · rw [if_pos c4] at H
      have c4b0 : decide (a1 < 1) = true := decide_eq_true c4
      clear c4
      (first | rw [c4b0] | (simp only [i64_w, i32_w]; rw [c4b0]) | skip)
      have H' := Aside0.mk H
      clear H
      go_wp2
      go_meet
      case rel => exact ⟨_, (true), (by first | rfl | (simp; done) | (simp [*]; done)), H', ⟨by first | omega | exact Nat.le_refl _⟩, by repeat (first | exact Drawn0.refl _ | apply Drawn0.step)⟩
    · rw [if_neg c4] at H
      have c4b0 : decide (a1 < 1) = false := decide_eq_false c4
      clear c4
      (first | rw [c4b0] | (simp only [i64_w, i32_w]; rw [c4b0]) | skip)
      have H' := Aside0.mk H
      clear H
      go_wp2
      go_meet
      case rel => exact ⟨_, (decide (a1 > 1099511627776)), (by first | rfl | (simp; done) | (simp [*]; done)), H', ⟨by first | omega | exact Nat.le_refl _⟩, by repeat (first | exact Drawn0.refl _ | apply Drawn0.step)⟩
  case rest =>
    clear HC3
    try clear p2
    try clear c3
    try clear c4
    try clear c4b0
    obtain ⟨kq, x17_2, rfl, HA, HJ2, ⟨mc2, rfl⟩⟩ := hcut
    cases kq with
    | zero => exact absurd HA.out (by simp [tape_Below.j0])
    | succ kj2 =>
      have H := HA.out
      clear HA
      simp only [tape_Below.j0] at H
      by_cases c5 : x17_2 = true
      · subst c5
        have H1 : (some (0, 0, 2)) = some (r1, r2, r3) := by rw [if_pos rfl] at H; exact H
        clear H
        have H := H1
        clear H1
        simp only [Option.some.injEq, Prod.mk.injEq] at H
        obtain ⟨rfl, rfl, rfl⟩ := H
        go_wp2
        go_ret3
        exact ⟨by first | rfl | (simp; done) | (simp [*]; done), by repeat (first | exact Drawn0.refl _ | apply Drawn0.step)⟩
      · replace c5 := Bool.eq_false_iff.mpr c5
        subst c5
        have H1 : ((tape_width.f a1).bind fun t422 => (tape_Below.l0 kj2 l0 a1 t422 0)) = some (r1, r2, r3) := by rw [if_neg (show ¬ (false = true) by decide)] at H; exact H
        clear H
        have H := H1
        clear H1
        replace H := Option.bind_eq_some_iff.mp H
        obtain ⟨t422, A60, H⟩ := H
        replace H : (tape_Below.l0 kj2 l0 a1 t422 0) = some (r1, r2, r3) := H
        have A6 := Aside0.mk A60
        clear A60
        have H' := Aside0.mk H
        clear H
        go_wp2_with (first | ((with_reducible refine gate_callee (f := 57) rfl ?_); refine goesL_ (some 19) rfl rfl Tryd.func57 (by kernel_rfl) rfl #[.int .i64 a1] rfl (by (try simp only [List.map_toArray, List.map_cons, List.map_nil]); first | done | rfl | (simp only [List.length_drop, List.length_take]; rfl)) ?_; (with_reducible refine (tape_width.calls a1 t422 _ A6.out).mono ?_); rintro e w' ⟨rfl, ⟨nd, rfl⟩⟩; refine ⟨_, rfl, ?_⟩))
        go_loopg [8] kj2 (fun kq v8 w' => ∃ (x8_2 : Int), v8 = .int .i64 x8_2 ∧ Aside0 (tape_Below.l0 kq l0 a1 t422 x8_2 = some (r1, r2, r3)) ∧ Aside0 (kq ≤ kj2) ∧ Drawn0 w w')
        case atStart => exact ⟨(0), (by first | rfl | (simp; done) | (simp [*]; done)), H', ⟨Nat.le_refl _⟩, by repeat (first | exact Drawn0.refl _ | apply Drawn0.step)⟩
        case round =>
          clear H'
          try clear c2
          try clear p2
          try clear c3
          try clear c4
          try clear c4b0
          try clear c5
          try clear p2
          obtain ⟨x8_2, rfl, HA, HK2, ⟨m2, rfl⟩⟩ := hrel
          cases gk with
          | zero => exact absurd HA.out (by simp [tape_Below.l0])
          | succ k2 =>
            have H := HA.out
            clear HA
            simp only [tape_Below.l0] at H
            by_cases c7 : (wrap64 ((l0.length : Int) - x8_2)) < t422
            · rw [if_pos c7] at H
              have c7b0 : decide ((wrap64 ((l0.length : Int) - x8_2)) < t422) = true := decide_eq_true c7
              clear c7
              simp only [Option.some.injEq, Prod.mk.injEq] at H
              obtain ⟨rfl, rfl, rfl⟩ := H
              go_wp2
              go_ret3
              exact ⟨by first | rfl | (simp; done) | (simp [*]; done), by repeat (first | exact Drawn0.refl _ | apply Drawn0.step)⟩
            · rw [if_neg c7] at H
              have c7b0 : decide ((wrap64 ((l0.length : Int) - x8_2)) < t422) = false := decide_eq_false c7
              clear c7
              by_cases c8 : 0 ≤ x8_2
              · rw [if_pos c8] at H
                have c8b0 := eq_true c8
                have c8b1 : decide (0 ≤ x8_2) = true := decide_eq_true c8
                clear c8
                by_cases c9 : x8_2 ≤ (wrap64 (x8_2 + t422))
                · rw [if_pos c9] at H
                  have c9b0 := eq_true c9
                  have c9b1 : decide (x8_2 ≤ (wrap64 (x8_2 + t422))) = true := decide_eq_true c9
                  by_cases c10 : (wrap64 (x8_2 + t422)) ≤ (l0.length : Int)
                  · rw [if_pos c10] at H
                    have c10b0 := eq_true c10
                    have c10b1 : decide ((wrap64 (x8_2 + t422)) ≤ (l0.length : Int)) = true := decide_eq_true c10
                    have H' := Aside0.mk H
                    clear H
                    obtain ⟨i011, hi011, _, hsz11, _⟩ := info_parts info4
                    obtain ⟨A11, hcut11, hA11, hC11⟩ := print_mid_of (P := Tryd.prog) Value.bool false 63 4 .i64 .i64 Tryd.underlying63 hi011 hsz11 A0 c0 l0 x8_2 (wrap64 (x8_2 + t422)) (of_decide_eq_true (by first | (with_reducible assumption) | assumption)) (by first | omega | exact of_decide_eq_true (by first | (with_reducible assumption) | assumption)) (of_decide_eq_true (by first | (with_reducible assumption) | assumption)) HC0.out
                    have HR423 := Aside0.mk (Kd.C_of_reads (h1 := fun _ => rfl) (hA11 _ (Kd.reads_of_C HR0.out)))
                    have HC423 := Aside0.mk hC11
                    clear hA11 hC11 hi011 hsz11
                    go_wp2
                    have HL3 : Aside0 (((l0.take ((wrap64 (x8_2 + t422)) : Int).toNat).drop (x8_2 : Int).toNat).length = (wrap64 (x8_2 + t422)).toNat - x8_2.toNat) := ⟨by rw [List.length_drop, List.length_take]; generalize wrap64 (x8_2 + t422) = z at c10 ⊢; omega⟩
                    go_loopg [9, 33] k2 (fun kq v9 v33 w' => ∃ (x9_3 : Int) (x33_3 : Int), v9 = .int .i64 x9_3 ∧ v33 = .int .i64 x33_3 ∧ Aside0 (tape_Below.l1 kq l0 a1 t422 x8_2 x9_3 ((l0.take ((wrap64 (x8_2 + t422)) : Int).toNat).drop (x8_2 : Int).toNat) (((l0.take ((wrap64 (x8_2 + t422)) : Int).toNat).drop (x8_2 : Int).toNat).length : Int) x33_3 = some (r1, r2, r3)) ∧ Aside0 (kq ≤ k2) ∧ Drawn0 w w')
                    case atStart => exact ⟨(0), (0), (by first | rfl | (simp; done) | (simp [*]; done)), (by first | rfl | (simp; done) | (simp [*]; done)), H', ⟨Nat.le_refl _⟩, by repeat (first | exact Drawn0.refl _ | apply Drawn0.step)⟩
                    case round =>
                      clear H'
                      try clear c1
                      try clear c2
                      try clear p2
                      try clear c3
                      try clear c4
                      try clear c4b0
                      try clear c5
                      try clear p6
                      try clear c7
                      try clear c7b0
                      try clear c8
                      try clear c8b0
                      try clear c8b1
                      try clear c9
                      try clear c9b0
                      try clear c9b1
                      try clear c10
                      try clear c10b0
                      try clear c10b1
                      try clear p2
                      obtain ⟨x9_3, x33_3, rfl, rfl, HA, HK3, ⟨m3, rfl⟩⟩ := hrel
                      cases gk with
                      | zero => exact absurd HA.out (by simp [tape_Below.l1])
                      | succ k3 =>
                        have H := HA.out
                        clear HA
                        simp only [tape_Below.l1] at H
                        by_cases c12 : x33_3 < (((l0.take ((wrap64 (x8_2 + t422)) : Int).toNat).drop (x8_2 : Int).toNat).length : Int)
                        · rw [if_pos c12] at H
                          have c12b0 : decide (x33_3 < (((l0.take ((wrap64 (x8_2 + t422)) : Int).toNat).drop (x8_2 : Int).toNat).length : Int)) = true := decide_eq_true c12
                          have c12d := c12b0
                          rw [HL3.out] at c12d
                          clear c12
                          by_cases c13 : 0 ≤ x33_3
                          · rw [if_pos c13] at H
                            have c13b0 : decide (0 ≤ x33_3) = true := decide_eq_true c13
                            clear c13
                            by_cases c14 : x33_3 < (((l0.take ((wrap64 (x8_2 + t422)) : Int).toNat).drop (x8_2 : Int).toNat).length : Int)
                            · rw [if_pos c14] at H
                              have c14b0 : decide (x33_3 < (((l0.take ((wrap64 (x8_2 + t422)) : Int).toNat).drop (x8_2 : Int).toNat).length : Int)) = true := decide_eq_true c14
                              clear c14
                              obtain ⟨bq15, hbq15⟩ : ∃ b_ : Bool, b_ = (rdOf false ((l0.take ((wrap64 (x8_2 + t422)) : Int).toNat).drop (x8_2 : Int).toNat) x33_3) := ⟨_, rfl⟩
                              replace H : (if bq15 = true then (tape_Below.l1 k3 l0 a1 t422 x8_2 (wrap64 ((wrap64 (x9_3 * 2)) + 1)) ((l0.take ((wrap64 (x8_2 + t422)) : Int).toNat).drop (x8_2 : Int).toNat) (((l0.take ((wrap64 (x8_2 + t422)) : Int).toNat).drop (x8_2 : Int).toNat).length : Int) (wrap64 (x33_3 + 1))) else (tape_Below.l1 k3 l0 a1 t422 x8_2 (wrap64 (x9_3 * 2)) ((l0.take ((wrap64 (x8_2 + t422)) : Int).toNat).drop (x8_2 : Int).toNat) (((l0.take ((wrap64 (x8_2 + t422)) : Int).toNat).drop (x8_2 : Int).toNat).length : Int) (wrap64 (x33_3 + 1)))) = some (r1, r2, r3) := by rw [← hbq15] at H; exact H
                              have Nbq15 := Aside0.mk hbq15
                              clear hbq15
                              by_cases c16 : bq15 = true
                              · subst c16
                                have H1 : (tape_Below.l1 k3 l0 a1 t422 x8_2 (wrap64 ((wrap64 (x9_3 * 2)) + 1)) ((l0.take ((wrap64 (x8_2 + t422)) : Int).toNat).drop (x8_2 : Int).toNat) (((l0.take ((wrap64 (x8_2 + t422)) : Int).toNat).drop (x8_2 : Int).toNat).length : Int) (wrap64 (x33_3 + 1))) = some (r1, r2, r3) := by rw [if_pos rfl] at H; exact H
                                clear H
                                have H := H1
                                clear H1
                                have H' := Aside0.mk H
                                clear H
                                have p424 : 0 ≤ (x33_3 : Int) := of_decide_eq_true (by first | (with_reducible assumption) | assumption)
                                have q424 : x33_3 < (((l0.take ((wrap64 (x8_2 + t422)) : Int).toNat).drop (x8_2 : Int).toNat).length : Int) := of_decide_eq_true (by first | (with_reducible assumption) | assumption)
                                obtain ⟨ad424, e424, hx424_0⟩ := Kd.at_bool HR423.out x33_3 p424 q424
                                (try rw [← Nbq15.out] at hx424_0)
                                cases e424
                                replace p424 := eq_true p424
                                replace q424 := eq_true q424
                                have q424d : (x33_3 < (((wrap64 (x8_2 + t422)).toNat - x8_2.toNat : Nat) : Int)) = True := by rw [← HL3.out]; exact q424
                                have q424e : ((((wrap64 (x8_2 + t422)).toNat - x8_2.toNat : Nat) : Int) ≤ x33_3) = False := eq_false (Int.not_le.2 (of_eq_true q424d))
                                go_wp2
                                go_roundg k3
                                case measure => have := HJ2.out; have := HK2.out; have := HK3.out; omega
                                case rel => exact ⟨(wrap64 ((wrap64 (x9_3 * 2)) + 1)), (wrap64 (x33_3 + 1)), (by first | rfl | (simp; done) | (simp [*]; done)), (by first | rfl | (simp; done) | (simp [*]; done)), H', ⟨by have := HJ2.out; have := HK2.out; have := HK3.out; omega⟩, by repeat (first | exact Drawn0.refl _ | apply Drawn0.step)⟩
                              · replace c16 := Bool.eq_false_iff.mpr c16
                                subst c16
                                have H1 : (tape_Below.l1 k3 l0 a1 t422 x8_2 (wrap64 (x9_3 * 2)) ((l0.take ((wrap64 (x8_2 + t422)) : Int).toNat).drop (x8_2 : Int).toNat) (((l0.take ((wrap64 (x8_2 + t422)) : Int).toNat).drop (x8_2 : Int).toNat).length : Int) (wrap64 (x33_3 + 1))) = some (r1, r2, r3) := by rw [if_neg (show ¬ (false = true) by decide)] at H; exact H
                                clear H
                                have H := H1
                                clear H1
                                have H' := Aside0.mk H
                                clear H
                                have p424 : 0 ≤ (x33_3 : Int) := of_decide_eq_true (by first | (with_reducible assumption) | assumption)
                                have q424 : x33_3 < (((l0.take ((wrap64 (x8_2 + t422)) : Int).toNat).drop (x8_2 : Int).toNat).length : Int) := of_decide_eq_true (by first | (with_reducible assumption) | assumption)
                                obtain ⟨ad424, e424, hx424_0⟩ := Kd.at_bool HR423.out x33_3 p424 q424
                                (try rw [← Nbq15.out] at hx424_0)
                                cases e424
                                replace p424 := eq_true p424
                                replace q424 := eq_true q424
                                have q424d : (x33_3 < (((wrap64 (x8_2 + t422)).toNat - x8_2.toNat : Nat) : Int)) = True := by rw [← HL3.out]; exact q424
                                have q424e : ((((wrap64 (x8_2 + t422)).toNat - x8_2.toNat : Nat) : Int) ≤ x33_3) = False := eq_false (Int.not_le.2 (of_eq_true q424d))
                                go_wp2
                                go_roundg k3
                                case measure => have := HJ2.out; have := HK2.out; have := HK3.out; omega
                                case rel => exact ⟨(wrap64 (x9_3 * 2)), (wrap64 (x33_3 + 1)), (by first | rfl | (simp; done) | (simp [*]; done)), (by first | rfl | (simp; done) | (simp [*]; done)), H', ⟨by have := HJ2.out; have := HK2.out; have := HK3.out; omega⟩, by repeat (first | exact Drawn0.refl _ | apply Drawn0.step)⟩
                            · rw [if_neg c14] at H
                              exact absurd H (by simp)
                          · rw [if_neg c13] at H
                            exact absurd H (by simp)
                        · rw [if_neg c12] at H
                          have c12b0 : decide (x33_3 < (((l0.take ((wrap64 (x8_2 + t422)) : Int).toNat).drop (x8_2 : Int).toNat).length : Int)) = false := decide_eq_false c12
                          have c12d := c12b0
                          rw [HL3.out] at c12d
                          clear c12
                          by_cases c17 : x9_3 < a1
                          · rw [if_pos c17] at H
                            have c17b0 : decide (x9_3 < a1) = true := decide_eq_true c17
                            clear c17
                            simp only [Option.some.injEq, Prod.mk.injEq] at H
                            obtain ⟨rfl, rfl, rfl⟩ := H
                            go_wp2
                            go_ret3
                            exact ⟨by first | rfl | (simp; done) | (simp [*]; done), by repeat (first | exact Drawn0.refl _ | apply Drawn0.step)⟩
                          · rw [if_neg c17] at H
                            have c17b0 : decide (x9_3 < a1) = false := decide_eq_false c17
                            clear c17
                            have H' := Aside0.mk H
                            clear H
                            go_wp2
                            go_roundg k3
                            case measure => have := HJ2.out; have := HK2.out; have := HK3.out; omega
                            case rel => exact ⟨(wrap64 (x8_2 + t422)), (by first | rfl | (simp; done) | (simp [*]; done)), H', ⟨by have := HJ2.out; have := HK2.out; have := HK3.out; omega⟩, by repeat (first | exact Drawn0.refl _ | apply Drawn0.step)⟩
                  · rw [if_neg c10] at H
                    exact absurd H (by simp)
                · rw [if_neg c9] at H
                  exact absurd H (by simp)
              · rw [if_neg c8] at H
                exact absurd H (by simp)

end Go.Proofs.YtioppgeackgjnaaDoor.Bt
