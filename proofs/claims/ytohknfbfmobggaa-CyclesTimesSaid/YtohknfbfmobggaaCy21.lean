-- CyclesTimes: drafted by a program of this session, the boxed variable laid in by another (wip/s4/mkT2.py)
import Derived.Test.YtohknfbfmobggaaCy0
import Derived.Test.YtohknfbfmobggaaCy2
import Derived.Test.YtohknfbfmobggaaCy4
import Derived.Test.YtohknfbfmobggaaCy11
import Derived.Test.YtohknfbfmobggaaCy14
import Derived.Test.YtohknfbfmobggaaHaT
import Derived.RowKit3
namespace Go.Proofs.Ytohknfbfmobggaa.Cy
open Go.RowKit Go.Proofs.YtohknfbfmobggaaW.PrintWords Go.Proofs.YtohknfbfmobggaaW.PrintLast Go.Proofs.YtohknfbfmobggaaW.PrintMore
attribute [local go_sem] max2_int min2_int max_two min_two max_three min_three max_four min_four   -- for this text's walks alone
set_option linter.unusedVariables false
set_option linter.unusedSimpArgs false

/-! ### lotdrawerkeep_CyclesTimes: function 4 -/
mutual
def lotdrawerkeep_CyclesTimes.j0 : Nat → Int → List (List Int) → Bool → Option (Bool)
  | 0, _, _, _ => none
  | k + 1, x3, x5, x58 => if x58 = true then (some false) else (lotdrawerkeep_CyclesTimes.l0 k x3 x5 x5 (x5.length : Int) 0)
def lotdrawerkeep_CyclesTimes.l0 : Nat → Int → List (List Int) → List (List Int) → Int → Int → Option (Bool)
  | 0, _, _, _, _, _ => none
  | k + 1, x3, x5, x59, x60, x61 => if x61 < x60 then (if 0 ≤ x61 then (if x61 < (x59.length : Int) then (if ((rd_L2 x59 x61).length : Int) = 0 then (none) else (if (Int.tmod x3 ((rd_L2 x59 x61).length : Int)) = 0 then (lotdrawerkeep_CyclesTimes.l0 k x3 x5 x59 x60 (wrap64 (x61 + 1))) else (some false))) else (none)) else (none)) else (lotdrawerkeep_CyclesTimes.l1 k x3 x5 1)
def lotdrawerkeep_CyclesTimes.l1 : Nat → Int → List (List Int) → Int → Option (Bool)
  | 0, _, _, _ => none
  | k + 1, x3, x5, x13 => if x13 < x3 then (if x13 = 0 then (none) else (if (Int.tmod x3 x13) = 0 then ((slices_ContainsFunc_int_int.f k x5 x13).bind fun t194 => (if t194 = true then (lotdrawerkeep_CyclesTimes.l1 k x3 x5 (wrap64 (x13 + 1))) else (some false))) else (lotdrawerkeep_CyclesTimes.l1 k x3 x5 (wrap64 (x13 + 1))))) else (some true)
end
def lotdrawerkeep_CyclesTimes.f (k : Nat) (l0 : List Int) : Option (Bool) := (lotdrawerkeep_alive23.f k).bind fun t180 => (if t180 = true then ((cycles_Times.f k l0).bind fun bt181 => (if bt181.2 = 0 then ((cycles_Of.f k l0).bind fun bt183 => ((perm_Back.f k l0).bind fun bt187 => ((cycles_Times.f k bt187.1).bind fun bt191 => (if bt183.2 = 0 then (if bt187.2 = 0 then (if bt191.2 = 0 then (if bt191.1 = bt181.1 then (lotdrawerkeep_CyclesTimes.j0 k bt181.1 bt183.1 (decide (bt181.1 < 1))) else (lotdrawerkeep_CyclesTimes.j0 k bt181.1 bt183.1 true)) else (lotdrawerkeep_CyclesTimes.j0 k bt181.1 bt183.1 true)) else (lotdrawerkeep_CyclesTimes.j0 k bt181.1 bt183.1 true)) else (lotdrawerkeep_CyclesTimes.j0 k bt181.1 bt183.1 true))))) else (some (bt181.1 == 0)))) else (some false))
theorem lotdrawerkeep_CyclesTimes.mono_l : ∀ k, (∀ y0 y1 y2, LeO (lotdrawerkeep_CyclesTimes.j0 k y0 y1 y2) (lotdrawerkeep_CyclesTimes.j0 (k + 1) y0 y1 y2)) ∧ (∀ y0 y1 y2 y3 y4, LeO (lotdrawerkeep_CyclesTimes.l0 k y0 y1 y2 y3 y4) (lotdrawerkeep_CyclesTimes.l0 (k + 1) y0 y1 y2 y3 y4)) ∧ (∀ y0 y1 y2, LeO (lotdrawerkeep_CyclesTimes.l1 k y0 y1 y2) (lotdrawerkeep_CyclesTimes.l1 (k + 1) y0 y1 y2))
  | 0 => ⟨fun _ _ _ r h => by simp [lotdrawerkeep_CyclesTimes.j0] at h, fun _ _ _ _ _ r h => by simp [lotdrawerkeep_CyclesTimes.l0] at h, fun _ _ _ r h => by simp [lotdrawerkeep_CyclesTimes.l1] at h⟩
  | k + 1 => by
    obtain ⟨ih0, ih1, ih2⟩ := lotdrawerkeep_CyclesTimes.mono_l k
    refine ⟨?_, ?_, ?_⟩
    · intro y0 y1 y2
      unfold lotdrawerkeep_CyclesTimes.j0
      repeat' first
      | (with_reducible exact ih0 _ _ _)
      | (with_reducible exact ih1 _ _ _ _ _)
      | (with_reducible exact ih2 _ _ _)
      | (with_reducible exact cycles_Of.mono _ _)
      | (with_reducible exact cycles_Times.mono _ _)
      | (with_reducible exact lotdrawerkeep_alive23.mono _)
      | (with_reducible exact perm_Back.mono _ _)
      | (with_reducible exact slices_ContainsFunc_int_int.mono _ _ _)
      | (with_reducible exact LeO.refl _)
      | (with_reducible exact LeO.none _)
      | (with_reducible refine LeO.ite ?_ ?_)
      | (with_reducible refine LeO.bind ?_ (fun _ => ?_))
      | exact ih0 _ _ _
      | exact ih1 _ _ _ _ _
      | exact ih2 _ _ _
      | exact cycles_Of.mono _ _
      | exact cycles_Times.mono _ _
      | exact lotdrawerkeep_alive23.mono _
      | exact perm_Back.mono _ _
      | exact slices_ContainsFunc_int_int.mono _ _ _
      | exact LeO.none _
      | refine LeO.ite ?_ ?_
      | refine LeO.bind ?_ (fun _ => ?_)
    · intro y0 y1 y2 y3 y4
      unfold lotdrawerkeep_CyclesTimes.l0
      repeat' first
      | (with_reducible exact ih0 _ _ _)
      | (with_reducible exact ih1 _ _ _ _ _)
      | (with_reducible exact ih2 _ _ _)
      | (with_reducible exact cycles_Of.mono _ _)
      | (with_reducible exact cycles_Times.mono _ _)
      | (with_reducible exact lotdrawerkeep_alive23.mono _)
      | (with_reducible exact perm_Back.mono _ _)
      | (with_reducible exact slices_ContainsFunc_int_int.mono _ _ _)
      | (with_reducible exact LeO.refl _)
      | (with_reducible exact LeO.none _)
      | (with_reducible refine LeO.ite ?_ ?_)
      | (with_reducible refine LeO.bind ?_ (fun _ => ?_))
      | exact ih0 _ _ _
      | exact ih1 _ _ _ _ _
      | exact ih2 _ _ _
      | exact cycles_Of.mono _ _
      | exact cycles_Times.mono _ _
      | exact lotdrawerkeep_alive23.mono _
      | exact perm_Back.mono _ _
      | exact slices_ContainsFunc_int_int.mono _ _ _
      | exact LeO.none _
      | refine LeO.ite ?_ ?_
      | refine LeO.bind ?_ (fun _ => ?_)
    · intro y0 y1 y2
      unfold lotdrawerkeep_CyclesTimes.l1
      repeat' first
      | (with_reducible exact ih0 _ _ _)
      | (with_reducible exact ih1 _ _ _ _ _)
      | (with_reducible exact ih2 _ _ _)
      | (with_reducible exact cycles_Of.mono _ _)
      | (with_reducible exact cycles_Times.mono _ _)
      | (with_reducible exact lotdrawerkeep_alive23.mono _)
      | (with_reducible exact perm_Back.mono _ _)
      | (with_reducible exact slices_ContainsFunc_int_int.mono _ _ _)
      | (with_reducible exact LeO.refl _)
      | (with_reducible exact LeO.none _)
      | (with_reducible refine LeO.ite ?_ ?_)
      | (with_reducible refine LeO.bind ?_ (fun _ => ?_))
      | exact ih0 _ _ _
      | exact ih1 _ _ _ _ _
      | exact ih2 _ _ _
      | exact cycles_Of.mono _ _
      | exact cycles_Times.mono _ _
      | exact lotdrawerkeep_alive23.mono _
      | exact perm_Back.mono _ _
      | exact slices_ContainsFunc_int_int.mono _ _ _
      | exact LeO.none _
      | refine LeO.ite ?_ ?_
      | refine LeO.bind ?_ (fun _ => ?_)
theorem lotdrawerkeep_CyclesTimes.mono : ∀ a0 k, LeO (lotdrawerkeep_CyclesTimes.f k a0) (lotdrawerkeep_CyclesTimes.f (k + 1) a0) := by
  intro a0 k
  obtain ⟨ih0, ih1, ih2⟩ := lotdrawerkeep_CyclesTimes.mono_l k
  unfold lotdrawerkeep_CyclesTimes.f
  repeat' first
      | (with_reducible exact ih0 _ _ _)
      | (with_reducible exact ih1 _ _ _ _ _)
      | (with_reducible exact ih2 _ _ _)
      | (with_reducible exact cycles_Of.mono _ _)
      | (with_reducible exact cycles_Times.mono _ _)
      | (with_reducible exact lotdrawerkeep_alive23.mono _)
      | (with_reducible exact perm_Back.mono _ _)
      | (with_reducible exact slices_ContainsFunc_int_int.mono _ _ _)
      | (with_reducible exact LeO.refl _)
      | (with_reducible exact LeO.none _)
      | (with_reducible refine LeO.ite ?_ ?_)
      | (with_reducible refine LeO.bind ?_ (fun _ => ?_))
      | exact ih0 _ _ _
      | exact ih1 _ _ _ _ _
      | exact ih2 _ _ _
      | exact cycles_Of.mono _ _
      | exact cycles_Times.mono _ _
      | exact lotdrawerkeep_alive23.mono _
      | exact perm_Back.mono _ _
      | exact slices_ContainsFunc_int_int.mono _ _ _
      | exact LeO.none _
      | refine LeO.ite ?_ ?_
      | refine LeO.bind ?_ (fun _ => ?_)

theorem cell_of_box {w : World} {g : Nat} {x : Value} (h : w.heap[g]? = some (.cells #[x] 3 (0, 0))) : w.cell? ⟨g, 0, none⟩ = some x := by simp [World.cell?, h]
theorem frozen_of_box {w : World} {g : Nat} {x : Value} (h : w.heap[g]? = some (.cells #[x] 3 (0, 0))) : w.frozen? ⟨g, 0, none⟩ = false := by simp [World.frozen?, h]
abbrev boxO (u : Value) : Obj := .cells #[u] 3
theorem box_new (X : World) (u : Value) : (X.alloc (boxO u)).heap[X.heap.size]? = some (.cells #[u] 3 (0, 0)) := heap_alloc_new X (boxO u)
theorem box_S {α : Type} {d : Kd α} {e base : Nat} {ok : Nat → Prop} {X : World} {v : Value} {xs : List α} (h : Kd.S d e X base ok v xs) (u : Value) : Kd.S d e (X.alloc (boxO u)) base (fun k => k ≠ X.heap.size) v xs :=
  Kd.S_alloc (Kd.S_mono (Kd.S_elderB h X.heap.size (Nat.le_refl _)) (fun _ hk => hk.2)) _
theorem box_B {w X : World} (h : Below w.heap.size w X) (u : Value) : Below w.heap.size w (X.alloc (boxO u)) := below_alloc h _
set_option maxHeartbeats 8000000 in
set_option maxRecDepth 100000 in
theorem lotdrawerkeep_CyclesTimes.calls (k : Nat) (A0 : Option Addr) (c0 : Nat) (l0 : List Int) (r : Bool) (w : World) (hr0 : Kd.C (Kd.int .i64) w A0 l0.length l0) (hc0 : l0.length ≤ c0) (h : lotdrawerkeep_CyclesTimes.f k l0 = some r) :
    Calls Try.prog 4 #[.slice A0 l0.length c0] w fun e w' => e = .returned (.bool r) ∧ Below w.heap.size w w' := by
  have HR0 := Aside0.mk hr0
  have HC0 := Aside0.mk hc0
  clear hr0 hc0
  have HB := Aside0.mk (Below.refl w.heap.size w)
  have H : ((lotdrawerkeep_alive23.f k).bind fun t180 => (if t180 = true then ((cycles_Times.f k l0).bind fun bt181 => (if bt181.2 = 0 then ((cycles_Of.f k l0).bind fun bt183 => ((perm_Back.f k l0).bind fun bt187 => ((cycles_Times.f k bt187.1).bind fun bt191 => (if bt183.2 = 0 then (if bt187.2 = 0 then (if bt191.2 = 0 then (if bt191.1 = bt181.1 then (lotdrawerkeep_CyclesTimes.j0 k bt181.1 bt183.1 (decide (bt181.1 < 1))) else (lotdrawerkeep_CyclesTimes.j0 k bt181.1 bt183.1 true)) else (lotdrawerkeep_CyclesTimes.j0 k bt181.1 bt183.1 true)) else (lotdrawerkeep_CyclesTimes.j0 k bt181.1 bt183.1 true)) else (lotdrawerkeep_CyclesTimes.j0 k bt181.1 bt183.1 true))))) else (some (bt181.1 == 0)))) else (some false))) = some r := h
  clear h
  replace H := Option.bind_eq_some_iff.mp H
  obtain ⟨t180, A20, H⟩ := H
  replace H : (if t180 = true then ((cycles_Times.f k l0).bind fun bt181 => (if bt181.2 = 0 then ((cycles_Of.f k l0).bind fun bt183 => ((perm_Back.f k l0).bind fun bt187 => ((cycles_Times.f k bt187.1).bind fun bt191 => (if bt183.2 = 0 then (if bt187.2 = 0 then (if bt191.2 = 0 then (if bt191.1 = bt181.1 then (lotdrawerkeep_CyclesTimes.j0 k bt181.1 bt183.1 (decide (bt181.1 < 1))) else (lotdrawerkeep_CyclesTimes.j0 k bt181.1 bt183.1 true)) else (lotdrawerkeep_CyclesTimes.j0 k bt181.1 bt183.1 true)) else (lotdrawerkeep_CyclesTimes.j0 k bt181.1 bt183.1 true)) else (lotdrawerkeep_CyclesTimes.j0 k bt181.1 bt183.1 true))))) else (some (bt181.1 == 0)))) else (some false)) = some r := H
  have A2 := Aside0.mk A20
  clear A20
  by_cases c3 : t180 = true
  · subst c3
    have H1 : ((cycles_Times.f k l0).bind fun bt181 => (if bt181.2 = 0 then ((cycles_Of.f k l0).bind fun bt183 => ((perm_Back.f k l0).bind fun bt187 => ((cycles_Times.f k bt187.1).bind fun bt191 => (if bt183.2 = 0 then (if bt187.2 = 0 then (if bt191.2 = 0 then (if bt191.1 = bt181.1 then (lotdrawerkeep_CyclesTimes.j0 k bt181.1 bt183.1 (decide (bt181.1 < 1))) else (lotdrawerkeep_CyclesTimes.j0 k bt181.1 bt183.1 true)) else (lotdrawerkeep_CyclesTimes.j0 k bt181.1 bt183.1 true)) else (lotdrawerkeep_CyclesTimes.j0 k bt181.1 bt183.1 true)) else (lotdrawerkeep_CyclesTimes.j0 k bt181.1 bt183.1 true))))) else (some (bt181.1 == 0)))) = some r := by rw [if_pos rfl] at H; exact H
    clear H
    have H := H1
    clear H1
    replace H := Option.bind_eq_some_iff.mp H
    obtain ⟨⟨t181, t182⟩, A40, H⟩ := H
    replace H : (if t182 = 0 then ((cycles_Of.f k l0).bind fun bt183 => ((perm_Back.f k l0).bind fun bt187 => ((cycles_Times.f k bt187.1).bind fun bt191 => (if bt183.2 = 0 then (if bt187.2 = 0 then (if bt191.2 = 0 then (if bt191.1 = t181 then (lotdrawerkeep_CyclesTimes.j0 k t181 bt183.1 (decide (t181 < 1))) else (lotdrawerkeep_CyclesTimes.j0 k t181 bt183.1 true)) else (lotdrawerkeep_CyclesTimes.j0 k t181 bt183.1 true)) else (lotdrawerkeep_CyclesTimes.j0 k t181 bt183.1 true)) else (lotdrawerkeep_CyclesTimes.j0 k t181 bt183.1 true))))) else (some (t181 == 0))) = some r := H
    have A4 := Aside0.mk A40
    clear A40
    by_cases c5 : t182 = 0
    · rw [if_pos c5] at H
      have c5b0 : (t182 == 0) = true := beq_iff_eq.mpr c5
      have c5b1 : (t182 != 0) = false := bne_eq_false_iff_eq.mpr c5
      clear c5
      replace H := Option.bind_eq_some_iff.mp H
      obtain ⟨⟨t183, t184⟩, A60, H⟩ := H
      replace H : ((perm_Back.f k l0).bind fun bt187 => ((cycles_Times.f k bt187.1).bind fun bt191 => (if t184 = 0 then (if bt187.2 = 0 then (if bt191.2 = 0 then (if bt191.1 = t181 then (lotdrawerkeep_CyclesTimes.j0 k t181 t183 (decide (t181 < 1))) else (lotdrawerkeep_CyclesTimes.j0 k t181 t183 true)) else (lotdrawerkeep_CyclesTimes.j0 k t181 t183 true)) else (lotdrawerkeep_CyclesTimes.j0 k t181 t183 true)) else (lotdrawerkeep_CyclesTimes.j0 k t181 t183 true)))) = some r := H
      have A6 := Aside0.mk A60
      clear A60
      replace H := Option.bind_eq_some_iff.mp H
      obtain ⟨⟨t187, t188⟩, A70, H⟩ := H
      replace H : ((cycles_Times.f k t187).bind fun bt191 => (if t184 = 0 then (if t188 = 0 then (if bt191.2 = 0 then (if bt191.1 = t181 then (lotdrawerkeep_CyclesTimes.j0 k t181 t183 (decide (t181 < 1))) else (lotdrawerkeep_CyclesTimes.j0 k t181 t183 true)) else (lotdrawerkeep_CyclesTimes.j0 k t181 t183 true)) else (lotdrawerkeep_CyclesTimes.j0 k t181 t183 true)) else (lotdrawerkeep_CyclesTimes.j0 k t181 t183 true))) = some r := H
      have A7 := Aside0.mk A70
      clear A70
      replace H := Option.bind_eq_some_iff.mp H
      obtain ⟨⟨t191, t192⟩, A80, H⟩ := H
      replace H : (if t184 = 0 then (if t188 = 0 then (if t192 = 0 then (if t191 = t181 then (lotdrawerkeep_CyclesTimes.j0 k t181 t183 (decide (t181 < 1))) else (lotdrawerkeep_CyclesTimes.j0 k t181 t183 true)) else (lotdrawerkeep_CyclesTimes.j0 k t181 t183 true)) else (lotdrawerkeep_CyclesTimes.j0 k t181 t183 true)) else (lotdrawerkeep_CyclesTimes.j0 k t181 t183 true)) = some r := H
      have A8 := Aside0.mk A80
      clear A80
      have HC9 := Aside0.mk H
      clear H
      go_enter Try.func4, Try.ntmps4
      go_upto_region 9 with (first | ((with_reducible refine gate_callee (f := 7) rfl ?_); refine goesL_ (some 14) rfl rfl Try.func7 (by kernel_rfl) rfl #[] rfl (by (try simp only [List.map_toArray, List.map_cons, List.map_nil]); first | done | rfl | (simp only [List.length_drop, List.length_take]; rfl)) ?_; (with_reducible refine (lotdrawerkeep_alive23.calls k  true _ A2.out).mono ?_); rintro e w10 ⟨rfl, hb⟩; refine ⟨_, rfl, ?_⟩; have n0_ := Aside0.mk (below_step (by repeat (first | (with_reducible first | exact HB.out | apply below_alloc | apply pw_below_drewN | apply below_drew1) | exact HB.out)) hb); clear HB; have HB := n0_; clear n0_; (try clear hb); (try clear hb2); (try clear hk); (try clear hi)) | ((with_reducible refine gate_callee (f := 12) rfl ?_); refine goesL_ (some 18) rfl rfl Try.func12 (by kernel_rfl) rfl #[.slice A0 l0.length c0] rfl (by (try simp only [List.map_toArray, List.map_cons, List.map_nil]); first | done | rfl | (simp only [List.length_drop, List.length_take]; rfl)) ?_; (with_reducible refine (cycles_Times.calls k _ _ l0 t181 t182 _ ?side1 ?side2 A4.out).mono ?_); (case side1 => repeat (first | exact (Kd.C_below HR0.out HB.out) | (with_reducible refine Kd.C_alloc ?_ _) | (with_reducible refine Kd.C_drewN ?_ _) | (with_reducible refine Kd.C_drew ?_))); (case side2 => exact HC0.out); rintro e w11 ⟨rfl, hb⟩; refine ⟨_, rfl, ?_⟩; have n0_ := Aside0.mk (below_step (by repeat (first | (with_reducible first | exact HB.out | apply below_alloc | apply pw_below_drewN | apply below_drew1) | exact HB.out)) hb); clear HB; have HB := n0_; clear n0_; (try clear hb); (try clear hb2); (try clear hk); (try clear hi)) | ((with_reducible refine gate_callee (f := 11) rfl ?_); refine goesL_ (some 27) rfl rfl Try.func11 (by kernel_rfl) rfl #[.slice A0 l0.length c0] rfl (by (try simp only [List.map_toArray, List.map_cons, List.map_nil]); first | done | rfl | (simp only [List.length_drop, List.length_take]; rfl)) ?_; (with_reducible refine (cycles_Of.calls k _ _ l0 t183 t184 _ ?side1 ?side2 A6.out).mono ?_); (case side1 => repeat (first | exact (Kd.C_below HR0.out HB.out) | (with_reducible refine Kd.C_alloc ?_ _) | (with_reducible refine Kd.C_drewN ?_ _) | (with_reducible refine Kd.C_drew ?_))); (case side2 => exact HC0.out); rintro e w12 ⟨v185, rfl, ho0, hb⟩; refine ⟨_, rfl, ?_⟩; have n0_ := Aside0.mk (Kd.S_lower ho0 (below_size (by repeat (first | (with_reducible first | exact HB.out | apply below_alloc | apply pw_below_drewN | apply below_drew1) | exact HB.out)))); have n1_ := Aside0.mk (below_step (by repeat (first | (with_reducible first | exact HB.out | apply below_alloc | apply pw_below_drewN | apply below_drew1) | exact HB.out)) hb); clear HB; have HO186 := n0_; have HB := n1_; clear n0_ n1_; (try clear hb); (try clear hb2); (try clear hk); (try clear hi); (try clear ho0)) | ((with_reducible refine gate_callee (f := 13) rfl ?_); refine goesL_ (some 32) rfl rfl Try.func13 (by kernel_rfl) rfl #[.slice A0 l0.length c0] rfl (by (try simp only [List.map_toArray, List.map_cons, List.map_nil]); first | done | rfl | (simp only [List.length_drop, List.length_take]; rfl)) ?_; (with_reducible refine (perm_Back.calls k _ _ l0 t187 t188 _ ?side1 ?side2 A7.out).mono ?_); (case side1 => repeat (first | exact (Kd.C_below HR0.out HB.out) | (with_reducible refine Kd.C_alloc ?_ _) | (with_reducible refine Kd.C_drewN ?_ _) | (with_reducible refine Kd.C_drew ?_))); (case side2 => exact HC0.out); rintro e w13 ⟨v189, rfl, ho0, hb⟩; refine ⟨_, rfl, ?_⟩; have n0_ := Aside0.mk (Kd.S_elder' (by (with_reducible repeat (first | apply Kd.S_alloc | apply Kd.S_drewN | apply Kd.S_drew)); exact HO186.out) (Kd.R_base ho0) hb); have n1_ := Aside0.mk (Kd.R_lower ho0 (below_size (by repeat (first | (with_reducible first | exact HB.out | apply below_alloc | apply pw_below_drewN | apply below_drew1) | exact HB.out)))); have n2_ := Aside0.mk (below_step (by repeat (first | (with_reducible first | exact HB.out | apply below_alloc | apply pw_below_drewN | apply below_drew1) | exact HB.out)) hb); clear HO186; clear HB; have HO186 := n0_; have HO190 := n1_; have HB := n2_; clear n0_ n1_ n2_; (try clear hb); (try clear hb2); (try clear hk); (try clear hi); (try clear ho0); obtain ⟨Ao14, co14, eo14⟩ := Kd.R_slice HO190.out; subst eo14) | ((with_reducible refine gate_callee (f := 12) rfl ?_); refine goesL_ (some 37) rfl rfl Try.func12 (by kernel_rfl) rfl #[.slice Ao14 t187.length co14] rfl (by (try simp only [List.map_toArray, List.map_cons, List.map_nil]); first | done | rfl | (simp only [List.length_drop, List.length_take]; rfl)) ?_; (with_reducible refine (cycles_Times.calls k _ _ t187 t191 t192 _ ?side1 ?side2 A8.out).mono ?_); (case side1 => repeat (first | exact (Kd.R_reads' HO190.out).2.2 | (with_reducible refine Kd.C_alloc ?_ _) | (with_reducible refine Kd.C_drewN ?_ _) | (with_reducible refine Kd.C_drew ?_))); (case side2 => exact (Kd.R_reads' HO190.out).2.1); rintro e w15 ⟨rfl, hb⟩; refine ⟨_, rfl, ?_⟩; have n0_ := Aside0.mk (Kd.S_below (by (with_reducible repeat (first | apply Kd.S_alloc | apply Kd.S_drewN | apply Kd.S_drew)); exact HO186.out) hb); have n1_ := Aside0.mk (Kd.R_below (by (with_reducible repeat (first | apply Kd.R_alloc | apply Kd.R_drewN | apply Kd.R_drew)); exact HO190.out) hb); have n2_ := Aside0.mk (below_step (by repeat (first | (with_reducible first | exact HB.out | apply below_alloc | apply pw_below_drewN | apply below_drew1) | exact HB.out)) hb); clear HO186; clear HO190; clear HB; have HO186 := n0_; have HO190 := n1_; have HB := n2_; clear n0_ n1_ n2_; (try clear hb); (try clear hb2); (try clear hk); (try clear hi)))
      (try simp only [Act.put, List.setIfInBounds_toArray, List.set_cons_zero, List.set_cons_succ])
      go_cut [58] (fun v58 wc => ∃ (kq : Nat) (x58_8 : Bool), v58 = .bool x58_8 ∧ Aside0 (lotdrawerkeep_CyclesTimes.j0 kq t181 t183 x58_8 = some r) ∧ Aside0 (kq ≤ k) ∧ Aside0 (Kd.S (Kd.slice 3 (Kd.int .i64)) 22 wc w.heap.size (fun _ => True) v185 t183) ∧ Aside0 (Below w.heap.size w wc))
      case first =>
        have H := HC9.out
        clear HC9
        by_cases c16 : t184 = 0
        · rw [if_pos c16] at H
          have c16b0 : (t184 == 0) = true := beq_iff_eq.mpr c16
          have c16b1 : (t184 != 0) = false := bne_eq_false_iff_eq.mpr c16
          clear c16
          (first | rw [c16b0] | (simp only [i64_w, i32_w]; rw [c16b0]) | skip)
          by_cases c17 : t188 = 0
          · rw [if_pos c17] at H
            have c17b0 : (t188 == 0) = true := beq_iff_eq.mpr c17
            have c17b1 : (t188 != 0) = false := bne_eq_false_iff_eq.mpr c17
            clear c17
            by_cases c18 : t192 = 0
            · rw [if_pos c18] at H
              have c18b0 : (t192 == 0) = true := beq_iff_eq.mpr c18
              have c18b1 : (t192 != 0) = false := bne_eq_false_iff_eq.mpr c18
              clear c18
              by_cases c19 : t191 = t181
              · rw [if_pos c19] at H
                have c19b0 : (t191 == t181) = true := beq_iff_eq.mpr c19
                have c19b1 : (t191 != t181) = false := bne_eq_false_iff_eq.mpr c19
                clear c19
                have H' := Aside0.mk H
                clear H
                go_wp2
                go_meet
                case rel => exact ⟨_, (decide (t181 < 1)), (by first | rfl | (simp; done) | (simp [*]; done)), H', ⟨by first | omega | exact Nat.le_refl _⟩, ⟨by (with_reducible repeat (first | apply Kd.S_alloc | apply Kd.S_drewN | apply Kd.S_drew)); exact Kd.S_mono HO186.out (fun _ hk => trivial)⟩, ⟨by repeat (first | (with_reducible first | exact HB.out | apply below_alloc | apply pw_below_drewN | apply below_drew1) | exact HB.out)⟩⟩
              · rw [if_neg c19] at H
                have c19b0 : (t191 == t181) = false := beq_eq_false_iff_ne.mpr c19
                have c19b1 : (t191 != t181) = true := bne_iff_ne.mpr c19
                have H' := Aside0.mk H
                clear H
                go_wp2
                go_meet
                case rel => exact ⟨_, (true), (by first | rfl | (simp; done) | (simp [*]; done)), H', ⟨by first | omega | exact Nat.le_refl _⟩, ⟨by (with_reducible repeat (first | apply Kd.S_alloc | apply Kd.S_drewN | apply Kd.S_drew)); exact Kd.S_mono HO186.out (fun _ hk => trivial)⟩, ⟨by repeat (first | (with_reducible first | exact HB.out | apply below_alloc | apply pw_below_drewN | apply below_drew1) | exact HB.out)⟩⟩
            · rw [if_neg c18] at H
              have c18b0 : (t192 == 0) = false := beq_eq_false_iff_ne.mpr c18
              have c18b1 : (t192 != 0) = true := bne_iff_ne.mpr c18
              have H' := Aside0.mk H
              clear H
              go_wp2
              go_meet
              case rel => exact ⟨_, (true), (by first | rfl | (simp; done) | (simp [*]; done)), H', ⟨by first | omega | exact Nat.le_refl _⟩, ⟨by (with_reducible repeat (first | apply Kd.S_alloc | apply Kd.S_drewN | apply Kd.S_drew)); exact Kd.S_mono HO186.out (fun _ hk => trivial)⟩, ⟨by repeat (first | (with_reducible first | exact HB.out | apply below_alloc | apply pw_below_drewN | apply below_drew1) | exact HB.out)⟩⟩
          · rw [if_neg c17] at H
            have c17b0 : (t188 == 0) = false := beq_eq_false_iff_ne.mpr c17
            have c17b1 : (t188 != 0) = true := bne_iff_ne.mpr c17
            have H' := Aside0.mk H
            clear H
            go_wp2
            go_meet
            case rel => exact ⟨_, (true), (by first | rfl | (simp; done) | (simp [*]; done)), H', ⟨by first | omega | exact Nat.le_refl _⟩, ⟨by (with_reducible repeat (first | apply Kd.S_alloc | apply Kd.S_drewN | apply Kd.S_drew)); exact Kd.S_mono HO186.out (fun _ hk => trivial)⟩, ⟨by repeat (first | (with_reducible first | exact HB.out | apply below_alloc | apply pw_below_drewN | apply below_drew1) | exact HB.out)⟩⟩
        · rw [if_neg c16] at H
          have c16b0 : (t184 == 0) = false := beq_eq_false_iff_ne.mpr c16
          have c16b1 : (t184 != 0) = true := bne_iff_ne.mpr c16
          (first | rw [c16b0] | (simp only [i64_w, i32_w]; rw [c16b0]) | skip)
          have H' := Aside0.mk H
          clear H
          go_wp2
          go_meet
          case rel => exact ⟨_, (true), (by first | rfl | (simp; done) | (simp [*]; done)), H', ⟨by first | omega | exact Nat.le_refl _⟩, ⟨by (with_reducible repeat (first | apply Kd.S_alloc | apply Kd.S_drewN | apply Kd.S_drew)); exact Kd.S_mono HO186.out (fun _ hk => trivial)⟩, ⟨by repeat (first | (with_reducible first | exact HB.out | apply below_alloc | apply pw_below_drewN | apply below_drew1) | exact HB.out)⟩⟩
      case rest =>
        clear HC9
        try clear c1
        try clear p2
        try clear c3
        try clear c4
        try clear c5
        try clear c5b0
        try clear c5b1
        try clear c7
        try clear c11
        try clear c12
        try clear c13
        try clear c16
        try clear c16b0
        try clear c16b1
        try clear c17
        try clear c17b0
        try clear c17b1
        try clear c18
        try clear c18b0
        try clear c18b1
        try clear c19
        try clear c19b0
        try clear c19b1
        obtain ⟨kq, x58_8, rfl, HA, HJ8, HO_5, HB⟩ := hcut
        cases kq with
        | zero => exact absurd HA.out (by simp [lotdrawerkeep_CyclesTimes.j0])
        | succ kj8 =>
          have H := HA.out
          clear HA
          simp only [lotdrawerkeep_CyclesTimes.j0] at H
          by_cases c20 : x58_8 = true
          · subst c20
            have H1 : (some false) = some r := by rw [if_pos rfl] at H; exact H
            clear H
            have H := H1
            clear H1
            obtain rfl := Option.some.inj H
            go_wp2
            go_ret
            exact ⟨by first | rfl | (simp [errW_none, errW_some] <;> rfl) | (simp [*, errW_none, errW_some] <;> rfl), by repeat (first | (with_reducible first | exact HB.out | apply below_alloc | apply pw_below_drewN | apply below_drew1) | exact HB.out)⟩
          · replace c20 := Bool.eq_false_iff.mpr c20
            subst c20
            have H1 : (lotdrawerkeep_CyclesTimes.l0 kj8 t181 t183 t183 (t183.length : Int) 0) = some r := by rw [if_neg (show ¬ (false = true) by decide)] at H; exact H
            clear H
            have H := H1
            clear H1
            have H' := Aside0.mk H
            clear H
            obtain ⟨Ao21, co21, eo21⟩ := Kd.S_slice HO_5.out
            subst eo21
            go_wp2
            go_loopg [61] kj8 (fun kq v61 w' => ∃ (x61_2 : Int), v61 = .int .i64 x61_2 ∧ Aside0 (lotdrawerkeep_CyclesTimes.l0 kq t181 t183 t183 (t183.length : Int) x61_2 = some r) ∧ Aside0 (kq ≤ kj8) ∧ Aside0 (Kd.S (Kd.slice 3 (Kd.int .i64)) 22 w' w.heap.size (fun _ => True) (.slice Ao21 t183.length co21) t183) ∧ Aside0 (Kd.S (Kd.slice 3 (Kd.int .i64)) 22 w' w.heap.size (fun _ => True) (.slice Ao21 t183.length co21) t183) ∧ Aside0 (Below w.heap.size w w'))
            case atStart => exact ⟨(0), (by first | rfl | (simp; done) | (simp [*]; done)), H', ⟨Nat.le_refl _⟩, ⟨by (with_reducible repeat (first | apply Kd.S_alloc | apply Kd.S_drewN | apply Kd.S_drew)); exact HO_5.out⟩, ⟨by (with_reducible repeat (first | apply Kd.S_alloc | apply Kd.S_drewN | apply Kd.S_drew)); exact HO_5.out⟩, ⟨by repeat (first | (with_reducible first | exact HB.out | apply below_alloc | apply pw_below_drewN | apply below_drew1) | exact HB.out)⟩⟩
            case round =>
              clear H'
              try clear c1
              try clear c2
              try clear p2
              try clear c3
              try clear c4
              try clear c5
              try clear c5b0
              try clear c5b1
              try clear c7
              try clear c11
              try clear c12
              try clear c13
              try clear c16
              try clear c16b0
              try clear c16b1
              try clear c17
              try clear c17b0
              try clear c17b1
              try clear c18
              try clear c18b0
              try clear c18b1
              try clear c19
              try clear c19b0
              try clear c19b1
              try clear c20
              try clear p2
              obtain ⟨x61_2, rfl, HA, HK2, HO_5, HO_59, HB⟩ := hrel
              cases gk with
              | zero => exact absurd HA.out (by simp [lotdrawerkeep_CyclesTimes.l0])
              | succ k2 =>
                have H := HA.out
                clear HA
                simp only [lotdrawerkeep_CyclesTimes.l0] at H
                by_cases c22 : x61_2 < (t183.length : Int)
                · rw [if_pos c22] at H
                  have c22b0 : decide (x61_2 < (t183.length : Int)) = true := decide_eq_true c22
                  clear c22
                  by_cases c23 : 0 ≤ x61_2
                  · rw [if_pos c23] at H
                    have c23b0 : decide (0 ≤ x61_2) = true := decide_eq_true c23
                    clear c23
                    by_cases c24 : x61_2 < (t183.length : Int)
                    · rw [if_pos c24] at H
                      have c24b0 : decide (x61_2 < (t183.length : Int)) = true := decide_eq_true c24
                      clear c24
                      by_cases c25 : ((rd_L2 t183 x61_2).length : Int) = 0
                      · rw [if_pos c25] at H
                        exact absurd H (by simp)
                      · rw [if_neg c25] at H
                        have c25b0 : (((rd_L2 t183 x61_2).length : Int) == 0) = false := beq_eq_false_iff_ne.mpr c25
                        have c25b1 : (((rd_L2 t183 x61_2).length : Int) != 0) = true := bne_iff_ne.mpr c25
                        have c25b2 : ¬ ((rd_L2 t183 x61_2) = []) := fun h_ => c25 (by rw [h_]; rfl)
                        by_cases c26 : (Int.tmod t181 ((rd_L2 t183 x61_2).length : Int)) = 0
                        · rw [if_pos c26] at H
                          have c26b0 : ((Int.tmod t181 ((rd_L2 t183 x61_2).length : Int)) == 0) = true := beq_iff_eq.mpr c26
                          have c26b1 : ((Int.tmod t181 ((rd_L2 t183 x61_2).length : Int)) != 0) = false := bne_eq_false_iff_eq.mpr c26
                          clear c26
                          have H' := Aside0.mk H
                          clear H
                          have p193 : 0 ≤ (x61_2 : Int) := of_decide_eq_true (by first | (with_reducible assumption) | assumption)
                          have q193 : x61_2 < (t183.length : Int) := of_decide_eq_true (by first | (with_reducible assumption) | assumption)
                          obtain ⟨ad193, A193_0, c193_0, e193, hx193_0, hl193_0, hi193_0⟩ := at_L2 (Kd.S_reads' HO_59.out).2.2 x61_2 p193 q193
                          cases e193
                          obtain ⟨ce193, hce193, hMe193, hcc193⟩ := Kd.S_get HO_59.out [] x61_2 p193 (by first | exact q193 | exact of_decide_eq_true (by first | (with_reducible assumption) | assumption) | (have e_ := (Kd.S_reads' HO_59.out).1; omega))
                          obtain ⟨ve193_0, rfl, ge193_0⟩ := hMe193
                          have hv193_0 := hcc193 0 _ rfl
                          rw [Nat.add_zero, show ((Kd.slice 3 (Kd.int .i64))).sz = 1 from rfl, Nat.mul_one] at hv193_0
                          replace hv193_0 := Option.some.inj (hv193_0.symm.trans hx193_0)
                          rw [hv193_0] at ge193_0
                          have HL193_0 := Aside0.mk (show Kd.R (Kd.int .i64) 3 _ _ _ _ (rd_L2 t183 x61_2) from ge193_0)
                          clear hv193_0 ge193_0
                          clear hcc193 hce193
                          have HR193_0 := Aside0.mk hi193_0
                          have HC193_0 := Aside0.mk hl193_0
                          clear hi193_0 hl193_0
                          replace p193 := eq_true p193
                          replace q193 := eq_true q193
                          go_wp2
                          go_roundg k2
                          case measure => have := HJ8.out; have := HK2.out; omega
                          case rel => exact ⟨(wrap64 (x61_2 + 1)), (by first | rfl | (simp; done) | (simp [*]; done)), H', ⟨by have := HJ8.out; have := HK2.out; omega⟩, ⟨by (with_reducible repeat (first | apply Kd.S_alloc | apply Kd.S_drewN | apply Kd.S_drew)); exact HO_5.out⟩, ⟨by (with_reducible repeat (first | apply Kd.S_alloc | apply Kd.S_drewN | apply Kd.S_drew)); exact HO_59.out⟩, ⟨by repeat (first | (with_reducible first | exact HB.out | apply below_alloc | apply pw_below_drewN | apply below_drew1) | exact HB.out)⟩⟩
                        · rw [if_neg c26] at H
                          have c26b0 : ((Int.tmod t181 ((rd_L2 t183 x61_2).length : Int)) == 0) = false := beq_eq_false_iff_ne.mpr c26
                          have c26b1 : ((Int.tmod t181 ((rd_L2 t183 x61_2).length : Int)) != 0) = true := bne_iff_ne.mpr c26
                          obtain rfl := Option.some.inj H
                          have p193 : 0 ≤ (x61_2 : Int) := of_decide_eq_true (by first | (with_reducible assumption) | assumption)
                          have q193 : x61_2 < (t183.length : Int) := of_decide_eq_true (by first | (with_reducible assumption) | assumption)
                          obtain ⟨ad193, A193_0, c193_0, e193, hx193_0, hl193_0, hi193_0⟩ := at_L2 (Kd.S_reads' HO_59.out).2.2 x61_2 p193 q193
                          cases e193
                          obtain ⟨ce193, hce193, hMe193, hcc193⟩ := Kd.S_get HO_59.out [] x61_2 p193 (by first | exact q193 | exact of_decide_eq_true (by first | (with_reducible assumption) | assumption) | (have e_ := (Kd.S_reads' HO_59.out).1; omega))
                          obtain ⟨ve193_0, rfl, ge193_0⟩ := hMe193
                          have hv193_0 := hcc193 0 _ rfl
                          rw [Nat.add_zero, show ((Kd.slice 3 (Kd.int .i64))).sz = 1 from rfl, Nat.mul_one] at hv193_0
                          replace hv193_0 := Option.some.inj (hv193_0.symm.trans hx193_0)
                          rw [hv193_0] at ge193_0
                          have HL193_0 := Aside0.mk (show Kd.R (Kd.int .i64) 3 _ _ _ _ (rd_L2 t183 x61_2) from ge193_0)
                          clear hv193_0 ge193_0
                          clear hcc193 hce193
                          have HR193_0 := Aside0.mk hi193_0
                          have HC193_0 := Aside0.mk hl193_0
                          clear hi193_0 hl193_0
                          replace p193 := eq_true p193
                          replace q193 := eq_true q193
                          go_wp2
                          go_ret
                          exact ⟨by first | rfl | (simp [errW_none, errW_some] <;> rfl) | (simp [*, errW_none, errW_some] <;> rfl), by repeat (first | (with_reducible first | exact HB.out | apply below_alloc | apply pw_below_drewN | apply below_drew1) | exact HB.out)⟩
                    · rw [if_neg c24] at H
                      exact absurd H (by simp)
                  · rw [if_neg c23] at H
                    exact absurd H (by simp)
                · rw [if_neg c22] at H
                  have c22b0 : decide (x61_2 < (t183.length : Int)) = false := decide_eq_false c22
                  clear c22
                  have H' := Aside0.mk H
                  clear H
                  have HBo := HB.out
                  go_wp2
                  go_loopg [13] k2 (fun kq v13 w' => ∃ (g : Nat) (x13_3 : Int), v13 = .pointer (some ⟨g, 0, none⟩) ∧ w.heap.size ≤ g ∧ Aside0 (w'.heap[g]? = some (.cells #[.int .i64 x13_3] 3 (0, 0))) ∧ Aside0 (lotdrawerkeep_CyclesTimes.l1 kq t181 t183 x13_3 = some r) ∧ Aside0 (kq ≤ k2) ∧ Aside0 (Kd.S (Kd.slice 3 (Kd.int .i64)) 22 w' w.heap.size (fun k_ => k_ ≠ g) (.slice Ao21 t183.length co21) t183) ∧ Aside0 (Below w.heap.size w w'))
                  case atStart => exact ⟨_, _, rfl, below_size HBo, ⟨box_new _ _⟩, H', ⟨Nat.le_refl _⟩, ⟨box_S HO_5.out _⟩, ⟨box_B HBo _⟩⟩
                  case round =>
                    clear H'
                    try clear c1
                    try clear p1
                    try clear q1
                    try clear hx1
                    try clear c2
                    try clear p2
                    try clear c3
                    try clear c4
                    try clear c5
                    try clear c5b0
                    try clear c5b1
                    try clear p6
                    try clear c7
                    try clear c11
                    try clear c12
                    try clear c13
                    try clear c16
                    try clear c16b0
                    try clear c16b1
                    try clear c17
                    try clear c17b0
                    try clear c17b1
                    try clear c18
                    try clear c18b0
                    try clear c18b1
                    try clear c19
                    try clear c19b0
                    try clear c19b1
                    try clear p19
                    try clear q19
                    try clear hx19
                    try clear c20
                    try clear c22
                    try clear c22b0
                    try clear c23
                    try clear c23b0
                    try clear c24
                    try clear c24b0
                    try clear c25
                    try clear c25b0
                    try clear c25b1
                    try clear c25b2
                    try clear c26
                    try clear c26b0
                    try clear c26b1
                    try clear hx193_0
                    try clear p193
                    try clear p2
                    try clear q193
                    obtain ⟨g, x13_3, rfl, hgB, HG, HA, HK3, HO_5, HB⟩ := hrel
                    have hx := cell_of_box HG.out
                    have hf := frozen_of_box HG.out
                    cases gk with
                    | zero => exact absurd HA.out (by simp [lotdrawerkeep_CyclesTimes.l1])
                    | succ k3 =>
                      have H := HA.out
                      clear HA
                      simp only [lotdrawerkeep_CyclesTimes.l1] at H
                      by_cases c27 : x13_3 < t181
                      · rw [if_pos c27] at H
                        have c27b0 : decide (x13_3 < t181) = true := decide_eq_true c27
                        clear c27
                        by_cases c28 : x13_3 = 0
                        · rw [if_pos c28] at H
                          exact absurd H (by simp)
                        · rw [if_neg c28] at H
                          have c28b0 : (x13_3 == 0) = false := beq_eq_false_iff_ne.mpr c28
                          have c28b1 : (x13_3 != 0) = true := bne_iff_ne.mpr c28
                          by_cases c29 : (Int.tmod t181 x13_3) = 0
                          · rw [if_pos c29] at H
                            have c29b0 : ((Int.tmod t181 x13_3) == 0) = true := beq_iff_eq.mpr c29
                            have c29b1 : ((Int.tmod t181 x13_3) != 0) = false := bne_eq_false_iff_eq.mpr c29
                            clear c29
                            replace H := Option.bind_eq_some_iff.mp H
                            obtain ⟨t194, A300, H⟩ := H
                            replace H : (if t194 = true then (lotdrawerkeep_CyclesTimes.l1 k3 t181 t183 (wrap64 (x13_3 + 1))) else (some false)) = some r := H
                            have A30 := Aside0.mk A300
                            clear A300
                            by_cases c31 : t194 = true
                            · subst c31
                              have H1 : (lotdrawerkeep_CyclesTimes.l1 k3 t181 t183 (wrap64 (x13_3 + 1))) = some r := by rw [if_pos rfl] at H; exact H
                              clear H
                              have H := H1
                              clear H1
                              have H' := Aside0.mk H
                              clear H
                              go_wp2_with (first | (go_at_call 14; (with_reducible refine (slices_ContainsFunc_int_int.calls k3 _ _ t183 x13_3 g true _ hx ?side1 ?side2 A30.out).mono ?_); (case side1 => repeat (first | exact (Kd.S_reads' HO_5.out).2.2 | (with_reducible refine Kd.C_alloc ?_ _) | (with_reducible refine Kd.C_drewN ?_ _) | (with_reducible refine Kd.C_drew ?_))); (case side2 => exact (Kd.S_reads' HO_5.out).2.1); rintro e w7 ⟨rfl, hdr⟩; have HBo : Below w.heap.size w w7 := (by obtain ⟨nd, rfl⟩ := hdr; exact pw_below_drewN HB.out nd); have HSo : Kd.S (Kd.slice 3 (Kd.int .i64)) 22 w7 w.heap.size (fun k_ => k_ ≠ g) (.slice Ao21 t183.length co21) t183 := (by obtain ⟨nd, rfl⟩ := hdr; exact Kd.S_drewN HO_5.out nd); have hx7 : w7.cell? ⟨g, 0, none⟩ = some (.int .i64 x13_3) := (by obtain ⟨nd, rfl⟩ := hdr; exact hx); clear hdr))
                              go_roundg k3
                              case measure => have := HJ8.out; have := HK2.out; have := HK3.out; omega
                              case rel => exact ⟨_, _, rfl, below_size HBo, ⟨box_new _ _⟩, H', ⟨by have := HJ8.out; have := HK2.out; have := HK3.out; omega⟩, ⟨box_S HSo _⟩, ⟨box_B HBo _⟩⟩
                            · replace c31 := Bool.eq_false_iff.mpr c31
                              subst c31
                              have H1 : (some false) = some r := by rw [if_neg (show ¬ (false = true) by decide)] at H; exact H
                              clear H
                              have H := H1
                              clear H1
                              obtain rfl := Option.some.inj H
                              go_wp2_with (first | (go_at_call 14; (with_reducible refine (slices_ContainsFunc_int_int.calls k3 _ _ t183 x13_3 g false _ hx ?side1 ?side2 A30.out).mono ?_); (case side1 => repeat (first | exact (Kd.S_reads' HO_5.out).2.2 | (with_reducible refine Kd.C_alloc ?_ _) | (with_reducible refine Kd.C_drewN ?_ _) | (with_reducible refine Kd.C_drew ?_))); (case side2 => exact (Kd.S_reads' HO_5.out).2.1); rintro e w' ⟨rfl, ⟨nd, rfl⟩⟩))
                              go_ret
                              exact ⟨by first | rfl | (simp [errW_none, errW_some] <;> rfl) | (simp [*, errW_none, errW_some] <;> rfl), by repeat (first | (with_reducible first | exact HB.out | apply below_alloc | apply pw_below_drewN | apply below_drew1) | exact HB.out)⟩
                          · rw [if_neg c29] at H
                            have c29b0 : ((Int.tmod t181 x13_3) == 0) = false := beq_eq_false_iff_ne.mpr c29
                            have c29b1 : ((Int.tmod t181 x13_3) != 0) = true := bne_iff_ne.mpr c29
                            have H' := Aside0.mk H
                            clear H
                            have HBo := HB.out
                            have HSo := HO_5.out
                            go_wp2
                            go_roundg k3
                            case measure => have := HJ8.out; have := HK2.out; have := HK3.out; omega
                            case rel => exact ⟨_, _, rfl, below_size HBo, ⟨box_new _ _⟩, H', ⟨by have := HJ8.out; have := HK2.out; have := HK3.out; omega⟩, ⟨box_S HSo _⟩, ⟨box_B HBo _⟩⟩
                      · rw [if_neg c27] at H
                        have c27b0 : decide (x13_3 < t181) = false := decide_eq_false c27
                        clear c27
                        obtain rfl := Option.some.inj H
                        go_wp2
                        go_ret
                        exact ⟨by first | rfl | (simp [errW_none, errW_some] <;> rfl) | (simp [*, errW_none, errW_some] <;> rfl), by repeat (first | (with_reducible first | exact HB.out | apply below_alloc | apply pw_below_drewN | apply below_drew1) | exact HB.out)⟩
    · rw [if_neg c5] at H
      have c5b0 : (t182 == 0) = false := beq_eq_false_iff_ne.mpr c5
      have c5b1 : (t182 != 0) = true := bne_iff_ne.mpr c5
      obtain rfl := Option.some.inj H
      go_enter Try.func4, Try.ntmps4
      go_wp2_with (first | ((with_reducible refine gate_callee (f := 7) rfl ?_); refine goesL_ (some 14) rfl rfl Try.func7 (by kernel_rfl) rfl #[] rfl (by (try simp only [List.map_toArray, List.map_cons, List.map_nil]); first | done | rfl | (simp only [List.length_drop, List.length_take]; rfl)) ?_; (with_reducible refine (lotdrawerkeep_alive23.calls k  true _ A2.out).mono ?_); rintro e w32 ⟨rfl, hb⟩; refine ⟨_, rfl, ?_⟩; have n0_ := Aside0.mk (below_step (by repeat (first | (with_reducible first | exact HB.out | apply below_alloc | apply pw_below_drewN | apply below_drew1) | exact HB.out)) hb); clear HB; have HB := n0_; clear n0_; (try clear hb); (try clear hb2); (try clear hk); (try clear hi)) | ((with_reducible refine gate_callee (f := 12) rfl ?_); refine goesL_ (some 18) rfl rfl Try.func12 (by kernel_rfl) rfl #[.slice A0 l0.length c0] rfl (by (try simp only [List.map_toArray, List.map_cons, List.map_nil]); first | done | rfl | (simp only [List.length_drop, List.length_take]; rfl)) ?_; (with_reducible refine (cycles_Times.calls k _ _ l0 t181 t182 _ ?side1 ?side2 A4.out).mono ?_); (case side1 => repeat (first | exact (Kd.C_below HR0.out HB.out) | (with_reducible refine Kd.C_alloc ?_ _) | (with_reducible refine Kd.C_drewN ?_ _) | (with_reducible refine Kd.C_drew ?_))); (case side2 => exact HC0.out); rintro e w33 ⟨rfl, hb⟩; refine ⟨_, rfl, ?_⟩; have n0_ := Aside0.mk (below_step (by repeat (first | (with_reducible first | exact HB.out | apply below_alloc | apply pw_below_drewN | apply below_drew1) | exact HB.out)) hb); clear HB; have HB := n0_; clear n0_; (try clear hb); (try clear hb2); (try clear hk); (try clear hi)))
      go_ret
      exact ⟨by first | rfl | (simp [errW_none, errW_some] <;> rfl) | (simp [*, errW_none, errW_some] <;> rfl), by repeat (first | (with_reducible first | exact HB.out | apply below_alloc | apply pw_below_drewN | apply below_drew1) | exact HB.out)⟩
  · replace c3 := Bool.eq_false_iff.mpr c3
    subst c3
    have H1 : (some false) = some r := by rw [if_neg (show ¬ (false = true) by decide)] at H; exact H
    clear H
    have H := H1
    clear H1
    obtain rfl := Option.some.inj H
    go_enter Try.func4, Try.ntmps4
    go_wp2_with (first | ((with_reducible refine gate_callee (f := 7) rfl ?_); refine goesL_ (some 14) rfl rfl Try.func7 (by kernel_rfl) rfl #[] rfl (by (try simp only [List.map_toArray, List.map_cons, List.map_nil]); first | done | rfl | (simp only [List.length_drop, List.length_take]; rfl)) ?_; (with_reducible refine (lotdrawerkeep_alive23.calls k  false _ A2.out).mono ?_); rintro e w34 ⟨rfl, hb⟩; refine ⟨_, rfl, ?_⟩; have n0_ := Aside0.mk (below_step (by repeat (first | (with_reducible first | exact HB.out | apply below_alloc | apply pw_below_drewN | apply below_drew1) | exact HB.out)) hb); clear HB; have HB := n0_; clear n0_; (try clear hb); (try clear hb2); (try clear hk); (try clear hi)))
    go_ret
    exact ⟨by first | rfl | (simp [errW_none, errW_some] <;> rfl) | (simp [*, errW_none, errW_some] <;> rfl), by repeat (first | (with_reducible first | exact HB.out | apply below_alloc | apply pw_below_drewN | apply below_drew1) | exact HB.out)⟩

/-- THE ONE PURE STATEMENT of lotdrawerkeep_CyclesTimes: yours. -/
def lotdrawerkeep_CyclesTimes.Pure : Prop := ∀ (l0 : List Int), l0.length ≤ maxLen → l0.length * 8 ≤ 140737488351232 → (∀ x ∈ l0, (Lit.int .i64 x).wf = true) → ∃ k, lotdrawerkeep_CyclesTimes.f k l0 = some true
theorem lotdrawerkeep_CyclesTimes.walk (P : lotdrawerkeep_CyclesTimes.Pure) (a0 : Option Addr) (len0 cap0 : Nat) (z0 : List Int) (w : World) (w0 : (a0 = none ∧ len0 = 0 ∧ cap0 = 0 ∧ z0 = []) ∨ ∃ x, a0 = some x ∧ len0 ≤ cap0 ∧ cap0 ≤ maxLen ∧ z0.length = cap0 ∧ (∀ i, i < z0.length → w.cell? (x.add i) = some (.int .i64 (z0.getD i 0))) ∧ ∀ n ∈ z0, (Lit.int .i64 n).wf = true) (y0 : len0 * 8 ≤ 140737488351232) :
    Calls Try.prog 4 #[.slice a0 len0 cap0] w fun e w' => e = .returned (.bool true) ∧ Below w.heap.size w w' := by
  obtain ⟨l0, rfl, hr0, hm0, hw0, hc0⟩ := ReadsInt.ofRowC w0
  obtain ⟨k, h⟩ := P l0 hm0 y0 hw0
  refine (lotdrawerkeep_CyclesTimes.calls k _ _ l0 true w (Kd.C_of_reads (d := (0 : Int)) (h1 := fun _ => rfl) hr0) hc0 h).mono ?_
  rintro e w' ⟨rfl, hd⟩
  exact ⟨rfl, hd⟩

end Go.Proofs.Ytohknfbfmobggaa.Cy
