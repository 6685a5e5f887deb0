-- perm.At: its contract; the walk drafted by a program of this session (wip/tools/mp.sh: a patched copy of the kit's printer)
import Derived.Test.YtioppgeackgjnaaDoorBt0
import Derived.Deep.RegionLawGrows
import Derived.Deep.RegionLaw
namespace Go.Proofs.YtioppgeackgjnaaDoor.Bt
open Go.RowKit Go.Proofs.YtioppgeackgjnaaDoorW.PrintWords Go.Proofs.YtioppgeackgjnaaDoorW.PrintLast Go.Proofs.YtioppgeackgjnaaDoorW.PrintMore
attribute [local go_sem] max2_int min2_int max_two min_two max_three min_three max_four min_four   -- for this text's walks alone
set_option linter.unusedVariables false
set_option linter.unusedSimpArgs false

theorem run_append_nothing22 (w : World) (ty : TypeId) (ad : Addr) (i : Nat) (A' : Option Addr) (c : Nat) : (Builtin.append_ #[30, 30] ty #[.slice (some ad) i i, .slice A' 0 c]).run Tryd.prog w = .ok (.slice (some ad) i i) w := by
  obtain ⟨i3, hi3, _⟩ := Option.map_eq_some_iff.1 info3
  cases A' <;> simp [Builtin.append_, run_underlying Tryd.underlying30, sizeOf, typeInfo, hi3, Builtin.lenOf, Builtin.firstCells, loadCells, loadCellsFrom, storeCells]
theorem rd_get' (p : List Int) (i : Nat) (h : i < p.length) : rd p (i : Int) = p[i] := by simp [rd, h]
theorem own_base {w : World} {base : Nat} {e : TypeId} {size n : Nat} {v : Value} {xs : List Value} (h : w.ownsRow base e size v n xs) : ∀ k, v.ownBlock = some k → base ≤ k := by
  intro k hk
  rcases h.2 with ⟨rfl, _⟩ | ⟨g, cap, cur, rfl, hb, _⟩
  · cases hk
  · injection hk with hk
    subst hk
    exact hb
theorem wrap_small' (m : Nat) (h : m ≤ 1000) : IntKind.i64.wrap ((m : Int) + 1) = (m : Int) + 1 := by
  have e : ((m : Int) + 1) % 18446744073709551616 = (m : Int) + 1 := by omega
  simp [IntKind.wrap, IntKind.bits, IntKind.signed, e]
  omega
def perm_erase (l : List Int) (x : Int) : Option (List Int) := if 0 ≤ x ∧ x < (l.length : Int) ∧ l.length ≤ 1000 then some (l.eraseIdx x.toNat) else none
/-! ### one step: append(l[:i:i], l[i+1:]...) -/
theorem cells_of_C {w : World} {ad : Addr} {n : Nat} {xs : List Int} (h : Kd.C (Kd.int .i64) w (some ad) n xs) (j : Nat) (hj : j < n) : w.cell? (ad.add j) = some (.int .i64 (rd xs (j : Int))) := by
  have := Kd.foot_int h (j : Int) (by omega) (by omega)
  rwa [Int.toNat_natCast] at this
theorem add_add' (ad : Addr) (i j : Nat) : (ad.add i).add j = ad.add (i + j) := by
  unfold Addr.add
  split <;> split <;> (try split) <;> simp_all <;> omega
set_option maxRecDepth 100000 in
theorem step_erase {ops : Array Oper} {o : Oper} {a : Act} {w : World} {K : Act → World → Prop} {Q : Exit → Act → World → Prop} {E : Prop} {base : Nat} {ok : Nat → Prop}
    (hgd : o.guard = none) (s x : Operand) (hop : o.op = Op.call { callee := Callee.builtin Builtin.append, args := #[s, x], argTypes := #[30, 30] })
    (ad : Addr) (c : Nat) (xs : List Int) (i : Nat) (hV : Kd.V (Kd.int .i64) 3 w base ok (.slice (some ad) xs.length c) xs) (hi : i < xs.length) (hn : xs.length ≤ 1000)
    (hs : a.eval s = .slice (some ad) i i) (hx : a.eval x = .slice (if c = i + 1 then some ad else some (ad.add (i + 1))) (xs.length - (i + 1)) (c - (i + 1))) (hnew : ∀ k, w.heap.size ≤ k → ok k)
    (hK : ∀ v' w', Kd.V (Kd.int .i64) 3 w' base ok v' (xs.eraseIdx i) → w.grownBy w' none → K (a.put o.dst v') w') :
    if Region.wanted o (yielded ops a.tmps) = true then Oper.wp Tryd.prog o a w K Q else E := by
  obtain ⟨_, hlc, hF⟩ := Kd.V_at hV
  have hC := Kd.F_now hF
  have hcell := fun j (hj : j < xs.length) => cells_of_C hC j hj
  by_cases hlast : xs.length = i + 1
  · -- nothing is laid behind
    have hw : Region.wanted o (yielded ops a.tmps) = true := by simp [Region.wanted, hgd]
    rw [if_pos hw]
    have he : xs.eraseIdx i = xs.take i := by
      rw [List.eraseIdx_eq_take_drop_succ, List.drop_of_length_le (by omega), List.append_nil]
    have hV' : Kd.V (Kd.int .i64) 3 w base ok (.slice (some ad) i i) (xs.eraseIdx i) := by
      rw [he]
      have hl : (xs.take i).length = i := by rw [List.length_take]; omega
      have hf := Kd.F_take hF (m := i) (by omega)
      have := Kd.V_mk (e := 3) (base := base) (c := i) (A := some ad) (by omega) hf
      rwa [hl] at this
    have hk := hK _ w hV' (World.grownBy.refl w _)
    have hz : xs.length - (i + 1) = 0 := by omega
    rw [hz] at hx
    obtain ⟨A', hA'⟩ : ∃ A', a.eval x = .slice A' 0 (c - (i + 1)) := ⟨_, hx⟩
    have hrun := run_append_nothing22 w o.type ad i A' (c - (i + 1))
    unfold Oper.wp
    simp [execOp, hop, resolve, invoke, builtin, hs, hA', hrun, Result.andThen]
    exact hk
  · have hlt : i + 1 < xs.length := by omega
    have hci : ¬ c = i + 1 := by omega
    rw [if_neg hci] at hx
    have hl1 : (xs.take i).length = i := by rw [List.length_take]; omega
    obtain ⟨i3, hi3, hz3⟩ := Option.map_eq_some_iff.1 info3
    simp only [Prod.mk.injEq] at hz3
    refine step_append_grows hgd s x 30 hop 3 i3 (.int .i64 0) 1 8 Tryd.underlying30 hi3 hz3.1 hz3.2.1 hz3.2.2 rfl (by decide) (some ad) i i (nums .i64 (xs.take i)) hs (fun h => by cases h) (by simp [nums]; omega) (fun b hb j u hu => ?_)
      (ad.add (i + 1)) (xs.length - (i + 1)) (c - (i + 1)) (nums .i64 (xs.drop (i + 1))) hx (by simp [nums]) (fun j u hu => ?_) (fun u hu => ?_) (by omega) (by simp only [maxLen]; omega) (by omega) (fun v' w' hown hg => ?_)
    · injection hb with hb
      subst hb
      have hj : j < i := by
        have := (List.getElem?_eq_some_iff.1 hu).1
        simp [nums] at this
        omega
      rw [hcell j (by omega)]
      have hu2 := (List.getElem?_eq_some_iff.1 hu).2
      rw [← hu2, rd_get' xs j (by omega)]
      simp [nums]
    · have hj : j < xs.length - (i + 1) := by
        have := (List.getElem?_eq_some_iff.1 hu).1
        simpa [nums] using this
      rw [add_add', hcell (i + 1 + j) (by omega)]
      have hu2 := (List.getElem?_eq_some_iff.1 hu).2
      rw [← hu2, rd_get' xs (i + 1 + j) (by omega)]
      simp [nums]
    · obtain ⟨y, _, rfl⟩ := List.mem_map.1 hu
      rfl
    · refine hK v' w' ?_ hg
      have hlen : (xs.eraseIdx i).length = i + (xs.length - (i + 1)) := by rw [List.length_eraseIdx_of_lt hi]; omega
      have he : nums .i64 (xs.take i) ++ nums .i64 (xs.drop (i + 1)) = nums .i64 (xs.eraseIdx i) := by
        rw [List.eraseIdx_eq_take_drop_succ]; simp [nums]
      rw [he, ← hlen] at hown
      have hR : Kd.R (Kd.int .i64) 3 w' w.heap.size (fun k => w.heap.size ≤ k) v' (xs.eraseIdx i) := Kd.R_of_own (enc := fun z => .int .i64 z) (h1 := fun _ => rfl) hown (fun k hk => own_base hown k hk)
      exact Kd.V_mono (Kd.R_V hR) hnew

/-! ### perm_At: function 17 -/
mutual
def perm_At.j0 : Nat → Int → Int → Bool → Option (List Int × Int)
  | 0, _, _, _ => none
  | k + 1, x0, x1, x22 => if x22 = true then (some (([] : List Int), 2)) else (if 0 ≤ x0 then (if (x0 : Int).toNat ≤ 35184372088832 then (perm_At.l0 k x0 x1 (List.replicate (x0 : Int).toNat 0) (wrap64 (x0 - 1))) else (none)) else (none))
def perm_At.l0 : Nat → Int → Int → List Int → Int → Option (List Int × Int)
  | 0, _, _, _, _ => none
  | k + 1, x0, x1, x6, x7 => if x7 ≥ 0 then (if (wrap64 (x0 - x7)) = 0 then (none) else (if 0 ≤ x7 then (if x7 < (x6.length : Int) then (perm_At.l0 k x0 (wrap64 (Int.tdiv x1 (wrap64 (x0 - x7)))) (x6.set (x7 : Int).toNat (Int.tmod x1 (wrap64 (x0 - x7)))) (wrap64 (x7 - 1))) else (none)) else (none))) else (if x1 > 0 then (some (([] : List Int), 3)) else (if 0 ≤ x0 then (if (x0 : Int).toNat ≤ 35184372088832 then ((some (List.replicate (x0 : Int).toNat 0 : List Int)).bind fun y107 => (perm_At.l1 k x6 y107 (y107.length : Int) 0)) else (none)) else (none)))
def perm_At.l1 : Nat → List Int → List Int → Int → Int → Option (List Int × Int)
  | 0, _, _, _, _ => none
  | k + 1, x6, x8, x49, x50 => if x50 < x49 then (if 0 ≤ x50 then (if x50 < (x8.length : Int) then (perm_At.l1 k x6 (x8.set (x50 : Int).toNat x50) x49 (wrap64 (x50 + 1))) else (none)) else (none)) else (perm_At.l2 k x8 ([] : List Int) x6 (x6.length : Int) 0)
def perm_At.l2 : Nat → List Int → List Int → List Int → Int → Int → Option (List Int × Int)
  | 0, _, _, _, _, _ => none
  | k + 1, x8, x10, x58, x59, x60 => if x60 < x59 then (if 0 ≤ x60 then (if x60 < (x58.length : Int) then (if 0 ≤ (rd x58 x60) then (if (rd x58 x60) < (x8.length : Int) then (if x10.length < 17592186044416 then ((perm_erase x8 (rd x58 x60)).bind fun t116 => (perm_At.l2 k t116 (x10 ++ [rd x8 (rd x58 x60)]) x58 x59 (wrap64 (x60 + 1)))) else (none)) else (none)) else (none)) else (none)) else (none)) else (some (x10, 0))
end
def perm_At.f (k : Nat) (a0 : Int) (a1 : Int) : Option (List Int × Int) := if a0 < 0 then (perm_At.j0 k a0 a1 true) else (if a0 > 20 then (perm_At.j0 k a0 a1 true) else (perm_At.j0 k a0 a1 (decide (a1 < 0))))
theorem perm_At.mono_l : ∀ k, (∀ y0 y1 y2, LeO (perm_At.j0 k y0 y1 y2) (perm_At.j0 (k + 1) y0 y1 y2)) ∧ (∀ y0 y1 y2 y3, LeO (perm_At.l0 k y0 y1 y2 y3) (perm_At.l0 (k + 1) y0 y1 y2 y3)) ∧ (∀ y0 y1 y2 y3, LeO (perm_At.l1 k y0 y1 y2 y3) (perm_At.l1 (k + 1) y0 y1 y2 y3)) ∧ (∀ y0 y1 y2 y3 y4, LeO (perm_At.l2 k y0 y1 y2 y3 y4) (perm_At.l2 (k + 1) y0 y1 y2 y3 y4))
  | 0 => ⟨fun _ _ _ r h => by simp [perm_At.j0] at h, fun _ _ _ _ r h => by simp [perm_At.l0] at h, fun _ _ _ _ r h => by simp [perm_At.l1] at h, fun _ _ _ _ _ r h => by simp [perm_At.l2] at h⟩
  | k + 1 => by
    obtain ⟨ih0, ih1, ih2, ih3⟩ := perm_At.mono_l k
    refine ⟨?_, ?_, ?_, ?_⟩
    · intro y0 y1 y2
      unfold perm_At.j0
      repeat' first
      | (with_reducible exact ih0 _ _ _)
      | (with_reducible exact ih1 _ _ _ _)
      | (with_reducible exact ih2 _ _ _ _)
      | (with_reducible exact ih3 _ _ _ _ _)
      | (with_reducible exact LeO.refl _)
      | (with_reducible exact LeO.none _)
      | (with_reducible refine LeO.ite ?_ ?_)
      | (with_reducible refine LeO.bind ?_ (fun _ => ?_))
      | exact ih0 _ _ _
      | exact ih1 _ _ _ _
      | exact ih2 _ _ _ _
      | exact ih3 _ _ _ _ _
      | exact LeO.none _
      | refine LeO.ite ?_ ?_
      | refine LeO.bind ?_ (fun _ => ?_)
    · intro y0 y1 y2 y3
      unfold perm_At.l0
      repeat' first
      | (with_reducible exact ih0 _ _ _)
      | (with_reducible exact ih1 _ _ _ _)
      | (with_reducible exact ih2 _ _ _ _)
      | (with_reducible exact ih3 _ _ _ _ _)
      | (with_reducible exact LeO.refl _)
      | (with_reducible exact LeO.none _)
      | (with_reducible refine LeO.ite ?_ ?_)
      | (with_reducible refine LeO.bind ?_ (fun _ => ?_))
      | exact ih0 _ _ _
      | exact ih1 _ _ _ _
      | exact ih2 _ _ _ _
      | exact ih3 _ _ _ _ _
      | exact LeO.none _
      | refine LeO.ite ?_ ?_
      | refine LeO.bind ?_ (fun _ => ?_)
    · intro y0 y1 y2 y3
      unfold perm_At.l1
      repeat' first
      | (with_reducible exact ih0 _ _ _)
      | (with_reducible exact ih1 _ _ _ _)
      | (with_reducible exact ih2 _ _ _ _)
      | (with_reducible exact ih3 _ _ _ _ _)
      | (with_reducible exact LeO.refl _)
      | (with_reducible exact LeO.none _)
      | (with_reducible refine LeO.ite ?_ ?_)
      | (with_reducible refine LeO.bind ?_ (fun _ => ?_))
      | exact ih0 _ _ _
      | exact ih1 _ _ _ _
      | exact ih2 _ _ _ _
      | exact ih3 _ _ _ _ _
      | exact LeO.none _
      | refine LeO.ite ?_ ?_
      | refine LeO.bind ?_ (fun _ => ?_)
    · intro y0 y1 y2 y3 y4
      unfold perm_At.l2
      repeat' first
      | (with_reducible exact ih0 _ _ _)
      | (with_reducible exact ih1 _ _ _ _)
      | (with_reducible exact ih2 _ _ _ _)
      | (with_reducible exact ih3 _ _ _ _ _)
      | (with_reducible exact LeO.refl _)
      | (with_reducible exact LeO.none _)
      | (with_reducible refine LeO.ite ?_ ?_)
      | (with_reducible refine LeO.bind ?_ (fun _ => ?_))
      | exact ih0 _ _ _
      | exact ih1 _ _ _ _
      | exact ih2 _ _ _ _
      | exact ih3 _ _ _ _ _
      | exact LeO.none _
      | refine LeO.ite ?_ ?_
      | refine LeO.bind ?_ (fun _ => ?_)
theorem perm_At.mono : ∀ a0 a1 k, LeO (perm_At.f k a0 a1) (perm_At.f (k + 1) a0 a1) := by
  intro a0 a1 k
  obtain ⟨ih0, ih1, ih2, ih3⟩ := perm_At.mono_l k
  unfold perm_At.f
  repeat' first
      | (with_reducible exact ih0 _ _ _)
      | (with_reducible exact ih1 _ _ _ _)
      | (with_reducible exact ih2 _ _ _ _)
      | (with_reducible exact ih3 _ _ _ _ _)
      | (with_reducible exact LeO.refl _)
      | (with_reducible exact LeO.none _)
      | (with_reducible refine LeO.ite ?_ ?_)
      | (with_reducible refine LeO.bind ?_ (fun _ => ?_))
      | exact ih0 _ _ _
      | exact ih1 _ _ _ _
      | exact ih2 _ _ _ _
      | exact ih3 _ _ _ _ _
      | exact LeO.none _
      | refine LeO.ite ?_ ?_
      | refine LeO.bind ?_ (fun _ => ?_)
set_option maxHeartbeats 8000000 in
set_option maxRecDepth 100000 in
theorem perm_At.calls (k : Nat) (a0 : Int) (a1 : Int) (r1 : List Int) (r2 : Int) (w : World) (h : perm_At.f k a0 a1 = some (r1, r2)) :
    Calls Tryd.prog 16 #[.int .i64 a0, .int .i64 a1] w fun e w' => ∃ v0_ : Value, e = .returned (.tuple #[v0_, .int .i64 r2]) ∧ Kd.R (Kd.int .i64) 3 w' w.heap.size (fun _ => True) v0_ r1 ∧ Below w.heap.size w w' := by
  have HB := Aside0.mk (Below.refl w.heap.size w)
  have H : (if a0 < 0 then (perm_At.j0 k a0 a1 true) else (if a0 > 20 then (perm_At.j0 k a0 a1 true) else (perm_At.j0 k a0 a1 (decide (a1 < 0))))) = some (r1, r2) := h
  clear h
  have HC3 := Aside0.mk H
  clear H
  go_enter Tryd.func16, Tryd.ntmps16
  go_upto_region 1 with (fail)
  go_cut [22] (fun v22 wc => ∃ (kq : Nat) (x22_2 : Bool), v22 = .bool x22_2 ∧ Aside0 (perm_At.j0 kq a0 a1 x22_2 = some (r1, r2)) ∧ Aside0 (kq ≤ k) ∧ Aside0 (Below w.heap.size w wc))
  case first =>
    have H := HC3.out
    clear HC3
    by_cases c4 : a0 < 0
    · rw [if_pos c4] at H
      have c4b0 : decide (a0 < 0) = true := decide_eq_true c4
      clear c4
      (first | rw [c4b0] | (simp only [i64_w, i32_w]; rw [c4b0]) | skip)
      have H' := Aside0.mk H
      clear H
      go_wp2
      go_meet
      case rel => exact ⟨_, (true), (by first | rfl | (simp; done) | (simp [*]; done)), H', ⟨by first | omega | exact Nat.le_refl _⟩, ⟨by repeat (first | (with_reducible first | exact HB.out | apply below_alloc | apply pw_below_drewN | apply below_drew1) | exact HB.out)⟩⟩
    · rw [if_neg c4] at H
      have c4b0 : decide (a0 < 0) = false := decide_eq_false c4
      clear c4
      (first | rw [c4b0] | (simp only [i64_w, i32_w]; rw [c4b0]) | skip)
      by_cases c5 : a0 > 20
      · rw [if_pos c5] at H
        have c5b0 : decide (20 < a0) = true := decide_eq_true c5
        clear c5
        have H' := Aside0.mk H
        clear H
        go_wp2
        go_meet
        case rel => exact ⟨_, (true), (by first | rfl | (simp; done) | (simp [*]; done)), H', ⟨by first | omega | exact Nat.le_refl _⟩, ⟨by repeat (first | (with_reducible first | exact HB.out | apply below_alloc | apply pw_below_drewN | apply below_drew1) | exact HB.out)⟩⟩
      · rw [if_neg c5] at H
        have c5b0 : decide (20 < a0) = false := decide_eq_false c5
        clear c5
        have H' := Aside0.mk H
        clear H
        go_wp2
        go_meet
        case rel => exact ⟨_, (decide (a1 < 0)), (by first | rfl | (simp; done) | (simp [*]; done)), H', ⟨by first | omega | exact Nat.le_refl _⟩, ⟨by repeat (first | (with_reducible first | exact HB.out | apply below_alloc | apply pw_below_drewN | apply below_drew1) | exact HB.out)⟩⟩
  case rest =>
    clear HC3
    try clear c1
    try clear p2
    try clear c4
    try clear c4b0
    try clear c5
    try clear c5b0
    obtain ⟨kq, x22_2, rfl, HA, HJ2, HB⟩ := hcut
    cases kq with
    | zero => exact absurd HA.out (by simp [perm_At.j0])
    | succ kj2 =>
      have H := HA.out
      clear HA
      simp only [perm_At.j0] at H
      by_cases c6 : x22_2 = true
      · subst c6
        have H1 : (some (([] : List Int), 2)) = some (r1, r2) := by rw [if_pos rfl] at H; exact H
        clear H
        have H := H1
        clear H1
        simp only [Option.some.injEq, Prod.mk.injEq] at H
        obtain ⟨rfl, rfl⟩ := H
        go_wp2
        go_ret2
        exact ⟨_, by first | rfl | (simp [errW_none, errW_some] <;> rfl) | (simp [*, errW_none, errW_some] <;> rfl), by first | exact Kd.R_nil _ _ _ _ _ | exact Kd.N_nil _ _ _ _ _ | exact Kd.V_nil _ _ _ _ _ | exact Kd.Q_nil _ _ _ _ _ | exact Kd.S_nil _ _ _ _ _, by repeat (first | (with_reducible first | exact HB.out | apply below_alloc | apply pw_below_drewN | apply below_drew1) | exact HB.out)⟩
      · replace c6 := Bool.eq_false_iff.mpr c6
        subst c6
        have H1 : (if 0 ≤ a0 then (if (a0 : Int).toNat ≤ 35184372088832 then (perm_At.l0 kj2 a0 a1 (List.replicate (a0 : Int).toNat 0) (wrap64 (a0 - 1))) else (none)) else (none)) = some (r1, r2) := by rw [if_neg (show ¬ (false = true) by decide)] at H; exact H
        clear H
        have H := H1
        clear H1
        by_cases c7 : 0 ≤ a0
        · rw [if_pos c7] at H
          have c7b0 := eq_true c7
          have c7b1 : decide (0 ≤ a0) = true := decide_eq_true c7
          clear c7
          by_cases c8 : (a0 : Int).toNat ≤ 35184372088832
          · rw [if_pos c8] at H
            have c8b0 := eq_true c8
            have c8b1 : decide ((a0 : Int).toNat ≤ 35184372088832) = true := decide_eq_true c8
            clear c8
            obtain ⟨y103, hy103⟩ : ∃ y_ : List Int, y_ = (List.replicate (a0 : Int).toNat 0) := ⟨_, rfl⟩
            replace H : (perm_At.l0 kj2 a0 a1 y103 (wrap64 (a0 - 1))) = some (r1, r2) := by first | (rw [hy103]; with_reducible exact H) | (have H2_ := (Option.bind_some _ _).symm.trans H; rw [hy103]; with_reducible exact H2_) | (have H2_ := (Option.bind_some _ _).symm.trans H; with_reducible exact H2_) | with_reducible exact H | (rw [hy103]; exact H) | exact H
            have Ny103 := Aside0.mk hy103
            clear hy103
            have H' := Aside0.mk H
            clear H
            go_wp2_with (first | ((with_reducible refine gate_dst (N := 24) rfl ?_); refine Kd.R_make (Kd.int .i64) _ 3 rfl (N := 24) rfl 30 _ _ rfl a0 rfl rfl Tryd.underlying30 (.int .i64 0) 8 info3 rfl (by decide) (by omega) 0 (ok := fun _ => True) (okp := fun _ => True) rfl (fun _ hk => hk) trivial (of_decide_eq_true (by first | (with_reducible assumption) | assumption)) (Nat.le_trans (Nat.mul_le_mul_right _ (of_decide_eq_true (by first | (with_reducible assumption) | assumption) : a0.toNat ≤ 35184372088832)) (by omega)) (Below.refl _ _) (Nat.le_refl _) ?_; intro v104 w9 ho10 hb hg_ hnew_; clear hg_ hnew_; (first | rw [← Ny103.out] at ho10 | (simp only [Int.reduceToNat] at ho10; rw [← Ny103.out] at ho10)); have n0_ := Aside0.mk (Kd.R_lower ho10 (below_size (by repeat (first | (with_reducible first | exact HB.out | apply below_alloc | apply pw_below_drewN | apply below_drew1) | exact HB.out)))); have n1_ := Aside0.mk (below_step (by repeat (first | (with_reducible first | exact HB.out | apply below_alloc | apply pw_below_drewN | apply below_drew1) | exact HB.out)) hb); clear HB; have HO105 := n0_; have HB := n1_; clear n0_ n1_; clear hb ho10))
            go_loopg [1, 7] kj2 (fun kq v1 v7 w' => ∃ (x1_2 : Int) (x6_2 : List Int) (x7_2 : Int), v1 = .int .i64 x1_2 ∧ v7 = .int .i64 x7_2 ∧ Aside0 (perm_At.l0 kq a0 x1_2 x6_2 x7_2 = some (r1, r2)) ∧ Aside0 (kq ≤ kj2) ∧ Aside0 (Kd.R (Kd.int .i64) 3 w' w.heap.size (fun _ => True) v104 x6_2) ∧ Aside0 (Below w.heap.size w w'))
            case atStart => exact ⟨(a1), (y103), (wrap64 (a0 - 1)), (by first | rfl | (simp; done) | (simp [*]; done)), (by first | rfl | (simp; done) | (simp [*]; done)), H', ⟨Nat.le_refl _⟩, ⟨by (with_reducible repeat (first | apply Kd.R_alloc | apply Kd.R_drewN | apply Kd.R_drew)); exact HO105.out⟩, ⟨by repeat (first | (with_reducible first | exact HB.out | apply below_alloc | apply pw_below_drewN | apply below_drew1) | exact HB.out)⟩⟩
            case round =>
              clear H'
              try clear c1
              try clear p2
              try clear c4
              try clear c4b0
              try clear c5
              try clear c5b0
              try clear c6
              try clear p6
              try clear c7
              try clear c7b0
              try clear c7b1
              try clear c8
              try clear c8b0
              try clear c8b1
              try clear p2
              obtain ⟨x1_2, x6_2, x7_2, rfl, rfl, HA, HK2, HO_6, HB⟩ := hrel
              cases gk with
              | zero => exact absurd HA.out (by simp [perm_At.l0])
              | succ k2 =>
                have H := HA.out
                clear HA
                simp only [perm_At.l0] at H
                by_cases c11 : x7_2 ≥ 0
                · rw [if_pos c11] at H
                  have c11b0 : decide (0 ≤ x7_2) = true := decide_eq_true c11
                  clear c11
                  by_cases c12 : (wrap64 (a0 - x7_2)) = 0
                  · rw [if_pos c12] at H
                    exact absurd H (by simp)
                  · rw [if_neg c12] at H
                    have c12b0 : ((wrap64 (a0 - x7_2)) == 0) = false := beq_eq_false_iff_ne.mpr c12
                    have c12b1 : ((wrap64 (a0 - x7_2)) != 0) = true := bne_iff_ne.mpr c12
                    by_cases c13 : 0 ≤ x7_2
                    · rw [if_pos c13] at H
                      have c13b0 : decide (0 ≤ x7_2) = true := decide_eq_true c13
                      clear c13
                      by_cases c14 : x7_2 < (x6_2.length : Int)
                      · rw [if_pos c14] at H
                        have c14b0 : decide (x7_2 < (x6_2.length : Int)) = true := decide_eq_true c14
                        clear c14
                        obtain ⟨y106, hy106⟩ : ∃ y_ : List Int, y_ = (x6_2.set (x7_2 : Int).toNat (Int.tmod x1_2 (wrap64 (a0 - x7_2)))) := ⟨_, rfl⟩
                        replace H : (perm_At.l0 k2 a0 (wrap64 (Int.tdiv x1_2 (wrap64 (a0 - x7_2)))) y106 (wrap64 (x7_2 - 1))) = some (r1, r2) := by first | (rw [hy106]; with_reducible exact H) | (have H2_ := (Option.bind_some _ _).symm.trans H; rw [hy106]; with_reducible exact H2_) | (have H2_ := (Option.bind_some _ _).symm.trans H; with_reducible exact H2_) | with_reducible exact H | (rw [hy106]; exact H) | exact H
                        have Ny106 := Aside0.mk hy106
                        clear hy106
                        have H' := Aside0.mk H
                        clear H
                        have p15 : 0 ≤ (x7_2 : Int) := of_decide_eq_true (by first | (with_reducible assumption) | assumption)
                        have q15 : (x7_2 : Int) < ((x6_2.length : Int) : Int) := of_decide_eq_true (by first | (with_reducible assumption) | assumption)
                        obtain ⟨go15, co15, eo15, gb15, gl15, cl15, HG15⟩ := Kd.R_form HO_6.out (by omega)
                        (first | cases eo15 | (injection eo15 with ea_ en_ ec_; (first | subst ea_ | (injection ea_ with ea_; subst ea_)); subst ec_; clear en_))
                        have GB15 := Aside0.mk gb15
                        have GG15 := Aside0.mk HG15
                        clear gb15 gl15 HG15
                        obtain ⟨hx15_0, hf15_0⟩ := Kd.R_celln 0 HO_6.out (x7_2 : Int) p15 q15
                        replace p15 := eq_true p15
                        replace q15 := eq_true q15
                        have HP16 := Kd.R_putg HO_6.out (x7_2 : Int) (Int.tmod x1_2 (wrap64 (a0 - x7_2)))
                        go_wp2_with (first | ((with_reducible refine gate_store (t := 3) (p := 38) rfl ?_); refine store_event (t := 3) (p := 38) (v := ?vo_w17) (w1 := (wr.setCell ⟨go15, (x7_2 : Int).toNat, none⟩ (.int .i64 (Int.tmod x1_2 (wrap64 (a0 - x7_2)))))) ?hg ?ho ?hn ?hr ?_; (case ho => rfl); (case hg => rfl); (case hn => rfl); (case hr => first | (go_simp; done) | (go_simp; rfl)); intro w17 hw; have hg : wr.grownBy w17 (some go15) := (by rw [hw]; exact HP16.2); have hp_ : Kd.R (Kd.int .i64) 3 w17 w.heap.size (fun _ => True) (.slice (some ⟨go15, 0, none⟩) x6_2.length co15) y106 := (by rw [hw, Ny106.out]; exact HP16.1); clear HP16; have n0_ := Aside0.mk (hp_); have n1_ := Aside0.mk ((by rw [hw]; exact below_set (HB.out) GB15.out : Below w.heap.size w w17)); clear HO_6; clear HB; have HO_6 := n0_; have HB := n1_; clear n0_ n1_; clear hg hw hp_))
                        go_roundg k2
                        case measure => have := HJ2.out; have := HK2.out; omega
                        case rel => exact ⟨(wrap64 (Int.tdiv x1_2 (wrap64 (a0 - x7_2)))), (y106), (wrap64 (x7_2 - 1)), (by first | rfl | (simp; done) | (simp [*]; done)), (by first | rfl | (simp; done) | (simp [*]; done)), H', ⟨by have := HJ2.out; have := HK2.out; omega⟩, ⟨by (with_reducible repeat (first | apply Kd.R_alloc | apply Kd.R_drewN | apply Kd.R_drew)); exact HO_6.out⟩, ⟨by repeat (first | (with_reducible first | exact HB.out | apply below_alloc | apply pw_below_drewN | apply below_drew1) | exact HB.out)⟩⟩
                      · rw [if_neg c14] at H
                        exact absurd H (by simp)
                    · rw [if_neg c13] at H
                      exact absurd H (by simp)
                · rw [if_neg c11] at H
                  have c11b0 : decide (0 ≤ x7_2) = false := decide_eq_false c11
                  clear c11
                  by_cases c18 : x1_2 > 0
                  · rw [if_pos c18] at H
                    have c18b0 : decide (0 < x1_2) = true := decide_eq_true c18
                    clear c18
                    simp only [Option.some.injEq, Prod.mk.injEq] at H
                    obtain ⟨rfl, rfl⟩ := H
                    go_wp2
                    go_ret2
                    exact ⟨_, by first | rfl | (simp [errW_none, errW_some] <;> rfl) | (simp [*, errW_none, errW_some] <;> rfl), by first | exact Kd.R_nil _ _ _ _ _ | exact Kd.N_nil _ _ _ _ _ | exact Kd.V_nil _ _ _ _ _ | exact Kd.Q_nil _ _ _ _ _ | exact Kd.S_nil _ _ _ _ _, by repeat (first | (with_reducible first | exact HB.out | apply below_alloc | apply pw_below_drewN | apply below_drew1) | exact HB.out)⟩
                  · rw [if_neg c18] at H
                    have c18b0 : decide (0 < x1_2) = false := decide_eq_false c18
                    clear c18
                    by_cases c19 : 0 ≤ a0
                    · rw [if_pos c19] at H
                      have c19b0 := eq_true c19
                      have c19b1 : decide (0 ≤ a0) = true := decide_eq_true c19
                      clear c19
                      by_cases c20 : (a0 : Int).toNat ≤ 35184372088832
                      · rw [if_pos c20] at H
                        have c20b0 := eq_true c20
                        have c20b1 : decide ((a0 : Int).toNat ≤ 35184372088832) = true := decide_eq_true c20
                        clear c20
                        obtain ⟨y107, hy107⟩ : ∃ y_ : List Int, y_ = (List.replicate (a0 : Int).toNat 0) := ⟨_, rfl⟩
                        replace H : (perm_At.l1 k2 x6_2 y107 (y107.length : Int) 0) = some (r1, r2) := by first | (rw [hy107]; with_reducible exact H) | (have H2_ := (Option.bind_some _ _).symm.trans H; rw [hy107]; with_reducible exact H2_) | (have H2_ := (Option.bind_some _ _).symm.trans H; with_reducible exact H2_) | with_reducible exact H | (rw [hy107]; exact H) | exact H
                        have Ny107 := Aside0.mk hy107
                        clear hy107
                        have H' := Aside0.mk H
                        clear H
                        go_wp2_with (first | ((with_reducible refine gate_dst (N := 47) rfl ?_); refine Kd.R_make (Kd.int .i64) _ 3 rfl (N := 47) rfl 30 _ _ rfl a0 rfl rfl Tryd.underlying30 (.int .i64 0) 8 info3 rfl (by decide) (by omega) 0 (ok := fun _ => True) (okp := fun _ => True) rfl (fun _ hk => hk) trivial (of_decide_eq_true (by first | (with_reducible assumption) | assumption)) (Nat.le_trans (Nat.mul_le_mul_right _ (of_decide_eq_true (by first | (with_reducible assumption) | assumption) : a0.toNat ≤ 35184372088832)) (by omega)) (Below.refl _ _) (Nat.le_refl _) ?_; intro v108 w21 ho22 hb hg_ hnew_; clear hg_ hnew_; (first | rw [← Ny107.out] at ho22 | (simp only [Int.reduceToNat] at ho22; rw [← Ny107.out] at ho22)); have n0_ := Aside0.mk (Kd.R_elder' (by (with_reducible repeat (first | apply Kd.R_alloc | apply Kd.R_drewN | apply Kd.R_drew)); exact HO_6.out) (Kd.R_base ho22) hb); have n1_ := Aside0.mk (Kd.R_lower (Kd.R_new' ho22 (Kd.R_lt (by (with_reducible repeat (first | apply Kd.R_alloc | apply Kd.R_drewN | apply Kd.R_drew)); exact HO_6.out))) (below_size (by repeat (first | (with_reducible first | exact HB.out | apply below_alloc | apply pw_below_drewN | apply below_drew1) | exact HB.out)))); have n2_ := Aside0.mk (below_step (by repeat (first | (with_reducible first | exact HB.out | apply below_alloc | apply pw_below_drewN | apply below_drew1) | exact HB.out)) hb); clear HO_6; clear HB; have HO_6 := n0_; have HO109 := n1_; have HB := n2_; clear n0_ n1_ n2_; clear hb ho22; obtain ⟨Ao23, co23, eo23⟩ := Kd.R_slice HO109.out; subst eo23))
                        go_loopg [50] k2 (fun kq v50 w' => ∃ (x8_3 : List Int) (x50_3 : Int), v50 = .int .i64 x50_3 ∧ Aside0 (perm_At.l1 kq x6_2 x8_3 (y107.length : Int) x50_3 = some (r1, r2)) ∧ Aside0 (kq ≤ k2) ∧ Aside0 (Kd.R (Kd.int .i64) 3 w' w.heap.size (fun k_ => some k_ ≠ ((.slice Ao23 y107.length co23) : Value).ownBlock) v104 x6_2) ∧ Aside0 (Kd.R (Kd.int .i64) 3 w' w.heap.size (fun k_ => some k_ ≠ (v104 : Value).ownBlock) (.slice Ao23 y107.length co23) x8_3) ∧ Aside0 (Below w.heap.size w w'))
                        case atStart => exact ⟨(y107), (0), (by first | rfl | (simp; done) | (simp [*]; done)), H', ⟨Nat.le_refl _⟩, ⟨by (with_reducible repeat (first | apply Kd.R_alloc | apply Kd.R_drewN | apply Kd.R_drew)); exact Kd.R_mono HO_6.out (fun _ hk => hk.2)⟩, ⟨by (with_reducible repeat (first | apply Kd.R_alloc | apply Kd.R_drewN | apply Kd.R_drew)); exact Kd.R_mono HO109.out (fun _ hk => hk.2)⟩, ⟨by repeat (first | (with_reducible first | exact HB.out | apply below_alloc | apply pw_below_drewN | apply below_drew1) | exact HB.out)⟩⟩
                        case round =>
                          clear H'
                          try clear c1
                          try clear p1
                          try clear q1
                          try clear hx1
                          try clear c2
                          try clear p2
                          try clear c4
                          try clear c4b0
                          try clear c5
                          try clear c5b0
                          try clear c6
                          try clear p6
                          try clear c7
                          try clear c7b0
                          try clear c7b1
                          try clear c8
                          try clear c8b0
                          try clear c8b1
                          try clear c11
                          try clear c11b0
                          try clear c12
                          try clear c12b0
                          try clear c12b1
                          try clear c13
                          try clear c13b0
                          try clear c14
                          try clear c14b0
                          try clear p15
                          try clear q15
                          try clear hx15
                          try clear hf15
                          try clear c17
                          try clear c18
                          try clear c18b0
                          try clear c19
                          try clear c19b0
                          try clear c19b1
                          try clear c20
                          try clear c20b0
                          try clear c20b1
                          try clear hx15_0
                          try clear p15
                          try clear p2
                          try clear p6
                          try clear q15
                          obtain ⟨x8_3, x50_3, rfl, HA, HK3, HO_6, HO_8, HB⟩ := hrel
                          have hl8_3 := (Kd.R_reads' HO_8.out).1
                          rw [hl8_3] at HO_8
                          (try simp only [hl8_3])
                          (try simp only [hl8_3] at HO_6)
                          cases gk with
                          | zero => exact absurd HA.out (by simp [perm_At.l1])
                          | succ k3 =>
                            have H := HA.out
                            clear HA
                            simp only [perm_At.l1] at H
                            by_cases c24 : x50_3 < (y107.length : Int)
                            · rw [if_pos c24] at H
                              have c24b0 : decide (x50_3 < (y107.length : Int)) = true := decide_eq_true c24
                              have c24b0h := c24b0
                              (try simp only [hl8_3] at c24b0h)
                              clear c24
                              by_cases c25 : 0 ≤ x50_3
                              · rw [if_pos c25] at H
                                have c25b0 : decide (0 ≤ x50_3) = true := decide_eq_true c25
                                clear c25
                                by_cases c26 : x50_3 < (x8_3.length : Int)
                                · rw [if_pos c26] at H
                                  have c26b0 : decide (x50_3 < (x8_3.length : Int)) = true := decide_eq_true c26
                                  clear c26
                                  obtain ⟨y110, hy110⟩ : ∃ y_ : List Int, y_ = (x8_3.set (x50_3 : Int).toNat x50_3) := ⟨_, rfl⟩
                                  replace H : (perm_At.l1 k3 x6_2 y110 (y107.length : Int) (wrap64 (x50_3 + 1))) = some (r1, r2) := by first | (rw [hy110]; with_reducible exact H) | (have H2_ := (Option.bind_some _ _).symm.trans H; rw [hy110]; with_reducible exact H2_) | (have H2_ := (Option.bind_some _ _).symm.trans H; with_reducible exact H2_) | with_reducible exact H | (rw [hy110]; exact H) | exact H
                                  have Ny110 := Aside0.mk hy110
                                  clear hy110
                                  have H' := Aside0.mk H
                                  clear H
                                  have p27 : 0 ≤ (x50_3 : Int) := of_decide_eq_true (by first | (with_reducible assumption) | assumption)
                                  have q27 : (x50_3 : Int) < ((x8_3.length : Int) : Int) := of_decide_eq_true (by first | (with_reducible assumption) | assumption)
                                  obtain ⟨go27, co27, eo27, gb27, gl27, cl27, HG27⟩ := Kd.R_form HO_8.out (by omega)
                                  (first | cases eo27 | (injection eo27 with ea_ en_ ec_; (first | subst ea_ | (injection ea_ with ea_; subst ea_)); subst ec_; clear en_))
                                  have GB27 := Aside0.mk gb27
                                  have GG27 := Aside0.mk HG27
                                  clear gb27 gl27 HG27
                                  obtain ⟨hx27_0, hf27_0⟩ := Kd.R_celln 0 HO_8.out (x50_3 : Int) p27 q27
                                  replace p27 := eq_true p27
                                  replace q27 := eq_true q27
                                  have HP28 := Kd.R_putg HO_8.out (x50_3 : Int) x50_3
                                  go_wp2_with (first | ((with_reducible refine gate_store (t := 3) (p := 56) rfl ?_); refine store_event (t := 3) (p := 56) (v := ?vo_w29) (w1 := (wr.setCell ⟨go27, (x50_3 : Int).toNat, none⟩ (.int .i64 x50_3))) ?hg ?ho ?hn ?hr ?_; (case ho => rfl); (case hg => rfl); (case hn => rfl); (case hr => first | (go_simp; done) | (go_simp; rfl)); intro w29 hw; have hg : wr.grownBy w29 (some go27) := (by rw [hw]; exact HP28.2); have hp_ : Kd.R (Kd.int .i64) 3 w29 w.heap.size (fun k_ => some k_ ≠ (v104 : Value).ownBlock) (.slice (some ⟨go27, 0, none⟩) x8_3.length co23) y110 := (by rw [hw, Ny110.out]; exact HP28.1); clear HP28; have n0_ := Aside0.mk (Kd.R_after (v := (.slice (some ⟨go27, 0, none⟩) x8_3.length co23)) (v1 := (.slice (some ⟨go27, 0, none⟩) x8_3.length co23)) (ok := (fun _ => True)) (by (with_reducible repeat (first | apply Kd.R_alloc | apply Kd.R_drewN | apply Kd.R_drew)); exact Kd.R_mono HO_6.out (fun _ hk => ⟨trivial, hk⟩)) hg (.inl rfl)); have n1_ := Aside0.mk (hp_); have n2_ := Aside0.mk ((by rw [hw]; exact below_set (HB.out) GB27.out : Below w.heap.size w w29)); clear HO_6; clear HO_8; clear HB; have HO_6 := n0_; have HO_8 := n1_; have HB := n2_; clear n0_ n1_ n2_; clear hg hw hp_))
                                  (try simp only [← hl8_3])
                                  go_roundg k3
                                  case measure => have := HJ2.out; have := HK2.out; have := HK3.out; omega
                                  case rel => exact ⟨(y110), (wrap64 (x50_3 + 1)), (by first | rfl | (simp; done) | (simp [*]; done)), H', ⟨by have := HJ2.out; have := HK2.out; have := HK3.out; omega⟩, ⟨by (try simp only [hl8_3]); (with_reducible repeat (first | apply Kd.R_alloc | apply Kd.R_drewN | apply Kd.R_drew)); exact Kd.R_mono HO_6.out (fun _ hk => hk.2)⟩, ⟨by (try simp only [hl8_3]); (with_reducible repeat (first | apply Kd.R_alloc | apply Kd.R_drewN | apply Kd.R_drew)); exact HO_8.out⟩, ⟨by repeat (first | (with_reducible first | exact HB.out | apply below_alloc | apply pw_below_drewN | apply below_drew1) | exact HB.out)⟩⟩
                                · rw [if_neg c26] at H
                                  exact absurd H (by simp)
                              · rw [if_neg c25] at H
                                exact absurd H (by simp)
                            · rw [if_neg c24] at H
                              have c24b0 : decide (x50_3 < (y107.length : Int)) = false := decide_eq_false c24
                              have c24b0h := c24b0
                              (try simp only [hl8_3] at c24b0h)
                              clear c24
                              have H' := Aside0.mk H
                              clear H
                              obtain ⟨Ao30, co30, eo30⟩ := Kd.R_slice HO_6.out
                              subst eo30
                              go_wp2
                              go_loopg [8, 10, 60] k3 (fun kq v8 v10 v60 w' => ∃ (x8_4 : List Int) (x10_4 : List Int) (x60_4 : Int), v60 = .int .i64 x60_4 ∧ Aside0 (perm_At.l2 kq x8_4 x10_4 x6_2 (x6_2.length : Int) x60_4 = some (r1, r2)) ∧ Aside0 (kq ≤ k3) ∧ Aside0 (Kd.V (Kd.int .i64) 3 w' w.heap.size (fun k_ => some k_ ≠ (v10 : Value).ownBlock) v8 x8_4) ∧ Aside0 (Kd.R (Kd.int .i64) 3 w' w.heap.size (fun k_ => some k_ ≠ ((.slice Ao30 x6_2.length co30) : Value).ownBlock) v10 x10_4) ∧ Aside0 (Kd.R (Kd.int .i64) 3 w' w.heap.size (fun k_ => some k_ ≠ (v10 : Value).ownBlock) (.slice Ao30 x6_2.length co30) x6_2) ∧ Aside0 (Below w.heap.size w w'))
                              case atStart => exact ⟨(x8_3), (([] : List Int)), (0), (by first | rfl | (simp; done) | (simp [*]; done)), H', ⟨Nat.le_refl _⟩, ⟨by (try simp only [hl8_3]); exact Kd.V_mono (Kd.R_V (by (with_reducible repeat (first | apply Kd.R_alloc | apply Kd.R_drewN | apply Kd.R_drew)); exact HO_8.out)) (fun _ _ => by simp [Value.ownBlock])⟩, ⟨by (try simp only [hl8_3]); first | exact Kd.R_nil _ _ _ _ _ | exact Kd.N_nil _ _ _ _ _ | exact Kd.V_nil _ _ _ _ _ | exact Kd.Q_nil _ _ _ _ _ | exact Kd.S_nil _ _ _ _ _⟩, ⟨by (try simp only [hl8_3]); (with_reducible repeat (first | apply Kd.R_alloc | apply Kd.R_drewN | apply Kd.R_drew)); exact Kd.R_mono HO_6.out (fun _ _ => by simp [Value.ownBlock])⟩, ⟨by repeat (first | (with_reducible first | exact HB.out | apply below_alloc | apply pw_below_drewN | apply below_drew1) | exact HB.out)⟩⟩
                              case round =>
                                clear H'
                                try clear c1
                                try clear p1
                                try clear q1
                                try clear hx1
                                try clear c2
                                try clear p2
                                try clear q2
                                try clear hx2
                                try clear hf2
                                try clear c4
                                try clear c4b0
                                try clear c5
                                try clear c5b0
                                try clear c6
                                try clear p6
                                try clear c7
                                try clear c7b0
                                try clear c7b1
                                try clear c8
                                try clear c8b0
                                try clear c8b1
                                try clear c11
                                try clear c11b0
                                try clear c12
                                try clear c12b0
                                try clear c12b1
                                try clear c13
                                try clear c13b0
                                try clear c14
                                try clear c14b0
                                try clear p15
                                try clear q15
                                try clear hx15
                                try clear hf15
                                try clear c17
                                try clear c18
                                try clear c18b0
                                try clear c19
                                try clear c19b0
                                try clear c19b1
                                try clear c20
                                try clear c20b0
                                try clear c20b1
                                try clear c24
                                try clear c24b0
                                try clear c25
                                try clear c25b0
                                try clear c26
                                try clear c26b0
                                try clear p27
                                try clear q27
                                try clear hx27
                                try clear hf27
                                try clear hx15_0
                                try clear hx27_0
                                try clear p1
                                try clear p15
                                try clear p2
                                try clear p27
                                try clear p6
                                try clear q1
                                try clear q15
                                try clear q27
                                clear HO_8
                                obtain ⟨x8_4, x10_4, x60_4, rfl, HA, HK4, HO_8, HO_10, HO_58, HB⟩ := hrel
                                cases gk with
                                | zero => exact absurd HA.out (by simp [perm_At.l2])
                                | succ k4 =>
                                  have H := HA.out
                                  clear HA
                                  simp only [perm_At.l2] at H
                                  by_cases c31 : x60_4 < (x6_2.length : Int)
                                  · rw [if_pos c31] at H
                                    have c31b0 : decide (x60_4 < (x6_2.length : Int)) = true := decide_eq_true c31
                                    clear c31
                                    by_cases c32 : 0 ≤ x60_4
                                    · rw [if_pos c32] at H
                                      have c32b0 : decide (0 ≤ x60_4) = true := decide_eq_true c32
                                      clear c32
                                      by_cases c33 : x60_4 < (x6_2.length : Int)
                                      · rw [if_pos c33] at H
                                        have c33b0 : decide (x60_4 < (x6_2.length : Int)) = true := decide_eq_true c33
                                        clear c33
                                        by_cases c34 : 0 ≤ (rd x6_2 x60_4)
                                        · rw [if_pos c34] at H
                                          have c34b0 : decide (0 ≤ (rd x6_2 x60_4)) = true := decide_eq_true c34
                                          clear c34
                                          by_cases c35 : (rd x6_2 x60_4) < (x8_4.length : Int)
                                          · rw [if_pos c35] at H
                                            have c35b0 : decide ((rd x6_2 x60_4) < (x8_4.length : Int)) = true := decide_eq_true c35
                                            clear c35
                                            by_cases c36 : x10_4.length < 17592186044416
                                            · rw [if_pos c36] at H
                                              have LMc36 := Aside0.mk c36
                                              clear c36
                                              obtain ⟨y113, hy113⟩ : ∃ y_ : List Int, y_ = (x10_4 ++ [rd x8_4 (rd x6_2 x60_4)]) := ⟨_, rfl⟩
                                              replace H : ((perm_erase x8_4 (rd x6_2 x60_4)).bind fun t116 => (perm_At.l2 k4 t116 y113 x6_2 (x6_2.length : Int) (wrap64 (x60_4 + 1)))) = some (r1, r2) := by first | (rw [hy113]; with_reducible exact H) | (have H2_ := (Option.bind_some _ _).symm.trans H; rw [hy113]; with_reducible exact H2_) | (have H2_ := (Option.bind_some _ _).symm.trans H; with_reducible exact H2_) | with_reducible exact H | (rw [hy113]; exact H) | exact H
                                              have Ny113 := Aside0.mk hy113
                                              clear hy113
                                              replace H := Option.bind_eq_some_iff.mp H
                                              obtain ⟨t116, A370, H⟩ := H
                                              replace H : (perm_At.l2 k4 t116 y113 x6_2 (x6_2.length : Int) (wrap64 (x60_4 + 1))) = some (r1, r2) := H
                                              have A37 := Aside0.mk A370
                                              clear A370
                                              have H' := Aside0.mk H
                                              clear H
                                              have p111 : 0 ≤ (x60_4 : Int) := of_decide_eq_true (by first | (with_reducible assumption) | assumption)
                                              have q111 : x60_4 < (x6_2.length : Int) := of_decide_eq_true (by first | (with_reducible assumption) | assumption)
                                              obtain ⟨ad111, e111, hx111_0⟩ := Kd.at_int (Kd.R_reads' HO_58.out).2.2 x60_4 p111 q111
                                              cases e111
                                              replace p111 := eq_true p111
                                              replace q111 := eq_true q111
                                              obtain ⟨Ao38, co38, eo38⟩ := Kd.V_slice HO_8.out
                                              subst eo38
                                              have p112 : 0 ≤ ((rd x6_2 x60_4) : Int) := of_decide_eq_true (by first | (with_reducible assumption) | assumption)
                                              have q112 : (rd x6_2 x60_4) < (x8_4.length : Int) := of_decide_eq_true (by first | (with_reducible assumption) | assumption)
                                              obtain ⟨ad112, e112, hx112_0⟩ := Kd.at_int (Kd.V_reads' HO_8.out).2.2 (rd x6_2 x60_4) p112 q112
                                              cases e112
                                              replace p112 := eq_true p112
                                              replace q112 := eq_true q112
                                              go_wp2_with (first | ((with_reducible refine gate_builtin (b := .append) (xs := #[.tmp 64, .tmp 69]) rfl ?_); at_builtin; refine Kd.R_append (Kd.int .i64) (w0 := w) w.heap.size rfl (.tmp 64) (.tmp 69) 30 3 (.int .i64 0) 8 rfl Tryd.underlying30 info3 rfl (by decide) (by omega) u10 x10_4 (rd x8_4 (rd x6_2 x60_4)) [.int .i64 (rd x8_4 (rd x6_2 x60_4))] (fun k_ => some k_ ≠ (.slice (some ad111) x6_2.length co30 : Value).ownBlock) (fun _ => False) rfl rfl ?aP (fun _ hk => hk.elim) ?aF ?aO ?aB ?aS ?aL ?_; (case aP => exact rfl); (case aB => exact (by repeat (first | (with_reducible first | exact HB.out | apply below_alloc | apply pw_below_drewN | apply below_drew1) | exact HB.out))); (case aF => exact (fun k_ hk => Kd.fresh' (Kd.R_lt (by (with_reducible repeat (first | apply Kd.R_alloc | apply Kd.R_drewN | apply Kd.R_drew)); exact HO_58.out)) k_ hk)); (case aO => exact (by (with_reducible repeat (first | apply Kd.R_alloc | apply Kd.R_drewN | apply Kd.R_drew)); exact HO_10.out)); (case aS => exact (below_size (by repeat (first | (with_reducible first | exact HB.out | apply below_alloc | apply pw_below_drewN | apply below_drew1) | exact HB.out)))); (case aL => have := LMc36.out; omega); intro v114 w39 ho hb hg hat; rw [← Ny113.out] at ho; have n0_ := Aside0.mk (Kd.V_after (ok := (fun k_ => True)) (by (with_reducible repeat (first | apply Kd.V_alloc | apply Kd.V_drewN | apply Kd.V_drew)); exact Kd.V_mono HO_8.out (fun _ hk => ⟨trivial, hk⟩)) hg hat); have n1_ := Aside0.mk (Kd.R_after (ok := (fun k_ => True)) (by (with_reducible repeat (first | apply Kd.R_alloc | apply Kd.R_drewN | apply Kd.R_drew)); exact Kd.R_mono HO_58.out (fun _ hk => ⟨trivial, hk⟩)) hg hat); have n2_ := Aside0.mk (hb); have n3_ := Aside0.mk (ho); clear HO_8; clear HO_58; clear HB; clear HO_10; have HO_8 := n0_; have HO_58 := n1_; have HB := n2_; have HO115 := n3_; clear n0_ n1_ n2_ n3_; clear ho hb hg hat))
                                              obtain ⟨i, hi⟩ := Int.eq_ofNat_of_zero_le (of_decide_eq_true c34b0)
                                              have hE := A37.out
                                              unfold perm_erase at hE
                                              rw [hi] at hE
                                              have hEc : 0 ≤ (i : Int) ∧ (i : Int) < (x8_4.length : Int) ∧ x8_4.length ≤ 1000 := by
                                                refine Decidable.byContradiction fun h => ?_
                                                rw [if_neg h] at hE
                                                cases hE
                                              rw [if_pos hEc] at hE
                                              have hT := Aside0.mk (Option.some.inj hE)
                                              rw [Int.toNat_natCast] at hT
                                              clear hE
                                              have hlc := (Kd.V_reads' HO_8.out).2.1
                                              have hi1 : i < x8_4.length := by have := hEc.2.1; omega
                                              have hi2 := hEc.2.2
                                              clear hEc
                                              have hic : i ≤ co38 := by omega
                                              have hi3 : i + 1 ≤ x8_4.length := hi1
                                              have hlc2 : x8_4.length ≤ co38 := hlc
                                              have hw1 : IntKind.i64.wrap ((i : Int) + 1) = (i : Int) + 1 := wrap_small' i (by omega)
                                              have hw2 : ((i : Int) + 1).toNat = i + 1 := by omega
                                              have hw3 : (0 : Int) ≤ (i : Int) + 1 := by omega
                                              have hw4 : (i : Int) + 1 ≤ (x8_4.length : Int) := by omega
                                              rw [hi]
                                              go_region_law (refine step_erase rfl (.tmp 74) (.tmp 78) rfl ad112 co38 x8_4 i (Kd.V_drew HO_8.out) hi1 hi2 (by simp [Act.eval, Act.put]) (by simp [Act.eval, Act.put, Addr.add]) (fun k hk => ⟨trivial, fun e => absurd (Kd.R_lt HO115.out k e.symm) (Nat.not_lt.2 hk)⟩) ?_; intro v40 w40 hV40 hg40)
                                              rw [hT.out] at hV40
                                              have hb40 : Below w39.heap.size w39 w40 := ⟨hg40.os, hg40.tape, hg40.output, hg40.size, fun k hk => hg40.block k hk (by simp)⟩
                                              have n0_ := Aside0.mk (Kd.R_below HO_58.out hb40)
                                              have n1_ := Aside0.mk (Kd.R_below HO115.out hb40)
                                              have n2_ := Aside0.mk (below_step HB.out hb40)
                                              clear HO_58 HO115 HB HO_8
                                              have HO_58 := n0_; have HO115 := n1_; have HB := n2_
                                              clear n0_ n1_ n2_ hb40 hg40
                                              have HO118 := Aside0.mk hV40
                                              clear hV40
                                              go_simp
                                              go_wp2
                                              all_goals (
                                                go_roundg k4
                                                case measure => have := HJ2.out; have := HK2.out; have := HK3.out; have := HK4.out; omega
                                                case rel => exact ⟨(t116), (y113), (wrap64 (x60_4 + 1)), (by first | rfl | (simp; done) | (simp [*]; done)), H', ⟨by have := HJ2.out; have := HK2.out; have := HK3.out; have := HK4.out; omega⟩, ⟨by (try simp only [hl8_3]); exact Kd.V_mono HO118.out (fun _ hk => hk.2)⟩, ⟨by (try simp only [hl8_3]); (with_reducible repeat (first | apply Kd.R_alloc | apply Kd.R_drewN | apply Kd.R_drew)); exact Kd.R_mono HO115.out (fun _ hk => hk)⟩, ⟨by (try simp only [hl8_3]); (with_reducible repeat (first | apply Kd.R_alloc | apply Kd.R_drewN | apply Kd.R_drew)); exact Kd.R_mono HO_58.out (fun _ hk => hk.2)⟩, ⟨by repeat (first | (with_reducible first | exact HB.out | apply below_alloc | apply pw_below_drewN | apply below_drew1) | exact HB.out)⟩⟩)
                                            · rw [if_neg c36] at H
                                              exact absurd H (by simp)
                                          · rw [if_neg c35] at H
                                            exact absurd H (by simp)
                                        · rw [if_neg c34] at H
                                          exact absurd H (by simp)
                                      · rw [if_neg c33] at H
                                        exact absurd H (by simp)
                                    · rw [if_neg c32] at H
                                      exact absurd H (by simp)
                                  · rw [if_neg c31] at H
                                    have c31b0 : decide (x60_4 < (x6_2.length : Int)) = false := decide_eq_false c31
                                    clear c31
                                    simp only [Option.some.injEq, Prod.mk.injEq] at H
                                    obtain ⟨rfl, rfl⟩ := H
                                    go_wp2
                                    go_ret2
                                    exact ⟨_, by first | rfl | (simp [errW_none, errW_some] <;> rfl) | (simp [*, errW_none, errW_some] <;> rfl), by (with_reducible repeat (first | apply Kd.R_alloc | apply Kd.R_drewN | apply Kd.R_drew)); exact Kd.R_mono HO_10.out (fun _ hk => trivial), by repeat (first | (with_reducible first | exact HB.out | apply below_alloc | apply pw_below_drewN | apply below_drew1) | exact HB.out)⟩
                      · rw [if_neg c20] at H
                        exact absurd H (by simp)
                    · rw [if_neg c19] at H
                      exact absurd H (by simp)
          · rw [if_neg c8] at H
            exact absurd H (by simp)
        · rw [if_neg c7] at H
          exact absurd H (by simp)

end Go.Proofs.YtioppgeackgjnaaDoor.Bt
