-- written by a program of this session (wip/tools/mp.sh: a patched copy of the kit's printer)
import Derived.Test.YtioppgeackgjnaaDoorBt0
namespace Go.Proofs.YtioppgeackgjnaaDoor.Bt
open Go.RowKit Go.Proofs.YtioppgeackgjnaaDoorW.PrintWords Go.Proofs.YtioppgeackgjnaaDoorW.PrintLast Go.Proofs.YtioppgeackgjnaaDoorW.PrintMore
attribute [local go_sem] max2_int min2_int max_two min_two max_three min_three max_four min_four   -- for this text's walks alone
set_option linter.unusedVariables false
set_option linter.unusedSimpArgs false

/-! ### bits_RotateLeft64: function 78 -/
def bits_RotateLeft64.f (a0 : Int) (a1 : Int) : Option (Int) := if 0 ≤ (Go.bits .and .u64 (IntKind.u64.wrap (a1)) 63) then (if 0 ≤ (IntKind.u64.wrap (64 - (Go.bits .and .u64 (IntKind.u64.wrap (a1)) 63))) then (some (Go.bits .or .u64 (shl .u64 a0 (Go.bits .and .u64 (IntKind.u64.wrap (a1)) 63)) (shr .u64 a0 (IntKind.u64.wrap (64 - (Go.bits .and .u64 (IntKind.u64.wrap (a1)) 63)))))) else (none)) else (none)
set_option maxHeartbeats 8000000 in
set_option maxRecDepth 100000 in
theorem bits_RotateLeft64.calls (a0 : Int) (a1 : Int) (r : Int) (w : World) (h : bits_RotateLeft64.f a0 a1 = some r) :
    Calls Tryd.prog 78 #[.int .u64 a0, .int .i64 a1] w fun e w' => e = .returned (.int .u64 r) ∧ Drawn0 w w' := by
  have H : (if 0 ≤ (Go.bits .and .u64 (IntKind.u64.wrap (a1)) 63) then (if 0 ≤ (IntKind.u64.wrap (64 - (Go.bits .and .u64 (IntKind.u64.wrap (a1)) 63))) then (some (Go.bits .or .u64 (shl .u64 a0 (Go.bits .and .u64 (IntKind.u64.wrap (a1)) 63)) (shr .u64 a0 (IntKind.u64.wrap (64 - (Go.bits .and .u64 (IntKind.u64.wrap (a1)) 63)))))) else (none)) else (none)) = some r := h
  clear h
  obtain ⟨ji3, hji3⟩ : ∃ j_ : Int, (Go.bits .and .u64 (IntKind.u64.wrap (a1)) 63) = j_ := ⟨_, rfl⟩
  replace H : (if 0 ≤ (ji3) then (if 0 ≤ (IntKind.u64.wrap (64 - (ji3))) then (some (Go.bits .or .u64 (shl .u64 a0 (ji3)) (shr .u64 a0 (IntKind.u64.wrap (64 - (ji3)))))) else (none)) else (none)) = some r := by first | (rw [hji3] at H; exact H) | (simp only [hji3] at H ⊢; exact H)
  by_cases c4 : 0 ≤ (ji3)
  · rw [if_pos c4] at H
    have c4b0 := eq_true c4
    have c4b1 : decide (0 ≤ (ji3)) = true := decide_eq_true c4
    clear c4
    obtain ⟨ji5, hji5⟩ : ∃ j_ : Int, (shl .u64 a0 (ji3)) = j_ := ⟨_, rfl⟩
    replace H : (if 0 ≤ (IntKind.u64.wrap (64 - (ji3))) then (some (Go.bits .or .u64 (ji5) (shr .u64 a0 (IntKind.u64.wrap (64 - (ji3)))))) else (none)) = some r := by first | (rw [hji5] at H; exact H) | (simp only [hji5] at H ⊢; exact H)
    have hji5_ : (IntKind.u64.wrap (a0 * 2 ^ min (ji3).toNat 64)) = ji5 := hji5
    have hji5z : (ji3) ≤ 64 → (IntKind.u64.wrap (a0 * 2 ^ (ji3).toNat)) = ji5 := shl_small hji5
    obtain ⟨ji6, hji6⟩ : ∃ j_ : Int, (IntKind.u64.wrap (64 - (ji3))) = j_ := ⟨_, rfl⟩
    replace H : (if 0 ≤ (ji6) then (some (Go.bits .or .u64 (ji5) (shr .u64 a0 (ji6)))) else (none)) = some r := by first | (rw [hji6] at H; exact H) | (simp only [hji6] at H ⊢; exact H)
    by_cases c7 : 0 ≤ (ji6)
    · rw [if_pos c7] at H
      have c7b0 := eq_true c7
      have c7b1 : decide (0 ≤ (ji6)) = true := decide_eq_true c7
      clear c7
      obtain ⟨ji8, hji8⟩ : ∃ j_ : Int, (shr .u64 a0 (ji6)) = j_ := ⟨_, rfl⟩
      replace H : (some (Go.bits .or .u64 (ji5) (ji8))) = some r := by first | (rw [hji8] at H; exact H) | (simp only [hji8] at H ⊢; exact H)
      have hji8_ : (a0 / 2 ^ min (ji6).toNat 64) = ji8 := hji8
      have hji8z : (ji6) ≤ 64 → (a0 / 2 ^ (ji6).toNat) = ji8 := shr_small hji8
      obtain rfl := Option.some.inj H
      go_enter Tryd.func78, Tryd.ntmps78
      go_wp2
      go_ret
      exact ⟨by first | rfl | (simp; done) | (simp only [← hji3, ← hji5, ← hji6, ← hji8] <;> (first | rfl | simp)) | (simp [*]; done), by repeat (first | exact Drawn0.refl _ | apply Drawn0.step)⟩
    · rw [if_neg c7] at H
      exact absurd H (by simp)
  · rw [if_neg c4] at H
    exact absurd H (by simp)

/-! ### mixer_Step: function 64 -/
def mixer_Step.f (a0_0 : Int) (a0_1 : Int) (a0_2 : Int) (a0_3 : Int) : Option (Int × Int × Int × Int × Int) := (bits_RotateLeft64.f (IntKind.u64.wrap (a0_1 * 5)) 7).bind fun t392 => ((bits_RotateLeft64.f (Go.bits .xor .u64 a0_3 a0_1) 45).bind fun t393 => (some (IntKind.u64.wrap (t392 * 9), Go.bits .xor .u64 a0_0 (Go.bits .xor .u64 a0_3 a0_1), Go.bits .xor .u64 a0_1 (Go.bits .xor .u64 a0_2 a0_0), Go.bits .xor .u64 (Go.bits .xor .u64 a0_2 a0_0) (IntKind.u64.wrap (a0_1 * 131072)), t393)))
set_option maxHeartbeats 8000000 in
set_option maxRecDepth 100000 in
theorem mixer_Step.calls (a0_0 : Int) (a0_1 : Int) (a0_2 : Int) (a0_3 : Int) (r1 : Int) (r2 : Int) (r3 : Int) (r4 : Int) (r5 : Int) (w : World) (h : mixer_Step.f a0_0 a0_1 a0_2 a0_3 = some (r1, r2, r3, r4, r5)) :
    Calls Tryd.prog 64 #[.agg #[.int .u64 a0_0, .int .u64 a0_1, .int .u64 a0_2, .int .u64 a0_3]] w fun e w' => e = .returned (.tuple #[.int .u64 r1, .agg #[.int .u64 r2, .int .u64 r3, .int .u64 r4, .int .u64 r5]]) ∧ Below w.heap.size w w' := by
  have hu65 := Tryd.underlying65
  have HB := Aside0.mk (Below.refl w.heap.size w)
  have H : ((bits_RotateLeft64.f (IntKind.u64.wrap (a0_1 * 5)) 7).bind fun t392 => ((bits_RotateLeft64.f (Go.bits .xor .u64 a0_3 a0_1) 45).bind fun t393 => (some (IntKind.u64.wrap (t392 * 9), Go.bits .xor .u64 a0_0 (Go.bits .xor .u64 a0_3 a0_1), Go.bits .xor .u64 a0_1 (Go.bits .xor .u64 a0_2 a0_0), Go.bits .xor .u64 (Go.bits .xor .u64 a0_2 a0_0) (IntKind.u64.wrap (a0_1 * 131072)), t393)))) = some (r1, r2, r3, r4, r5) := h
  clear h
  replace H := Option.bind_eq_some_iff.mp H
  obtain ⟨t392, A20, H⟩ := H
  replace H : ((bits_RotateLeft64.f (Go.bits .xor .u64 a0_3 a0_1) 45).bind fun t393 => (some (IntKind.u64.wrap (t392 * 9), Go.bits .xor .u64 a0_0 (Go.bits .xor .u64 a0_3 a0_1), Go.bits .xor .u64 a0_1 (Go.bits .xor .u64 a0_2 a0_0), Go.bits .xor .u64 (Go.bits .xor .u64 a0_2 a0_0) (IntKind.u64.wrap (a0_1 * 131072)), t393))) = some (r1, r2, r3, r4, r5) := H
  have A2 := Aside0.mk A20
  clear A20
  replace H := Option.bind_eq_some_iff.mp H
  obtain ⟨t393, A30, H⟩ := H
  replace H : (some (IntKind.u64.wrap (t392 * 9), Go.bits .xor .u64 a0_0 (Go.bits .xor .u64 a0_3 a0_1), Go.bits .xor .u64 a0_1 (Go.bits .xor .u64 a0_2 a0_0), Go.bits .xor .u64 (Go.bits .xor .u64 a0_2 a0_0) (IntKind.u64.wrap (a0_1 * 131072)), t393)) = some (r1, r2, r3, r4, r5) := H
  have A3 := Aside0.mk A30
  clear A30
  simp only [Option.some.injEq, Prod.mk.injEq] at H
  obtain ⟨rfl, rfl, rfl, rfl, rfl⟩ := H
  go_enter Tryd.func64, Tryd.ntmps64
  try go_wp2_with (first | ((with_reducible refine gate_dst (N := 1) rfl ?_); refine box_event ?hg (N := 1) ?hd (cs := #[.int .u64 a0_0, .int .u64 a0_1, .int .u64 a0_2, .int .u64 a0_3]) (t := 65) ?hr ?_; (case hd => rfl); (case hg => rfl); (case hr => first | (go_simp; done) | (go_simp; rfl)); intro gb390 hg w4 hbox hb; have n0_ := Aside0.mk (below_step (by repeat (first | (with_reducible first | exact HB.out | apply below_alloc | apply pw_below_drewN | apply below_drew1) | exact HB.out)) hb); have n1_ := Aside0.mk (hbox); have n2_ := Aside0.mk ((by rw [hg]; exact (below_size (by repeat (first | (with_reducible first | exact HB.out | apply below_alloc | apply pw_below_drewN | apply below_drew1) | exact HB.out))) : w.heap.size ≤ gb390)); have n3_ := Aside0.mk ((by rw [hg]; exact (below_size (by repeat (first | (with_reducible first | exact HB.out | apply below_alloc | apply pw_below_drewN | apply below_drew1) | exact HB.out))) : w.heap.size ≤ gb390)); clear HB; have HB := n0_; have BK390 := n1_; have GW390 := n2_; have GE390 := n3_; clear n0_ n1_ n2_ n3_; clear hb hbox hg) | ((with_reducible refine gate_dst (N := 3) rfl ?_); refine box_event ?hg (N := 3) ?hd (cs := #[.int .u64 0, .int .u64 0, .int .u64 0, .int .u64 0]) (t := 65) ?hr ?_; (case hd => rfl); (case hg => rfl); (case hr => first | (go_simp; done) | (go_simp; rfl)); intro gb391 hg w5 hbox hb; have n0_ := Aside0.mk (blk_below (g := gb390) (o := .cells #[.int .u64 a0_0, .int .u64 a0_1, .int .u64 a0_2, .int .u64 a0_3] 65 (0, 0)) (by (with_reducible repeat (first | refine blk_drewN ?_ _ | refine blk_drew ?_ | refine blk_alloc ?_ _)); exact BK390.out) hb); have n1_ := Aside0.mk (below_step (by repeat (first | (with_reducible first | exact HB.out | apply below_alloc | apply pw_below_drewN | apply below_drew1 | refine below_set ?_ GE390.out) | exact HB.out)) hb); have n2_ := Aside0.mk (hbox); have n3_ := Aside0.mk ((by rw [hg]; exact (below_size (by repeat (first | (with_reducible first | exact HB.out | apply below_alloc | apply pw_below_drewN | apply below_drew1 | refine below_set ?_ GE390.out) | exact HB.out))) : w.heap.size ≤ gb391)); have n4_ := Aside0.mk ((by rw [hg]; exact (below_size (by repeat (first | (with_reducible first | exact HB.out | apply below_alloc | apply pw_below_drewN | apply below_drew1 | refine below_set ?_ GE390.out) | exact HB.out))) : w.heap.size ≤ gb391)); have n5_ := Aside0.mk ((by rw [hg]; exact Nat.ne_of_lt (blk_lt (g := gb390) (o := .cells #[.int .u64 a0_0, .int .u64 a0_1, .int .u64 a0_2, .int .u64 a0_3] 65 (0, 0)) (by (with_reducible repeat (first | refine blk_drewN ?_ _ | refine blk_drew ?_ | refine blk_alloc ?_ _)); exact BK390.out)) : gb390 ≠ gb391)); have n6_ := Aside0.mk ((by rw [hg]; exact Nat.ne_of_gt (blk_lt (g := gb390) (o := .cells #[.int .u64 a0_0, .int .u64 a0_1, .int .u64 a0_2, .int .u64 a0_3] 65 (0, 0)) (by (with_reducible repeat (first | refine blk_drewN ?_ _ | refine blk_drew ?_ | refine blk_alloc ?_ _)); exact BK390.out)) : gb391 ≠ gb390)); clear BK390; clear HB; have BK390 := n0_; have HB := n1_; have BK391 := n2_; have GW391 := n3_; have GE391 := n4_; have NB390_391 := n5_; have NB391_390 := n6_; clear n0_ n1_ n2_ n3_ n4_ n5_ n6_; clear hb hbox hg; have hnb6 := NB390_391.out; have hnc6 := NB391_390.out; have hcz7_0 : w5.cell? ⟨gb390, 0, none⟩ = some (.int .u64 a0_0) := (blk_cell BK390.out 0).trans rfl; have hcz7_1 : w5.cell? ⟨gb390, 1, none⟩ = some (.int .u64 a0_1) := (blk_cell BK390.out 1).trans rfl; have hcz7_2 : w5.cell? ⟨gb390, 2, none⟩ = some (.int .u64 a0_2) := (blk_cell BK390.out 2).trans rfl; have hcz7_3 : w5.cell? ⟨gb390, 3, none⟩ = some (.int .u64 a0_3) := (blk_cell BK390.out 3).trans rfl; have hfz7_0 := blk_frozen BK390.out 0; have hfz7_1 := blk_frozen BK390.out 1; have hfz7_2 := blk_frozen BK390.out 2; have hfz7_3 := blk_frozen BK390.out 3) | ((with_reducible refine gate_callee (f := 78) rfl ?_); refine goesL_ (some 9) rfl rfl Tryd.func78 (by kernel_rfl) rfl #[.int .u64 (IntKind.u64.wrap (a0_1 * 5)), .int .i64 7] rfl (by (try simp only [List.map_toArray, List.map_cons, List.map_nil]); first | done | rfl | (simp only [List.length_drop, List.length_take]; rfl)) ?_; (with_reducible refine (bits_RotateLeft64.calls (IntKind.u64.wrap (a0_1 * 5)) 7 t392 _ A2.out).mono ?_); rintro e w' ⟨rfl, ⟨nd, rfl⟩⟩; refine ⟨_, rfl, ?_⟩; (try (rw [drewN_self w5]; generalize hq_ : World.drewN w5 _ = w5; have n0_ : Aside0 (w5.heap[gb390]? = some (.cells #[.int .u64 a0_0, .int .u64 a0_1, .int .u64 a0_2, .int .u64 a0_3] 65 (0, 0))) := ⟨by rw [← hq_]; exact (by (with_reducible repeat (first | refine blk_drewN ?_ _ | refine blk_drew ?_ | refine blk_alloc ?_ _)); exact BK390.out)⟩; have n1_ : Aside0 (w5.heap[gb391]? = some (.cells #[.int .u64 0, .int .u64 0, .int .u64 0, .int .u64 0] 65 (0, 0))) := ⟨by rw [← hq_]; exact (by (with_reducible repeat (first | refine blk_drewN ?_ _ | refine blk_drew ?_ | refine blk_alloc ?_ _)); exact BK391.out)⟩; have n2_ : Aside0 (Below w.heap.size w w5) := ⟨by rw [← hq_]; exact (by repeat (first | (with_reducible first | exact HB.out | apply below_alloc | apply pw_below_drewN | apply below_drew1 | refine below_set ?_ GE390.out | refine below_set ?_ GE391.out) | exact HB.out))⟩; clear BK390 BK391 HB hq_; have BK390 := n0_; have BK391 := n1_; have HB := n2_; clear n0_ n1_ n2_; have hd0 : w5.cell? ⟨gb390, 0, none⟩ = some (.int .u64 a0_0) := (blk_cell BK390.out 0).trans rfl; have he0 := blk_frozen BK390.out 0; have hd1 : w5.cell? ⟨gb390, 1, none⟩ = some (.int .u64 a0_1) := (blk_cell BK390.out 1).trans rfl; have he1 := blk_frozen BK390.out 1; have hd2 : w5.cell? ⟨gb390, 2, none⟩ = some (.int .u64 a0_2) := (blk_cell BK390.out 2).trans rfl; have he2 := blk_frozen BK390.out 2; have hd3 : w5.cell? ⟨gb390, 3, none⟩ = some (.int .u64 a0_3) := (blk_cell BK390.out 3).trans rfl; have he3 := blk_frozen BK390.out 3))) | ((with_reducible refine gate_callee (f := 78) rfl ?_); refine goesL_ (some 45) rfl rfl Tryd.func78 (by kernel_rfl) rfl #[.int .u64 (Go.bits .xor .u64 a0_3 a0_1), .int .i64 45] rfl (by (try simp only [List.map_toArray, List.map_cons, List.map_nil]); first | done | rfl | (simp only [List.length_drop, List.length_take]; rfl)) ?_; (with_reducible refine (bits_RotateLeft64.calls (Go.bits .xor .u64 a0_3 a0_1) 45 t393 _ A3.out).mono ?_); rintro e w' ⟨rfl, ⟨nd, rfl⟩⟩; refine ⟨_, rfl, ?_⟩))
  have n0_ : Aside0 ((((((((w5.setCell ⟨gb390, 2, none⟩ (.int .u64 (Go.bits .xor .u64 a0_2 a0_0))).setCell ⟨gb390, 3, none⟩ (.int .u64 (Go.bits .xor .u64 a0_3 a0_1))).setCell ⟨gb390, 1, none⟩ (.int .u64 (Go.bits .xor .u64 a0_1 (Go.bits .xor .u64 a0_2 a0_0)))).setCell ⟨gb390, 0, none⟩ (.int .u64 (Go.bits .xor .u64 a0_0 (Go.bits .xor .u64 a0_3 a0_1)))).setCell ⟨gb390, 2, none⟩ (.int .u64 (Go.bits .xor .u64 (Go.bits .xor .u64 a0_2 a0_0) (IntKind.u64.wrap (a0_1 * 131072))))).drewN nd).setCell ⟨gb390, 3, none⟩ (.int .u64 t393)).heap[gb390]? = some (.cells #[.int .u64 (Go.bits .xor .u64 a0_0 (Go.bits .xor .u64 a0_3 a0_1)), .int .u64 (Go.bits .xor .u64 a0_1 (Go.bits .xor .u64 a0_2 a0_0)), .int .u64 (Go.bits .xor .u64 (Go.bits .xor .u64 a0_2 a0_0) (IntKind.u64.wrap (a0_1 * 131072))), .int .u64 t393] 65 (0, 0))) := ⟨by (with_reducible repeat (first | refine blk_drewN ?_ _ | refine blk_drew ?_ | refine blk_alloc ?_ _)); refine blk_put (cs := #[.int .u64 (Go.bits .xor .u64 a0_0 (Go.bits .xor .u64 a0_3 a0_1)), .int .u64 (Go.bits .xor .u64 a0_1 (Go.bits .xor .u64 a0_2 a0_0)), .int .u64 (Go.bits .xor .u64 (Go.bits .xor .u64 a0_2 a0_0) (IntKind.u64.wrap (a0_1 * 131072))), .int .u64 (Go.bits .xor .u64 a0_3 a0_1)]) ?_ 3 _ rfl; (with_reducible repeat (first | refine blk_drewN ?_ _ | refine blk_drew ?_ | refine blk_alloc ?_ _)); refine blk_put (cs := #[.int .u64 (Go.bits .xor .u64 a0_0 (Go.bits .xor .u64 a0_3 a0_1)), .int .u64 (Go.bits .xor .u64 a0_1 (Go.bits .xor .u64 a0_2 a0_0)), .int .u64 (Go.bits .xor .u64 a0_2 a0_0), .int .u64 (Go.bits .xor .u64 a0_3 a0_1)]) ?_ 2 _ rfl; (with_reducible repeat (first | refine blk_drewN ?_ _ | refine blk_drew ?_ | refine blk_alloc ?_ _)); refine blk_put (cs := #[.int .u64 a0_0, .int .u64 (Go.bits .xor .u64 a0_1 (Go.bits .xor .u64 a0_2 a0_0)), .int .u64 (Go.bits .xor .u64 a0_2 a0_0), .int .u64 (Go.bits .xor .u64 a0_3 a0_1)]) ?_ 0 _ rfl; (with_reducible repeat (first | refine blk_drewN ?_ _ | refine blk_drew ?_ | refine blk_alloc ?_ _)); refine blk_put (cs := #[.int .u64 a0_0, .int .u64 a0_1, .int .u64 (Go.bits .xor .u64 a0_2 a0_0), .int .u64 (Go.bits .xor .u64 a0_3 a0_1)]) ?_ 1 _ rfl; (with_reducible repeat (first | refine blk_drewN ?_ _ | refine blk_drew ?_ | refine blk_alloc ?_ _)); refine blk_put (cs := #[.int .u64 a0_0, .int .u64 a0_1, .int .u64 (Go.bits .xor .u64 a0_2 a0_0), .int .u64 a0_3]) ?_ 3 _ rfl; (with_reducible repeat (first | refine blk_drewN ?_ _ | refine blk_drew ?_ | refine blk_alloc ?_ _)); refine blk_put (cs := #[.int .u64 a0_0, .int .u64 a0_1, .int .u64 a0_2, .int .u64 a0_3]) ?_ 2 _ rfl; (with_reducible repeat (first | refine blk_drewN ?_ _ | refine blk_drew ?_ | refine blk_alloc ?_ _)); exact BK390.out⟩
  have n1_ : Aside0 ((((((((w5.setCell ⟨gb390, 2, none⟩ (.int .u64 (Go.bits .xor .u64 a0_2 a0_0))).setCell ⟨gb390, 3, none⟩ (.int .u64 (Go.bits .xor .u64 a0_3 a0_1))).setCell ⟨gb390, 1, none⟩ (.int .u64 (Go.bits .xor .u64 a0_1 (Go.bits .xor .u64 a0_2 a0_0)))).setCell ⟨gb390, 0, none⟩ (.int .u64 (Go.bits .xor .u64 a0_0 (Go.bits .xor .u64 a0_3 a0_1)))).setCell ⟨gb390, 2, none⟩ (.int .u64 (Go.bits .xor .u64 (Go.bits .xor .u64 a0_2 a0_0) (IntKind.u64.wrap (a0_1 * 131072))))).drewN nd).setCell ⟨gb390, 3, none⟩ (.int .u64 t393)).heap[gb391]? = some (.cells #[.int .u64 0, .int .u64 0, .int .u64 0, .int .u64 0] 65 (0, 0))) := ⟨by (with_reducible repeat (first | refine blk_drewN ?_ _ | refine blk_drew ?_ | refine blk_alloc ?_ _)); refine blk_far ?_ NB391_390.out _; (with_reducible repeat (first | refine blk_drewN ?_ _ | refine blk_drew ?_ | refine blk_alloc ?_ _)); refine blk_far ?_ NB391_390.out _; (with_reducible repeat (first | refine blk_drewN ?_ _ | refine blk_drew ?_ | refine blk_alloc ?_ _)); refine blk_far ?_ NB391_390.out _; (with_reducible repeat (first | refine blk_drewN ?_ _ | refine blk_drew ?_ | refine blk_alloc ?_ _)); refine blk_far ?_ NB391_390.out _; (with_reducible repeat (first | refine blk_drewN ?_ _ | refine blk_drew ?_ | refine blk_alloc ?_ _)); refine blk_far ?_ NB391_390.out _; (with_reducible repeat (first | refine blk_drewN ?_ _ | refine blk_drew ?_ | refine blk_alloc ?_ _)); refine blk_far ?_ NB391_390.out _; (with_reducible repeat (first | refine blk_drewN ?_ _ | refine blk_drew ?_ | refine blk_alloc ?_ _)); exact BK391.out⟩
  have n2_ : Aside0 (Below w.heap.size w (((((((w5.setCell ⟨gb390, 2, none⟩ (.int .u64 (Go.bits .xor .u64 a0_2 a0_0))).setCell ⟨gb390, 3, none⟩ (.int .u64 (Go.bits .xor .u64 a0_3 a0_1))).setCell ⟨gb390, 1, none⟩ (.int .u64 (Go.bits .xor .u64 a0_1 (Go.bits .xor .u64 a0_2 a0_0)))).setCell ⟨gb390, 0, none⟩ (.int .u64 (Go.bits .xor .u64 a0_0 (Go.bits .xor .u64 a0_3 a0_1)))).setCell ⟨gb390, 2, none⟩ (.int .u64 (Go.bits .xor .u64 (Go.bits .xor .u64 a0_2 a0_0) (IntKind.u64.wrap (a0_1 * 131072))))).drewN nd).setCell ⟨gb390, 3, none⟩ (.int .u64 t393))) := ⟨by repeat (first | (with_reducible first | exact HB.out | apply below_alloc | apply pw_below_drewN | apply below_drew1 | refine below_set ?_ GE390.out | refine below_set ?_ GE391.out) | exact HB.out)⟩
  (try clear BK390)
  (try clear BK391)
  (try clear HB)
  generalize (((((((w5.setCell ⟨gb390, 2, none⟩ (.int .u64 (Go.bits .xor .u64 a0_2 a0_0))).setCell ⟨gb390, 3, none⟩ (.int .u64 (Go.bits .xor .u64 a0_3 a0_1))).setCell ⟨gb390, 1, none⟩ (.int .u64 (Go.bits .xor .u64 a0_1 (Go.bits .xor .u64 a0_2 a0_0)))).setCell ⟨gb390, 0, none⟩ (.int .u64 (Go.bits .xor .u64 a0_0 (Go.bits .xor .u64 a0_3 a0_1)))).setCell ⟨gb390, 2, none⟩ (.int .u64 (Go.bits .xor .u64 (Go.bits .xor .u64 a0_2 a0_0) (IntKind.u64.wrap (a0_1 * 131072))))).drewN nd).setCell ⟨gb390, 3, none⟩ (.int .u64 t393)) = w8 at n0_ n1_ n2_ ⊢
  have BK390 := n0_
  have BK391 := n1_
  have HB := n2_
  clear n0_ n1_ n2_
  (try (rw [drewN_self w8]; generalize hq_ : World.drewN w8 _ = w8; have n0_ : Aside0 (w8.heap[gb390]? = some (.cells #[.int .u64 (Go.bits .xor .u64 a0_0 (Go.bits .xor .u64 a0_3 a0_1)), .int .u64 (Go.bits .xor .u64 a0_1 (Go.bits .xor .u64 a0_2 a0_0)), .int .u64 (Go.bits .xor .u64 (Go.bits .xor .u64 a0_2 a0_0) (IntKind.u64.wrap (a0_1 * 131072))), .int .u64 t393] 65 (0, 0))) := ⟨by rw [← hq_]; exact (by (with_reducible repeat (first | refine blk_drewN ?_ _ | refine blk_drew ?_ | refine blk_alloc ?_ _)); exact BK390.out)⟩; have n1_ : Aside0 (w8.heap[gb391]? = some (.cells #[.int .u64 0, .int .u64 0, .int .u64 0, .int .u64 0] 65 (0, 0))) := ⟨by rw [← hq_]; exact (by (with_reducible repeat (first | refine blk_drewN ?_ _ | refine blk_drew ?_ | refine blk_alloc ?_ _)); exact BK391.out)⟩; have n2_ : Aside0 (Below w.heap.size w w8) := ⟨by rw [← hq_]; exact (by repeat (first | (with_reducible first | exact HB.out | apply below_alloc | apply pw_below_drewN | apply below_drew1 | refine below_set ?_ GE390.out | refine below_set ?_ GE391.out) | exact HB.out))⟩; clear BK390 BK391 HB hq_; have BK390 := n0_; have BK391 := n1_; have HB := n2_; clear n0_ n1_ n2_))
  have n0_ := Aside0.mk (blk_drew BK390.out)
  have n1_ := Aside0.mk (blk_drew BK391.out)
  have n2_ := Aside0.mk (below_drew1 HB.out)
  clear BK390
  clear BK391
  clear HB
  have BK390 := n0_
  have BK391 := n1_
  have HB := n2_
  clear n0_ n1_ n2_
  refine start_ (n := 4) (S := fun w' => w'.cell? ⟨gb390, 0, none⟩ = some (.int .u64 (Go.bits .xor .u64 a0_0 (Go.bits .xor .u64 a0_3 a0_1))) ∧ w'.cell? ⟨gb390, 1, none⟩ = some (.int .u64 (Go.bits .xor .u64 a0_1 (Go.bits .xor .u64 a0_2 a0_0))) ∧ w'.cell? ⟨gb390, 2, none⟩ = some (.int .u64 (Go.bits .xor .u64 (Go.bits .xor .u64 a0_2 a0_0) (IntKind.u64.wrap (a0_1 * 131072)))) ∧ w'.cell? ⟨gb390, 3, none⟩ = some (.int .u64 t393)) (ds := []) #[false, false, false, false] (by kernel_rfl) rfl rfl ⟨(blk_cell BK390.out 0).trans rfl, (blk_cell BK390.out 1).trans rfl, (blk_cell BK390.out 2).trans rfl, (blk_cell BK390.out 3).trans rfl⟩ (fun hHeld => ?_)
  generalize w8.drew = w9 at BK390 BK391 HB hHeld ⊢
  refine pure_ (i := 0) (N := some 47) (v := ?_) (a' := ?_) #[true, false, false, false] rfl rfl (by kernel_rfl) (fun _ _ _ h => h) (Or.inl ⟨by rfl, ?_⟩) ?_ ?_
  rotate_left
  · intro w'
    go_simp
    with_reducible rfl
  rotate_left
  · simp only [Act.put, List.setIfInBounds_toArray, List.set_cons_zero, List.set_cons_succ, i64_w, i32_w]
    rfl
  refine pure_ (i := 2) (N := some 2) (v := ?_) (a' := ?_) #[true, false, true, false] rfl rfl (by kernel_rfl) (fun _ _ _ h => h) (Or.inl ⟨by rfl, ?_⟩) ?_ ?_
  rotate_left
  · intro w'
    go_simp
    with_reducible rfl
  rotate_left
  · simp only [Act.put, List.setIfInBounds_toArray, List.set_cons_zero, List.set_cons_succ, i64_w, i32_w]
    rfl
  refine take_ (i := 1) (N := some 48) (v := ?_) (a' := ?_) #[true, true, true, false] rfl rfl (by kernel_rfl) (fun _ _ _ h => h) (Or.inl ⟨by rfl, ?_⟩) hHeld ?_ ?_
  rotate_left
  · rintro w' ⟨s0, s1, s2, s3⟩
    go_simp
    with_reducible rfl
  rotate_left
  · simp only [Act.put, List.setIfInBounds_toArray, List.set_cons_zero, List.set_cons_succ, i64_w, i32_w]
    rfl
  refine one_ (i := 3) (N := none) #[true, true, true, true] rfl rfl (by kernel_rfl) (by decide) (fun K hK => ?_)
  have hs10 : w9.cell? ⟨gb391, 0, none⟩ = some (.int .u64 0) := (blk_cell BK391.out 0).trans rfl
  have hfs10 := blk_frozen BK391.out 0
  have hns10_0 := NB390_391.out
  have hms10_0 := NB391_390.out
  have hs11 : w9.cell? ⟨gb391, 1, none⟩ = some (.int .u64 0) := (blk_cell BK391.out 1).trans rfl
  have hfs11 := blk_frozen BK391.out 1
  have hns11_0 := NB390_391.out
  have hms11_0 := NB391_390.out
  have hs12 : w9.cell? ⟨gb391, 2, none⟩ = some (.int .u64 0) := (blk_cell BK391.out 2).trans rfl
  have hfs12 := blk_frozen BK391.out 2
  have hns12_0 := NB390_391.out
  have hms12_0 := NB391_390.out
  have hs13 : w9.cell? ⟨gb391, 3, none⟩ = some (.int .u64 0) := (blk_cell BK391.out 3).trans rfl
  have hfs13 := blk_frozen BK391.out 3
  have hns13_0 := NB390_391.out
  have hms13_0 := NB391_390.out
  refine skip_ (w1 := ?_) (by rfl) rfl ?_ ?_
  rotate_left
  · go_simp
    rfl
  refine hK.out _ _ ⟨((cell_far (p := ⟨gb391, _, none⟩) NB390_391.out _).trans (((cell_far (p := ⟨gb391, _, none⟩) NB390_391.out _).trans (((cell_far (p := ⟨gb391, _, none⟩) NB390_391.out _).trans (((cell_far (p := ⟨gb391, _, none⟩) NB390_391.out _).trans (hHeld.1)))))))), ((cell_far (p := ⟨gb391, _, none⟩) NB390_391.out _).trans (((cell_far (p := ⟨gb391, _, none⟩) NB390_391.out _).trans (((cell_far (p := ⟨gb391, _, none⟩) NB390_391.out _).trans (((cell_far (p := ⟨gb391, _, none⟩) NB390_391.out _).trans (hHeld.2.1)))))))), ((cell_far (p := ⟨gb391, _, none⟩) NB390_391.out _).trans (((cell_far (p := ⟨gb391, _, none⟩) NB390_391.out _).trans (((cell_far (p := ⟨gb391, _, none⟩) NB390_391.out _).trans (((cell_far (p := ⟨gb391, _, none⟩) NB390_391.out _).trans (hHeld.2.2.1)))))))), ((cell_far (p := ⟨gb391, _, none⟩) NB390_391.out _).trans (((cell_far (p := ⟨gb391, _, none⟩) NB390_391.out _).trans (((cell_far (p := ⟨gb391, _, none⟩) NB390_391.out _).trans (((cell_far (p := ⟨gb391, _, none⟩) NB390_391.out _).trans (hHeld.2.2.2))))))))⟩ (fun hHeld => ?_)
  clear hK K
  refine done_ (by kernel_rfl) ?_
  try go_wp2
  refine bodyPost_ret (results_tc rfl _ _ gb391 65 #[.int .u64 (Go.bits .xor .u64 a0_0 (Go.bits .xor .u64 a0_3 a0_1)), .int .u64 (Go.bits .xor .u64 a0_1 (Go.bits .xor .u64 a0_2 a0_0)), .int .u64 (Go.bits .xor .u64 (Go.bits .xor .u64 a0_2 a0_0) (IntKind.u64.wrap (a0_1 * 131072))), .int .u64 t393] (0, 0) _ rfl (by (with_reducible repeat (first | refine blk_drewN ?_ _ | refine blk_drew ?_ | refine blk_alloc ?_ _)); refine blk_put (cs := #[.int .u64 (Go.bits .xor .u64 a0_0 (Go.bits .xor .u64 a0_3 a0_1)), .int .u64 (Go.bits .xor .u64 a0_1 (Go.bits .xor .u64 a0_2 a0_0)), .int .u64 (Go.bits .xor .u64 (Go.bits .xor .u64 a0_2 a0_0) (IntKind.u64.wrap (a0_1 * 131072))), .int .u64 0]) ?_ 3 _ rfl; (with_reducible repeat (first | refine blk_drewN ?_ _ | refine blk_drew ?_ | refine blk_alloc ?_ _)); refine blk_put (cs := #[.int .u64 (Go.bits .xor .u64 a0_0 (Go.bits .xor .u64 a0_3 a0_1)), .int .u64 (Go.bits .xor .u64 a0_1 (Go.bits .xor .u64 a0_2 a0_0)), .int .u64 0, .int .u64 0]) ?_ 2 _ rfl; (with_reducible repeat (first | refine blk_drewN ?_ _ | refine blk_drew ?_ | refine blk_alloc ?_ _)); refine blk_put (cs := #[.int .u64 (Go.bits .xor .u64 a0_0 (Go.bits .xor .u64 a0_3 a0_1)), .int .u64 0, .int .u64 0, .int .u64 0]) ?_ 1 _ rfl; (with_reducible repeat (first | refine blk_drewN ?_ _ | refine blk_drew ?_ | refine blk_alloc ?_ _)); refine blk_put (cs := #[.int .u64 0, .int .u64 0, .int .u64 0, .int .u64 0]) ?_ 0 _ rfl; (with_reducible repeat (first | refine blk_drewN ?_ _ | refine blk_drew ?_ | refine blk_alloc ?_ _)); exact BK391.out) Tryd.underlying65 rfl (by kernel_rfl)) rfl ?_
  exact ⟨by first | rfl | (simp [errW_none, errW_some] <;> rfl) | (simp [*, errW_none, errW_some] <;> rfl), by repeat (first | (with_reducible first | exact HB.out | apply below_alloc | apply pw_below_drewN | apply below_drew1 | refine below_set ?_ GE390.out | refine below_set ?_ GE391.out) | exact HB.out)⟩

end Go.Proofs.YtioppgeackgjnaaDoor.Bt
