-- written by a program of this session (wip/s5/mkseed.py)
/- mixer.Seed: four mixes. -/
import Derived.Test.YtioppgeackgjnaaDoorBt245
namespace Go.Proofs.YtioppgeackgjnaaDoor.Bt
open Go.RowKit Go.Proofs.YtioppgeackgjnaaDoorW.PrintWords Go.Proofs.YtioppgeackgjnaaDoorW.PrintLast Go.Proofs.YtioppgeackgjnaaDoorW.PrintMore
set_option linter.unusedVariables false
set_option linter.unusedSimpArgs false
def seedN (a : Int) : Nat → Int
  | 0 => a
  | i + 1 => IntKind.u64.wrap (seedN a i + 11400714819323198485)
def mixN (a : Int) (i : Nat) : Int := (bottom_Mix.f (seedN a i)).getD 0
theorem mixN_some (a : Int) (i : Nat) : bottom_Mix.f (seedN a i) = some (mixN a i) := rfl
def mixer_Seed.f (a : Int) : Option (Int × Int × Int × Int) := some (mixN a 1, mixN a 2, mixN a 3, mixN a 4)
def mixAt (a : Int) : Nat → Array Value
  | 0 => #[.int .u64 0, .int .u64 0, .int .u64 0, .int .u64 0]
  | 1 => #[.int .u64 (mixN a 1), .int .u64 0, .int .u64 0, .int .u64 0]
  | 2 => #[.int .u64 (mixN a 1), .int .u64 (mixN a 2), .int .u64 0, .int .u64 0]
  | 3 => #[.int .u64 (mixN a 1), .int .u64 (mixN a 2), .int .u64 (mixN a 3), .int .u64 0]
  | 4 => #[.int .u64 (mixN a 1), .int .u64 (mixN a 2), .int .u64 (mixN a 3), .int .u64 (mixN a 4)]
  | _ => #[]
set_option maxHeartbeats 8000000 in
set_option maxRecDepth 100000 in
theorem mixer_Seed.calls (a : Int) (r0 r1 r2 r3 : Int) (w : World) (h : mixer_Seed.f a = some (r0, r1, r2, r3)) :
    Calls Tryd.prog 33 #[.int .u64 a] w fun e w' => e = .returned (.agg #[.int .u64 r0, .int .u64 r1, .int .u64 r2, .int .u64 r3]) ∧ Below w.heap.size w w' := by
  have hu65 := Tryd.underlying65
  have HB := Aside0.mk (Below.refl w.heap.size w)
  simp only [mixer_Seed.f, Option.some.injEq, Prod.mk.injEq] at h
  obtain ⟨rfl, rfl, rfl, rfl⟩ := h
  go_enter Tryd.func33, Tryd.ntmps33
  go_wp2_with (first | ((with_reducible refine gate_dst (N := 2) rfl ?_); refine box_event ?hg (N := 2) ?hd (cs := #[.int .u64 0, .int .u64 0, .int .u64 0, .int .u64 0]) (t := 65) ?hr ?_; (case hd => rfl); (case hg => rfl); (case hr => first | (go_simp; done) | (go_simp; rfl)); intro gb2 hg w2 hbox hb; have n0_ := Aside0.mk (below_step (by repeat (first | (with_reducible first | exact HB.out | apply below_alloc | apply pw_below_drewN | apply below_drew1) | exact HB.out)) hb); have GE2 := Aside0.mk ((by rw [hg]; exact (below_size (by repeat (first | (with_reducible first | exact HB.out | apply below_alloc | apply pw_below_drewN | apply below_drew1) | exact HB.out)))) : w.heap.size ≤ gb2); clear HB; have HB := n0_; have BK2 := Aside0.mk hbox; clear n0_ hb hbox hg) | ((with_reducible refine gate_dst (N := 3) rfl ?_); refine box_event ?hg (N := 3) ?hd (cs := #[.int .u64 0, .int .u64 0, .int .u64 0, .int .u64 0]) (t := 65) ?hr ?_; (case hd => rfl); (case hg => rfl); (case hr => first | (go_simp; done) | (go_simp; rfl)); intro gb3 hg w3 hbox hb; have NE := Aside0.mk (show gb2 ≠ gb3 from by rw [hg]; exact Nat.ne_of_lt (blk_lt (by exact BK2.out))); have n2_ := Aside0.mk (blk_below (g := gb2) (o := .cells #[.int .u64 0, .int .u64 0, .int .u64 0, .int .u64 0] 65 (0, 0)) (by (with_reducible repeat (first | refine blk_drewN ?_ _ | refine blk_drew ?_ | refine blk_alloc ?_ _)); exact BK2.out) hb); clear BK2; have BK2 := n2_; clear n2_; have n0_ := Aside0.mk (below_step (by repeat (first | (with_reducible first | exact HB.out | apply below_alloc | apply pw_below_drewN | apply below_drew1) | exact HB.out)) hb); have GE3 := Aside0.mk ((by rw [hg]; exact (below_size (by repeat (first | (with_reducible first | exact HB.out | apply below_alloc | apply pw_below_drewN | apply below_drew1) | exact HB.out)))) : w.heap.size ≤ gb3); clear HB; have HB := n0_; have BK3 := Aside0.mk hbox; clear n0_ hb hbox hg))
  go_loopg [0, 5] 5 (fun kq v0 v5 w' => ∃ (i : Nat) (s : Int), kq = 5 - i ∧ i ≤ 4 ∧ s = seedN a i ∧ v0 = .int .u64 s ∧ v5 = .int .i64 (i : Int) ∧ Aside0 (w'.heap[gb3]? = some (.cells (mixAt a i) 65 (0, 0))) ∧ Aside0 (w'.heap[gb2]? = some (.cells #[.int .u64 0, .int .u64 0, .int .u64 0, .int .u64 0] 65 (0, 0))) ∧ Aside0 (Below w.heap.size w w'))
  case atStart => exact ⟨0, a, rfl, by omega, rfl, rfl, rfl, ⟨(by (with_reducible repeat (first | refine blk_drewN ?_ _ | refine blk_drew ?_ | refine blk_alloc ?_ _)); exact BK3.out)⟩, ⟨(by (with_reducible repeat (first | refine blk_drewN ?_ _ | refine blk_drew ?_ | refine blk_alloc ?_ _)); exact BK2.out)⟩, ⟨(by repeat (first | (with_reducible first | exact HB.out | apply below_alloc | apply pw_below_drewN | apply below_drew1 | refine below_set ?_ GE3.out | refine below_set ?_ GE2.out) | exact HB.out))⟩⟩
  case round =>
    obtain ⟨i, s, hkq, hi, hs, rfl, rfl, BK3, BK2, HB⟩ := hrel
    have hi5 : i = 0 ∨ i = 1 ∨ i = 2 ∨ i = 3 ∨ i = 4 := by omega
    rcases hi5 with rfl | rfl | rfl | rfl | rfl
    · replace BK3 := Aside0.mk (BK3.out.trans (show some (Obj.cells (mixAt a 0) 65 (0, 0)) = some (Obj.cells #[.int .u64 0, .int .u64 0, .int .u64 0, .int .u64 0] 65 (0, 0)) from rfl))
      have A1 : Aside0 (bottom_Mix.f (IntKind.u64.wrap (s + 11400714819323198485)) = some (mixN a 1)) := ⟨by rw [hs]; rfl⟩
      have HS := Aside0.mk hs
      clear hs
      have hc := (blk_cell BK3.out 0).trans rfl
      have hf := blk_frozen BK3.out 0
      have hsz := blk_lt BK3.out
      go_wp2_with (first | (go_at_call 56; (with_reducible refine (bottom_Mix.calls _ (mixN a 1) _ A1.out).mono ?_); rintro e w' ⟨rfl, ⟨nd, rfl⟩⟩))
      go_roundg (4 - 0)
      case measure => omega
      case rel => exact ⟨1, IntKind.u64.wrap (s + 11400714819323198485), rfl, by omega, by rw [HS.out]; rfl, rfl, rfl, ⟨by (with_reducible repeat (first | refine blk_drewN ?_ _ | refine blk_drew ?_ | refine blk_alloc ?_ _)); refine blk_put (cs := #[.int .u64 0, .int .u64 0, .int .u64 0, .int .u64 0]) ?_ 0 _ rfl; (with_reducible repeat (first | refine blk_drewN ?_ _ | refine blk_drew ?_ | refine blk_alloc ?_ _)); exact BK3.out⟩, ⟨by (with_reducible repeat (first | refine blk_drewN ?_ _ | refine blk_drew ?_ | refine blk_alloc ?_ _)); refine blk_far ?_ NE.out _; (with_reducible repeat (first | refine blk_drewN ?_ _ | refine blk_drew ?_ | refine blk_alloc ?_ _)); exact BK2.out⟩, ⟨(by repeat (first | (with_reducible first | exact HB.out | apply below_alloc | apply pw_below_drewN | apply below_drew1 | refine below_set ?_ GE3.out | refine below_set ?_ GE2.out) | exact HB.out))⟩⟩
    · replace BK3 := Aside0.mk (BK3.out.trans (show some (Obj.cells (mixAt a 1) 65 (0, 0)) = some (Obj.cells #[.int .u64 (mixN a 1), .int .u64 0, .int .u64 0, .int .u64 0] 65 (0, 0)) from rfl))
      have A1 : Aside0 (bottom_Mix.f (IntKind.u64.wrap (s + 11400714819323198485)) = some (mixN a 2)) := ⟨by rw [hs]; rfl⟩
      have HS := Aside0.mk hs
      clear hs
      have hc := (blk_cell BK3.out 1).trans rfl
      have hf := blk_frozen BK3.out 1
      have hsz := blk_lt BK3.out
      go_wp2_with (first | (go_at_call 56; (with_reducible refine (bottom_Mix.calls _ (mixN a 2) _ A1.out).mono ?_); rintro e w' ⟨rfl, ⟨nd, rfl⟩⟩))
      go_roundg (4 - 1)
      case measure => omega
      case rel => exact ⟨2, IntKind.u64.wrap (s + 11400714819323198485), rfl, by omega, by rw [HS.out]; rfl, rfl, rfl, ⟨by (with_reducible repeat (first | refine blk_drewN ?_ _ | refine blk_drew ?_ | refine blk_alloc ?_ _)); refine blk_put (cs := #[.int .u64 (mixN a 1), .int .u64 0, .int .u64 0, .int .u64 0]) ?_ 1 _ rfl; (with_reducible repeat (first | refine blk_drewN ?_ _ | refine blk_drew ?_ | refine blk_alloc ?_ _)); exact BK3.out⟩, ⟨by (with_reducible repeat (first | refine blk_drewN ?_ _ | refine blk_drew ?_ | refine blk_alloc ?_ _)); refine blk_far ?_ NE.out _; (with_reducible repeat (first | refine blk_drewN ?_ _ | refine blk_drew ?_ | refine blk_alloc ?_ _)); exact BK2.out⟩, ⟨(by repeat (first | (with_reducible first | exact HB.out | apply below_alloc | apply pw_below_drewN | apply below_drew1 | refine below_set ?_ GE3.out | refine below_set ?_ GE2.out) | exact HB.out))⟩⟩
    · replace BK3 := Aside0.mk (BK3.out.trans (show some (Obj.cells (mixAt a 2) 65 (0, 0)) = some (Obj.cells #[.int .u64 (mixN a 1), .int .u64 (mixN a 2), .int .u64 0, .int .u64 0] 65 (0, 0)) from rfl))
      have A1 : Aside0 (bottom_Mix.f (IntKind.u64.wrap (s + 11400714819323198485)) = some (mixN a 3)) := ⟨by rw [hs]; rfl⟩
      have HS := Aside0.mk hs
      clear hs
      have hc := (blk_cell BK3.out 2).trans rfl
      have hf := blk_frozen BK3.out 2
      have hsz := blk_lt BK3.out
      go_wp2_with (first | (go_at_call 56; (with_reducible refine (bottom_Mix.calls _ (mixN a 3) _ A1.out).mono ?_); rintro e w' ⟨rfl, ⟨nd, rfl⟩⟩))
      go_roundg (4 - 2)
      case measure => omega
      case rel => exact ⟨3, IntKind.u64.wrap (s + 11400714819323198485), rfl, by omega, by rw [HS.out]; rfl, rfl, rfl, ⟨by (with_reducible repeat (first | refine blk_drewN ?_ _ | refine blk_drew ?_ | refine blk_alloc ?_ _)); refine blk_put (cs := #[.int .u64 (mixN a 1), .int .u64 (mixN a 2), .int .u64 0, .int .u64 0]) ?_ 2 _ rfl; (with_reducible repeat (first | refine blk_drewN ?_ _ | refine blk_drew ?_ | refine blk_alloc ?_ _)); exact BK3.out⟩, ⟨by (with_reducible repeat (first | refine blk_drewN ?_ _ | refine blk_drew ?_ | refine blk_alloc ?_ _)); refine blk_far ?_ NE.out _; (with_reducible repeat (first | refine blk_drewN ?_ _ | refine blk_drew ?_ | refine blk_alloc ?_ _)); exact BK2.out⟩, ⟨(by repeat (first | (with_reducible first | exact HB.out | apply below_alloc | apply pw_below_drewN | apply below_drew1 | refine below_set ?_ GE3.out | refine below_set ?_ GE2.out) | exact HB.out))⟩⟩
    · replace BK3 := Aside0.mk (BK3.out.trans (show some (Obj.cells (mixAt a 3) 65 (0, 0)) = some (Obj.cells #[.int .u64 (mixN a 1), .int .u64 (mixN a 2), .int .u64 (mixN a 3), .int .u64 0] 65 (0, 0)) from rfl))
      have A1 : Aside0 (bottom_Mix.f (IntKind.u64.wrap (s + 11400714819323198485)) = some (mixN a 4)) := ⟨by rw [hs]; rfl⟩
      have HS := Aside0.mk hs
      clear hs
      have hc := (blk_cell BK3.out 3).trans rfl
      have hf := blk_frozen BK3.out 3
      have hsz := blk_lt BK3.out
      go_wp2_with (first | (go_at_call 56; (with_reducible refine (bottom_Mix.calls _ (mixN a 4) _ A1.out).mono ?_); rintro e w' ⟨rfl, ⟨nd, rfl⟩⟩))
      go_roundg (4 - 3)
      case measure => omega
      case rel => exact ⟨4, IntKind.u64.wrap (s + 11400714819323198485), rfl, by omega, by rw [HS.out]; rfl, rfl, rfl, ⟨by (with_reducible repeat (first | refine blk_drewN ?_ _ | refine blk_drew ?_ | refine blk_alloc ?_ _)); refine blk_put (cs := #[.int .u64 (mixN a 1), .int .u64 (mixN a 2), .int .u64 (mixN a 3), .int .u64 0]) ?_ 3 _ rfl; (with_reducible repeat (first | refine blk_drewN ?_ _ | refine blk_drew ?_ | refine blk_alloc ?_ _)); exact BK3.out⟩, ⟨by (with_reducible repeat (first | refine blk_drewN ?_ _ | refine blk_drew ?_ | refine blk_alloc ?_ _)); refine blk_far ?_ NE.out _; (with_reducible repeat (first | refine blk_drewN ?_ _ | refine blk_drew ?_ | refine blk_alloc ?_ _)); exact BK2.out⟩, ⟨(by repeat (first | (with_reducible first | exact HB.out | apply below_alloc | apply pw_below_drewN | apply below_drew1 | refine below_set ?_ GE3.out | refine below_set ?_ GE2.out) | exact HB.out))⟩⟩
    · replace BK3 := Aside0.mk (BK3.out.trans (show some (Obj.cells (mixAt a 4) 65 (0, 0)) = some (Obj.cells #[.int .u64 (mixN a 1), .int .u64 (mixN a 2), .int .u64 (mixN a 3), .int .u64 (mixN a 4)] 65 (0, 0)) from rfl))
      have h44 : decide (((4 : Nat) : Int) < 4) = false := by decide
      have hc0 := (blk_cell BK3.out 0).trans rfl
      have hc1 := (blk_cell BK3.out 1).trans rfl
      have hc2 := (blk_cell BK3.out 2).trans rfl
      have hc3 := (blk_cell BK3.out 3).trans rfl
      have hd0 := (blk_cell BK2.out 0).trans rfl
      have hd1 := (blk_cell BK2.out 1).trans rfl
      have hd2 := (blk_cell BK2.out 2).trans rfl
      have hd3 := (blk_cell BK2.out 3).trans rfl
      have hf0 := blk_frozen BK2.out 0
      have hf1 := blk_frozen BK2.out 1
      have hf2 := blk_frozen BK2.out 2
      have hf3 := blk_frozen BK2.out 3
      go_wp2
      have B1 := blk_put (cs' := #[.int .u64 (mixN a 1), .int .u64 0, .int .u64 0, .int .u64 0]) BK2.out 0 (.int .u64 (mixN a 1)) rfl
      have B2 := blk_put (cs' := #[.int .u64 (mixN a 1), .int .u64 (mixN a 2), .int .u64 0, .int .u64 0]) B1 1 (.int .u64 (mixN a 2)) rfl
      have B3 := blk_put (cs' := #[.int .u64 (mixN a 1), .int .u64 (mixN a 2), .int .u64 (mixN a 3), .int .u64 0]) B2 2 (.int .u64 (mixN a 3)) rfl
      have B4 := blk_put (cs' := #[.int .u64 (mixN a 1), .int .u64 (mixN a 2), .int .u64 (mixN a 3), .int .u64 (mixN a 4)]) B3 3 (.int .u64 (mixN a 4)) rfl
      refine bodyPost_ret (results_single (fn := Tryd.f33) (v := .agg #[.int .u64 (mixN a 1), .int .u64 (mixN a 2), .int .u64 (mixN a 3), .int .u64 (mixN a 4)]) (r := .cell 2 65) rfl ?vv) rfl ?_
      case vv => exact (.cell gb2 65 #[.int .u64 (mixN a 1), .int .u64 (mixN a 2), .int .u64 (mixN a 3), .int .u64 (mixN a 4)] (0, 0) _ rfl B4 Tryd.underlying65 rfl (by kernel_rfl) .nil)
      exact ⟨rfl, by repeat (first | (with_reducible first | exact HB.out | apply below_alloc | apply pw_below_drewN | apply below_drew1 | refine below_set ?_ GE3.out | refine below_set ?_ GE2.out) | exact HB.out)⟩
end Go.Proofs.YtioppgeackgjnaaDoor.Bt
