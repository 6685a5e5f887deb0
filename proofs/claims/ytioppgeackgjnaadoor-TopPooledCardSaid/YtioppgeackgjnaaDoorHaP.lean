-- written by a program of this session (wip/s5/mkPrint.py, out of a printed draft)
import Derived.Test.YtioppgeackgjnaaDoorBt0
import Derived.Test.YtioppgeackgjnaaDoorBt11
import Derived.Test.YtioppgeackgjnaaDoorHaL
import Derived.Test.YtioppgeackgjnaaDoorHaW
namespace Go.Proofs.YtioppgeackgjnaaDoor.Bt
open Go.RowKit Go.Proofs.YtioppgeackgjnaaDoorW.PrintWords Go.Proofs.YtioppgeackgjnaaDoorW.PrintLast Go.Proofs.YtioppgeackgjnaaDoorW.PrintMore
attribute [local go_sem] max2_int min2_int max_two min_two max_three min_three max_four min_four   -- for this text's walks alone
set_option linter.unusedVariables false
set_option linter.unusedSimpArgs false

/-! ### bench_Print: function 10 -/
mutual
def bench_Print.l0 : Nat → ByteArray → List (S36) → Int → Int → Option (ByteArray × Int)
  | 0, _, _, _, _ => none
  | k + 1, x6, x17, x18, x19 => if x19 < x18 then (if 0 ≤ x19 then (if x19 < (x17.length : Int) then ((bench_fits.f ((rd_T36 x17 x19).f0)).bind fun t229 => (if t229 = true then ((bench_fits.f ((rd_T36 x17 x19).f1)).bind fun t230 => (bench_Print.j1 k x6 x17 x18 x19 (!t230) ((rd_T36 x17 x19).f0) ((rd_T36 x17 x19).f1))) else (bench_Print.j1 k x6 x17 x18 x19 true ((rd_T36 x17 x19).f0) ((rd_T36 x17 x19).f1)))) else (none)) else (none)) else (some (x6, 0))
def bench_Print.j1 : Nat → ByteArray → List (S36) → Int → Int → Bool → Int → Int → Option (ByteArray × Int)
  | 0, _, _, _, _, _, _, _ => none
  | k + 1, x6, x17, x18, x19, x32, x229000, x229001 => if x32 = true then (some ((⟨#[]⟩ : ByteArray), 2)) else ((strconv_Itoa.f x229000).bind fun t231 => (if 4 + t231.size ≤ 9223372036854775807 then (if ((⟨#[97, 100, 100, 32]⟩ : ByteArray) ++ t231).size + 1 ≤ 9223372036854775807 then ((strconv_Itoa.f x229001).bind fun t232 => (if (((⟨#[97, 100, 100, 32]⟩ : ByteArray) ++ t231) ++ (⟨#[32]⟩ : ByteArray)).size + t232.size ≤ 9223372036854775807 then (if ((((⟨#[97, 100, 100, 32]⟩ : ByteArray) ++ t231) ++ (⟨#[32]⟩ : ByteArray)) ++ t232).size + 1 ≤ 9223372036854775807 then (if x6.size + (((((⟨#[97, 100, 100, 32]⟩ : ByteArray) ++ t231) ++ (⟨#[32]⟩ : ByteArray)) ++ t232) ++ (⟨#[10]⟩ : ByteArray)).size ≤ 140737488355328 then (bench_Print.l0 k (x6 ++ (((((⟨#[97, 100, 100, 32]⟩ : ByteArray) ++ t231) ++ (⟨#[32]⟩ : ByteArray)) ++ t232) ++ (⟨#[10]⟩ : ByteArray))) x17 x18 (wrap64 (x19 + 1))) else (none)) else (none)) else (none))) else (none)) else (none)))
end
def bench_Print.f (k : Nat) (a0 : Int) (l1 : List (S36)) : Option (ByteArray × Int) := (bench_fits.f a0).bind fun t225 => (if t225 = true then ((strconv_Itoa.f a0).bind fun t226 => (if 5 + t226.size ≤ 9223372036854775807 then (if ((⟨#[114, 111, 111, 109, 32]⟩ : ByteArray) ++ t226).size + 1 ≤ 9223372036854775807 then (if 0 + (((⟨#[114, 111, 111, 109, 32]⟩ : ByteArray) ++ t226) ++ (⟨#[10]⟩ : ByteArray)).size ≤ 140737488355328 then (bench_Print.l0 k ((⟨#[]⟩ : ByteArray) ++ (((⟨#[114, 111, 111, 109, 32]⟩ : ByteArray) ++ t226) ++ (⟨#[10]⟩ : ByteArray))) l1 (l1.length : Int) 0) else (none)) else (none)) else (none))) else (some ((⟨#[]⟩ : ByteArray), 2)))
theorem bench_Print.mono_l : ∀ k, (∀ y0 y1 y2 y3, LeO (bench_Print.l0 k y0 y1 y2 y3) (bench_Print.l0 (k + 1) y0 y1 y2 y3)) ∧ (∀ y0 y1 y2 y3 y4 y5 y6, LeO (bench_Print.j1 k y0 y1 y2 y3 y4 y5 y6) (bench_Print.j1 (k + 1) y0 y1 y2 y3 y4 y5 y6))
  | 0 => ⟨fun _ _ _ _ r h => by simp [bench_Print.l0] at h, fun _ _ _ _ _ _ _ r h => by simp [bench_Print.j1] at h⟩
  | k + 1 => by
    obtain ⟨ih0, ih1⟩ := bench_Print.mono_l k
    refine ⟨?_, ?_⟩
    · intro y0 y1 y2 y3
      unfold bench_Print.l0
      repeat' first
      | (with_reducible exact ih0 _ _ _ _)
      | (with_reducible exact ih1 _ _ _ _ _ _ _)
      | (with_reducible exact LeO.refl _)
      | (with_reducible exact LeO.none _)
      | (with_reducible refine LeO.ite ?_ ?_)
      | (with_reducible refine LeO.bind ?_ (fun _ => ?_))
      | exact ih0 _ _ _ _
      | exact ih1 _ _ _ _ _ _ _
      | exact LeO.none _
      | refine LeO.ite ?_ ?_
      | refine LeO.bind ?_ (fun _ => ?_)
    · intro y0 y1 y2 y3 y4 y5 y6
      unfold bench_Print.j1
      repeat' first
      | (with_reducible exact ih0 _ _ _ _)
      | (with_reducible exact ih1 _ _ _ _ _ _ _)
      | (with_reducible exact LeO.refl _)
      | (with_reducible exact LeO.none _)
      | (with_reducible refine LeO.ite ?_ ?_)
      | (with_reducible refine LeO.bind ?_ (fun _ => ?_))
      | exact ih0 _ _ _ _
      | exact ih1 _ _ _ _ _ _ _
      | exact LeO.none _
      | refine LeO.ite ?_ ?_
      | refine LeO.bind ?_ (fun _ => ?_)
theorem bench_Print.mono : ∀ a0 a1 k, LeO (bench_Print.f k a0 a1) (bench_Print.f (k + 1) a0 a1) := by
  intro a0 a1 k
  obtain ⟨ih0, ih1⟩ := bench_Print.mono_l k
  unfold bench_Print.f
  repeat' first
      | (with_reducible exact ih0 _ _ _ _)
      | (with_reducible exact ih1 _ _ _ _ _ _ _)
      | (with_reducible exact LeO.refl _)
      | (with_reducible exact LeO.none _)
      | (with_reducible refine LeO.ite ?_ ?_)
      | (with_reducible refine LeO.bind ?_ (fun _ => ?_))
      | exact ih0 _ _ _ _
      | exact ih1 _ _ _ _ _ _ _
      | exact LeO.none _
      | refine LeO.ite ?_ ?_
      | refine LeO.bind ?_ (fun _ => ?_)
def bench_Print.T10 : Bool × List (List Nat × List Nat) := (true, [([], []), ([0], [0]), ([1], [1]), ([2], [2]), ([3], [3]), ([], []), ([5], [5]), ([6, 2], [6]), ([4, 7], [4, 7]), ([8], [8]), ([9, 7], [9])])
def bench_Print.B10 : List Nat := [0, 1, 3, 7, 15, 0, 32, 103, 255, 511, 1023]
theorem bench_Print.tab10 : rtab .any (opsOf Tryd.f10 10) = bench_Print.T10 := by kernel_rfl
theorem bench_Print.bits10 : waitsOk bench_Print.T10.2 bench_Print.B10 = true := by kernel_rfl
set_option maxHeartbeats 8000000 in
set_option maxRecDepth 100000 in
theorem bench_Print.calls (k : Nat) (a0 : Int) (A1 : Option Addr) (c1 : Nat) (l1 : List (S36)) (r1 : ByteArray) (r2 : Int) (w : World) (hL : Laid w) (hr1 : Kd.C k36 w A1 l1.length l1) (hc1 : l1.length ≤ c1) (h : bench_Print.f k a0 l1 = some (r1, r2)) :
    Calls Tryd.prog 10 #[.int .i64 a0, .slice A1 l1.length c1] w fun e w' => e = .returned (.tuple #[.string r1, .int .i64 r2]) ∧ Below w.heap.size w w' := by
  have HLaid := Aside0.mk hL
  clear hL
  have hu36 := Tryd.underlying36
  have HR1 := Aside0.mk hr1
  have HC1 := Aside0.mk hc1
  clear hr1 hc1
  have HB := Aside0.mk (Below.refl w.heap.size w)
  have H : ((bench_fits.f a0).bind fun t225 => (if t225 = true then ((strconv_Itoa.f a0).bind fun t226 => (if 5 + t226.size ≤ 9223372036854775807 then (if ((⟨#[114, 111, 111, 109, 32]⟩ : ByteArray) ++ t226).size + 1 ≤ 9223372036854775807 then (if 0 + (((⟨#[114, 111, 111, 109, 32]⟩ : ByteArray) ++ t226) ++ (⟨#[10]⟩ : ByteArray)).size ≤ 140737488355328 then (bench_Print.l0 k ((⟨#[]⟩ : ByteArray) ++ (((⟨#[114, 111, 111, 109, 32]⟩ : ByteArray) ++ t226) ++ (⟨#[10]⟩ : ByteArray))) l1 (l1.length : Int) 0) else (none)) else (none)) else (none))) else (some ((⟨#[]⟩ : ByteArray), 2)))) = some (r1, r2) := h
  clear h
  replace H := Option.bind_eq_some_iff.mp H
  obtain ⟨t225, A30, H⟩ := H
  replace H : (if t225 = true then ((strconv_Itoa.f a0).bind fun t226 => (if 5 + t226.size ≤ 9223372036854775807 then (if ((⟨#[114, 111, 111, 109, 32]⟩ : ByteArray) ++ t226).size + 1 ≤ 9223372036854775807 then (if 0 + (((⟨#[114, 111, 111, 109, 32]⟩ : ByteArray) ++ t226) ++ (⟨#[10]⟩ : ByteArray)).size ≤ 140737488355328 then (bench_Print.l0 k ((⟨#[]⟩ : ByteArray) ++ (((⟨#[114, 111, 111, 109, 32]⟩ : ByteArray) ++ t226) ++ (⟨#[10]⟩ : ByteArray))) l1 (l1.length : Int) 0) else (none)) else (none)) else (none))) else (some ((⟨#[]⟩ : ByteArray), 2))) = some (r1, r2) := H
  have A3 := Aside0.mk A30
  clear A30
  by_cases c4 : t225 = true
  · subst c4
    have H1 : ((strconv_Itoa.f a0).bind fun t226 => (if 5 + t226.size ≤ 9223372036854775807 then (if ((⟨#[114, 111, 111, 109, 32]⟩ : ByteArray) ++ t226).size + 1 ≤ 9223372036854775807 then (if 0 + (((⟨#[114, 111, 111, 109, 32]⟩ : ByteArray) ++ t226) ++ (⟨#[10]⟩ : ByteArray)).size ≤ 140737488355328 then (bench_Print.l0 k ((⟨#[]⟩ : ByteArray) ++ (((⟨#[114, 111, 111, 109, 32]⟩ : ByteArray) ++ t226) ++ (⟨#[10]⟩ : ByteArray))) l1 (l1.length : Int) 0) else (none)) else (none)) else (none))) = some (r1, r2) := by rw [if_pos rfl] at H; exact H
    clear H
    have H := H1
    clear H1
    replace H := Option.bind_eq_some_iff.mp H
    obtain ⟨t226, A50, H⟩ := H
    replace H : (if 5 + t226.size ≤ 9223372036854775807 then (if ((⟨#[114, 111, 111, 109, 32]⟩ : ByteArray) ++ t226).size + 1 ≤ 9223372036854775807 then (if 0 + (((⟨#[114, 111, 111, 109, 32]⟩ : ByteArray) ++ t226) ++ (⟨#[10]⟩ : ByteArray)).size ≤ 140737488355328 then (bench_Print.l0 k ((⟨#[]⟩ : ByteArray) ++ (((⟨#[114, 111, 111, 109, 32]⟩ : ByteArray) ++ t226) ++ (⟨#[10]⟩ : ByteArray))) l1 (l1.length : Int) 0) else (none)) else (none)) else (none)) = some (r1, r2) := H
    have A5 := Aside0.mk A50
    clear A50
    by_cases c6 : 5 + t226.size ≤ 9223372036854775807
    · rw [if_pos c6] at H
      have c6b0 := eq_true c6
      have c6b1 : decide (5 + t226.size ≤ 9223372036854775807) = true := decide_eq_true c6
      try have c6b2 : (9223372036854775807 < 5 + t226.size) = False := eq_false (Nat.not_lt.2 c6)
      by_cases c7 : ((⟨#[114, 111, 111, 109, 32]⟩ : ByteArray) ++ t226).size + 1 ≤ 9223372036854775807
      · rw [if_pos c7] at H
        have c7b0 := eq_true c7
        have c7b1 : decide (((⟨#[114, 111, 111, 109, 32]⟩ : ByteArray) ++ t226).size + 1 ≤ 9223372036854775807) = true := decide_eq_true c7
        try have c7b2 : (9223372036854775807 < ((⟨#[114, 111, 111, 109, 32]⟩ : ByteArray) ++ t226).size + 1) = False := eq_false (Nat.not_lt.2 c7)
        by_cases c8 : 0 + (((⟨#[114, 111, 111, 109, 32]⟩ : ByteArray) ++ t226) ++ (⟨#[10]⟩ : ByteArray)).size ≤ 140737488355328
        · rw [if_pos c8] at H
          have c8b0 := eq_true c8
          have c8b1 : decide (0 + (((⟨#[114, 111, 111, 109, 32]⟩ : ByteArray) ++ t226) ++ (⟨#[10]⟩ : ByteArray)).size ≤ 140737488355328) = true := decide_eq_true c8
          try have c8b2 : (140737488355328 < 0 + (((⟨#[114, 111, 111, 109, 32]⟩ : ByteArray) ++ t226) ++ (⟨#[10]⟩ : ByteArray)).size) = False := eq_false (Nat.not_lt.2 c8)
          have H' := Aside0.mk H
          clear H
          have c7d : (9223372036854775807 < 5 + t226.size + 1) = False := eq_false (by have h_ := c7; simp only [ByteArray.size_append] at h_; exact Nat.not_lt.2 h_)
          go_enter Tryd.func10, Tryd.ntmps10
          go_wp2_with (first | ((with_reducible refine gate_callee (f := 36) rfl ?_); refine goesL_ (some 10) rfl rfl Tryd.func36 (by kernel_rfl) rfl #[.int .i64 a0] rfl (by (try simp only [List.map_toArray, List.map_cons, List.map_nil]); first | done | rfl | (simp only [List.length_drop, List.length_take]; rfl)) ?_; (with_reducible refine (bench_fits.calls a0 true _ A3.out).mono ?_); rintro e w' ⟨rfl, ⟨nd, rfl⟩⟩; refine ⟨_, rfl, ?_⟩) | ((with_reducible refine gate_dst (N := 6) rfl ?_); refine box_event ?hg (N := 6) ?hd (cs := #[.pointer none, .slice none 0 0]) (t := 76) ?hr ?_; (case hd => rfl); (case hg => rfl); (case hr => first | (go_simp; done) | (go_simp; rfl)); intro gbB hg w5b hbox hb; have n0_ := Aside0.mk (below_step (by repeat (first | (with_reducible first | exact HB.out | apply below_alloc | apply pw_below_drewN | apply below_drew1) | exact HB.out)) hb); have n1_ := Aside0.mk (SB_fresh (B := w.heap.size) (by rw [hg]; exact (below_size (by repeat (first | (with_reducible first | exact HB.out | apply below_alloc | apply pw_below_drewN | apply below_drew1) | exact HB.out)))) hbox); clear HB; have HB := n0_; have HS := n1_; clear n0_ n1_; clear hb hbox hg) | ((with_reducible refine gate_callee (f := 15) rfl ?_); refine goesL_ (some 13) rfl rfl Tryd.func15 (by kernel_rfl) rfl #[.int .i64 a0] rfl (by (try simp only [List.map_toArray, List.map_cons, List.map_nil]); first | done | rfl | (simp only [List.length_drop, List.length_take]; rfl)) ?_; (with_reducible refine (strconv_Itoa.calls a0 t226 _ ?sideL A5.out).mono ?_); (case sideL => first | exact HLaid.out | exact Laid.below HLaid.out (by repeat (first | (with_reducible first | exact HB.out | apply below_alloc | apply pw_below_drewN | apply below_drew1) | exact HB.out)) | exact Laid.below HLaid.out (by repeat (first | (with_reducible first | exact HB.out | apply below_alloc | apply pw_below_drewN | apply below_drew1) | exact HB.out | exact Below.refl _ _))); rintro e w9 ⟨rfl, hb⟩; refine ⟨_, rfl, ?_⟩; have nS_ := Aside0.mk (SB_below (by (with_reducible repeat (first | refine SB_drewN ?_ _ | refine SB_drew ?_)); exact HS.out) hb); clear HS; have HS := nS_; clear nS_; have n0_ := Aside0.mk (below_step (by repeat (first | (with_reducible first | exact HB.out | apply below_alloc | apply pw_below_drewN | apply below_drew1) | exact HB.out)) hb); clear HB; have HB := n0_; clear n0_; (try clear hb); (try clear hb2); (try clear hk); (try clear hi)) | ((with_reducible refine gate_callee (f := 37) rfl ?_); refine goesL_ (some 16) rfl rfl Tryd.func37 (by kernel_rfl) rfl #[.pointer (some ⟨gbB, 0, none⟩), .string (((⟨#[114, 111, 111, 109, 32]⟩ : ByteArray) ++ t226) ++ (⟨#[10]⟩ : ByteArray))] rfl (by (try simp only [List.map_toArray, List.map_cons, List.map_nil]); first | done | rfl | (simp only [List.length_drop, List.length_take]; rfl)) ?_; (with_reducible refine (builder_WriteString.calls w.heap.size gbB (⟨#[]⟩ : ByteArray) (((⟨#[114, 111, 111, 109, 32]⟩ : ByteArray) ++ t226) ++ (⟨#[10]⟩ : ByteArray)) _ ?sideS ?sideN ?sideB).mono ?_); (case sideS => exact (by (with_reducible repeat (first | refine SB_drewN ?_ _ | refine SB_drew ?_)); exact HS.out)); (case sideN => exact c8); (case sideB => exact below_size (by repeat (first | (with_reducible first | exact HB.out | apply below_alloc | apply pw_below_drewN | apply below_drew1) | exact HB.out))); rintro e w10b ⟨⟨v16, rfl⟩, hs, hb, hk⟩; refine ⟨_, rfl, ?_⟩; have n0_ := Aside0.mk (Below.trans (show Below w.heap.size w _ from (by repeat (first | (with_reducible first | exact HB.out | apply below_alloc | apply pw_below_drewN | apply below_drew1) | exact HB.out))) hb); clear HB HS; have HB := n0_; have HS := Aside0.mk hs; clear n0_ hs hk hb))
          go_loopg [19] k (fun kq v19 w' => ∃ (x6_1 : ByteArray) (x19_1 : Int), v19 = .int .i64 x19_1 ∧ Aside0 (bench_Print.l0 kq x6_1 l1 (l1.length : Int) x19_1 = some (r1, r2)) ∧ Aside0 (kq ≤ k) ∧ Aside0 (SB w.heap.size gbB x6_1 w') ∧ Aside0 (Below w.heap.size w w'))
          case atStart => exact ⟨((⟨#[]⟩ : ByteArray) ++ (((⟨#[114, 111, 111, 109, 32]⟩ : ByteArray) ++ t226) ++ (⟨#[10]⟩ : ByteArray))), (0), (by first | rfl | (simp; done) | (simp [*]; done)), H', ⟨Nat.le_refl _⟩, ⟨(by (with_reducible repeat (first | refine SB_drewN ?_ _ | refine SB_drew ?_)); exact HS.out)⟩, ⟨by repeat (first | (with_reducible first | exact HB.out | apply below_alloc | apply pw_below_drewN | apply below_drew1) | exact HB.out)⟩⟩
          case round =>
            clear H'
            try clear c1
            try clear p2
            try clear c3
            try clear c4
            try clear c6
            try clear c6b0
            try clear c6b1
            try clear c6b2
            try clear c7
            try clear c7b0
            try clear c7b1
            try clear c7b2
            try clear c8
            try clear c8b0
            try clear c8b1
            try clear c8b2
            obtain ⟨x6_1, x19_1, rfl, HA, HK1, HS, HB⟩ := hrel
            cases gk with
            | zero => exact absurd HA.out (by simp [bench_Print.l0])
            | succ k1 =>
              have H := HA.out
              clear HA
              simp only [bench_Print.l0] at H
              by_cases c10 : x19_1 < (l1.length : Int)
              · rw [if_pos c10] at H
                have c10b0 : decide (x19_1 < (l1.length : Int)) = true := decide_eq_true c10
                clear c10
                by_cases c11 : 0 ≤ x19_1
                · rw [if_pos c11] at H
                  have c11b0 : decide (0 ≤ x19_1) = true := decide_eq_true c11
                  clear c11
                  by_cases c12 : x19_1 < (l1.length : Int)
                  · rw [if_pos c12] at H
                    have c12b0 : decide (x19_1 < (l1.length : Int)) = true := decide_eq_true c12
                    clear c12
                    have HC13 := Aside0.mk H
                    clear H
                    have p227 : 0 ≤ (x19_1 : Int) := of_decide_eq_true (by first | (with_reducible assumption) | assumption)
                    have q227 : x19_1 < (l1.length : Int) := of_decide_eq_true (by first | (with_reducible assumption) | assumption)
                    obtain ⟨ad227, e227, hx227_0, hx227_1⟩ := at_T36 HR1.out x19_1 p227 q227
                    cases e227
                    replace hx227_0 := (HB.out.cell (World.block_lt_of_cell? w _ hx227_0)).trans hx227_0
                    replace hx227_1 := (HB.out.cell (World.block_lt_of_cell? w _ hx227_1)).trans hx227_1
                    replace p227 := eq_true p227
                    replace q227 := eq_true q227
                    go_upto_region 8 with (first | ((with_reducible refine gate_dst (N := 8) rfl ?_); refine box_event ?hg (N := 8) ?hd (cs := #[.int .i64 0, .int .i64 0]) (t := 36) ?hr ?_; (case hd => rfl); (case hg => rfl); (case hr => first | (go_simp; done) | (go_simp; rfl)); intro gb228 hg w14 hbox hb; have n0_ := Aside0.mk (below_step (by repeat (first | (with_reducible first | exact HB.out | apply below_alloc | apply pw_below_drewN | apply below_drew1) | exact HB.out)) hb); have n1_ := Aside0.mk (hbox); have n2_ := Aside0.mk ((by rw [hg]; exact (below_size (by repeat (first | (with_reducible first | exact HB.out | apply below_alloc | apply pw_below_drewN | apply below_drew1) | exact HB.out))) : w.heap.size ≤ gb228)); have n3_ := Aside0.mk ((by rw [hg]; exact (below_size (by repeat (first | (with_reducible first | exact HB.out | apply below_alloc | apply pw_below_drewN | apply below_drew1) | exact HB.out))) : w.heap.size ≤ gb228)); have nS_ : Aside0 (SBT w.heap.size gbB x6_1 gb228 w14) := ⟨SB_below (by (with_reducible repeat (first | refine SB_drewN ?_ _ | refine SB_drew ?_)); exact HS.out) hb, _, hbox⟩; clear HS; have HS := nS_; clear nS_; clear HB; have HB := n0_; have BK228 := n1_; have GW228 := n2_; have GE228 := n3_; clear n0_ n1_ n2_ n3_; clear hb hbox hg; have hcz15_0 : w14.cell? ⟨gb228, 0, none⟩ = some (.int .i64 0) := (blk_cell BK228.out 0).trans rfl; have hcz15_1 : w14.cell? ⟨gb228, 1, none⟩ = some (.int .i64 0) := (blk_cell BK228.out 1).trans rfl; have hfz15_0 := blk_frozen BK228.out 0; have hfz15_1 := blk_frozen BK228.out 1))
                    (try simp only [Act.put, List.setIfInBounds_toArray, List.set_cons_zero, List.set_cons_succ])
                    go_cut [32] (fun v32 wc => ∃ (kq : Nat) (x32_12 : Bool), v32 = .bool x32_12 ∧ Aside0 (bench_Print.j1 kq x6_1 l1 (l1.length : Int) x19_1 x32_12 ((rd_T36 l1 x19_1).f0) ((rd_T36 l1 x19_1).f1) = some (r1, r2)) ∧ Aside0 (kq ≤ k1) ∧ Aside0 (wc.heap[gb228]? = some (.cells #[.int .i64 ((rd_T36 l1 x19_1).f0), .int .i64 ((rd_T36 l1 x19_1).f1)] 36 (0, 0))) ∧ Aside0 (SB w.heap.size gbB x6_1 wc) ∧ Aside0 (Below w.heap.size w wc))
                    case first =>
                      have H := HC13.out
                      clear HC13
                      replace H := Option.bind_eq_some_iff.mp H
                      obtain ⟨t229, A160, H⟩ := H
                      replace H : (if t229 = true then ((bench_fits.f ((rd_T36 l1 x19_1).f1)).bind fun t230 => (bench_Print.j1 k1 x6_1 l1 (l1.length : Int) x19_1 (!t230) ((rd_T36 l1 x19_1).f0) ((rd_T36 l1 x19_1).f1))) else (bench_Print.j1 k1 x6_1 l1 (l1.length : Int) x19_1 true ((rd_T36 l1 x19_1).f0) ((rd_T36 l1 x19_1).f1))) = some (r1, r2) := H
                      have A16 := Aside0.mk A160
                      clear A160
                      by_cases c17 : t229 = true
                      · subst c17
                        have H1 : ((bench_fits.f ((rd_T36 l1 x19_1).f1)).bind fun t230 => (bench_Print.j1 k1 x6_1 l1 (l1.length : Int) x19_1 (!t230) ((rd_T36 l1 x19_1).f0) ((rd_T36 l1 x19_1).f1))) = some (r1, r2) := by rw [if_pos rfl] at H; exact H
                        clear H
                        have H := H1
                        clear H1
                        replace H := Option.bind_eq_some_iff.mp H
                        obtain ⟨t230, A180, H⟩ := H
                        replace H : (bench_Print.j1 k1 x6_1 l1 (l1.length : Int) x19_1 (!t230) ((rd_T36 l1 x19_1).f0) ((rd_T36 l1 x19_1).f1)) = some (r1, r2) := H
                        have A18 := Aside0.mk A180
                        clear A180
                        have H' := Aside0.mk H
                        clear H
                        have hcz19_0 : w14.cell? ⟨gb228, 0, none⟩ = some (.int .i64 0) := (blk_cell BK228.out 0).trans rfl
                        have hcz19_1 : w14.cell? ⟨gb228, 1, none⟩ = some (.int .i64 0) := (blk_cell BK228.out 1).trans rfl
                        have hfz19_0 := blk_frozen BK228.out 0
                        have hfz19_1 := blk_frozen BK228.out 1
                        go_wp2_with (first | ((with_reducible refine gate_callee (f := 36) rfl ?_); refine goesL_ (some 25) rfl rfl Tryd.func36 (by kernel_rfl) rfl #[.int .i64 ((rd_T36 l1 x19_1).f0)] rfl (by (try simp only [List.map_toArray, List.map_cons, List.map_nil]); first | done | rfl | (simp only [List.length_drop, List.length_take]; rfl)) ?_; (with_reducible refine (bench_fits.calls ((rd_T36 l1 x19_1).f0) true _ A16.out).mono ?_); rintro e w' ⟨rfl, ⟨nd, rfl⟩⟩; refine ⟨_, rfl, ?_⟩) | (go_at_call 36; (with_reducible refine (bench_fits.calls ((rd_T36 l1 x19_1).f1) t230 _ A18.out).mono ?_); rintro e w' ⟨rfl, ⟨nd, rfl⟩⟩))
                        go_meet
                        case rel => exact ⟨_, (!t230), (by first | rfl | (simp; done) | (simp [*]; done)), H', ⟨by have := HK1.out; first | omega | exact Nat.le_refl _⟩, ⟨by (with_reducible repeat (first | refine blk_drewN ?_ _ | refine blk_drew ?_ | refine blk_alloc ?_ _)); refine blk_put (cs := #[.int .i64 ((rd_T36 l1 x19_1).f0), .int .i64 0]) ?_ 1 _ rfl; (with_reducible repeat (first | refine blk_drewN ?_ _ | refine blk_drew ?_ | refine blk_alloc ?_ _)); refine blk_put (cs := #[.int .i64 0, .int .i64 0]) ?_ 0 _ rfl; (with_reducible repeat (first | refine blk_drewN ?_ _ | refine blk_drew ?_ | refine blk_alloc ?_ _)); exact BK228.out⟩, ⟨(show SBT w.heap.size gbB x6_1 gb228 _ from by (with_reducible repeat (first | refine SBT_drewN ?_ _ | refine SBT_drew ?_ | refine SBT_set ?_)); exact HS.out).1⟩, ⟨by repeat (first | (with_reducible first | exact HB.out | apply below_alloc | apply pw_below_drewN | apply below_drew1 | refine below_set ?_ GE228.out) | exact HB.out)⟩⟩
                      · replace c17 := Bool.eq_false_iff.mpr c17
                        subst c17
                        have H1 : (bench_Print.j1 k1 x6_1 l1 (l1.length : Int) x19_1 true ((rd_T36 l1 x19_1).f0) ((rd_T36 l1 x19_1).f1)) = some (r1, r2) := by rw [if_neg (show ¬ (false = true) by decide)] at H; exact H
                        clear H
                        have H := H1
                        clear H1
                        have H' := Aside0.mk H
                        clear H
                        have hcz20_0 : w14.cell? ⟨gb228, 0, none⟩ = some (.int .i64 0) := (blk_cell BK228.out 0).trans rfl
                        have hcz20_1 : w14.cell? ⟨gb228, 1, none⟩ = some (.int .i64 0) := (blk_cell BK228.out 1).trans rfl
                        have hfz20_0 := blk_frozen BK228.out 0
                        have hfz20_1 := blk_frozen BK228.out 1
                        go_wp2_with (first | ((with_reducible refine gate_callee (f := 36) rfl ?_); refine goesL_ (some 25) rfl rfl Tryd.func36 (by kernel_rfl) rfl #[.int .i64 ((rd_T36 l1 x19_1).f0)] rfl (by (try simp only [List.map_toArray, List.map_cons, List.map_nil]); first | done | rfl | (simp only [List.length_drop, List.length_take]; rfl)) ?_; (with_reducible refine (bench_fits.calls ((rd_T36 l1 x19_1).f0) false _ A16.out).mono ?_); rintro e w' ⟨rfl, ⟨nd, rfl⟩⟩; refine ⟨_, rfl, ?_⟩))
                        go_meet
                        case rel => exact ⟨_, (true), (by first | rfl | (simp; done) | (simp [*]; done)), H', ⟨by have := HK1.out; first | omega | exact Nat.le_refl _⟩, ⟨by (with_reducible repeat (first | refine blk_drewN ?_ _ | refine blk_drew ?_ | refine blk_alloc ?_ _)); refine blk_put (cs := #[.int .i64 ((rd_T36 l1 x19_1).f0), .int .i64 0]) ?_ 1 _ rfl; (with_reducible repeat (first | refine blk_drewN ?_ _ | refine blk_drew ?_ | refine blk_alloc ?_ _)); refine blk_put (cs := #[.int .i64 0, .int .i64 0]) ?_ 0 _ rfl; (with_reducible repeat (first | refine blk_drewN ?_ _ | refine blk_drew ?_ | refine blk_alloc ?_ _)); exact BK228.out⟩, ⟨(show SBT w.heap.size gbB x6_1 gb228 _ from by (with_reducible repeat (first | refine SBT_drewN ?_ _ | refine SBT_drew ?_ | refine SBT_set ?_)); exact HS.out).1⟩, ⟨by repeat (first | (with_reducible first | exact HB.out | apply below_alloc | apply pw_below_drewN | apply below_drew1 | refine below_set ?_ GE228.out) | exact HB.out)⟩⟩
                    case rest =>
                      clear HC13
                      try clear c1
                      try clear p2
                      try clear q2
                      try clear hx2
                      try clear c3
                      try clear c4
                      try clear c6
                      try clear c6b0
                      try clear c6b1
                      try clear c6b2
                      try clear c7
                      try clear c7b0
                      try clear c7b1
                      try clear c7b2
                      try clear c8
                      try clear c8b0
                      try clear c8b1
                      try clear c8b2
                      try clear c10
                      try clear c10b0
                      try clear c11
                      try clear c11b0
                      try clear c12
                      try clear c12b0
                      try clear c15
                      try clear c17
                      try clear hcz15_0
                      try clear hcz15_1
                      try clear hcz19_0
                      try clear hcz19_1
                      try clear hcz20_0
                      try clear hcz20_1
                      try clear hfz15_0
                      try clear hfz15_1
                      try clear hfz19_0
                      try clear hfz19_1
                      try clear hfz20_0
                      try clear hfz20_1
                      try clear hx227_0
                      try clear hx227_1
                      try clear p2
                      try clear p227
                      try clear q227
                      obtain ⟨kq, x32_12, rfl, HA, HJ12, BK228, HS, HB⟩ := hcut
                      cases kq with
                      | zero => exact absurd HA.out (by simp [bench_Print.j1])
                      | succ kj12 =>
                        have H := HA.out
                        clear HA
                        simp only [bench_Print.j1] at H
                        by_cases c21 : x32_12 = true
                        · subst c21
                          have H1 : (some ((⟨#[]⟩ : ByteArray), 2)) = some (r1, r2) := by rw [if_pos rfl] at H; exact H
                          clear H
                          have H := H1
                          clear H1
                          simp only [Option.some.injEq, Prod.mk.injEq] at H
                          obtain ⟨rfl, rfl⟩ := H
                          go_wp2
                          go_ret2
                          exact ⟨by first | rfl | (simp [errW_none, errW_some] <;> rfl) | (simp [*, errW_none, errW_some] <;> rfl), by repeat (first | (with_reducible first | exact HB.out | apply below_alloc | apply pw_below_drewN | apply below_drew1 | refine below_set ?_ GE228.out) | exact HB.out)⟩
                        · replace c21 := Bool.eq_false_iff.mpr c21
                          subst c21
                          have H1 : ((strconv_Itoa.f ((rd_T36 l1 x19_1).f0)).bind fun t231 => (if 4 + t231.size ≤ 9223372036854775807 then (if ((⟨#[97, 100, 100, 32]⟩ : ByteArray) ++ t231).size + 1 ≤ 9223372036854775807 then ((strconv_Itoa.f ((rd_T36 l1 x19_1).f1)).bind fun t232 => (if (((⟨#[97, 100, 100, 32]⟩ : ByteArray) ++ t231) ++ (⟨#[32]⟩ : ByteArray)).size + t232.size ≤ 9223372036854775807 then (if ((((⟨#[97, 100, 100, 32]⟩ : ByteArray) ++ t231) ++ (⟨#[32]⟩ : ByteArray)) ++ t232).size + 1 ≤ 9223372036854775807 then (if x6_1.size + (((((⟨#[97, 100, 100, 32]⟩ : ByteArray) ++ t231) ++ (⟨#[32]⟩ : ByteArray)) ++ t232) ++ (⟨#[10]⟩ : ByteArray)).size ≤ 140737488355328 then (bench_Print.l0 kj12 (x6_1 ++ (((((⟨#[97, 100, 100, 32]⟩ : ByteArray) ++ t231) ++ (⟨#[32]⟩ : ByteArray)) ++ t232) ++ (⟨#[10]⟩ : ByteArray))) l1 (l1.length : Int) (wrap64 (x19_1 + 1))) else (none)) else (none)) else (none))) else (none)) else (none))) = some (r1, r2) := by rw [if_neg (show ¬ (false = true) by decide)] at H; exact H
                          clear H
                          have H := H1
                          clear H1
                          replace H := Option.bind_eq_some_iff.mp H
                          obtain ⟨t231, A220, H⟩ := H
                          replace H : (if 4 + t231.size ≤ 9223372036854775807 then (if ((⟨#[97, 100, 100, 32]⟩ : ByteArray) ++ t231).size + 1 ≤ 9223372036854775807 then ((strconv_Itoa.f ((rd_T36 l1 x19_1).f1)).bind fun t232 => (if (((⟨#[97, 100, 100, 32]⟩ : ByteArray) ++ t231) ++ (⟨#[32]⟩ : ByteArray)).size + t232.size ≤ 9223372036854775807 then (if ((((⟨#[97, 100, 100, 32]⟩ : ByteArray) ++ t231) ++ (⟨#[32]⟩ : ByteArray)) ++ t232).size + 1 ≤ 9223372036854775807 then (if x6_1.size + (((((⟨#[97, 100, 100, 32]⟩ : ByteArray) ++ t231) ++ (⟨#[32]⟩ : ByteArray)) ++ t232) ++ (⟨#[10]⟩ : ByteArray)).size ≤ 140737488355328 then (bench_Print.l0 kj12 (x6_1 ++ (((((⟨#[97, 100, 100, 32]⟩ : ByteArray) ++ t231) ++ (⟨#[32]⟩ : ByteArray)) ++ t232) ++ (⟨#[10]⟩ : ByteArray))) l1 (l1.length : Int) (wrap64 (x19_1 + 1))) else (none)) else (none)) else (none))) else (none)) else (none)) = some (r1, r2) := H
                          have A22 := Aside0.mk A220
                          clear A220
                          by_cases c23 : 4 + t231.size ≤ 9223372036854775807
                          · rw [if_pos c23] at H
                            have c23b0 := eq_true c23
                            have c23b1 : decide (4 + t231.size ≤ 9223372036854775807) = true := decide_eq_true c23
                            try have c23b2 : (9223372036854775807 < 4 + t231.size) = False := eq_false (Nat.not_lt.2 c23)
                            by_cases c24 : ((⟨#[97, 100, 100, 32]⟩ : ByteArray) ++ t231).size + 1 ≤ 9223372036854775807
                            · rw [if_pos c24] at H
                              have c24b0 := eq_true c24
                              have c24b1 : decide (((⟨#[97, 100, 100, 32]⟩ : ByteArray) ++ t231).size + 1 ≤ 9223372036854775807) = true := decide_eq_true c24
                              try have c24b2 : (9223372036854775807 < ((⟨#[97, 100, 100, 32]⟩ : ByteArray) ++ t231).size + 1) = False := eq_false (Nat.not_lt.2 c24)
                              replace H := Option.bind_eq_some_iff.mp H
                              obtain ⟨t232, A250, H⟩ := H
                              replace H : (if (((⟨#[97, 100, 100, 32]⟩ : ByteArray) ++ t231) ++ (⟨#[32]⟩ : ByteArray)).size + t232.size ≤ 9223372036854775807 then (if ((((⟨#[97, 100, 100, 32]⟩ : ByteArray) ++ t231) ++ (⟨#[32]⟩ : ByteArray)) ++ t232).size + 1 ≤ 9223372036854775807 then (if x6_1.size + (((((⟨#[97, 100, 100, 32]⟩ : ByteArray) ++ t231) ++ (⟨#[32]⟩ : ByteArray)) ++ t232) ++ (⟨#[10]⟩ : ByteArray)).size ≤ 140737488355328 then (bench_Print.l0 kj12 (x6_1 ++ (((((⟨#[97, 100, 100, 32]⟩ : ByteArray) ++ t231) ++ (⟨#[32]⟩ : ByteArray)) ++ t232) ++ (⟨#[10]⟩ : ByteArray))) l1 (l1.length : Int) (wrap64 (x19_1 + 1))) else (none)) else (none)) else (none)) = some (r1, r2) := H
                              have A25 := Aside0.mk A250
                              clear A250
                              by_cases c26 : (((⟨#[97, 100, 100, 32]⟩ : ByteArray) ++ t231) ++ (⟨#[32]⟩ : ByteArray)).size + t232.size ≤ 9223372036854775807
                              · rw [if_pos c26] at H
                                have c26b0 := eq_true c26
                                have c26b1 : decide ((((⟨#[97, 100, 100, 32]⟩ : ByteArray) ++ t231) ++ (⟨#[32]⟩ : ByteArray)).size + t232.size ≤ 9223372036854775807) = true := decide_eq_true c26
                                try have c26b2 : (9223372036854775807 < (((⟨#[97, 100, 100, 32]⟩ : ByteArray) ++ t231) ++ (⟨#[32]⟩ : ByteArray)).size + t232.size) = False := eq_false (Nat.not_lt.2 c26)
                                by_cases c27 : ((((⟨#[97, 100, 100, 32]⟩ : ByteArray) ++ t231) ++ (⟨#[32]⟩ : ByteArray)) ++ t232).size + 1 ≤ 9223372036854775807
                                · rw [if_pos c27] at H
                                  have c27b0 := eq_true c27
                                  have c27b1 : decide (((((⟨#[97, 100, 100, 32]⟩ : ByteArray) ++ t231) ++ (⟨#[32]⟩ : ByteArray)) ++ t232).size + 1 ≤ 9223372036854775807) = true := decide_eq_true c27
                                  try have c27b2 : (9223372036854775807 < ((((⟨#[97, 100, 100, 32]⟩ : ByteArray) ++ t231) ++ (⟨#[32]⟩ : ByteArray)) ++ t232).size + 1) = False := eq_false (Nat.not_lt.2 c27)
                                  by_cases c28 : x6_1.size + (((((⟨#[97, 100, 100, 32]⟩ : ByteArray) ++ t231) ++ (⟨#[32]⟩ : ByteArray)) ++ t232) ++ (⟨#[10]⟩ : ByteArray)).size ≤ 140737488355328
                                  · rw [if_pos c28] at H
                                    have c28b0 := eq_true c28
                                    have c28b1 : decide (x6_1.size + (((((⟨#[97, 100, 100, 32]⟩ : ByteArray) ++ t231) ++ (⟨#[32]⟩ : ByteArray)) ++ t232) ++ (⟨#[10]⟩ : ByteArray)).size ≤ 140737488355328) = true := decide_eq_true c28
                                    try have c28b2 : (140737488355328 < x6_1.size + (((((⟨#[97, 100, 100, 32]⟩ : ByteArray) ++ t231) ++ (⟨#[32]⟩ : ByteArray)) ++ t232) ++ (⟨#[10]⟩ : ByteArray)).size) = False := eq_false (Nat.not_lt.2 c28)
                                    have H' := Aside0.mk H
                                    clear H
                                    have c24d : (9223372036854775807 < 4 + t231.size + 1) = False := eq_false (by have h_ := c24; simp only [ByteArray.size_append] at h_; exact Nat.not_lt.2 h_)
                                    have c26d : (9223372036854775807 < 4 + t231.size + 1 + t232.size) = False := eq_false (by have h_ := c26; simp only [ByteArray.size_append] at h_; exact Nat.not_lt.2 h_)
                                    have c27d : (9223372036854775807 < 4 + t231.size + 1 + t232.size + 1) = False := eq_false (by have h_ := c27; simp only [ByteArray.size_append] at h_; exact Nat.not_lt.2 h_)
                                    try go_wp2
                                    have n0_ := Aside0.mk (blk_drew BK228.out)
                                    have nS_ := Aside0.mk (SB_drew HS.out)
                                    clear HS
                                    have HS := nS_
                                    clear nS_
                                    have n1_ := Aside0.mk (below_drew1 HB.out)
                                    clear BK228
                                    clear HB
                                    have BK228 := n0_
                                    have HB := n1_
                                    clear n0_ n1_
                                    refine start_ (n := 11) (S := fun w' => w'.cell? ⟨gb228, 0, none⟩ = some (.int .i64 ((rd_T36 l1 x19_1).f0)) ∧ w'.cell? ⟨gb228, 1, none⟩ = some (.int .i64 ((rd_T36 l1 x19_1).f1))) (ds := []) #[false, false, false, false, false, false, false, false, false, false, false] (by kernel_rfl) rfl rfl ⟨(blk_cell BK228.out 0).trans rfl, (blk_cell BK228.out 1).trans rfl⟩ (fun hHeld => ?_); refine with_tabW bench_Print.tab10 bench_Print.bits10 (fun HT_ HW_ => ?_)
                                    generalize wc.drew = w29 at BK228 HB HS hHeld ⊢
                                    refine pure_ (i := 0) (N := some 33) (v := ?_) (a' := ?_) #[true, false, false, false, false, false, false, false, false, false, false] rfl rfl (any_of HT_.out (by kernel_rfl)) (fun _ _ _ h => h) (Or.inl ⟨by rfl, ?_⟩) ?_ ?_
                                    rotate_left
                                    · intro w'
                                      go_simp
                                      with_reducible rfl
                                    rotate_left
                                    · simp only [Act.put, List.setIfInBounds_toArray, List.set_cons_zero, List.set_cons_succ, i64_w, i32_w]
                                      rfl
                                    refine pure_ (i := 5) (N := some 38) (v := ?_) (a' := ?_) #[true, false, false, false, false, true, false, false, false, false, false] rfl rfl (any_of HT_.out (by kernel_rfl)) (fun _ _ _ h => h) (Or.inl ⟨by rfl, ?_⟩) ?_ ?_
                                    rotate_left
                                    · intro w'
                                      go_simp
                                      with_reducible rfl
                                    rotate_left
                                    · simp only [Act.put, List.setIfInBounds_toArray, List.set_cons_zero, List.set_cons_succ, i64_w, i32_w]
                                      rfl
                                    refine take_ (i := 1) (N := some 34) (v := ?_) (a' := ?_) #[true, true, false, false, false, true, false, false, false, false, false] rfl rfl (take_ofW HT_.out HW_.out (by kernel_rfl)) (fun _ _ _ h => h) (Or.inl ⟨by rfl, ?_⟩) hHeld ?_ ?_
                                    rotate_left
                                    · rintro w' ⟨s0, s1⟩
                                      go_simp
                                      with_reducible rfl
                                    rotate_left
                                    · simp only [Act.put, List.setIfInBounds_toArray, List.set_cons_zero, List.set_cons_succ, i64_w, i32_w]
                                      rfl
                                    refine take_ (i := 6) (N := some 39) (v := ?_) (a' := ?_) #[true, true, false, false, false, true, true, false, false, false, false] rfl rfl (take_ofW HT_.out HW_.out (by kernel_rfl)) (fun _ _ _ h => h) (Or.inl ⟨by rfl, ?_⟩) hHeld ?_ ?_
                                    rotate_left
                                    · rintro w' ⟨s0, s1⟩
                                      go_simp
                                      with_reducible rfl
                                    rotate_left
                                    · simp only [Act.put, List.setIfInBounds_toArray, List.set_cons_zero, List.set_cons_succ, i64_w, i32_w]
                                      rfl
                                    refine one_ (i := 2) (N := some 35) #[true, true, true, false, false, true, true, false, false, false, false] rfl rfl (one_of HT_.out (by kernel_rfl)) (by decide) (fun K hK => ?_)
                                    refine goes_ Tryd.func15 (by kernel_rfl) rfl #[.int .i64 ((rd_T36 l1 x19_1).f0)] (by rfl) rfl rfl (by (try simp only [List.map_toArray, List.map_cons, List.map_nil]); first | done | rfl | (simp only [List.length_drop, List.length_take]; rfl)) ?_
                                    with_reducible refine (strconv_Itoa.calls ((rd_T36 l1 x19_1).f0) t231 _ (Laid.below HLaid.out HB.out) A22.out).mono ?_
                                    rintro e w30 ⟨rfl, hb⟩
                                    refine ⟨_, rfl, ?_⟩
                                    have nS_ := Aside0.mk (SB_below HS.out hb)
                                    clear HS
                                    have HS := nS_
                                    clear nS_
                                    have n0_ := Aside0.mk (blk_below (g := gb228) (o := .cells #[.int .i64 ((rd_T36 l1 x19_1).f0), .int .i64 ((rd_T36 l1 x19_1).f1)] 36 (0, 0)) (by (with_reducible repeat (first | refine blk_drewN ?_ _ | refine blk_drew ?_ | refine blk_alloc ?_ _)); exact BK228.out) hb)
                                    have n1_ := Aside0.mk (below_step (by repeat (first | (with_reducible first | exact HB.out | apply below_alloc | apply pw_below_drewN | apply below_drew1 | refine below_set ?_ GE228.out) | exact HB.out)) hb)
                                    clear BK228
                                    clear HB
                                    have BK228 := n0_
                                    have HB := n1_
                                    clear n0_ n1_
                                    (try clear hb)
                                    (try clear hb2)
                                    (try clear hk)
                                    (try clear hi)
                                    refine hK.out _ _ ⟨(blk_cell BK228.out 0).trans rfl, (blk_cell BK228.out 1).trans rfl⟩ (fun hHeld => ?_)
                                    clear hK K
                                    refine norm_ (a' := ?_) ?_ ?_
                                    rotate_left
                                    · show Act.put _ (some 35) _ = _
                                      simp only [Act.put, List.setIfInBounds_toArray, List.set_cons_zero, List.set_cons_succ, i64_w, i32_w]
                                      rfl
                                    refine pure_ (i := 3) (N := some 36) (v := ?_) (a' := ?_) #[true, true, true, true, false, true, true, false, false, false, false] rfl rfl (any_of HT_.out (by kernel_rfl)) (fun _ _ _ h => h) (Or.inl ⟨by rfl, ?_⟩) ?_ ?_
                                    rotate_left
                                    · intro w'
                                      go_simp
                                      with_reducible rfl
                                    rotate_left
                                    · simp only [Act.put, List.setIfInBounds_toArray, List.set_cons_zero, List.set_cons_succ, i64_w, i32_w]
                                      rfl
                                    refine pure_ (i := 4) (N := some 37) (v := ?_) (a' := ?_) #[true, true, true, true, true, true, true, false, false, false, false] rfl rfl (any_of HT_.out (by kernel_rfl)) (fun _ _ _ h => h) (Or.inl ⟨by rfl, ?_⟩) ?_ ?_
                                    rotate_left
                                    · intro w'
                                      go_simp
                                      with_reducible rfl
                                    rotate_left
                                    · simp only [Act.put, List.setIfInBounds_toArray, List.set_cons_zero, List.set_cons_succ, i64_w, i32_w]
                                      rfl
                                    refine one_ (i := 7) (N := some 40) #[true, true, true, true, true, true, true, true, false, false, false] rfl rfl (one_of HT_.out (by kernel_rfl)) (by decide) (fun K hK => ?_)
                                    refine goes_ Tryd.func15 (by kernel_rfl) rfl #[.int .i64 ((rd_T36 l1 x19_1).f1)] (by rfl) rfl rfl (by (try simp only [List.map_toArray, List.map_cons, List.map_nil]); first | done | rfl | (simp only [List.length_drop, List.length_take]; rfl)) ?_
                                    with_reducible refine (strconv_Itoa.calls ((rd_T36 l1 x19_1).f1) t232 _ (Laid.below HLaid.out HB.out) A25.out).mono ?_
                                    rintro e w31 ⟨rfl, hb⟩
                                    refine ⟨_, rfl, ?_⟩
                                    have nS_ := Aside0.mk (SB_below HS.out hb)
                                    clear HS
                                    have HS := nS_
                                    clear nS_
                                    have n0_ := Aside0.mk (blk_below (g := gb228) (o := .cells #[.int .i64 ((rd_T36 l1 x19_1).f0), .int .i64 ((rd_T36 l1 x19_1).f1)] 36 (0, 0)) (by (with_reducible repeat (first | refine blk_drewN ?_ _ | refine blk_drew ?_ | refine blk_alloc ?_ _)); exact BK228.out) hb)
                                    have n1_ := Aside0.mk (below_step (by repeat (first | (with_reducible first | exact HB.out | apply below_alloc | apply pw_below_drewN | apply below_drew1 | refine below_set ?_ GE228.out) | exact HB.out)) hb)
                                    clear BK228
                                    clear HB
                                    have BK228 := n0_
                                    have HB := n1_
                                    clear n0_ n1_
                                    (try clear hb)
                                    (try clear hb2)
                                    (try clear hk)
                                    (try clear hi)
                                    refine hK.out _ _ ⟨(blk_cell BK228.out 0).trans rfl, (blk_cell BK228.out 1).trans rfl⟩ (fun hHeld => ?_)
                                    clear hK K
                                    refine norm_ (a' := ?_) ?_ ?_
                                    rotate_left
                                    · show Act.put _ (some 40) _ = _
                                      simp only [Act.put, List.setIfInBounds_toArray, List.set_cons_zero, List.set_cons_succ, i64_w, i32_w]
                                      rfl
                                    refine pure_ (i := 8) (N := some 41) (v := ?_) (a' := ?_) #[true, true, true, true, true, true, true, true, true, false, false] rfl rfl (any_of HT_.out (by kernel_rfl)) (fun _ _ _ h => h) (Or.inl ⟨by rfl, ?_⟩) ?_ ?_
                                    rotate_left
                                    · intro w'
                                      go_simp
                                      with_reducible rfl
                                    rotate_left
                                    · simp only [Act.put, List.setIfInBounds_toArray, List.set_cons_zero, List.set_cons_succ, i64_w, i32_w]
                                      rfl
                                    refine pure_ (i := 9) (N := some 42) (v := ?_) (a' := ?_) #[true, true, true, true, true, true, true, true, true, true, false] rfl rfl (any_of HT_.out (by kernel_rfl)) (fun _ _ _ h => h) (Or.inl ⟨by rfl, ?_⟩) ?_ ?_
                                    rotate_left
                                    · intro w'
                                      go_simp
                                      with_reducible rfl
                                    rotate_left
                                    · simp only [Act.put, List.setIfInBounds_toArray, List.set_cons_zero, List.set_cons_succ, i64_w, i32_w]
                                      rfl
                                    refine one_ (i := 10) (N := some 43) #[true, true, true, true, true, true, true, true, true, true, true] rfl rfl (one_of HT_.out (by kernel_rfl)) (by decide) (fun K hK => ?_)
                                    refine goes_ Tryd.func37 (by kernel_rfl) rfl #[.pointer (some ⟨gbB, 0, none⟩), .string (((((⟨#[97, 100, 100, 32]⟩ : ByteArray) ++ t231) ++ (⟨#[32]⟩ : ByteArray)) ++ t232) ++ (⟨#[10]⟩ : ByteArray))] (by rfl) rfl rfl (by (try simp only [List.map_toArray, List.map_cons, List.map_nil]); first | done | rfl | (simp only [List.length_drop, List.length_take]; rfl)) ?_
                                    with_reducible refine (builder_WriteString.calls w.heap.size gbB x6_1 (((((⟨#[97, 100, 100, 32]⟩ : ByteArray) ++ t231) ++ (⟨#[32]⟩ : ByteArray)) ++ t232) ++ (⟨#[10]⟩ : ByteArray)) _ HS.out c28 (below_size HB.out)).mono ?_
                                    rintro e w32b ⟨⟨v43, rfl⟩, hs, hb, hk⟩
                                    refine ⟨_, rfl, ?_⟩
                                    have n0_ := Aside0.mk (hk _ _ BK228.out)
                                    have n1_ := Aside0.mk (Below.trans HB.out hb)
                                    clear BK228
                                    clear HB
                                    clear HS
                                    have BK228 := n0_
                                    have HB := n1_
                                    have HS := Aside0.mk hs
                                    clear n0_ n1_ hs hk hb
                                    refine hK.out _ _ ⟨(blk_cell BK228.out 0).trans rfl, (blk_cell BK228.out 1).trans rfl⟩ (fun hHeld => ?_)
                                    clear hK K
                                    refine norm_ (a' := ?_) ?_ ?_
                                    rotate_left
                                    · show Act.put _ (some 43) _ = _
                                      simp only [Act.put, List.setIfInBounds_toArray, List.set_cons_zero, List.set_cons_succ, i64_w, i32_w]
                                      rfl
                                    refine done_ (done_of HT_.out (by kernel_rfl)) ?_
                                    try go_wp2
                                    go_roundg kj12
                                    case measure => have := HK1.out; have := HJ12.out; omega
                                    case rel => exact ⟨(x6_1 ++ (((((⟨#[97, 100, 100, 32]⟩ : ByteArray) ++ t231) ++ (⟨#[32]⟩ : ByteArray)) ++ t232) ++ (⟨#[10]⟩ : ByteArray))), (wrap64 (x19_1 + 1)), (by first | rfl | (simp; done) | (simp [*]; done)), H', ⟨by have := HK1.out; have := HJ12.out; omega⟩, ⟨(by (with_reducible repeat (first | refine SB_drewN ?_ _ | refine SB_drew ?_)); exact HS.out)⟩, ⟨by repeat (first | (with_reducible first | exact HB.out | apply below_alloc | apply pw_below_drewN | apply below_drew1 | refine below_set ?_ GE228.out) | exact HB.out)⟩⟩
                                  · rw [if_neg c28] at H
                                    exact absurd H (by simp)
                                · rw [if_neg c27] at H
                                  exact absurd H (by simp)
                              · rw [if_neg c26] at H
                                exact absurd H (by simp)
                            · rw [if_neg c24] at H
                              exact absurd H (by simp)
                          · rw [if_neg c23] at H
                            exact absurd H (by simp)
                  · rw [if_neg c12] at H
                    exact absurd H (by simp)
                · rw [if_neg c11] at H
                  exact absurd H (by simp)
              · rw [if_neg c10] at H
                have c10b0 : decide (x19_1 < (l1.length : Int)) = false := decide_eq_false c10
                clear c10
                simp only [Option.some.injEq, Prod.mk.injEq] at H
                obtain ⟨rfl, rfl⟩ := H
                go_wp2_with (first | ((with_reducible refine gate_callee (f := 38) rfl ?_); refine goesL_ (some 45) rfl rfl Tryd.func38 (by kernel_rfl) rfl #[.pointer (some ⟨gbB, 0, none⟩)] rfl (by (try simp only [List.map_toArray, List.map_cons, List.map_nil]); first | done | rfl | (simp only [List.length_drop, List.length_take]; rfl)) ?_; (with_reducible refine (builder_String.calls w.heap.size gbB x6_1 _ ?sideS ?sideB).mono ?_); (case sideS => exact (by (with_reducible repeat (first | refine SB_drewN ?_ _ | refine SB_drew ?_)); exact HS.out)); (case sideB => exact below_size (by repeat (first | (with_reducible first | exact HB.out | apply below_alloc | apply pw_below_drewN | apply below_drew1) | exact HB.out))); rintro e w40b ⟨rfl, hb⟩; refine ⟨_, rfl, ?_⟩; have n0_ := Aside0.mk (Below.trans (show Below w.heap.size w _ from (by repeat (first | (with_reducible first | exact HB.out | apply below_alloc | apply pw_below_drewN | apply below_drew1) | exact HB.out))) hb); clear HB; have HB := n0_; clear n0_ hb))
                go_ret2
                exact ⟨by first | rfl | (simp [errW_none, errW_some] <;> rfl) | (simp [*, errW_none, errW_some] <;> rfl), by repeat (first | (with_reducible first | exact HB.out | apply below_alloc | apply pw_below_drewN | apply below_drew1) | exact HB.out)⟩
        · rw [if_neg c8] at H
          exact absurd H (by simp)
      · rw [if_neg c7] at H
        exact absurd H (by simp)
    · rw [if_neg c6] at H
      exact absurd H (by simp)
  · replace c4 := Bool.eq_false_iff.mpr c4
    subst c4
    have H1 : (some ((⟨#[]⟩ : ByteArray), 2)) = some (r1, r2) := by rw [if_neg (show ¬ (false = true) by decide)] at H; exact H
    clear H
    have H := H1
    clear H1
    simp only [Option.some.injEq, Prod.mk.injEq] at H
    obtain ⟨rfl, rfl⟩ := H
    go_enter Tryd.func10, Tryd.ntmps10
    go_wp2_with (first | ((with_reducible refine gate_callee (f := 36) rfl ?_); refine goesL_ (some 10) rfl rfl Tryd.func36 (by kernel_rfl) rfl #[.int .i64 a0] rfl (by (try simp only [List.map_toArray, List.map_cons, List.map_nil]); first | done | rfl | (simp only [List.length_drop, List.length_take]; rfl)) ?_; (with_reducible refine (bench_fits.calls a0 false _ A3.out).mono ?_); rintro e w' ⟨rfl, ⟨nd, rfl⟩⟩; refine ⟨_, rfl, ?_⟩))
    go_ret2
    exact ⟨by first | rfl | (simp [errW_none, errW_some] <;> rfl) | (simp [*, errW_none, errW_some] <;> rfl), by repeat (first | (with_reducible first | exact HB.out | apply below_alloc | apply pw_below_drewN | apply below_drew1) | exact HB.out)⟩
end Go.Proofs.YtioppgeackgjnaaDoor.Bt
