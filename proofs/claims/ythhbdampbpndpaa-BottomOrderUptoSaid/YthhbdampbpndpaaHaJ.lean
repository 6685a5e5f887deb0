-- written by a program of this session (wip/s3/mkJ2.py)
/- bottom.Join: the second row's put into the first, the lowest of them. -/
import Derived.Test.YthhbdampbpndpaaHaJ1
namespace Go.Proofs.Ythhbdampbpndpaa.Bo
open Go.RowKit Go.Proofs.YthhbdampbpndpaaW.PrintWords Go.Proofs.YthhbdampbpndpaaW.PrintLast Go.Proofs.YthhbdampbpndpaaW.PrintMore
attribute [local go_sem] max2_int min2_int max_two min_two max_three min_three max_four min_four
set_option linter.unusedVariables false
set_option linter.unusedSimpArgs false
section
variable {P : Program} {ops : Array Oper} {rest : List Oper} {o : Oper} {a : Act} {Q : Exit → Act → World → Prop}
theorem pair_event {W : World} (hgd : o.guard = none) {N : Tmp} (_hd : o.dst = some N) {cs : Array Value} {t : TypeId}
    (hrun : (execOp a.eval o).run P W = .ok (.value (.slice (some ⟨W.heap.size, 0, none⟩) 2 2)) (W.alloc (.cells cs t (0, 0))))
    (h : ∀ g, g = W.heap.size → ∀ w1, w1 = W.alloc (.cells cs t (0, 0)) → wpList P ops Q rest (a.put o.dst (.slice (some ⟨g, 0, none⟩) 2 2)) w1) : wpList P ops Q (o :: rest) a W :=
  Kd.event_run hgd hrun (h _ rfl _ rfl)
end
theorem own_cap {W : World} {base n c : Nat} {e : TypeId} {A : Option Addr} {xs : List Value} (h : W.ownsRow base e 1 (.slice A n c) n xs) : n ≤ c := by
  rcases h.2 with ⟨h1, h2⟩ | ⟨g, cap, cur, h1, _, _, h2, _⟩
  · omega
  · injection h1 with _ _ h3
    omega
instance (s : Int) (l : List Int) : Decidable (Rk.Inc s l) := by unfold Rk.Inc; infer_instance
def joinCond (seed room : Int) (a b : List Int) : Bool := decide (Rk.Word seed ∧ (∀ x ∈ a, Rk.Word x) ∧ (∀ x ∈ b, Rk.Word x) ∧ Rk.Inc seed a ∧ a.length ≤ 1000 ∧ b.length ≤ 1000 ∧ 0 ≤ room ∧ room ≤ 400)
def bottom_Join.f (k : Nat) (seed room : Int) (a b : List Int) : Option (List Int × Int) :=
  (bottom_Right.f k seed room a).bind fun t1 => (if t1 = true then ((bottom_Right.f k seed room b).bind fun t2 => (if t2 = true then (if joinCond seed room a b = true then some ((Rk.insAll seed a b).take room.toNat, 0) else none) else some ([], 1))) else some ([], 1))
theorem bottom_Join.mono : ∀ a0 a1 a2 a3 k, LeO (bottom_Join.f k a0 a1 a2 a3) (bottom_Join.f (k + 1) a0 a1 a2 a3) := by
  intro a0 a1 a2 a3 k
  unfold bottom_Join.f
  repeat' first
      | (with_reducible exact bottom_Right.mono _ _ _ _)
      | (with_reducible exact LeO.refl _)
      | (with_reducible exact LeO.none _)
      | (with_reducible refine LeO.ite ?_ ?_)
      | (with_reducible refine LeO.bind ?_ (fun _ => ?_))
      | exact bottom_Right.mono _ _ _ _
theorem insAll_length (s : Int) : ∀ (b a : List Int), (Rk.insAll s a b).length ≤ a.length + b.length
  | [], a => by simp [Rk.insAll]
  | x :: b, a => by
    have h1 := insAll_length s b (Rk.ins s x a)
    have h2 : (Rk.ins s x a).length ≤ a.length + 1 := by
      induction a with
      | nil => simp [Rk.ins]
      | cons y a ih => unfold Rk.ins; split; · simp
                       · split; · simp
                         · simpa using ih (insAll_length s b _)
    have e : Rk.insAll s a (x :: b) = Rk.insAll s (Rk.ins s x a) b := rfl
    rw [e]
    simp only [List.length_cons]
    omega
set_option maxHeartbeats 8000000 in
set_option maxRecDepth 100000 in
theorem bottom_Join.calls (k : Nat) (seed : Int) (room : Int) (A2 : Option Addr) (c2 : Nat) (l2 : List Int) (A3 : Option Addr) (c3 : Nat) (l3 : List Int) (r1 : List Int) (r2 : Int) (w : World)
    (hr2 : Kd.C (Kd.int .u64) w A2 l2.length l2) (hc2 : l2.length ≤ c2) (hr3 : Kd.C (Kd.int .u64) w A3 l3.length l3) (hc3 : l3.length ≤ c3) (h : bottom_Join.f k seed room l2 l3 = some (r1, r2)) :
    Calls Try.prog 18 #[.int .u64 seed, .int .i64 room, .slice A2 l2.length c2, .slice A3 l3.length c3] w fun e w' => ∃ v0_ : Value, e = .returned (.tuple #[v0_, .int .i64 r2]) ∧ Kd.V (Kd.int .u64) 22 w' w.heap.size (fun k_ => (w.heap.size ≤ k_)) v0_ r1 ∧ Below w.heap.size w w' := by
  have hu22 := Try.underlying22
  have HR2 := Aside0.mk hr2
  have HR3 := Aside0.mk hr3
  clear hr2 hr3
  have HB := Aside0.mk (Below.refl w.heap.size w)
  have H : ((bottom_Right.f k seed room l2).bind fun t1 => (if t1 = true then ((bottom_Right.f k seed room l3).bind fun t2 => (if t2 = true then (if joinCond seed room l2 l3 = true then some ((Rk.insAll seed l2 l3).take room.toNat, 0) else none) else some ([], 1))) else some ([], 1))) = some (r1, r2) := h
  clear h
  obtain ⟨t1, A10, H⟩ := Option.bind_eq_some_iff.mp H
  have A1 := Aside0.mk A10
  clear A10
  cases t1 with
  | false =>
    rw [if_neg (by decide)] at H
    simp only [Option.some.injEq, Prod.mk.injEq] at H
    obtain ⟨rfl, rfl⟩ := H
    go_enter Try.func18, Try.ntmps18
    go_wp2_with (first | ((with_reducible refine gate_dst (N := 4) rfl ?_); refine box_event ?hg (N := 4) ?hd (cs := #[.int .u64 seed]) (t := 22) ?hr ?_; (case hd => rfl); (case hg => rfl); (case hr => first | (go_simp; done) | (go_simp; rfl)); intro gb4 hg w5 hbox hb; have n0_ := Aside0.mk (below_step (by repeat (first | (with_reducible first | exact HB.out | apply below_alloc | apply pw_below_drewN | apply below_drew1) | exact HB.out)) hb); have n1_ := Aside0.mk (Kd.C_below HR2.out hb); have n2_ := Aside0.mk (Kd.C_below HR3.out hb); have GE4 := Aside0.mk ((by rw [hg]; exact (below_size (by repeat (first | (with_reducible first | exact HB.out | apply below_alloc | apply pw_below_drewN | apply below_drew1) | exact HB.out)))) : w.heap.size ≤ gb4); clear HB HR2 HR3; have HB := n0_; have HR2 := n1_; have HR3 := n2_; have BK4 := Aside0.mk hbox; clear n0_ n1_ n2_ hb hbox hg; have hcz4 : w5.cell? ⟨gb4, 0, none⟩ = some (.int .u64 seed) := (blk_cell BK4.out 0).trans rfl) | ((with_reducible refine gate_callee (f := 10) rfl ?_); refine goesL_ (some 14) rfl rfl Try.func10 (by kernel_rfl) rfl #[.int .u64 seed, .int .i64 room, .slice A2 l2.length c2] rfl (by (try simp only [List.map_toArray, List.map_cons, List.map_nil]); first | done | rfl | (simp only [List.length_drop, List.length_take]; rfl)) ?_; (with_reducible refine (bottom_Right.calls k seed room _ _ l2 false _ ?side1 ?side2 A1.out).mono ?_); (case side1 => exact (by (with_reducible repeat (first | refine Kd.C_drewN ?_ _ | refine Kd.C_drew ?_ | refine Kd.C_alloc ?_ _)); exact HR2.out)); (case side2 => exact hc2); rintro e w' ⟨rfl, ⟨nd, rfl⟩⟩; refine ⟨_, rfl, ?_⟩))
    go_ret2
    exact ⟨_, by first | rfl | (simp [errW_none, errW_some] <;> rfl) | (simp [*, errW_none, errW_some] <;> rfl), Kd.V_nil _ _ _ _ _, (by repeat (first | (with_reducible first | exact HB.out | apply below_alloc | apply pw_below_drewN | apply below_drew1) | exact HB.out))⟩
  | true =>
    rw [if_pos rfl] at H
    obtain ⟨t2, A20, H⟩ := Option.bind_eq_some_iff.mp H
    have A2_ := Aside0.mk A20
    clear A20
    cases t2 with
    | false =>
      rw [if_neg (by decide)] at H
      simp only [Option.some.injEq, Prod.mk.injEq] at H
      obtain ⟨rfl, rfl⟩ := H
      go_enter Try.func18, Try.ntmps18
      go_wp2_with (first | ((with_reducible refine gate_dst (N := 4) rfl ?_); refine box_event ?hg (N := 4) ?hd (cs := #[.int .u64 seed]) (t := 22) ?hr ?_; (case hd => rfl); (case hg => rfl); (case hr => first | (go_simp; done) | (go_simp; rfl)); intro gb4 hg w5 hbox hb; have n0_ := Aside0.mk (below_step (by repeat (first | (with_reducible first | exact HB.out | apply below_alloc | apply pw_below_drewN | apply below_drew1) | exact HB.out)) hb); have n1_ := Aside0.mk (Kd.C_below HR2.out hb); have n2_ := Aside0.mk (Kd.C_below HR3.out hb); have GE4 := Aside0.mk ((by rw [hg]; exact (below_size (by repeat (first | (with_reducible first | exact HB.out | apply below_alloc | apply pw_below_drewN | apply below_drew1) | exact HB.out)))) : w.heap.size ≤ gb4); clear HB HR2 HR3; have HB := n0_; have HR2 := n1_; have HR3 := n2_; have BK4 := Aside0.mk hbox; clear n0_ n1_ n2_ hb hbox hg; have hcz4 : w5.cell? ⟨gb4, 0, none⟩ = some (.int .u64 seed) := (blk_cell BK4.out 0).trans rfl) | ((with_reducible refine gate_callee (f := 10) rfl ?_); refine goesL_ (some 14) rfl rfl Try.func10 (by kernel_rfl) rfl #[.int .u64 seed, .int .i64 room, .slice A2 l2.length c2] rfl (by (try simp only [List.map_toArray, List.map_cons, List.map_nil]); first | done | rfl | (simp only [List.length_drop, List.length_take]; rfl)) ?_; (with_reducible refine (bottom_Right.calls k seed room _ _ l2 true _ ?side1 ?side2 A1.out).mono ?_); (case side1 => exact (by (with_reducible repeat (first | refine Kd.C_drewN ?_ _ | refine Kd.C_drew ?_ | refine Kd.C_alloc ?_ _)); exact HR2.out)); (case side2 => exact hc2); rintro e w' ⟨rfl, ⟨nd, rfl⟩⟩; refine ⟨_, rfl, ?_⟩) | (go_at_call 10; (with_reducible refine (bottom_Right.calls k seed room _ _ l3 false _ ?side1 ?side2 A2_.out).mono ?_); (case side1 => exact (by (with_reducible repeat (first | refine Kd.C_drewN ?_ _ | refine Kd.C_drew ?_ | refine Kd.C_alloc ?_ _)); exact HR3.out)); (case side2 => exact hc3); rintro e w' ⟨rfl, ⟨nd, rfl⟩⟩))
      go_ret2
      exact ⟨_, by first | rfl | (simp [errW_none, errW_some] <;> rfl) | (simp [*, errW_none, errW_some] <;> rfl), Kd.V_nil _ _ _ _ _, (by repeat (first | (with_reducible first | exact HB.out | apply below_alloc | apply pw_below_drewN | apply below_drew1) | exact HB.out))⟩
    | true =>
      rw [if_pos rfl] at H
      by_cases hcond : joinCond seed room l2 l3 = true
      · rw [if_pos hcond] at H
        simp only [Option.some.injEq, Prod.mk.injEq] at H
        obtain ⟨hr1, rfl⟩ := H
        unfold joinCond at hcond
        obtain ⟨hs, h2, h3, hi, n2, n3, q0, q1⟩ := of_decide_eq_true hcond
        clear hcond
        have hn2 := Aside0.mk n2
        have hn3 := Aside0.mk n3
        have hw2 := Aside0.mk h2
        have hw3 := Aside0.mk h3
        have hinc := Aside0.mk hi
        have hww : Aside0 (∀ x ∈ l2 ++ l3, Rk.Word x) := ⟨fun x hx => (List.mem_append.1 hx).elim (h2 x) (h3 x)⟩
        have hln : Aside0 ((l2 ++ l3).length < 4611686018427387904) := ⟨by simp; omega⟩
        have hnn := insAll_length seed l3 l2
        obtain ⟨j, hj⟩ : ∃ j : Nat, (if ((Rk.insAll seed l2 l3).length : Int) < room then ((Rk.insAll seed l2 l3).length : Int) else room) = (j : Int) := by
          split
          · exact ⟨_, rfl⟩
          · exact ⟨room.toNat, by omega⟩
        have hjn : (j : Int) ≤ ((Rk.insAll seed l2 l3).length : Int) := by
          rw [← hj]; split <;> omega
        have hjt : (Rk.insAll seed l2 l3).take room.toNat = (Rk.insAll seed l2 l3).take j := by
          by_cases hlt : ((Rk.insAll seed l2 l3).length : Int) < room
          · rw [if_pos hlt] at hj
            rw [List.take_of_length_le (by omega), List.take_of_length_le (by omega)]
          · rw [if_neg hlt] at hj
            congr 1
            omega
        clear h2 h3 hi
        have HSS := Aside0.mk hs
        go_enter Try.func18, Try.ntmps18
        go_wp2_with (first | ((with_reducible refine gate_dst (N := 4) rfl ?_); refine box_event ?hg (N := 4) ?hd (cs := #[.int .u64 seed]) (t := 22) ?hr ?_; (case hd => rfl); (case hg => rfl); (case hr => first | (go_simp; done) | (go_simp; rfl)); intro gb4 hg w5 hbox hb; have n0_ := Aside0.mk (below_step (by repeat (first | (with_reducible first | exact HB.out | apply below_alloc | apply pw_below_drewN | apply below_drew1) | exact HB.out)) hb); have n1_ := Aside0.mk (Kd.C_below HR2.out hb); have n2_ := Aside0.mk (Kd.C_below HR3.out hb); have GE4 := Aside0.mk ((by rw [hg]; exact (below_size (by repeat (first | (with_reducible first | exact HB.out | apply below_alloc | apply pw_below_drewN | apply below_drew1) | exact HB.out)))) : w.heap.size ≤ gb4); clear HB HR2 HR3; have HB := n0_; have HR2 := n1_; have HR3 := n2_; have BK4 := Aside0.mk hbox; clear n0_ n1_ n2_ hb hbox hg; have hcz4 : w5.cell? ⟨gb4, 0, none⟩ = some (.int .u64 seed) := (blk_cell BK4.out 0).trans rfl) | ((with_reducible refine gate_callee (f := 10) rfl ?_); refine goesL_ (some 14) rfl rfl Try.func10 (by kernel_rfl) rfl #[.int .u64 seed, .int .i64 room, .slice A2 l2.length c2] rfl (by (try simp only [List.map_toArray, List.map_cons, List.map_nil]); first | done | rfl | (simp only [List.length_drop, List.length_take]; rfl)) ?_; (with_reducible refine (bottom_Right.calls k seed room _ _ l2 true _ ?side1 ?side2 A1.out).mono ?_); (case side1 => exact (by (with_reducible repeat (first | refine Kd.C_drewN ?_ _ | refine Kd.C_drew ?_ | refine Kd.C_alloc ?_ _)); exact HR2.out)); (case side2 => exact hc2); rintro e w' ⟨rfl, ⟨nd, rfl⟩⟩; refine ⟨_, rfl, ?_⟩) | (go_at_call 10; (with_reducible refine (bottom_Right.calls k seed room _ _ l3 true _ ?side1 ?side2 A2_.out).mono ?_); (case side1 => exact (by (with_reducible repeat (first | refine Kd.C_drewN ?_ _ | refine Kd.C_drew ?_ | refine Kd.C_alloc ?_ _)); exact HR3.out)); (case side2 => exact hc3); rintro e w' ⟨rfl, ⟨nd, rfl⟩⟩) | ((with_reducible refine gate_dst (N := 25) rfl ?_); refine pair_event ?hg (N := 25) ?hd (cs := #[.slice A2 l2.length c2, .slice A3 l3.length c3]) (t := 23) ?hr ?_; (case hd => rfl); (case hg => rfl); (case hr => first | (go_simp; done) | (go_simp; rfl)); intro gp hgp w17 hw17; have HCC : Aside0 (Kd.C (Kd.slice 22 (Kd.int .u64)) w17 (some ⟨gp, 0, none⟩) 2 [l2, l3]) := ⟨by rw [hw17, hgp]; exact two_rows _ A2 A3 c2 c3 l2 l3 (by (with_reducible repeat (first | refine Kd.C_drewN ?_ _ | refine Kd.C_drew ?_ | refine Kd.C_alloc ?_ _)); exact HR2.out) hc2 (by (with_reducible repeat (first | refine Kd.C_drewN ?_ _ | refine Kd.C_drew ?_ | refine Kd.C_alloc ?_ _)); exact HR3.out) hc3⟩; have n0_ : Aside0 (Below w.heap.size w w17) := ⟨by rw [hw17]; exact (by repeat (first | (with_reducible first | exact HB.out | apply below_alloc | apply pw_below_drewN | apply below_drew1) | exact HB.out))⟩; have n1_ : Aside0 (w17.heap[gb4]? = some (.cells #[.int .u64 seed] 22 (0, 0))) := ⟨by rw [hw17]; exact (by (with_reducible repeat (first | refine blk_drewN ?_ _ | refine blk_drew ?_ | refine blk_alloc ?_ _)); exact BK4.out)⟩; clear HB BK4 hw17 hgp HR2 HR3 hcz4; have HB := n0_; have BK4 := n1_; clear n0_ n1_) | ((with_reducible refine gate_callee (f := 16) rfl ?_); refine goesL_ (some 26) rfl rfl Try.func16 (by kernel_rfl) rfl #[.slice (some ⟨gp, 0, none⟩) 2 2] rfl (by (try simp only [List.map_toArray, List.map_cons, List.map_nil]); first | done | rfl | (simp only [List.length_drop, List.length_take]; rfl)) ?_; (with_reducible refine (concat_pair _ l2 l3 _ ?sideC hn2.out hn3.out).mono ?_); (case sideC => exact (by (with_reducible repeat (first | refine Kd.C_drewN ?_ _ | refine Kd.C_drew ?_ | refine Kd.C_alloc ?_ _)); exact HCC.out)); rintro e w20 ⟨v114, rfl, ho0, hb⟩; refine ⟨_, rfl, ?_⟩; have HR := Aside0.mk (show Kd.R (Kd.int .u64) 22 w20 w17.heap.size (fun _ => True) v114 (l2 ++ l3) from ho0); have HV := Aside0.mk (show ∀ k, v114.ownBlock = some k → w17.heap.size ≤ k from Kd.R_base ho0); have HG := Aside0.mk (blk_lt BK4.out); have HZ := Aside0.mk (below_size HB.out); have n0_ := Aside0.mk (below_step (by repeat (first | (with_reducible first | exact HB.out | apply below_alloc | apply pw_below_drewN | apply below_drew1) | exact HB.out)) hb); have n1_ := Aside0.mk (blk_below (g := gb4) (o := .cells #[.int .u64 seed] 22 (0, 0)) (by (with_reducible repeat (first | refine blk_drewN ?_ _ | refine blk_drew ?_ | refine blk_alloc ?_ _)); exact BK4.out) hb); clear HB BK4 HCC; have HB := n0_; have BK4 := n1_; clear n0_ n1_ hb ho0) | ((with_reducible refine gate_callee (f := 25) rfl ?_); refine goesL_ (some 29) rfl rfl Try.func25 (by kernel_rfl) rfl #[v114, .func (.func 26) #[] #[.pointer (some ⟨gb4, 0, none⟩)]] rfl (by (try simp only [List.map_toArray, List.map_cons, List.map_nil]); first | done | rfl | (simp only [List.length_drop, List.length_take]; rfl)) ?_; (with_reducible refine (sort_join seed gb4 w17.heap.size v114 (l2 ++ l3) _ hs ?sideR HG.out HV.out ?sideK hww.out hln.out).mono ?_); (case sideR => (with_reducible repeat (first | apply Kd.R_alloc | apply Kd.R_drewN | apply Kd.R_drew)); exact HR.out); (case sideK => exact (by (with_reducible repeat (first | refine blk_drewN ?_ _ | refine blk_drew ?_ | refine blk_alloc ?_ _)); exact BK4.out)); rintro e w22 ⟨rfl, ys, hperm, hpw, hR2, hgr⟩; refine ⟨_, rfl, ?_⟩; have HX := Aside0.mk (Rk.compact_joined hs l2 l3 ys hw2.out hw3.out hinc.out hperm hpw); have n0_ := Aside0.mk (pw_below_grown (show Below w.heap.size w _ from (by repeat (first | (with_reducible first | exact HB.out | apply below_alloc | apply pw_below_drewN | apply below_drew1) | exact HB.out))) _ (below_size (by repeat (first | (with_reducible first | exact HB.out | apply below_alloc | apply pw_below_drewN | apply below_drew1) | exact HB.out))) hgr (fun k hk => Nat.le_trans HZ.out (HV.out k hk))); clear HB HR BK4; have HB := n0_; have HR := Aside0.mk hR2; clear n0_ hR2 hgr hperm hpw) | ((with_reducible refine gate_callee (f := 12) rfl ?_); refine goesL_ (some 31) rfl rfl Try.func12 (by kernel_rfl) rfl #[v114] rfl (by (try simp only [List.map_toArray, List.map_cons, List.map_nil]); first | done | rfl | (simp only [List.length_drop, List.length_take]; rfl)) ?_; (with_reducible refine (compact_own w.heap.size v114 ys w _ ?sideO ?sideB).mono ?_); (case sideO => exact own_less (n := ys.length) (Kd.own_of_R (show Kd.R (Kd.int .u64) 22 _ w17.heap.size (fun _ => True) v114 ys from by (with_reducible repeat (first | apply Kd.R_alloc | apply Kd.R_drewN | apply Kd.R_drew)); exact HR.out)) HZ.out); (case sideB => exact (by repeat (first | (with_reducible first | exact HB.out | apply below_alloc | apply pw_below_drewN | apply below_drew1) | exact HB.out))); rintro e w24 ⟨v120, rfl, ho, hb⟩; refine ⟨_, rfl, ?_⟩; rw [HX.out] at ho; obtain ⟨Ao, co, eo⟩ := own_slice ho; subst eo; have HOW := Aside0.mk ho; clear HB; have HB := Aside0.mk hb; clear hb ho; have hjj : (if ((Rk.insAll seed l2 l3).length : Int) < room then ((Rk.insAll seed l2 l3).length : Int) else room) = (j : Int) := hj; have hj0 : decide (0 ≤ (j : Int)) = true := decide_eq_true (Int.natCast_nonneg j); have hj1 : decide ((j : Int) ≤ ((Rk.insAll seed l2 l3).length : Int)) = true := decide_eq_true hjn; have hj2 := eq_true hjn; have hco : (Rk.insAll seed l2 l3).length ≤ co := own_cap HOW.out; have hcj : decide ((j : Int) ≤ (co : Int)) = true := decide_eq_true (by omega); have hcj2 : ((j : Int) ≤ (co : Int)) = True := eq_true (by omega); have hcj3 : ((co : Int) < (j : Int)) = False := eq_false (by omega)) | ((with_reducible refine gate_callee (f := 28) rfl ?_); refine goesL_ (some 38) rfl rfl Try.func28 (by kernel_rfl) rfl #[.slice Ao j co] rfl (by (try simp only [List.map_toArray, List.map_cons, List.map_nil]); first | done | rfl | (simp only [List.length_drop, List.length_take]; rfl)) ?_; (with_reducible refine (clip_calls Ao j co _ ?sideJ ?sideM).mono ?_); (case sideJ => omega); (case sideM => omega); rintro e w' ⟨rfl, ⟨nd, rfl⟩⟩; refine ⟨_, rfl, ?_⟩))
        go_ret2
        refine ⟨_, by first | rfl | (simp [errW_none, errW_some] <;> rfl) | (simp [*, errW_none, errW_some] <;> rfl), ?_, (by repeat (first | (with_reducible first | exact HB.out | apply below_alloc | apply pw_below_drewN | apply below_drew1) | exact HB.out))⟩
        have hV : Kd.V (Kd.int .u64) 22 w24 w.heap.size (fun k_ => (w.heap.size ≤ k_)) (.slice Ao (Rk.insAll seed l2 l3).length co) (Rk.insAll seed l2 l3) :=
          Kd.R_V (Kd.R_of_own (h1 := fun _ => rfl) HOW.out (fun k hk => (HOW.out.lt k hk).1))
        have hF := Kd.F_take (Kd.V_F hV) (show j ≤ (Rk.insAll seed l2 l3).length by omega)
        have hl : ((Rk.insAll seed l2 l3).take j).length = j := by rw [List.length_take]; omega
        rw [← hr1, hjt]
        have hV2 : Kd.V (Kd.int .u64) 22 w24 w.heap.size (fun k_ => (w.heap.size ≤ k_)) (.slice Ao ((Rk.insAll seed l2 l3).take j).length j) ((Rk.insAll seed l2 l3).take j) := Kd.V_mk (by omega) hF
        rw [hl] at hV2
        (with_reducible repeat (first | apply Kd.V_alloc | apply Kd.V_drewN | apply Kd.V_drew))
        exact hV2
      · rw [if_neg hcond] at H
        exact absurd H (by simp)
end Go.Proofs.Ythhbdampbpndpaa.Bo
