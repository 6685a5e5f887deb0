/- The contract of cycles.Flat: its closure, the sort by the rows' first elements (slices.SortFunc), its walk. -/
import Derived.Test.YtohknfbfmobggaaCy2
import Derived.Test.YtohknfbfmobggaaCy6
import Derived.Test.YtohknfbfmobggaaCy7
import Derived.Test.YtohknfbfmobggaaHaA
import Derived.Test.YtohknfbfmobggaaHaS0
import Derived.Test.YtohknfbfmobggaaShelf
import Derived.Sort.Grow
namespace Go.Proofs.Ytohknfbfmobggaa.Cy
open Go.RowKit Go.Proofs.YtohknfbfmobggaaW.PrintWords Go.Proofs.YtohknfbfmobggaaW.PrintLast Go.Proofs.YtohknfbfmobggaaW.PrintMore
attribute [local go_sem] max2_int min2_int max_two min_two max_three min_three max_four min_four
set_option linter.unusedVariables false
set_option linter.unusedSimpArgs false

/-! ### the closure, and the sort by heads -/
set_option maxHeartbeats 1000000 in
theorem cycles_Flat_1.calls0 (w1 : World) (b b' n c n' c' : Nat) (x y : Int) (h1 : w1.cell? ⟨b, 0, none⟩ = some (.int .i64 x)) (h2 : w1.cell? ⟨b', 0, none⟩ = some (.int .i64 y)) (hn : (0 : Int) < (n : Int)) (hn' : (0 : Int) < (n' : Int)) (hx : 0 ≤ x ∧ x < 4611686018427387904) (hy : 0 ≤ y ∧ y < 4611686018427387904) :
    Calls Try.prog 29 #[.slice (some ⟨b, 0, none⟩) n c, .slice (some ⟨b', 0, none⟩) n' c'] w1 fun e w' => e = .returned (.int .i64 (x - y)) ∧ ∃ q os', w' = Go.Sort.grow (w1.drewN q) os' := by
  have hn2 : 0 < n := by omega
  have hn2' : 0 < n' := by omega
  go_enter Try.func29, Try.ntmps29
  go_wp2
  go_quiet (fail)
  go_wp2
  go_ret
  exact ⟨rfl, _, #[], by simp; rfl⟩
/-- .. wherever in their blocks the two slices begin. -/
theorem cycles_Flat_1.calls (w1 : World) (ad ad' : Addr) (n c n' c' : Nat) (x y : Int) (h1 : w1.cell? ad = some (.int .i64 x)) (h2 : w1.cell? ad' = some (.int .i64 y)) (hn : (0 : Int) < (n : Int)) (hn' : (0 : Int) < (n' : Int)) (hx : 0 ≤ x ∧ x < 4611686018427387904) (hy : 0 ≤ y ∧ y < 4611686018427387904) :
    Calls Try.prog 29 #[.slice (some ad) n c, .slice (some ad') n' c'] w1 fun e w' => e = .returned (.int .i64 (x - y)) ∧ ∃ q os', w' = Go.Sort.grow (w1.drewN q) os' := by
  have hn2 : 0 < n := by omega
  have hn2' : 0 < n' := by omega
  have k1 : w1.cell? (ad.add 0) = some (.int .i64 x) := by rw [show ad.add 0 = ad from by unfold Addr.add; simp]; exact h1
  have k2 : w1.cell? (ad'.add 0) = some (.int .i64 y) := by rw [show ad'.add 0 = ad' from by unfold Addr.add; simp]; exact h2
  go_enter Try.func29, Try.ntmps29
  go_wp2
  go_quiet (fail)
  go_wp2
  go_ret
  exact ⟨rfl, _, #[], by simp; rfl⟩

def hdOf (r : List Int) : Int := r.getD 0 0
def HeadOK (r : List Int) : Prop := 0 < r.length ∧ 0 ≤ hdOf r ∧ hdOf r < 4611686018427387904
instance (r : List Int) : Decidable (HeadOK r) := by unfold HeadOK; exact inferInstance
def insHd (a : List Int) : List (List Int) → List (List Int)
  | [] => [a]
  | b :: l => if hdOf a < hdOf b then a :: b :: l else b :: insHd a l
def sortHd : List (List Int) → List (List Int)
  | [] => []
  | a :: l => insHd a (sortHd l)
def slices_SortFunc_heads.f (l : List (List Int)) : Option (List (List Int)) :=
  if (∀ r ∈ l, HeadOK r) ∧ (l.map hdOf).Nodup ∧ l.length ≤ 17592186044416 then some (sortHd l) else none
theorem insHd_perm (a : List Int) : ∀ l, (insHd a l).Perm (a :: l)
  | [] => List.Perm.refl _
  | b :: l => by
    unfold insHd
    split
    · exact List.Perm.refl _
    · exact ((insHd_perm a l).cons b).trans (List.Perm.swap a b l)
theorem sortHd_perm : ∀ l, (sortHd l).Perm l
  | [] => List.Perm.refl _
  | a :: l => (insHd_perm a _).trans ((sortHd_perm l).cons a)
theorem insHd_sorted (a : List Int) : ∀ l, l.Pairwise (fun x y => ¬ hdOf y < hdOf x) → (insHd a l).Pairwise (fun x y => ¬ hdOf y < hdOf x)
  | [], _ => List.pairwise_singleton _ _
  | b :: l, h => by
    obtain ⟨hb, hl⟩ := List.pairwise_cons.1 h
    unfold insHd
    split
    · rename_i hab
      refine List.pairwise_cons.2 ⟨fun y hy => ?_, h⟩
      rcases List.mem_cons.1 hy with e | e
      · subst e; omega
      · have := hb y e; omega
    · rename_i hab
      refine List.pairwise_cons.2 ⟨fun y hy => ?_, insHd_sorted a l hl⟩
      rcases List.mem_cons.1 ((insHd_perm a l).mem_iff.1 hy) with e | e
      · subst e; omega
      · exact hb y e
theorem sortHd_sorted : ∀ l, (sortHd l).Pairwise (fun x y => ¬ hdOf y < hdOf x)
  | [] => List.Pairwise.nil
  | a :: l => insHd_sorted a _ (sortHd_sorted l)
/-- Two rising lists of the same rows, no two of which begin alike, are one. -/
theorem sorted_unique : ∀ {l1 l2 : List (List Int)}, l1.Perm l2 → (l2.map hdOf).Nodup → l1.Pairwise (fun x y => ¬ hdOf y < hdOf x) → l2.Pairwise (fun x y => ¬ hdOf y < hdOf x) → l1 = l2
  | [], [], _, _, _, _ => rfl
  | [], b :: l2, h, _, _, _ => absurd h.length_eq (by simp)
  | a :: l1, [], h, _, _, _ => absurd h.length_eq (by simp)
  | a :: l1, b :: l2, h, hn, h1, h2 => by
    obtain ⟨ha, h1'⟩ := List.pairwise_cons.1 h1
    obtain ⟨hb, h2'⟩ := List.pairwise_cons.1 h2
    rw [List.map_cons] at hn
    obtain ⟨hn1, hn2⟩ := List.nodup_cons.1 hn
    have hab : a = b := by
      rcases List.mem_cons.1 (h.mem_iff.1 (List.mem_cons_self (a := a) (l := l1))) with e | e
      · exact e
      · rcases List.mem_cons.1 (h.mem_iff.2 (List.mem_cons_self (a := b) (l := l2))) with e' | e'
        · exact e'.symm
        · have h3 := hb a e
          have h4 := ha b e'
          have h5 : hdOf a = hdOf b := by omega
          exact absurd (List.mem_map.2 ⟨a, e, h5⟩) hn1
    subst hab
    rw [sorted_unique (List.Perm.cons_inv h) hn2 h1' h2']

/-- slices.SortFunc with Flat's closure, at a row of rows. -/
theorem slices_SortFunc_heads.calls (base : Nat) (ok : Nat → Prop) (v : Value) (xs ys : List (List Int)) (W : World) (HN : Kd.N (Kd.slice 3 (Kd.int .i64)) 22 W base ok v xs) (h : slices_SortFunc_heads.f xs = some ys) :
    Calls Try.prog 28 #[v, .func (.func 29) #[] #[]] W fun e w' => e = .returned (.tuple #[]) ∧ Kd.N (Kd.slice 3 (Kd.int .i64)) 22 w' base ok v ys ∧ W.grownBy w' v.ownBlock := by
  unfold slices_SortFunc_heads.f at h
  split at h
  · rename_i hc
    obtain ⟨hg, hn, hl⟩ := hc
    obtain rfl := Option.some.inj h
    have eg : ∀ args w, (callFunc 29 args).run Try.prog w = .ok (.enter 29 args) w := enters_of Try.func29 (by kernel_rfl) rfl
    have hcon := SortKd.sort_N Try.sortLL (Kd.slice 3 (Kd.int .i64)) rfl HeadOK (fun x y => hdOf x - hdOf y) hdOf (fun x y _ _ => by omega) 29 #[] eg 22 base ok v xs W HN hg ?_ (by omega)
    · refine hcon.mono ?_
      rintro e w' ⟨rfl, zs, hp, hpw, hN, hgr⟩
      have : zs = sortHd xs := sorted_unique (hp.trans (sortHd_perm xs).symm) (((sortHd_perm xs).map hdOf).nodup_iff.2 hn) hpw (sortHd_sorted xs)
      subst this
      exact ⟨rfl, hN, hgr⟩
    · intro w1 x y u u' _ hK hK' hx hy
      obtain ⟨A, c, e1, _, hC⟩ := hK
      obtain ⟨A', c', e2, _, hC'⟩ := hK'
      have e1' : u = .slice A x.length c := (List.cons.inj e1).1
      have e2' : u' = .slice A' y.length c' := (List.cons.inj e2).1
      subst e1' e2'
      obtain ⟨ad, rfl, hcell⟩ := (Kd.reads_of_C (d := (0 : Int)) hC).at_ 0 (Int.le_refl 0) (by have := hx.1; omega)
      obtain ⟨ad', rfl, hcell'⟩ := (Kd.reads_of_C (d := (0 : Int)) hC').at_ 0 (Int.le_refl 0) (by have := hy.1; omega)
      have k1 : w1.cell? ad = some (.int .i64 (hdOf x)) := by
        have z : ad.add (0 : Int).toNat = ad := by unfold Addr.add; simp
        rw [z] at hcell
        exact hcell
      have k2 : w1.cell? ad' = some (.int .i64 (hdOf y)) := by
        have z : ad'.add (0 : Int).toNat = ad' := by unfold Addr.add; simp
        rw [z] at hcell'
        exact hcell'
      exact cycles_Flat_1.calls w1 ad ad' x.length c y.length c' (hdOf x) (hdOf y) k1 k2 (by have := hx.1; omega) (by have := hy.1; omega) hx.2 hy.2
  · cases h
theorem slices_SortFunc_heads.len {xs ys : List (List Int)} (h : slices_SortFunc_heads.f xs = some ys) : ys.length = xs.length := by
  unfold slices_SortFunc_heads.f at h
  split at h
  · obtain rfl := Option.some.inj h
    exact (sortHd_perm xs).length_eq
  · cases h

/-! ### cycles_Flat: function 20 -/
def cycles_Flat.l0 : Nat → List (List Int) → Int → Int → Option (List Int × Int)
  | 0, _, _, _ => none
  | k + 1, x4, x18, x19 => if x19 < x18 then (if 0 ≤ x19 then (if x19 < (x4.length : Int) then ((slices_Max_int_int.f k (rd_L2 x4 x19)).bind fun t130 => ((slices_Index_int_int.f k (rd_L2 x4 x19) t130).bind fun t131 => (if 0 ≤ t131 then (if t131 ≤ ((rd_L2 x4 x19).length : Int) then ((slices_Concat_int_int.f k (([((rd_L2 x4 x19).drop (t131 : Int).toNat), ((rd_L2 x4 x19).take (t131 : Int).toNat)] : List (List Int)))).bind fun t145 => (cycles_Flat.l0 k (x4.set (x19 : Int).toNat t145) x18 (wrap64 (x19 + 1)))) else (none)) else (none)))) else (none)) else (none)) else ((slices_SortFunc_heads.f x4).bind fun t149 => ((slices_Concat_int_int.f k t149).bind fun t152 => (some (t152, 0))))
def cycles_Flat.f (k : Nat) (l0 : List Int) : Option (List Int × Int) := (cycles_Of.f k l0).bind fun bt125 => (if bt125.2 = 0 then (cycles_Flat.l0 k bt125.1 (bt125.1.length : Int) 0) else (some (([] : List Int), bt125.2)))
theorem cycles_Flat.mono_l : ∀ k, (∀ y0 y1 y2, LeO (cycles_Flat.l0 k y0 y1 y2) (cycles_Flat.l0 (k + 1) y0 y1 y2))
  | 0 => fun _ _ _ r h => by simp [cycles_Flat.l0] at h
  | k + 1 => by
    have ih0 := cycles_Flat.mono_l k
    · intro y0 y1 y2
      unfold cycles_Flat.l0
      repeat' first
      | (with_reducible exact ih0 _ _ _)
      | (with_reducible exact cycles_Of.mono _ _)
      | (with_reducible exact slices_Concat_int_int.mono _ _)
      | (with_reducible exact slices_Index_int_int.mono _ _ _)
      | (with_reducible exact slices_Max_int_int.mono _ _)
      | (with_reducible exact LeO.refl _)
      | (with_reducible exact LeO.none _)
      | (with_reducible refine LeO.ite ?_ ?_)
      | (with_reducible refine LeO.bind ?_ (fun _ => ?_))
      | exact ih0 _ _ _
      | exact cycles_Of.mono _ _
      | exact slices_Concat_int_int.mono _ _
      | exact slices_Index_int_int.mono _ _ _
      | exact slices_Max_int_int.mono _ _
      | exact LeO.none _
      | refine LeO.ite ?_ ?_
      | refine LeO.bind ?_ (fun _ => ?_)
theorem cycles_Flat.mono : ∀ a0 k, LeO (cycles_Flat.f k a0) (cycles_Flat.f (k + 1) a0) := by
  intro a0 k
  have ih0 := cycles_Flat.mono_l k
  unfold cycles_Flat.f
  repeat' first
      | (with_reducible exact ih0 _ _ _)
      | (with_reducible exact cycles_Of.mono _ _)
      | (with_reducible exact slices_Concat_int_int.mono _ _)
      | (with_reducible exact slices_Index_int_int.mono _ _ _)
      | (with_reducible exact slices_Max_int_int.mono _ _)
      | (with_reducible exact LeO.refl _)
      | (with_reducible exact LeO.none _)
      | (with_reducible refine LeO.ite ?_ ?_)
      | (with_reducible refine LeO.bind ?_ (fun _ => ?_))
      | exact ih0 _ _ _
      | exact cycles_Of.mono _ _
      | exact slices_Concat_int_int.mono _ _
      | exact slices_Index_int_int.mono _ _ _
      | exact slices_Max_int_int.mono _ _
      | exact LeO.none _
      | refine LeO.ite ?_ ?_
      | refine LeO.bind ?_ (fun _ => ?_)
def cycles_Flat.T8 : Bool × List (List Nat × List Nat) := (true, [([], []), ([], []), ([], []), ([], []), ([2, 3], [2, 3]), ([], []), ([], []), ([5, 6], [5, 6]), ([4, 7], [4, 7]), ([8], [8]), ([0, 1, 0, 1, 2, 3, 4, 5, 6, 7, 8, 9], [0, 1]), ([10, 9, 9, 0, 1, 2, 3, 4, 5, 6, 7, 8, 9], [9, 10])])
def cycles_Flat.B8 : List Nat := [0, 0, 0, 0, 12, 0, 0, 96, 252, 508, 1023, 2047]
theorem cycles_Flat.tab8 : rtab .any (opsOf Try.f20 8) = cycles_Flat.T8 := by kernel_rfl
theorem cycles_Flat.bits8 : waitsOk cycles_Flat.T8.2 cycles_Flat.B8 = true := by kernel_rfl
set_option maxHeartbeats 8000000 in
set_option maxRecDepth 100000 in
theorem cycles_Flat.calls (k : Nat) (A0 : Option Addr) (c0 : Nat) (l0 : List Int) (r1 : List Int) (r2 : Int) (w : World) (hr0 : Kd.C (Kd.int .i64) w A0 l0.length l0) (hc0 : l0.length ≤ c0) (h : cycles_Flat.f k l0 = some (r1, r2)) :
    Calls Try.prog 20 #[.slice A0 l0.length c0] w fun e w' => ∃ v0_ : Value, e = .returned (.tuple #[v0_, .int .i64 r2]) ∧ Kd.R (Kd.int .i64) 3 w' w.heap.size (fun _ => True) v0_ r1 ∧ Below w.heap.size w w' := by
  have HR0 := Aside0.mk hr0
  have HC0 := Aside0.mk hc0
  clear hr0 hc0
  have HB := Aside0.mk (Below.refl w.heap.size w)
  have H : ((cycles_Of.f k l0).bind fun bt125 => (if bt125.2 = 0 then (cycles_Flat.l0 k bt125.1 (bt125.1.length : Int) 0) else (some (([] : List Int), bt125.2)))) = some (r1, r2) := h
  clear h
  replace H := Option.bind_eq_some_iff.mp H
  obtain ⟨⟨t125, t126⟩, A20, H⟩ := H
  replace H : (if t126 = 0 then (cycles_Flat.l0 k t125 (t125.length : Int) 0) else (some (([] : List Int), t126))) = some (r1, r2) := H
  have A2 := Aside0.mk A20
  clear A20
  by_cases c3 : t126 = 0
  · rw [if_pos c3] at H
    have c3b0 : (t126 == 0) = true := beq_iff_eq.mpr c3
    have c3b1 : (t126 != 0) = false := bne_eq_false_iff_eq.mpr c3
    clear c3
    have H' := Aside0.mk H
    clear H
    go_enter Try.func20, Try.ntmps20
    go_wp2_with (first | ((with_reducible refine gate_callee (f := 11) rfl ?_); refine goesL_ (some 11) rfl rfl Try.func11 (by kernel_rfl) rfl #[.slice A0 l0.length c0] rfl (by (try simp only [List.map_toArray, List.map_cons, List.map_nil]); first | done | rfl | (simp only [List.length_drop, List.length_take]; rfl)) ?_; (with_reducible refine (cycles_Of.calls k _ _ l0 t125 t126 _ ?side1 ?side2 A2.out).mono ?_); (case side1 => repeat (first | exact HR0.out | (with_reducible refine Kd.C_alloc ?_ _) | (with_reducible refine Kd.C_drewN ?_ _) | (with_reducible refine Kd.C_drew ?_))); (case side2 => exact HC0.out); rintro e w4 ⟨v127, rfl, ho0, hb⟩; refine ⟨_, rfl, ?_⟩; have n0_ := Aside0.mk (Kd.N_lower (Kd.N_mono (ok' := fun k_ => True) (Kd.S_N (Kd.S_bound ho0)) (fun k_ hk_ => trivial)) (below_size (by repeat (first | (with_reducible first | exact HB.out | apply below_alloc | apply pw_below_drewN | apply below_drew1) | exact HB.out)))); have n1_ := Aside0.mk (below_step (by repeat (first | (with_reducible first | exact HB.out | apply below_alloc | apply pw_below_drewN | apply below_drew1) | exact HB.out)) hb); clear HB; have HO128 := n0_; have HB := n1_; clear n0_ n1_; (try clear hb); (try clear hb2); (try clear hk); (try clear hi); (try clear ho0); obtain ⟨Ao5, co5, eo5⟩ := Kd.N_slice HO128.out; subst eo5))
    go_loopg [19] k (fun kq v19 w' => ∃ (x4_1 : List (List Int)) (x19_1 : Int), v19 = .int .i64 x19_1 ∧ Aside0 (cycles_Flat.l0 kq x4_1 (t125.length : Int) x19_1 = some (r1, r2)) ∧ Aside0 (kq ≤ k) ∧ Aside0 (Kd.N (Kd.slice 3 (Kd.int .i64)) 22 w' w.heap.size (fun _ => True) (.slice Ao5 t125.length co5) x4_1) ∧ Aside0 (Below w.heap.size w w'))
    case atStart => exact ⟨(t125), (0), (by first | rfl | (simp; done) | (simp [*]; done)), H', ⟨Nat.le_refl _⟩, ⟨by (with_reducible repeat (first | apply Kd.N_alloc | apply Kd.N_drewN | apply Kd.N_drew)); exact HO128.out⟩, ⟨by repeat (first | (with_reducible first | exact HB.out | apply below_alloc | apply pw_below_drewN | apply below_drew1) | exact HB.out)⟩⟩
    case round =>
      clear H'
      try clear c1
      try clear c2
      try clear p2
      try clear c3
      try clear c3b0
      try clear c3b1
      obtain ⟨x4_1, x19_1, rfl, HA, HK1, HO_4, HB⟩ := hrel
      have hl4_1 := (Kd.N_reads' HO_4.out).1
      rw [hl4_1] at HO_4
      (try simp only [hl4_1])
      cases gk with
      | zero => exact absurd HA.out (by simp [cycles_Flat.l0])
      | succ k1 =>
        have H := HA.out
        clear HA
        simp only [cycles_Flat.l0] at H
        by_cases c6 : x19_1 < (t125.length : Int)
        · rw [if_pos c6] at H
          have c6b0 : decide (x19_1 < (t125.length : Int)) = true := decide_eq_true c6
          clear c6
          by_cases c7 : 0 ≤ x19_1
          · rw [if_pos c7] at H
            have c7b0 : decide (0 ≤ x19_1) = true := decide_eq_true c7
            clear c7
            by_cases c8 : x19_1 < (x4_1.length : Int)
            · rw [if_pos c8] at H
              have c8b0 : decide (x19_1 < (x4_1.length : Int)) = true := decide_eq_true c8
              clear c8
              replace H := Option.bind_eq_some_iff.mp H
              obtain ⟨t130, A90, H⟩ := H
              replace H : ((slices_Index_int_int.f k1 (rd_L2 x4_1 x19_1) t130).bind fun t131 => (if 0 ≤ t131 then (if t131 ≤ ((rd_L2 x4_1 x19_1).length : Int) then ((slices_Concat_int_int.f k1 (([((rd_L2 x4_1 x19_1).drop (t131 : Int).toNat), ((rd_L2 x4_1 x19_1).take (t131 : Int).toNat)] : List (List Int)))).bind fun t145 => (cycles_Flat.l0 k1 (x4_1.set (x19_1 : Int).toNat t145) (t125.length : Int) (wrap64 (x19_1 + 1)))) else (none)) else (none))) = some (r1, r2) := H
              have A9 := Aside0.mk A90
              clear A90
              replace H := Option.bind_eq_some_iff.mp H
              obtain ⟨t131, A100, H⟩ := H
              replace H : (if 0 ≤ t131 then (if t131 ≤ ((rd_L2 x4_1 x19_1).length : Int) then ((slices_Concat_int_int.f k1 (([((rd_L2 x4_1 x19_1).drop (t131 : Int).toNat), ((rd_L2 x4_1 x19_1).take (t131 : Int).toNat)] : List (List Int)))).bind fun t145 => (cycles_Flat.l0 k1 (x4_1.set (x19_1 : Int).toNat t145) (t125.length : Int) (wrap64 (x19_1 + 1)))) else (none)) else (none)) = some (r1, r2) := H
              have A10 := Aside0.mk A100
              clear A100
              by_cases c11 : 0 ≤ t131
              · rw [if_pos c11] at H
                have c11b0 := eq_true c11
                have c11b1 : decide (0 ≤ t131) = true := decide_eq_true c11
                clear c11
                by_cases c12 : t131 ≤ ((rd_L2 x4_1 x19_1).length : Int)
                · rw [if_pos c12] at H
                  have c12b0 := eq_true c12
                  have c12b1 : decide (t131 ≤ ((rd_L2 x4_1 x19_1).length : Int)) = true := decide_eq_true c12
                  clear c12
                  obtain ⟨y132, hy132⟩ : ∃ y_ : List Int, y_ = ((rd_L2 x4_1 x19_1).drop (t131 : Int).toNat) := ⟨_, rfl⟩
                  replace H : ((slices_Concat_int_int.f k1 (([y132, ((rd_L2 x4_1 x19_1).take (t131 : Int).toNat)] : List (List Int)))).bind fun t145 => (cycles_Flat.l0 k1 (x4_1.set (x19_1 : Int).toNat t145) (t125.length : Int) (wrap64 (x19_1 + 1)))) = some (r1, r2) := by first | (rw [hy132]; with_reducible exact H) | (have H2_ := (Option.bind_some _ _).symm.trans H; rw [hy132]; with_reducible exact H2_) | (have H2_ := (Option.bind_some _ _).symm.trans H; with_reducible exact H2_) | with_reducible exact H | (rw [hy132]; exact H) | exact H
                  have Ny132 := Aside0.mk hy132
                  clear hy132
                  have c13b0 := eq_true (of_decide_eq_true (by first | (with_reducible assumption) | assumption) : 0 ≤ t131)
                  have c14b0 := eq_true (of_decide_eq_true (by first | (with_reducible assumption) | assumption) : t131 ≤ ((rd_L2 x4_1 x19_1).length : Int))
                  obtain ⟨y137, hy137⟩ : ∃ y_ : List Int, y_ = ((rd_L2 x4_1 x19_1).take (t131 : Int).toNat) := ⟨_, rfl⟩
                  replace H : ((slices_Concat_int_int.f k1 (([y132, y137] : List (List Int)))).bind fun t145 => (cycles_Flat.l0 k1 (x4_1.set (x19_1 : Int).toNat t145) (t125.length : Int) (wrap64 (x19_1 + 1)))) = some (r1, r2) := by first | (rw [hy137]; with_reducible exact H) | (have H2_ := (Option.bind_some _ _).symm.trans H; rw [hy137]; with_reducible exact H2_) | (have H2_ := (Option.bind_some _ _).symm.trans H; with_reducible exact H2_) | with_reducible exact H | (rw [hy137]; exact H) | exact H
                  have Ny137 := Aside0.mk hy137
                  clear hy137
                  obtain ⟨y142, hy142⟩ : ∃ y_ : List (List Int), y_ = (([y132, y137] : List (List Int))) := ⟨_, rfl⟩
                  replace H : ((slices_Concat_int_int.f k1 y142).bind fun t145 => (cycles_Flat.l0 k1 (x4_1.set (x19_1 : Int).toNat t145) (t125.length : Int) (wrap64 (x19_1 + 1)))) = some (r1, r2) := by first | (rw [hy142]; with_reducible exact H) | (have H2_ := (Option.bind_some _ _).symm.trans H; rw [hy142]; with_reducible exact H2_) | (have H2_ := (Option.bind_some _ _).symm.trans H; with_reducible exact H2_) | with_reducible exact H | (rw [hy142]; exact H) | exact H
                  have Ny142 := Aside0.mk hy142
                  clear hy142
                  replace H := Option.bind_eq_some_iff.mp H
                  obtain ⟨t145, A150, H⟩ := H
                  replace H : (cycles_Flat.l0 k1 (x4_1.set (x19_1 : Int).toNat t145) (t125.length : Int) (wrap64 (x19_1 + 1))) = some (r1, r2) := H
                  have A15 := Aside0.mk A150
                  clear A150
                  obtain ⟨y148, hy148⟩ : ∃ y_ : List (List Int), y_ = (x4_1.set (x19_1 : Int).toNat t145) := ⟨_, rfl⟩
                  replace H : (cycles_Flat.l0 k1 y148 (t125.length : Int) (wrap64 (x19_1 + 1))) = some (r1, r2) := by first | (rw [hy148]; with_reducible exact H) | (have H2_ := (Option.bind_some _ _).symm.trans H; rw [hy148]; with_reducible exact H2_) | (have H2_ := (Option.bind_some _ _).symm.trans H; with_reducible exact H2_) | with_reducible exact H | (rw [hy148]; exact H) | exact H
                  have Ny148 := Aside0.mk hy148
                  clear hy148
                  have H' := Aside0.mk H
                  clear H
                  have p129 : 0 ≤ (x19_1 : Int) := of_decide_eq_true (by first | (with_reducible assumption) | assumption)
                  have q129 : x19_1 < (x4_1.length : Int) := of_decide_eq_true (by first | (with_reducible assumption) | assumption)
                  obtain ⟨ad129, A129_0, c129_0, e129, hx129_0, hl129_0, hi129_0⟩ := at_L2 (Kd.N_reads' HO_4.out).2.2 x19_1 p129 q129
                  cases e129
                  obtain ⟨ce129, hce129, hMe129, hcc129⟩ := Kd.N_get HO_4.out [] x19_1 p129 (by first | exact q129 | exact of_decide_eq_true (by first | (with_reducible assumption) | assumption) | (have e_ := (Kd.N_reads' HO_4.out).1; omega))
                  obtain ⟨ua129_0, uc129_0, rfl, ul129_0, ge129_0⟩ := Kd.FK_slice_open hMe129
                  have hv129_0 := hcc129 0 _ rfl
                  rw [Nat.add_zero, show ((Kd.slice 3 (Kd.int .i64))).sz = 1 from rfl, Nat.mul_one] at hv129_0
                  replace hv129_0 := Option.some.inj (hv129_0.symm.trans hx129_0)
                  injection hv129_0 with hva_ hvn_ hvc_
                  rw [hva_] at ge129_0
                  rw [hvc_] at ul129_0
                  have HL129_0 := Aside0.mk (show Kd.V (Kd.int .i64) 3 _ w.heap.size _ _ (rd_L2 x4_1 x19_1) from Kd.V_mk ul129_0 ge129_0)
                  clear hva_ hvn_ hvc_ ge129_0 ul129_0
                  clear hcc129 hce129
                  have HR129_0 := Aside0.mk hi129_0
                  have HC129_0 := Aside0.mk hl129_0
                  clear hi129_0 hl129_0
                  replace p129 := eq_true p129
                  replace q129 := eq_true q129
                  try go_wp2_with (first | ((with_reducible refine gate_callee (f := 26) rfl ?_); refine goesL_ (some 26) rfl rfl Try.func26 (by kernel_rfl) rfl #[.slice A129_0 (rd_L2 x4_1 x19_1).length c129_0] rfl (by (try simp only [List.map_toArray, List.map_cons, List.map_nil]); first | done | rfl | (simp only [List.length_drop, List.length_take]; rfl)) ?_; (with_reducible refine (slices_Max_int_int.calls k1 _ _ (rd_L2 x4_1 x19_1) t130 _ ?side1 ?side2 A9.out).mono ?_); (case side1 => repeat (first | exact (by repeat (first | (with_reducible exact HR129_0.out) | (with_reducible refine Kd.C_alloc ?_ _) | (with_reducible refine Kd.C_drewN ?_ _) | (with_reducible refine Kd.C_drew ?_) | exact HR129_0.out)) | (with_reducible refine Kd.C_alloc ?_ _) | (with_reducible refine Kd.C_drewN ?_ _) | (with_reducible refine Kd.C_drew ?_))); (case side2 => exact HC129_0.out); rintro e w17 ⟨rfl, hb⟩; refine ⟨_, rfl, ?_⟩; have n0_ := Aside0.mk (Kd.N_below (by (with_reducible repeat (first | apply Kd.N_alloc | apply Kd.N_drewN | apply Kd.N_drew)); exact HO_4.out) hb); have n1_ := Aside0.mk (Kd.V_below (by (with_reducible repeat (first | apply Kd.V_alloc | apply Kd.V_drewN | apply Kd.V_drew)); exact HL129_0.out) hb); have n2_ := Aside0.mk (Kd.C_below (by repeat (first | (with_reducible exact HR129_0.out) | (with_reducible refine Kd.C_alloc ?_ _) | (with_reducible refine Kd.C_drewN ?_ _) | (with_reducible refine Kd.C_drew ?_) | exact HR129_0.out)) hb); have n3_ := Aside0.mk (below_step (by repeat (first | (with_reducible first | exact HB.out | apply below_alloc | apply pw_below_drewN | apply below_drew1) | exact HB.out)) hb); clear HO_4; clear HL129_0; clear HR129_0; clear HB; have HO_4 := n0_; have HL129_0 := n1_; have HR129_0 := n2_; have HB := n3_; clear n0_ n1_ n2_ n3_; (try clear hb); (try clear hb2); (try clear hk); (try clear hi)) | ((with_reducible refine gate_callee (f := 25) rfl ?_); refine goesL_ (some 27) rfl rfl Try.func25 (by kernel_rfl) rfl #[.slice A129_0 (rd_L2 x4_1 x19_1).length c129_0, .int .i64 t130] rfl (by (try simp only [List.map_toArray, List.map_cons, List.map_nil]); first | done | rfl | (simp only [List.length_drop, List.length_take]; rfl)) ?_; (with_reducible refine (slices_Index_int_int.calls k1 _ _ (rd_L2 x4_1 x19_1) t130 t131 _ ?side1 ?side2 A10.out).mono ?_); (case side1 => repeat (first | exact (by repeat (first | (with_reducible exact HR129_0.out) | (with_reducible refine Kd.C_alloc ?_ _) | (with_reducible refine Kd.C_drewN ?_ _) | (with_reducible refine Kd.C_drew ?_) | exact HR129_0.out)) | (with_reducible refine Kd.C_alloc ?_ _) | (with_reducible refine Kd.C_drewN ?_ _) | (with_reducible refine Kd.C_drew ?_))); (case side2 => exact HC129_0.out); rintro e w' ⟨rfl, ⟨nd, rfl⟩⟩; refine ⟨_, rfl, ?_⟩; (try (rw [drewN_self w17]; generalize hq_ : World.drewN w17 _ = w17; have n0_ : Aside0 (Kd.V (Kd.int .i64) 3 w17 w.heap.size (fun k_ => some k_ ≠ (.slice (some ad129) x4_1.length co5 : Value).ownBlock) (.slice A129_0 (rd_L2 x4_1 x19_1).length c129_0) (rd_L2 x4_1 x19_1)) := ⟨by rw [← hq_]; exact (by (with_reducible repeat (first | apply Kd.V_alloc | apply Kd.V_drewN | apply Kd.V_drew)); exact Kd.V_mono HL129_0.out (fun _ hk => hk.2))⟩; have n1_ : Aside0 (Kd.N (Kd.slice 3 (Kd.int .i64)) 22 w17 w.heap.size (fun _ => True) (.slice (some ad129) x4_1.length co5) x4_1) := ⟨by rw [← hq_]; exact (by (with_reducible repeat (first | apply Kd.N_alloc | apply Kd.N_drewN | apply Kd.N_drew)); exact HO_4.out)⟩; have n2_ : Aside0 (Below w.heap.size w w17) := ⟨by rw [← hq_]; exact (by repeat (first | (with_reducible first | exact HB.out | apply below_alloc | apply pw_below_drewN | apply below_drew1) | exact HB.out))⟩; have n3_ : Aside0 (Kd.C (Kd.int .i64) w17 A129_0 (rd_L2 x4_1 x19_1).length (rd_L2 x4_1 x19_1)) := ⟨by rw [← hq_]; exact (by repeat (first | (with_reducible exact HR129_0.out) | (with_reducible refine Kd.C_alloc ?_ _) | (with_reducible refine Kd.C_drewN ?_ _) | (with_reducible refine Kd.C_drew ?_) | exact HR129_0.out))⟩; clear HL129_0 HO_4 HB HR129_0 hq_; have HL129_0 := n0_; have HO_4 := n1_; have HB := n2_; have HR129_0 := n3_; clear n0_ n1_ n2_ n3_))))
                  have n0_ := Aside0.mk (Kd.N_drew HO_4.out)
                  have n1_ := Aside0.mk (Kd.V_drew HL129_0.out)
                  have n2_ := Aside0.mk (Kd.C_drew HR129_0.out)
                  have n3_ := Aside0.mk (below_drew1 HB.out)
                  clear HO_4
                  clear HL129_0
                  clear HR129_0
                  clear HB
                  have HO_4 := n0_
                  have HL129_0 := n1_
                  have HR129_0 := n2_
                  have HB := n3_
                  clear n0_ n1_ n2_ n3_
                  have q19 : (t131 : Int) ≤ (((rd_L2 x4_1 x19_1).length : Int) : Int) := of_decide_eq_true (by first | (with_reducible assumption) | assumption)
                  obtain ⟨i019, hi019, _, hsz19, _⟩ := info_parts info3
                  have hroom19 : (rd_L2 x4_1 x19_1).length ≤ c129_0 := HC129_0.out
                  have hC19 : Kd.F (Kd.int .i64) _ _ A129_0 (rd_L2 x4_1 x19_1).length (rd_L2 x4_1 x19_1) := (Kd.V_at (base := w.heap.size) HL129_0.out).2.2
                  have q019 : (0 : Int) ≤ (t131 : Int) := of_decide_eq_true (by first | (with_reducible assumption) | assumption)
                  have hcut19 := cut_from (P := Try.prog) 22 3 .i64 Try.underlying22 hi019 1 hsz19 A129_0 (rd_L2 x4_1 x19_1).length c129_0 t131 q019 q19
                  have hr19 := Kd.F_cut (m := (t131 : Int).toNat) (c := c129_0) hC19 (by omega) hroom19
                  obtain ⟨A19, hA19⟩ : ∃ A1, A1 = (if c129_0 = (t131 : Int).toNat then A129_0 else (A129_0 : Option Addr).map (·.add ((t131 : Int).toNat * 1))) := ⟨_, rfl⟩
                  obtain ⟨c19, hc19⟩ : ∃ c1, c1 = c129_0 - (t131 : Int).toNat := ⟨_, rfl⟩
                  have hy19 : y132.length = (rd_L2 x4_1 x19_1).length - (t131 : Int).toNat := (by rw [Ny132.out, List.length_drop] <;> omega)
                  rw [show (rd_L2 x4_1 x19_1).drop (t131 : Int).toNat = y132 from Ny132.out.symm] at hr19
                  replace hr19 : Kd.F (Kd.int .i64) _ _ A19 y132.length y132 := (by rw [hA19]; exact hr19)
                  rw [← hy19, ← hA19, ← hc19] at hcut19
                  have HO136 := Aside0.mk (show Kd.V (Kd.int .i64) 3 _ w.heap.size _ (.slice A19 y132.length c19) y132 from Kd.V_mk (by rw [hy19, hc19]; exact Nat.sub_le_sub_right hroom19 _) hr19)
                  have HC136 := Aside0.mk (show y132.length ≤ c19 from by rw [hy19, hc19]; exact Nat.sub_le_sub_right hroom19 _)
                  clear hr19 hC19 hroom19 hi019 hsz19 hc19
                  have KY19 := Aside0.mk hy19
                  have KA19 := Aside0.mk hA19
                  clear hy19 hA19
                  replace q19 := eq_true q19
                  have q20 : (t131 : Int) ≤ (((rd_L2 x4_1 x19_1).length : Int) : Int) := of_decide_eq_true (by first | (with_reducible assumption) | assumption)
                  obtain ⟨i020, hi020, _, hsz20, _⟩ := info_parts info3
                  have hroom20 : (rd_L2 x4_1 x19_1).length ≤ c129_0 := HC129_0.out
                  have hC20 : Kd.F (Kd.int .i64) _ _ A129_0 (rd_L2 x4_1 x19_1).length (rd_L2 x4_1 x19_1) := (Kd.V_at (base := w.heap.size) HL129_0.out).2.2
                  have hcut20 := cut_to (P := Try.prog) 22 3 .i64 Try.underlying22 hi020 A129_0 (rd_L2 x4_1 x19_1).length c129_0 t131 (of_decide_eq_true (by first | (with_reducible assumption) | assumption)) q20 hroom20
                  have hr20 := Kd.F_take (m := (t131 : Int).toNat) hC20 (by omega)
                  have hy20 : y137.length = (t131 : Int).toNat := (by rw [Ny137.out, List.length_take]; omega)
                  rw [← Ny137.out] at hr20
                  rw [← hy20] at hcut20
                  have HO141 := Aside0.mk (show Kd.V (Kd.int .i64) 3 _ w.heap.size _ (.slice A129_0 y137.length c129_0) y137 from Kd.V_mk (by omega) hr20)
                  have HC141 := Aside0.mk (show y137.length ≤ c129_0 from by omega)
                  clear hr20 hC20 hroom20 hi020 hsz20
                  have KY20 := Aside0.mk hy20
                  clear hy20
                  replace q20 := eq_true q20
                  refine start_ (n := 12) (S := fun w' => True) (ds := [11]) #[false, false, false, false, false, false, false, false, false, false, false, false] (by kernel_rfl) rfl rfl trivial (fun hHeld => ?_); refine with_tabW cycles_Flat.tab8 cycles_Flat.bits8 (fun HT_ HW_ => ?_)
                  generalize w17.drew = w18 at HO_4 HL129_0 HR129_0 HB HO136 HO141 hHeld ⊢
                  refine pure_ (i := 0) (N := some 28) (v := ?_) (a' := ?_) #[true, false, false, false, false, false, false, false, false, false, false, false] rfl rfl (any_of HT_.out (by kernel_rfl)) (fun _ _ _ h => h) (Or.inl ⟨by rfl, ?_⟩) ?_ ?_
                  rotate_left
                  · intro w'
                    go_simp
                    with_reducible rfl
                  rotate_left
                  · simp only [Act.put, List.setIfInBounds_toArray, List.set_cons_zero, List.set_cons_succ, i64_w, i32_w]
                    rfl
                  refine pure_ (i := 1) (N := some 29) (v := ?_) (a' := ?_) #[true, true, false, false, false, false, false, false, false, false, false, false] rfl rfl (any_of HT_.out (by kernel_rfl)) (fun _ _ _ h => h) (Or.inl ⟨by rfl, ?_⟩) ?_ ?_
                  rotate_left
                  · intro w'
                    go_simp
                    with_reducible rfl
                  rotate_left
                  · simp only [Act.put, List.setIfInBounds_toArray, List.set_cons_zero, List.set_cons_succ, i64_w, i32_w]
                    rfl
                  refine pure_ (i := 2) (N := some 30) (v := ?_) (a' := ?_) #[true, true, true, false, false, false, false, false, false, false, false, false] rfl rfl (any_of HT_.out (by kernel_rfl)) (fun _ _ _ h => h) (Or.inl ⟨by rfl, ?_⟩) ?_ ?_
                  rotate_left
                  · intro w'
                    go_simp
                    with_reducible rfl
                  rotate_left
                  · simp only [Act.put, List.setIfInBounds_toArray, List.set_cons_zero, List.set_cons_succ, i64_w, i32_w]
                    rfl
                  refine pure_ (i := 3) (N := some 31) (v := ?_) (a' := ?_) #[true, true, true, true, false, false, false, false, false, false, false, false] rfl rfl (any_of HT_.out (by kernel_rfl)) (fun _ _ _ h => h) (Or.inl ⟨by rfl, ?_⟩) ?_ ?_
                  rotate_left
                  · intro w'
                    go_simp
                    with_reducible rfl
                  rotate_left
                  · simp only [Act.put, List.setIfInBounds_toArray, List.set_cons_zero, List.set_cons_succ, i64_w, i32_w]
                    rfl
                  refine pure_ (i := 4) (N := some 32) (v := ?_) (a' := ?_) #[true, true, true, true, true, false, false, false, false, false, false, false] rfl rfl (any_of HT_.out (by kernel_rfl)) (fun _ _ _ h => h) (Or.inl ⟨by rfl, ?_⟩) ?_ ?_
                  rotate_left
                  · intro w'
                    go_simp
                    with_reducible rfl
                  rotate_left
                  · simp only [Act.put, List.setIfInBounds_toArray, List.set_cons_zero, List.set_cons_succ, i64_w, i32_w]
                    rfl
                  refine pure_ (i := 5) (N := some 33) (v := ?_) (a' := ?_) #[true, true, true, true, true, true, false, false, false, false, false, false] rfl rfl (any_of HT_.out (by kernel_rfl)) (fun _ _ _ h => h) (Or.inl ⟨by rfl, ?_⟩) ?_ ?_
                  rotate_left
                  · intro w'
                    go_simp
                    with_reducible rfl
                  rotate_left
                  · simp only [Act.put, List.setIfInBounds_toArray, List.set_cons_zero, List.set_cons_succ, i64_w, i32_w]
                    rfl
                  refine pure_ (i := 6) (N := some 34) (v := ?_) (a' := ?_) #[true, true, true, true, true, true, true, false, false, false, false, false] rfl rfl (any_of HT_.out (by kernel_rfl)) (fun _ _ _ h => h) (Or.inl ⟨by rfl, ?_⟩) ?_ ?_
                  rotate_left
                  · intro w'
                    go_simp
                    with_reducible rfl
                  rotate_left
                  · simp only [Act.put, List.setIfInBounds_toArray, List.set_cons_zero, List.set_cons_succ, i64_w, i32_w]
                    rfl
                  refine pure_ (i := 7) (N := some 35) (v := ?_) (a' := ?_) #[true, true, true, true, true, true, true, true, false, false, false, false] rfl rfl (any_of HT_.out (by kernel_rfl)) (fun _ _ _ h => h) (Or.inl ⟨by rfl, ?_⟩) ?_ ?_
                  rotate_left
                  · intro w'
                    go_simp
                    with_reducible rfl
                  rotate_left
                  · simp only [Act.put, List.setIfInBounds_toArray, List.set_cons_zero, List.set_cons_succ, i64_w, i32_w]
                    rfl
                  refine one_ (i := 8) (N := some 36) #[true, true, true, true, true, true, true, true, true, false, false, false] rfl rfl (one_of HT_.out (by kernel_rfl)) (by decide) (fun K hK => ?_)
                  refine Kd.N_lit_step (Kd.slice 3 (Kd.int .i64)) _ 22 ?hg (N' := 36) ?hd (xs := ([y132, y137] : List (List Int))) (inner := [.slice A19 y132.length c19, .slice A129_0 y137.length c129_0]) (ok := (fun k_ => some k_ ≠ (.slice (some ad129) x4_1.length co5 : Value).ownBlock)) (okp := (fun k_ => some k_ ≠ (.slice (some ad129) x4_1.length co5 : Value).ownBlock)) ?hr ?hp (fun _ hk => hk) ((show ∀ k_, w18.heap.size ≤ k_ → (fun k_ => some k_ ≠ (.slice (some ad129) x4_1.length co5 : Value).ownBlock) k_ from fun k_ hk => Kd.fresh' (Kd.N_lt (by (with_reducible repeat (first | apply Kd.N_alloc | apply Kd.N_drewN | apply Kd.N_drew)); exact HO_4.out)) k_ hk) _ (Nat.le_refl _)) (Below.refl _ _) (Nat.le_refl _) (by simp) ?_; (case hd => rfl); (case hg => rfl); (case hr => first | (go_simp; done) | (go_simp; rfl)); (case hp => exact (Reps.one (show Kd.FK (Kd.slice 3 (Kd.int .i64)) _ _ y132 [.slice A19 y132.length c19] from (Kd.FK_slice_mk (Kd.V_reads' (Kd.V_mono (ok' := (fun k_ => some k_ ≠ (.slice (some ad129) x4_1.length co5 : Value).ownBlock)) (HO136.out) (fun k_ hk => hk))).2.1 (Kd.V_F (Kd.V_mono (ok' := (fun k_ => some k_ ≠ (.slice (some ad129) x4_1.length co5 : Value).ownBlock)) (HO136.out) (fun k_ hk => hk))))) (Reps.one (show Kd.FK (Kd.slice 3 (Kd.int .i64)) _ _ y137 [.slice A129_0 y137.length c129_0] from (Kd.FK_slice_mk (Kd.V_reads' (Kd.V_mono (ok' := (fun k_ => some k_ ≠ (.slice (some ad129) x4_1.length co5 : Value).ownBlock)) (HO141.out) (fun k_ hk => hk))).2.1 (Kd.V_F (Kd.V_mono (ok' := (fun k_ => some k_ ≠ (.slice (some ad129) x4_1.length co5 : Value).ownBlock)) (HO141.out) (fun k_ hk => hk))))) (Reps.none _ _))))
                  intro v143 w21 ho22 hb hg_ hnew_
                  clear hg_ hnew_
                  (first | rw [← Ny142.out] at ho22 | (simp only [Int.reduceToNat] at ho22; rw [← Ny142.out] at ho22))
                  have n0_ := Aside0.mk (Kd.N_elder' (by (with_reducible repeat (first | apply Kd.N_alloc | apply Kd.N_drewN | apply Kd.N_drew)); exact HO_4.out) (Kd.N_base ho22) hb)
                  have n1_ := Aside0.mk (Kd.V_elder' (by (with_reducible repeat (first | apply Kd.V_alloc | apply Kd.V_drewN | apply Kd.V_drew)); exact HL129_0.out) (Kd.N_base ho22) hb)
                  have n2_ := Aside0.mk (Kd.V_elder' (by (with_reducible repeat (first | apply Kd.V_alloc | apply Kd.V_drewN | apply Kd.V_drew)); exact HO136.out) (Kd.N_base ho22) hb)
                  have n3_ := Aside0.mk (Kd.V_elder' (by (with_reducible repeat (first | apply Kd.V_alloc | apply Kd.V_drewN | apply Kd.V_drew)); exact HO141.out) (Kd.N_base ho22) hb)
                  have n4_ := Aside0.mk (Kd.N_lower ho22 (below_size (by repeat (first | (with_reducible first | exact HB.out | apply below_alloc | apply pw_below_drewN | apply below_drew1) | exact HB.out))))
                  have n5_ := Aside0.mk (Kd.C_below (by repeat (first | (with_reducible exact HR129_0.out) | (with_reducible refine Kd.C_alloc ?_ _) | (with_reducible refine Kd.C_drewN ?_ _) | (with_reducible refine Kd.C_drew ?_) | exact HR129_0.out)) hb)
                  have n6_ := Aside0.mk (below_step (by repeat (first | (with_reducible first | exact HB.out | apply below_alloc | apply pw_below_drewN | apply below_drew1) | exact HB.out)) hb)
                  clear HO_4
                  clear HL129_0
                  clear HO136
                  clear HO141
                  clear HR129_0
                  clear HB
                  have HO_4 := n0_
                  have HL129_0 := n1_
                  have HO136 := n2_
                  have HO141 := n3_
                  have HO144 := n4_
                  have HR129_0 := n5_
                  have HB := n6_
                  clear n0_ n1_ n2_ n3_ n4_ n5_ n6_
                  clear hb ho22
                  obtain ⟨Ao23, co23, eo23⟩ := Kd.N_slice HO144.out
                  (first | subst eo23 | (injection eo23 with f1_ f2_ f3_; have f4_ := f1_.symm; have f5_ := f3_.symm; clear f1_ f2_ f3_; subst f4_; subst f5_))
                  refine hK.out _ _ trivial (fun hHeld => ?_)
                  clear hK K
                  refine norm_ (a' := ?_) ?_ ?_
                  rotate_left
                  · show Act.put _ (some 36) _ = _
                    simp only [Act.put, List.setIfInBounds_toArray, List.set_cons_zero, List.set_cons_succ, i64_w, i32_w]
                    rfl
                  refine one_ (i := 9) (N := some 37) #[true, true, true, true, true, true, true, true, true, true, false, false] rfl rfl (one_of HT_.out (by kernel_rfl)) (by decide) (fun K hK => ?_)
                  refine goes_ Try.func27 (by kernel_rfl) rfl #[.slice Ao23 y142.length co23] (by rfl) rfl rfl (by (try simp only [List.map_toArray, List.map_cons, List.map_nil]); first | done | rfl | (simp only [List.length_drop, List.length_take]; rfl)) ?_
                  with_reducible refine (slices_Concat_int_int.calls k1 _ _ y142 t145 _ ?side1 ?side2 A15.out).mono ?_
                  (case side1 => repeat (first | exact (Kd.N_reads' HO144.out).2.2 | (with_reducible refine Kd.C_alloc ?_ _) | (with_reducible refine Kd.C_drewN ?_ _) | (with_reducible refine Kd.C_drew ?_)))
                  (case side2 => exact (Kd.N_reads' HO144.out).2.1)
                  rintro e w24 ⟨v146, rfl, ho0, hb⟩
                  refine ⟨_, rfl, ?_⟩
                  have n0_ := Aside0.mk (Kd.N_elder' (by (with_reducible repeat (first | apply Kd.N_alloc | apply Kd.N_drewN | apply Kd.N_drew)); exact HO_4.out) (Kd.R_base ho0) hb)
                  have n1_ := Aside0.mk (Kd.V_elder' (by (with_reducible repeat (first | apply Kd.V_alloc | apply Kd.V_drewN | apply Kd.V_drew)); exact HL129_0.out) (Kd.R_base ho0) hb)
                  have n2_ := Aside0.mk (Kd.V_elder' (by (with_reducible repeat (first | apply Kd.V_alloc | apply Kd.V_drewN | apply Kd.V_drew)); exact HO136.out) (Kd.R_base ho0) hb)
                  have n3_ := Aside0.mk (Kd.V_elder' (by (with_reducible repeat (first | apply Kd.V_alloc | apply Kd.V_drewN | apply Kd.V_drew)); exact HO141.out) (Kd.R_base ho0) hb)
                  have n4_ := Aside0.mk (Kd.N_elder' (by (with_reducible repeat (first | apply Kd.N_alloc | apply Kd.N_drewN | apply Kd.N_drew)); exact HO144.out) (Kd.R_base ho0) hb)
                  have n5_ := Aside0.mk (Kd.R_lower ho0 (below_size (by repeat (first | (with_reducible first | exact HB.out | apply below_alloc | apply pw_below_drewN | apply below_drew1) | exact HB.out))))
                  have n6_ := Aside0.mk (Kd.C_below (by repeat (first | (with_reducible exact HR129_0.out) | (with_reducible refine Kd.C_alloc ?_ _) | (with_reducible refine Kd.C_drewN ?_ _) | (with_reducible refine Kd.C_drew ?_) | exact HR129_0.out)) hb)
                  have n7_ := Aside0.mk (below_step (by repeat (first | (with_reducible first | exact HB.out | apply below_alloc | apply pw_below_drewN | apply below_drew1) | exact HB.out)) hb)
                  clear HO_4
                  clear HL129_0
                  clear HO136
                  clear HO141
                  clear HO144
                  clear HR129_0
                  clear HB
                  have HO_4 := n0_
                  have HL129_0 := n1_
                  have HO136 := n2_
                  have HO141 := n3_
                  have HO144 := n4_
                  have HO147 := n5_
                  obtain ⟨Ao46, co46, eo46⟩ := Kd.R_slice HO147.out
                  subst eo46
                  have HR129_0 := n6_
                  have HB := n7_
                  clear n0_ n1_ n2_ n3_ n4_ n5_ n6_ n7_
                  (try clear hb)
                  (try clear hb2)
                  (try clear hk)
                  (try clear hi)
                  (try clear ho0)
                  have p16 : 0 ≤ (x19_1 : Int) := of_decide_eq_true (by first | (with_reducible assumption) | assumption)
                  have q16 : (x19_1 : Int) < ((x4_1.length : Int) : Int) := of_decide_eq_true (by first | (with_reducible assumption) | assumption)
                  obtain ⟨go16, co16, eo16, gb16, gl16, cl16, HG16⟩ := Kd.N_form HO_4.out (by omega)
                  (first | cases eo16 | (injection eo16 with ea_ en_ ec_; (first | subst ea_ | (injection ea_ with ea_; subst ea_)); subst ec_; clear en_))
                  have GB16 := Aside0.mk gb16
                  have GG16 := Aside0.mk HG16
                  clear gb16 gl16 HG16
                  (first | simp only [add_plain] at hx129_0 | skip)
                  obtain ⟨ce16, hcl16, hM16, hcc16, hfr16⟩ := Kd.N_elem HO_4.out [] (x19_1 : Int) p16 q16
                  obtain ⟨ua16_0, uc16_0, rfl, ul16_0, ge16_0⟩ := Kd.FK_slice_open hM16
                  have hx16_0 := hcc16 0 _ rfl
                  have hf16_0 := hfr16 0
                  (try simp only [show ((Kd.slice 3 (Kd.int .i64))).sz = 1 from rfl, Nat.mul_one, Nat.add_zero] at hx16_0)
                  (try simp only [show ((Kd.slice 3 (Kd.int .i64))).sz = 1 from rfl, Nat.mul_one, Nat.add_zero] at hf16_0)
                  clear hcl16 hcc16 hfr16 hM16
                  replace p16 := eq_true p16
                  replace q16 := eq_true q16
                  have HX25 := Aside0.mk (show Kd.N (Kd.slice 3 (Kd.int .i64)) 22 _ w.heap.size (fun k_ => some k_ ≠ (.slice Ao23 y142.length co23 : Value).ownBlock ∧ some k_ ≠ ((.slice Ao46 t145.length co46 : Value) : Value).ownBlock) (.slice (some ⟨go16, 0, none⟩) x4_1.length co5) x4_1 from (Kd.N_mono (HO_4.out) (fun k_ hk => ⟨hk.1.2, hk.2⟩)))
                  replace HX25 := Aside0.mk (show Kd.N (Kd.slice 3 (Kd.int .i64)) 22 _ w.heap.size (fun k_ => some k_ ≠ (.slice Ao23 y142.length co23 : Value).ownBlock) (.slice (some ⟨go16, 0, none⟩) x4_1.length co5) x4_1 from Kd.N_mono HX25.out (fun k_ hk => hk.1))
                  obtain ⟨ce25, hcl25, hM25, hcc25, hfr25⟩ := Kd.N_elem HX25.out [] (x19_1 : Int) (of_decide_eq_true (by first | (with_reducible assumption) | assumption)) (by have h_ : (x19_1 : Int) < ((x4_1.length : Int) : Int) := of_decide_eq_true (by first | (with_reducible assumption) | assumption); first | exact h_ | (have e_ := (Kd.N_reads' HO_4.out).1; omega) | simpa using h_)
                  obtain ⟨ua25_0, uc25_0, rfl, ul25_0, ge25_0⟩ := Kd.FK_slice_open hM25
                  have HP25 := (Kd.N_seg HX25.out (x19_1 : Int) (of_decide_eq_true (by first | (with_reducible assumption) | assumption)) (by have h_ : (x19_1 : Int) < ((x4_1.length : Int) : Int) := of_decide_eq_true (by first | (with_reducible assumption) | assumption); first | exact h_ | (have e_ := (Kd.N_reads' HO_4.out).1; omega) | simpa using h_) (seg := [(.slice Ao46 t145.length co46 : Value)]) (j := 0) hcl25 hcc25 (show 1 ≤ 1 from by decide) (x' := t145) (Kd.FK_slice_mk (Kd.R_reads' (Kd.R_mono (ok' := (fun k_ => ((fun k_ => some k_ ≠ (.slice Ao23 y142.length co23 : Value).ownBlock)) k_ ∧ k_ ≠ go16)) (Kd.R_apart' (Kd.R_apart' (HO147.out) (Kd.N_typed HO144.out) (by decide)) (Kd.N_typed HO_4.out) (by decide)) (fun k_ hk => ⟨hk.1.2, fun e_ => (hk.2) (by rw [e_]; rfl)⟩))).2.1 (Kd.R_F (Kd.R_mono (ok' := (fun k_ => ((fun k_ => some k_ ≠ (.slice Ao23 y142.length co23 : Value).ownBlock)) k_ ∧ k_ ≠ go16)) (Kd.R_apart' (Kd.R_apart' (HO147.out) (Kd.N_typed HO144.out) (by decide)) (Kd.N_typed HO_4.out) (by decide)) (fun k_ hk => ⟨hk.1.2, fun e_ => (hk.2) (by rw [e_]; rfl)⟩)))) (fun _ hk => hk)).1
                  (try simp only [show ((Kd.slice 3 (Kd.int .i64))).sz = 1 from rfl, Nat.mul_one, Nat.add_zero] at HP25)
                  rw [← Ny148.out] at HP25
                  have HQ25 := Aside0.mk HP25
                  clear hcl25 hcc25 hfr25 hM25 HP25
                  refine hK.out _ _ trivial (fun hHeld => ?_)
                  clear hK K
                  refine norm_ (a' := ?_) ?_ ?_
                  rotate_left
                  · show Act.put _ (some 37) _ = _
                    simp only [Act.put, List.setIfInBounds_toArray, List.set_cons_zero, List.set_cons_succ, i64_w, i32_w]
                    rfl
                  refine pure_ (i := 10) (N := some 38) (v := ?_) (a' := ?_) #[true, true, true, true, true, true, true, true, true, true, true, false] rfl rfl (any_of HT_.out (by kernel_rfl)) (fun _ _ _ h => h) (Or.inl ⟨by rfl, ?_⟩) ?_ ?_
                  rotate_left
                  · intro w'
                    go_simp
                    with_reducible rfl
                  rotate_left
                  · simp only [Act.put, List.setIfInBounds_toArray, List.set_cons_zero, List.set_cons_succ, i64_w, i32_w]
                    rfl
                  refine last_ (i := 11) (N := none) #[true, true, true, true, true, true, true, true, true, true, true, true] rfl rfl (one_of HT_.out (by kernel_rfl)) (by decide) (fun K hK => ?_)
                  refine skip_ (w1 := ?_) (by rfl) rfl ?_ ?_
                  rotate_left
                  · go_simp
                    rfl
                  refine hK.out _ _ ?_
                  clear hK K
                  refine done_ (done_of HT_.out (by kernel_rfl)) ?_
                  try go_wp2
                  (try simp only [← hl4_1])
                  go_roundg k1
                  case measure => have := HK1.out; omega
                  case rel => exact ⟨(y148), (wrap64 (x19_1 + 1)), (by first | rfl | (simp; done) | (simp [*]; done)), H', ⟨by have := HK1.out; omega⟩, ⟨by (try simp only [hl4_1]); (with_reducible repeat (first | apply Kd.N_alloc | apply Kd.N_drewN | apply Kd.N_drew)); exact Kd.N_mono HQ25.out (fun _ hk => trivial)⟩, ⟨by repeat (first | (with_reducible first | exact HB.out | apply below_alloc | apply pw_below_drewN | apply below_drew1 | refine below_set ?_ GB16.out) | exact HB.out)⟩⟩
                · rw [if_neg c12] at H
                  exact absurd H (by simp)
              · rw [if_neg c11] at H
                exact absurd H (by simp)
            · rw [if_neg c8] at H
              exact absurd H (by simp)
          · rw [if_neg c7] at H
            exact absurd H (by simp)
        · rw [if_neg c6] at H
          have c6b0 : decide (x19_1 < (t125.length : Int)) = false := decide_eq_false c6
          clear c6
          replace H := Option.bind_eq_some_iff.mp H
          obtain ⟨t149, A260, H⟩ := H
          replace H : ((slices_Concat_int_int.f k1 t149).bind fun t152 => (some (t152, 0))) = some (r1, r2) := H
          have A26 := Aside0.mk A260
          clear A260
          replace H := Option.bind_eq_some_iff.mp H
          obtain ⟨t152, A270, H⟩ := H
          replace H : (some (t152, 0)) = some (r1, r2) := H
          have A27 := Aside0.mk A270
          clear A270
          simp only [Option.some.injEq, Prod.mk.injEq] at H
          obtain ⟨rfl, rfl⟩ := H
          have hlen_ := slices_SortFunc_heads.len A26.out
          try rw [← hl4_1] at HO_4
          (try simp only [hl4_1] at HO_4)
          rw [← hlen_] at HO_4 ⊢
          rw [hl4_1, ← hlen_] at c6b0
          clear hlen_
          go_wp2_with (first | ((with_reducible refine gate_callee (f := 28) rfl ?_); refine goesL_ (some 41) rfl rfl Try.func28 (by kernel_rfl) rfl #[.slice Ao5 t149.length co5, .func (.func 29) #[] #[]] rfl (by (try simp only [List.map_toArray, List.map_cons, List.map_nil]); first | done | rfl | (simp only [List.length_drop, List.length_take]; rfl)) ?_; refine (slices_SortFunc_heads.calls _ _ _ x4_1 t149 _ HO_4.out A26.out).mono ?_; rintro e w28 ⟨rfl, hN_, hg_⟩; refine ⟨_, rfl, ?_⟩; have n0_ := Aside0.mk hN_; have n2_ := Aside0.mk (pw_below_grown HB.out _ HB.out.size hg_ (fun k hk => Kd.N_base HO_4.out k hk)); clear HO_4; clear HB; have HO151 := n0_; have HB := n2_; clear n0_ n2_ hN_ hg_) | ((with_reducible refine gate_callee (f := 27) rfl ?_); refine goesL_ (some 43) rfl rfl Try.func27 (by kernel_rfl) rfl #[.slice Ao5 t149.length co5] rfl (by (try simp only [List.map_toArray, List.map_cons, List.map_nil]); first | done | rfl | (simp only [List.length_drop, List.length_take]; rfl)) ?_; (with_reducible refine (slices_Concat_int_int.calls k1 _ _ t149 t152 _ ?side1 ?side2 A27.out).mono ?_); (case side1 => repeat (first | exact (Kd.N_reads' HO151.out).2.2 | (with_reducible refine Kd.C_alloc ?_ _) | (with_reducible refine Kd.C_drewN ?_ _) | (with_reducible refine Kd.C_drew ?_))); (case side2 => exact (Kd.N_reads' HO151.out).2.1); rintro e w30 ⟨v153, rfl, ho0, hb⟩; refine ⟨_, rfl, ?_⟩; have n1_ := Aside0.mk (Kd.N_elder' (by (with_reducible repeat (first | apply Kd.N_alloc | apply Kd.N_drewN | apply Kd.N_drew)); exact HO151.out) (Kd.R_base ho0) hb); have n2_ := Aside0.mk (Kd.R_lower ho0 (below_size (by repeat (first | (with_reducible first | exact HB.out | apply below_alloc | apply pw_below_drewN | apply below_drew1) | exact HB.out)))); have n3_ := Aside0.mk (below_step (by repeat (first | (with_reducible first | exact HB.out | apply below_alloc | apply pw_below_drewN | apply below_drew1) | exact HB.out)) hb); clear HO151; clear HB; have HO151 := n1_; have HO154 := n2_; have HB := n3_; clear n1_ n2_ n3_; (try clear hb); (try clear hb2); (try clear hk); (try clear hi); (try clear ho0)))
          go_ret2
          exact ⟨_, by first | rfl | (simp [errW_none, errW_some] <;> rfl) | (simp [*, errW_none, errW_some] <;> rfl), by (with_reducible repeat (first | apply Kd.R_alloc | apply Kd.R_drewN | apply Kd.R_drew)); exact HO154.out, by repeat (first | (with_reducible first | exact HB.out | apply below_alloc | apply pw_below_drewN | apply below_drew1) | exact HB.out)⟩
  · rw [if_neg c3] at H
    have c3b0 : (t126 == 0) = false := beq_eq_false_iff_ne.mpr c3
    have c3b1 : (t126 != 0) = true := bne_iff_ne.mpr c3
    simp only [Option.some.injEq, Prod.mk.injEq] at H
    obtain ⟨rfl, rfl⟩ := H
    go_enter Try.func20, Try.ntmps20
    go_wp2_with (first | ((with_reducible refine gate_callee (f := 11) rfl ?_); refine goesL_ (some 11) rfl rfl Try.func11 (by kernel_rfl) rfl #[.slice A0 l0.length c0] rfl (by (try simp only [List.map_toArray, List.map_cons, List.map_nil]); first | done | rfl | (simp only [List.length_drop, List.length_take]; rfl)) ?_; (with_reducible refine (cycles_Of.calls k _ _ l0 t125 t126 _ ?side1 ?side2 A2.out).mono ?_); (case side1 => repeat (first | exact HR0.out | (with_reducible refine Kd.C_alloc ?_ _) | (with_reducible refine Kd.C_drewN ?_ _) | (with_reducible refine Kd.C_drew ?_))); (case side2 => exact HC0.out); rintro e w31 ⟨v127, rfl, ho0, hb⟩; refine ⟨_, rfl, ?_⟩; have n0_ := Aside0.mk (Kd.N_lower (Kd.N_mono (ok' := fun k_ => True) (Kd.S_N (Kd.S_bound ho0)) (fun k_ hk_ => trivial)) (below_size (by repeat (first | (with_reducible first | exact HB.out | apply below_alloc | apply pw_below_drewN | apply below_drew1) | exact HB.out)))); have n1_ := Aside0.mk (below_step (by repeat (first | (with_reducible first | exact HB.out | apply below_alloc | apply pw_below_drewN | apply below_drew1) | exact HB.out)) hb); clear HB; have HO128 := n0_; have HB := n1_; clear n0_ n1_; (try clear hb); (try clear hb2); (try clear hk); (try clear hi); (try clear ho0)))
    go_ret2
    exact ⟨_, by first | rfl | (simp [errW_none, errW_some] <;> rfl) | (simp [*, errW_none, errW_some] <;> rfl), by first | exact Kd.R_nil _ _ _ _ _ | exact Kd.N_nil _ _ _ _ _ | exact Kd.V_nil _ _ _ _ _ | exact Kd.Q_nil _ _ _ _ _ | exact Kd.S_nil _ _ _ _ _, by repeat (first | (with_reducible first | exact HB.out | apply below_alloc | apply pw_below_drewN | apply below_drew1) | exact HB.out)⟩

end Go.Proofs.Ytohknfbfmobggaa.Cy
