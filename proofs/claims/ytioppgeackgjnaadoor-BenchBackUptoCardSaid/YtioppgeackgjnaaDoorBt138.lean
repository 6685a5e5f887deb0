-- written by a program of this session (wip/tools/mp.sh: a patched copy of the kit's printer)
import Derived.Test.YtioppgeackgjnaaDoorBt0
import Derived.Test.YtioppgeackgjnaaDoorBt18
import Derived.Test.YtioppgeackgjnaaDoorBt19
namespace Go.Proofs.YtioppgeackgjnaaDoor.Bt
open Go.RowKit Go.Proofs.YtioppgeackgjnaaDoorW.PrintWords Go.Proofs.YtioppgeackgjnaaDoorW.PrintLast Go.Proofs.YtioppgeackgjnaaDoorW.PrintMore
attribute [local go_sem] max2_int min2_int max_two min_two max_three min_three max_four min_four   -- for this text's walks alone
set_option linter.unusedVariables false
set_option linter.unusedSimpArgs false

/-! ### lotdrawerkeep_alive26: function 27 -/
def lotdrawerkeep_alive26.f (k : Nat)  : Option (Bool) := (bench_Tell.f k (⟨#[114, 111, 111, 109, 32, 50, 10, 97, 100, 100, 32, 55, 32, 48, 10, 97, 100, 100, 32, 56, 32, 48, 10, 97, 100, 100, 32, 57, 32, 49, 10, 97, 100, 100, 32, 53, 32, 57, 10]⟩ : ByteArray)).bind fun bt342 => (if bt342.2 = 0 then ((slices_Equal_string_string.f k bt342.1 (([(⟨#[111, 107]⟩ : ByteArray), (⟨#[111, 107]⟩ : ByteArray), (⟨#[111, 107]⟩ : ByteArray), (⟨#[101, 114, 114, 111, 114, 32, 50]⟩ : ByteArray), (⟨#[107, 101, 112, 116, 32, 51, 32, 55, 32, 57]⟩ : ByteArray)] : List ByteArray))).bind fun t349 => (some t349)) else (some false))
theorem lotdrawerkeep_alive26.mono : ∀ k, LeO (lotdrawerkeep_alive26.f k ) (lotdrawerkeep_alive26.f (k + 1) ) := by
  intro  k
  unfold lotdrawerkeep_alive26.f
  repeat' first
      | (with_reducible exact bench_Tell.mono _ _)
      | (with_reducible exact slices_Equal_string_string.mono _ _ _)
      | (with_reducible exact LeO.refl _)
      | (with_reducible exact LeO.none _)
      | (with_reducible refine LeO.ite ?_ ?_)
      | (with_reducible refine LeO.bind ?_ (fun _ => ?_))
      | exact bench_Tell.mono _ _
      | exact slices_Equal_string_string.mono _ _ _
      | exact LeO.none _
      | refine LeO.ite ?_ ?_
      | refine LeO.bind ?_ (fun _ => ?_)
set_option maxHeartbeats 8000000 in
set_option maxRecDepth 100000 in
theorem lotdrawerkeep_alive26.calls (k : Nat)  (r : Bool) (w : World) (hL : Laid w) (h : lotdrawerkeep_alive26.f k  = some r) :
    Calls Tryd.prog 27 #[] w fun e w' => e = .returned (.bool r) ∧ Below w.heap.size w w' := by
  have HLaid := Aside0.mk hL
  clear hL
  have HB := Aside0.mk (Below.refl w.heap.size w)
  have H : ((bench_Tell.f k (⟨#[114, 111, 111, 109, 32, 50, 10, 97, 100, 100, 32, 55, 32, 48, 10, 97, 100, 100, 32, 56, 32, 48, 10, 97, 100, 100, 32, 57, 32, 49, 10, 97, 100, 100, 32, 53, 32, 57, 10]⟩ : ByteArray)).bind fun bt342 => (if bt342.2 = 0 then ((slices_Equal_string_string.f k bt342.1 (([(⟨#[111, 107]⟩ : ByteArray), (⟨#[111, 107]⟩ : ByteArray), (⟨#[111, 107]⟩ : ByteArray), (⟨#[101, 114, 114, 111, 114, 32, 50]⟩ : ByteArray), (⟨#[107, 101, 112, 116, 32, 51, 32, 55, 32, 57]⟩ : ByteArray)] : List ByteArray))).bind fun t349 => (some t349)) else (some false))) = some r := h
  clear h
  replace H := Option.bind_eq_some_iff.mp H
  obtain ⟨⟨t342, t343⟩, A10, H⟩ := H
  replace H : (if t343 = 0 then ((slices_Equal_string_string.f k t342 (([(⟨#[111, 107]⟩ : ByteArray), (⟨#[111, 107]⟩ : ByteArray), (⟨#[111, 107]⟩ : ByteArray), (⟨#[101, 114, 114, 111, 114, 32, 50]⟩ : ByteArray), (⟨#[107, 101, 112, 116, 32, 51, 32, 55, 32, 57]⟩ : ByteArray)] : List ByteArray))).bind fun t349 => (some t349)) else (some false)) = some r := H
  have A1 := Aside0.mk A10
  clear A10
  by_cases c2 : t343 = 0
  · rw [if_pos c2] at H
    have c2b0 : (t343 == 0) = true := beq_iff_eq.mpr c2
    have c2b1 : (t343 != 0) = false := bne_eq_false_iff_eq.mpr c2
    clear c2
    obtain ⟨y346, hy346⟩ : ∃ y_ : List ByteArray, y_ = (([(⟨#[111, 107]⟩ : ByteArray), (⟨#[111, 107]⟩ : ByteArray), (⟨#[111, 107]⟩ : ByteArray), (⟨#[101, 114, 114, 111, 114, 32, 50]⟩ : ByteArray), (⟨#[107, 101, 112, 116, 32, 51, 32, 55, 32, 57]⟩ : ByteArray)] : List ByteArray)) := ⟨_, rfl⟩
    replace H : ((slices_Equal_string_string.f k t342 y346).bind fun t349 => (some t349)) = some r := by first | (rw [hy346]; with_reducible exact H) | (have H2_ := (Option.bind_some _ _).symm.trans H; rw [hy346]; with_reducible exact H2_) | (have H2_ := (Option.bind_some _ _).symm.trans H; with_reducible exact H2_) | with_reducible exact H | (rw [hy346]; exact H) | exact H
    have Ny346 := Aside0.mk hy346
    clear hy346
    replace H := Option.bind_eq_some_iff.mp H
    obtain ⟨t349, A30, H⟩ := H
    replace H : (some t349) = some r := H
    have A3 := Aside0.mk A30
    clear A30
    obtain rfl := Option.some.inj H
    go_enter Tryd.func27, Tryd.ntmps27
    go_wp2_with (first | ((with_reducible refine gate_callee (f := 11) rfl ?_); refine goesL_ (some 4) rfl rfl Tryd.func11 (by kernel_rfl) rfl #[.string (⟨#[114, 111, 111, 109, 32, 50, 10, 97, 100, 100, 32, 55, 32, 48, 10, 97, 100, 100, 32, 56, 32, 48, 10, 97, 100, 100, 32, 57, 32, 49, 10, 97, 100, 100, 32, 53, 32, 57, 10]⟩ : ByteArray)] rfl (by (try simp only [List.map_toArray, List.map_cons, List.map_nil]); first | done | rfl | (simp only [List.length_drop, List.length_take]; rfl)) ?_; (with_reducible refine (bench_Tell.calls k (⟨#[114, 111, 111, 109, 32, 50, 10, 97, 100, 100, 32, 55, 32, 48, 10, 97, 100, 100, 32, 56, 32, 48, 10, 97, 100, 100, 32, 57, 32, 49, 10, 97, 100, 100, 32, 53, 32, 57, 10]⟩ : ByteArray) t342 t343 _ ?sideL A1.out).mono ?_); (case sideL => first | exact HLaid.out | exact Laid.below HLaid.out (by repeat (first | (with_reducible first | exact HB.out | apply below_alloc | apply pw_below_drewN | apply below_drew1) | exact HB.out)) | exact Laid.below HLaid.out (by repeat (first | (with_reducible first | exact HB.out | apply below_alloc | apply pw_below_drewN | apply below_drew1) | exact HB.out | exact Below.refl _ _))); rintro e w4 ⟨v344, rfl, ho0, hb⟩; refine ⟨_, rfl, ?_⟩; have n0_ := Aside0.mk (Kd.R_lower ho0 (below_size (by repeat (first | (with_reducible first | exact HB.out | apply below_alloc | apply pw_below_drewN | apply below_drew1) | exact HB.out)))); have n1_ := Aside0.mk (below_step (by repeat (first | (with_reducible first | exact HB.out | apply below_alloc | apply pw_below_drewN | apply below_drew1) | exact HB.out)) hb); clear HB; have HO345 := n0_; have HB := n1_; clear n0_ n1_; (try clear hb); (try clear hb2); (try clear hk); (try clear hi); (try clear ho0)) | ((with_reducible refine gate_dst (N := 11) rfl ?_); (try (refine gate_guard (by rfl) ?_; dsimp only)); refine Kd.R_lit Kd.string _ 9 ?hg (N := 11) ?hd (xs := ([(⟨#[111, 107]⟩ : ByteArray), (⟨#[111, 107]⟩ : ByteArray), (⟨#[111, 107]⟩ : ByteArray), (⟨#[101, 114, 114, 111, 114, 32, 50]⟩ : ByteArray), (⟨#[107, 101, 112, 116, 32, 51, 32, 55, 32, 57]⟩ : ByteArray)] : List ByteArray)) (inner := [.string (⟨#[111, 107]⟩ : ByteArray), .string (⟨#[111, 107]⟩ : ByteArray), .string (⟨#[111, 107]⟩ : ByteArray), .string (⟨#[101, 114, 114, 111, 114, 32, 50]⟩ : ByteArray), .string (⟨#[107, 101, 112, 116, 32, 51, 32, 55, 32, 57]⟩ : ByteArray)]) (ok := fun _ => True) (okp := fun _ => True) ?hr ?hp (fun _ hk => hk) trivial (Below.refl _ _) (Nat.le_refl _) (by simp) ?_; (case hd => rfl); (case hg => rfl); (case hr => first | (go_simp; done) | (go_simp; rfl)); (case hp => exact (Reps.one (show Kd.M Kd.string _ _ _ (⟨#[111, 107]⟩ : ByteArray) [.string (⟨#[111, 107]⟩ : ByteArray)] from rfl) (Reps.one (show Kd.M Kd.string _ _ _ (⟨#[111, 107]⟩ : ByteArray) [.string (⟨#[111, 107]⟩ : ByteArray)] from rfl) (Reps.one (show Kd.M Kd.string _ _ _ (⟨#[111, 107]⟩ : ByteArray) [.string (⟨#[111, 107]⟩ : ByteArray)] from rfl) (Reps.one (show Kd.M Kd.string _ _ _ (⟨#[101, 114, 114, 111, 114, 32, 50]⟩ : ByteArray) [.string (⟨#[101, 114, 114, 111, 114, 32, 50]⟩ : ByteArray)] from rfl) (Reps.one (show Kd.M Kd.string _ _ _ (⟨#[107, 101, 112, 116, 32, 51, 32, 55, 32, 57]⟩ : ByteArray) [.string (⟨#[107, 101, 112, 116, 32, 51, 32, 55, 32, 57]⟩ : ByteArray)] from rfl) (Reps.none _ _))))))); intro v347 w5 ho6 hb hg_ hnew_; clear hg_ hnew_; (first | rw [← Ny346.out] at ho6 | (simp only [Int.reduceToNat] at ho6; rw [← Ny346.out] at ho6)); have n0_ := Aside0.mk (Kd.R_elder' (by (with_reducible repeat (first | apply Kd.R_alloc | apply Kd.R_drewN | apply Kd.R_drew)); exact HO345.out) (Kd.R_base ho6) hb); have n1_ := Aside0.mk (Kd.R_lower (Kd.R_new' ho6 (Kd.R_lt (by (with_reducible repeat (first | apply Kd.R_alloc | apply Kd.R_drewN | apply Kd.R_drew)); exact HO345.out))) (below_size (by repeat (first | (with_reducible first | exact HB.out | apply below_alloc | apply pw_below_drewN | apply below_drew1) | exact HB.out)))); have n2_ := Aside0.mk (below_step (by repeat (first | (with_reducible first | exact HB.out | apply below_alloc | apply pw_below_drewN | apply below_drew1) | exact HB.out)) hb); clear HO345; clear HB; have HO345 := n0_; have HO348 := n1_; have HB := n2_; clear n0_ n1_ n2_; clear hb ho6; obtain ⟨Ao7, co7, eo7⟩ := Kd.R_slice HO345.out; subst eo7; obtain ⟨Ao8, co8, eo8⟩ := Kd.R_slice HO348.out; subst eo8) | (go_at_call 29; (with_reducible refine (slices_Equal_string_string.calls k _ _ t342 _ _ y346 t349 _ ?side1 ?side2 ?side3 ?side4 A3.out).mono ?_); (case side1 => repeat (first | exact (Kd.R_reads' HO345.out).2.2 | (with_reducible refine Kd.C_alloc ?_ _) | (with_reducible refine Kd.C_drewN ?_ _) | (with_reducible refine Kd.C_drew ?_))); (case side2 => exact (Kd.R_reads' HO345.out).2.1); (case side3 => repeat (first | exact (Kd.R_reads' HO348.out).2.2 | (with_reducible refine Kd.C_alloc ?_ _) | (with_reducible refine Kd.C_drewN ?_ _) | (with_reducible refine Kd.C_drew ?_))); (case side4 => exact (Kd.R_reads' HO348.out).2.1); rintro e w' ⟨rfl, ⟨nd, rfl⟩⟩))
    go_ret
    exact ⟨by first | rfl | (simp [errW_none, errW_some] <;> rfl) | (simp [*, errW_none, errW_some] <;> rfl), by repeat (first | (with_reducible first | exact HB.out | apply below_alloc | apply pw_below_drewN | apply below_drew1) | exact HB.out)⟩
  · rw [if_neg c2] at H
    have c2b0 : (t343 == 0) = false := beq_eq_false_iff_ne.mpr c2
    have c2b1 : (t343 != 0) = true := bne_iff_ne.mpr c2
    obtain rfl := Option.some.inj H
    go_enter Tryd.func27, Tryd.ntmps27
    go_wp2_with (first | ((with_reducible refine gate_callee (f := 11) rfl ?_); refine goesL_ (some 4) rfl rfl Tryd.func11 (by kernel_rfl) rfl #[.string (⟨#[114, 111, 111, 109, 32, 50, 10, 97, 100, 100, 32, 55, 32, 48, 10, 97, 100, 100, 32, 56, 32, 48, 10, 97, 100, 100, 32, 57, 32, 49, 10, 97, 100, 100, 32, 53, 32, 57, 10]⟩ : ByteArray)] rfl (by (try simp only [List.map_toArray, List.map_cons, List.map_nil]); first | done | rfl | (simp only [List.length_drop, List.length_take]; rfl)) ?_; (with_reducible refine (bench_Tell.calls k (⟨#[114, 111, 111, 109, 32, 50, 10, 97, 100, 100, 32, 55, 32, 48, 10, 97, 100, 100, 32, 56, 32, 48, 10, 97, 100, 100, 32, 57, 32, 49, 10, 97, 100, 100, 32, 53, 32, 57, 10]⟩ : ByteArray) t342 t343 _ ?sideL A1.out).mono ?_); (case sideL => first | exact HLaid.out | exact Laid.below HLaid.out (by repeat (first | (with_reducible first | exact HB.out | apply below_alloc | apply pw_below_drewN | apply below_drew1) | exact HB.out)) | exact Laid.below HLaid.out (by repeat (first | (with_reducible first | exact HB.out | apply below_alloc | apply pw_below_drewN | apply below_drew1) | exact HB.out | exact Below.refl _ _))); rintro e w9 ⟨v344, rfl, ho0, hb⟩; refine ⟨_, rfl, ?_⟩; have n0_ := Aside0.mk (Kd.R_lower ho0 (below_size (by repeat (first | (with_reducible first | exact HB.out | apply below_alloc | apply pw_below_drewN | apply below_drew1) | exact HB.out)))); have n1_ := Aside0.mk (below_step (by repeat (first | (with_reducible first | exact HB.out | apply below_alloc | apply pw_below_drewN | apply below_drew1) | exact HB.out)) hb); clear HB; have HO345 := n0_; have HB := n1_; clear n0_ n1_; (try clear hb); (try clear hb2); (try clear hk); (try clear hi); (try clear ho0)))
    go_ret
    exact ⟨by first | rfl | (simp [errW_none, errW_some] <;> rfl) | (simp [*, errW_none, errW_some] <;> rfl), by repeat (first | (with_reducible first | exact HB.out | apply below_alloc | apply pw_below_drewN | apply below_drew1) | exact HB.out)⟩

end Go.Proofs.YtioppgeackgjnaaDoor.Bt
