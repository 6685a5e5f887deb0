-- written by a program of this session (wip/tools/mp.sh: a patched copy of the kit's printer)
import Derived.Test.YtioppgeackgjnaaDoorBt0
import Derived.Test.YtioppgeackgjnaaDoorBt18
import Derived.Test.YtioppgeackgjnaaDoorBt19
namespace Go.Proofs.YtioppgeackgjnaaDoor.Bt
open Go.RowKit Go.Proofs.YtioppgeackgjnaaDoorW.PrintWords Go.Proofs.YtioppgeackgjnaaDoorW.PrintLast Go.Proofs.YtioppgeackgjnaaDoorW.PrintMore
attribute [local go_sem] max2_int min2_int max_two min_two max_three min_three max_four min_four   -- for this text's walks alone
set_option linter.unusedVariables false
set_option linter.unusedSimpArgs false

/-! ### lotdrawertop_alive: function 9 -/
def lotdrawertop_alive.f (k : Nat)  : Option (Bool) := (bench_Tell.f k (⟨#[114, 111, 111, 109, 32, 49, 10, 97, 100, 100, 32, 52, 32, 48, 10, 97, 100, 100, 32, 54, 32, 48, 10, 97, 100, 100, 32, 56, 32, 50, 10]⟩ : ByteArray)).bind fun bt217 => (if bt217.2 = 0 then ((slices_Equal_string_string.f k bt217.1 (([(⟨#[111, 107]⟩ : ByteArray), (⟨#[111, 107]⟩ : ByteArray), (⟨#[111, 107]⟩ : ByteArray), (⟨#[107, 101, 112, 116, 32, 51, 32, 54]⟩ : ByteArray)] : List ByteArray))).bind fun t224 => (some t224)) else (some false))
theorem lotdrawertop_alive.mono : ∀ k, LeO (lotdrawertop_alive.f k ) (lotdrawertop_alive.f (k + 1) ) := by
  intro  k
  unfold lotdrawertop_alive.f
  repeat' first
      | (with_reducible exact bench_Tell.mono _ _)
      | (with_reducible exact slices_Equal_string_string.mono _ _ _)
      | (with_reducible exact LeO.refl _)
      | (with_reducible exact LeO.none _)
      | (with_reducible refine LeO.ite ?_ ?_)
      | (with_reducible refine LeO.bind ?_ (fun _ => ?_))
      | exact bench_Tell.mono _ _
      | exact slices_Equal_string_string.mono _ _ _
      | exact LeO.none _
      | refine LeO.ite ?_ ?_
      | refine LeO.bind ?_ (fun _ => ?_)
set_option maxHeartbeats 8000000 in
set_option maxRecDepth 100000 in
theorem lotdrawertop_alive.calls (k : Nat)  (r : Bool) (w : World) (hL : Laid w) (h : lotdrawertop_alive.f k  = some r) :
    Calls Tryd.prog 9 #[] w fun e w' => e = .returned (.bool r) ∧ Below w.heap.size w w' := by
  have HLaid := Aside0.mk hL
  clear hL
  have HB := Aside0.mk (Below.refl w.heap.size w)
  have H : ((bench_Tell.f k (⟨#[114, 111, 111, 109, 32, 49, 10, 97, 100, 100, 32, 52, 32, 48, 10, 97, 100, 100, 32, 54, 32, 48, 10, 97, 100, 100, 32, 56, 32, 50, 10]⟩ : ByteArray)).bind fun bt217 => (if bt217.2 = 0 then ((slices_Equal_string_string.f k bt217.1 (([(⟨#[111, 107]⟩ : ByteArray), (⟨#[111, 107]⟩ : ByteArray), (⟨#[111, 107]⟩ : ByteArray), (⟨#[107, 101, 112, 116, 32, 51, 32, 54]⟩ : ByteArray)] : List ByteArray))).bind fun t224 => (some t224)) else (some false))) = some r := h
  clear h
  replace H := Option.bind_eq_some_iff.mp H
  obtain ⟨⟨t217, t218⟩, A10, H⟩ := H
  replace H : (if t218 = 0 then ((slices_Equal_string_string.f k t217 (([(⟨#[111, 107]⟩ : ByteArray), (⟨#[111, 107]⟩ : ByteArray), (⟨#[111, 107]⟩ : ByteArray), (⟨#[107, 101, 112, 116, 32, 51, 32, 54]⟩ : ByteArray)] : List ByteArray))).bind fun t224 => (some t224)) else (some false)) = some r := H
  have A1 := Aside0.mk A10
  clear A10
  by_cases c2 : t218 = 0
  · rw [if_pos c2] at H
    have c2b0 : (t218 == 0) = true := beq_iff_eq.mpr c2
    have c2b1 : (t218 != 0) = false := bne_eq_false_iff_eq.mpr c2
    clear c2
    obtain ⟨y221, hy221⟩ : ∃ y_ : List ByteArray, y_ = (([(⟨#[111, 107]⟩ : ByteArray), (⟨#[111, 107]⟩ : ByteArray), (⟨#[111, 107]⟩ : ByteArray), (⟨#[107, 101, 112, 116, 32, 51, 32, 54]⟩ : ByteArray)] : List ByteArray)) := ⟨_, rfl⟩
    replace H : ((slices_Equal_string_string.f k t217 y221).bind fun t224 => (some t224)) = some r := by first | (rw [hy221]; with_reducible exact H) | (have H2_ := (Option.bind_some _ _).symm.trans H; rw [hy221]; with_reducible exact H2_) | (have H2_ := (Option.bind_some _ _).symm.trans H; with_reducible exact H2_) | with_reducible exact H | (rw [hy221]; exact H) | exact H
    have Ny221 := Aside0.mk hy221
    clear hy221
    replace H := Option.bind_eq_some_iff.mp H
    obtain ⟨t224, A30, H⟩ := H
    replace H : (some t224) = some r := H
    have A3 := Aside0.mk A30
    clear A30
    obtain rfl := Option.some.inj H
    go_enter Tryd.func9, Tryd.ntmps9
    go_wp2_with (first | ((with_reducible refine gate_callee (f := 11) rfl ?_); refine goesL_ (some 4) rfl rfl Tryd.func11 (by kernel_rfl) rfl #[.string (⟨#[114, 111, 111, 109, 32, 49, 10, 97, 100, 100, 32, 52, 32, 48, 10, 97, 100, 100, 32, 54, 32, 48, 10, 97, 100, 100, 32, 56, 32, 50, 10]⟩ : ByteArray)] rfl (by (try simp only [List.map_toArray, List.map_cons, List.map_nil]); first | done | rfl | (simp only [List.length_drop, List.length_take]; rfl)) ?_; (with_reducible refine (bench_Tell.calls k (⟨#[114, 111, 111, 109, 32, 49, 10, 97, 100, 100, 32, 52, 32, 48, 10, 97, 100, 100, 32, 54, 32, 48, 10, 97, 100, 100, 32, 56, 32, 50, 10]⟩ : ByteArray) t217 t218 _ ?sideL A1.out).mono ?_); (case sideL => first | exact HLaid.out | exact Laid.below HLaid.out (by repeat (first | (with_reducible first | exact HB.out | apply below_alloc | apply pw_below_drewN | apply below_drew1) | exact HB.out)) | exact Laid.below HLaid.out (by repeat (first | (with_reducible first | exact HB.out | apply below_alloc | apply pw_below_drewN | apply below_drew1) | exact HB.out | exact Below.refl _ _))); rintro e w4 ⟨v219, rfl, ho0, hb⟩; refine ⟨_, rfl, ?_⟩; have n0_ := Aside0.mk (Kd.R_lower ho0 (below_size (by repeat (first | (with_reducible first | exact HB.out | apply below_alloc | apply pw_below_drewN | apply below_drew1) | exact HB.out)))); have n1_ := Aside0.mk (below_step (by repeat (first | (with_reducible first | exact HB.out | apply below_alloc | apply pw_below_drewN | apply below_drew1) | exact HB.out)) hb); clear HB; have HO220 := n0_; have HB := n1_; clear n0_ n1_; (try clear hb); (try clear hb2); (try clear hk); (try clear hi); (try clear ho0)) | ((with_reducible refine gate_dst (N := 11) rfl ?_); (try (refine gate_guard (by rfl) ?_; dsimp only)); refine Kd.R_lit Kd.string _ 9 ?hg (N := 11) ?hd (xs := ([(⟨#[111, 107]⟩ : ByteArray), (⟨#[111, 107]⟩ : ByteArray), (⟨#[111, 107]⟩ : ByteArray), (⟨#[107, 101, 112, 116, 32, 51, 32, 54]⟩ : ByteArray)] : List ByteArray)) (inner := [.string (⟨#[111, 107]⟩ : ByteArray), .string (⟨#[111, 107]⟩ : ByteArray), .string (⟨#[111, 107]⟩ : ByteArray), .string (⟨#[107, 101, 112, 116, 32, 51, 32, 54]⟩ : ByteArray)]) (ok := fun _ => True) (okp := fun _ => True) ?hr ?hp (fun _ hk => hk) trivial (Below.refl _ _) (Nat.le_refl _) (by simp) ?_; (case hd => rfl); (case hg => rfl); (case hr => first | (go_simp; done) | (go_simp; rfl)); (case hp => exact (Reps.one (show Kd.M Kd.string _ _ _ (⟨#[111, 107]⟩ : ByteArray) [.string (⟨#[111, 107]⟩ : ByteArray)] from rfl) (Reps.one (show Kd.M Kd.string _ _ _ (⟨#[111, 107]⟩ : ByteArray) [.string (⟨#[111, 107]⟩ : ByteArray)] from rfl) (Reps.one (show Kd.M Kd.string _ _ _ (⟨#[111, 107]⟩ : ByteArray) [.string (⟨#[111, 107]⟩ : ByteArray)] from rfl) (Reps.one (show Kd.M Kd.string _ _ _ (⟨#[107, 101, 112, 116, 32, 51, 32, 54]⟩ : ByteArray) [.string (⟨#[107, 101, 112, 116, 32, 51, 32, 54]⟩ : ByteArray)] from rfl) (Reps.none _ _)))))); intro v222 w5 ho6 hb hg_ hnew_; clear hg_ hnew_; (first | rw [← Ny221.out] at ho6 | (simp only [Int.reduceToNat] at ho6; rw [← Ny221.out] at ho6)); have n0_ := Aside0.mk (Kd.R_elder' (by (with_reducible repeat (first | apply Kd.R_alloc | apply Kd.R_drewN | apply Kd.R_drew)); exact HO220.out) (Kd.R_base ho6) hb); have n1_ := Aside0.mk (Kd.R_lower (Kd.R_new' ho6 (Kd.R_lt (by (with_reducible repeat (first | apply Kd.R_alloc | apply Kd.R_drewN | apply Kd.R_drew)); exact HO220.out))) (below_size (by repeat (first | (with_reducible first | exact HB.out | apply below_alloc | apply pw_below_drewN | apply below_drew1) | exact HB.out)))); have n2_ := Aside0.mk (below_step (by repeat (first | (with_reducible first | exact HB.out | apply below_alloc | apply pw_below_drewN | apply below_drew1) | exact HB.out)) hb); clear HO220; clear HB; have HO220 := n0_; have HO223 := n1_; have HB := n2_; clear n0_ n1_ n2_; clear hb ho6; obtain ⟨Ao7, co7, eo7⟩ := Kd.R_slice HO220.out; subst eo7; obtain ⟨Ao8, co8, eo8⟩ := Kd.R_slice HO223.out; subst eo8) | (go_at_call 29; (with_reducible refine (slices_Equal_string_string.calls k _ _ t217 _ _ y221 t224 _ ?side1 ?side2 ?side3 ?side4 A3.out).mono ?_); (case side1 => repeat (first | exact (Kd.R_reads' HO220.out).2.2 | (with_reducible refine Kd.C_alloc ?_ _) | (with_reducible refine Kd.C_drewN ?_ _) | (with_reducible refine Kd.C_drew ?_))); (case side2 => exact (Kd.R_reads' HO220.out).2.1); (case side3 => repeat (first | exact (Kd.R_reads' HO223.out).2.2 | (with_reducible refine Kd.C_alloc ?_ _) | (with_reducible refine Kd.C_drewN ?_ _) | (with_reducible refine Kd.C_drew ?_))); (case side4 => exact (Kd.R_reads' HO223.out).2.1); rintro e w' ⟨rfl, ⟨nd, rfl⟩⟩))
    go_ret
    exact ⟨by first | rfl | (simp [errW_none, errW_some] <;> rfl) | (simp [*, errW_none, errW_some] <;> rfl), by repeat (first | (with_reducible first | exact HB.out | apply below_alloc | apply pw_below_drewN | apply below_drew1) | exact HB.out)⟩
  · rw [if_neg c2] at H
    have c2b0 : (t218 == 0) = false := beq_eq_false_iff_ne.mpr c2
    have c2b1 : (t218 != 0) = true := bne_iff_ne.mpr c2
    obtain rfl := Option.some.inj H
    go_enter Tryd.func9, Tryd.ntmps9
    go_wp2_with (first | ((with_reducible refine gate_callee (f := 11) rfl ?_); refine goesL_ (some 4) rfl rfl Tryd.func11 (by kernel_rfl) rfl #[.string (⟨#[114, 111, 111, 109, 32, 49, 10, 97, 100, 100, 32, 52, 32, 48, 10, 97, 100, 100, 32, 54, 32, 48, 10, 97, 100, 100, 32, 56, 32, 50, 10]⟩ : ByteArray)] rfl (by (try simp only [List.map_toArray, List.map_cons, List.map_nil]); first | done | rfl | (simp only [List.length_drop, List.length_take]; rfl)) ?_; (with_reducible refine (bench_Tell.calls k (⟨#[114, 111, 111, 109, 32, 49, 10, 97, 100, 100, 32, 52, 32, 48, 10, 97, 100, 100, 32, 54, 32, 48, 10, 97, 100, 100, 32, 56, 32, 50, 10]⟩ : ByteArray) t217 t218 _ ?sideL A1.out).mono ?_); (case sideL => first | exact HLaid.out | exact Laid.below HLaid.out (by repeat (first | (with_reducible first | exact HB.out | apply below_alloc | apply pw_below_drewN | apply below_drew1) | exact HB.out)) | exact Laid.below HLaid.out (by repeat (first | (with_reducible first | exact HB.out | apply below_alloc | apply pw_below_drewN | apply below_drew1) | exact HB.out | exact Below.refl _ _))); rintro e w9 ⟨v219, rfl, ho0, hb⟩; refine ⟨_, rfl, ?_⟩; have n0_ := Aside0.mk (Kd.R_lower ho0 (below_size (by repeat (first | (with_reducible first | exact HB.out | apply below_alloc | apply pw_below_drewN | apply below_drew1) | exact HB.out)))); have n1_ := Aside0.mk (below_step (by repeat (first | (with_reducible first | exact HB.out | apply below_alloc | apply pw_below_drewN | apply below_drew1) | exact HB.out)) hb); clear HB; have HO220 := n0_; have HB := n1_; clear n0_ n1_; (try clear hb); (try clear hb2); (try clear hk); (try clear hi); (try clear ho0)))
    go_ret
    exact ⟨by first | rfl | (simp [errW_none, errW_some] <;> rfl) | (simp [*, errW_none, errW_some] <;> rfl), by repeat (first | (with_reducible first | exact HB.out | apply below_alloc | apply pw_below_drewN | apply below_drew1) | exact HB.out)⟩

-- NOT PRINTED: function 66 (abi_NoEscape)

-- NOT PRINTED: function 58 (strings_Builder_copyCheck)

-- NOT PRINTED: function 37 (strings_Builder_WriteString)

-- NOT PRINTED: function 38 (strings_Builder_String)

end Go.Proofs.YtioppgeackgjnaaDoor.Bt
