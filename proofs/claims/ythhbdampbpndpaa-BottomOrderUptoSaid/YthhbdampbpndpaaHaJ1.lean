/- bottom.Join's sort, at a row of the call's own; the two rows that Concat is handed. -/
import Derived.Test.YthhbdampbpndpaaHaJ0
namespace Go.Proofs.Ythhbdampbpndpaa.Bo
open Go.RowKit Go.Proofs.YthhbdampbpndpaaW.PrintWords Go.Proofs.YthhbdampbpndpaaW.PrintLast Go.Proofs.YthhbdampbpndpaaW.PrintMore
set_option linter.unusedVariables false
theorem cmpS_lt (a b : Int) : cmpS a b < 0 ↔ a < b := by
  unfold cmpS
  split
  · simp; assumption
  · split <;> omega
theorem sort_join (seed : Int) (g B : Nat) (v : Value) (xs : List Int) (W : World) (hs : Rk.Word seed) (hR : Kd.R (Kd.int .u64) 22 W B (fun _ => True) v xs) (hg : g < B) (hb : ∀ k, v.ownBlock = some k → B ≤ k)
    (hgW : W.heap[g]? = some (.cells #[.int .u64 seed] 22 (0, 0))) (hw : ∀ x ∈ xs, Rk.Word x) (hlen : xs.length < 4611686018427387904) :
    Calls Try.prog 25 #[v, .func (.func 26) #[] #[.pointer (some ⟨g, 0, none⟩)]] W fun e w' => e = .returned (.tuple #[]) ∧ ∃ ys : List Int, ys.Perm xs ∧ ys.Pairwise (fun a b => ¬ Rk.rk seed b < Rk.rk seed a) ∧ Kd.R (Kd.int .u64) 22 w' B (fun _ => True) v ys ∧ W.grownBy w' v.ownBlock := by
  refine SortKd.sort_R Try.laysSlF6_f25 (Kd.int .u64) rfl Rk.Word (fun x y => cmpS (Rk.rk seed x) (Rk.rk seed y)) (Rk.rk seed) (fun x y _ _ => cmpS_lt _ _) 26 #[.pointer (some ⟨g, 0, none⟩)] (enters_of Try.func26 (by kernel_rfl) rfl) 22 B (fun _ => True) v xs W hR hw ?_ hlen
  intro w1 x y u u' hgr hx hy wx wy
  obtain rfl : u = .int .u64 x := by have := List.cons.inj hx; exact this.1
  obtain rfl : u' = .int .u64 y := by have := List.cons.inj hy; exact this.1
  have h1 : w1.heap[g]? = some (.cells #[.int .u64 seed] 22 (0, 0)) := (hgr.block g (blk_lt hgW) (fun e => by have := hb g e.symm; omega)).trans hgW
  refine (closure_calls seed x y g w1 hs wx wy ((blk_cell h1 0).trans rfl)).mono ?_
  rintro e w' ⟨rfl, ⟨nd, rfl⟩⟩
  exact ⟨rfl, nd, #[], by simp [Go.Sort.grow]; rfl⟩
theorem two_rows (W : World) (A2 A3 : Option Addr) (c2 c3 : Nat) (l2 l3 : List Int) (h2 : Kd.C (Kd.int .u64) W A2 l2.length l2) (hc2 : l2.length ≤ c2) (h3 : Kd.C (Kd.int .u64) W A3 l3.length l3) (hc3 : l3.length ≤ c3) :
    Kd.C (Kd.slice 22 (Kd.int .u64)) (W.alloc (.cells #[.slice A2 l2.length c2, .slice A3 l3.length c3] 23)) (some ⟨W.heap.size, 0, none⟩) 2 [l2, l3] := by
  have hB := blk_new W (.cells #[.slice A2 l2.length c2, .slice A3 l3.length c3] 23)
  refine ⟨rfl, by decide, fun _ => ⟨_, rfl, fun j p hj => ?_⟩⟩
  match j, hj with
  | 0, hj =>
    obtain rfl : l2 = p := by simpa using hj
    refine ⟨[.slice A2 l2.length c2], rfl, ⟨_, _, rfl, hc2, Kd.C_alloc h2 _⟩, fun i u hi => ?_⟩
    match i, hi with
    | 0, hi => simp at hi; subst hi; exact (blk_cell hB 0).trans rfl
    | _ + 1, hi => simp at hi
  | 1, hj =>
    obtain rfl : l3 = p := by simpa using hj
    refine ⟨[.slice A3 l3.length c3], rfl, ⟨_, _, rfl, hc3, Kd.C_alloc h3 _⟩, fun i u hi => ?_⟩
    match i, hi with
    | 0, hi => simp at hi; subst hi; exact (blk_cell hB 1).trans rfl
    | _ + 1, hi => simp at hi
  | _ + 2, hj => simp at hj
theorem wrap_ok {x : Int} (h0 : -1000000000000000000 ≤ x) (h1 : x ≤ 1000000000000000000) : wrap64 x = x := by unfold wrap64; omega
theorem concat_two (a b : List Int) (ha : a.length ≤ 1000) (hb : b.length ≤ 1000) : slices_Concat_uint64_uint64.f 6 [a, b] = some (a ++ b) := by
  have e0 : rd_L1 [a, b] 0 = a := rfl
  have e1 : rd_L1 [a, b] 1 = b := rfl
  have w1 : wrap64 (0 + 1) = 1 := wrap_ok (by decide) (by decide)
  have w2 : wrap64 (1 + 1) = 2 := wrap_ok (by decide) (by decide)
  have n0 : wrap64 (0 + (a.length : Int)) = (a.length : Int) := by rw [wrap_ok (by omega) (by omega)]; omega
  have n1 : wrap64 ((a.length : Int) + (b.length : Int)) = (a.length : Int) + (b.length : Int) := wrap_ok (by omega) (by omega)
  unfold slices_Concat_uint64_uint64.f
  rw [slices_Concat_uint64_uint64.l0, if_pos (by simp), if_pos (by simp), if_pos (by simp), e0, n0, if_neg (by omega), w1, slices_Concat_uint64_uint64.l0, if_pos (by simp), if_pos (by simp), if_pos (by simp), e1, n1, if_neg (by omega), w2,
    slices_Concat_uint64_uint64.l0, if_neg (by simp)]
  have hg : slices_Grow_nil.f ((a.length : Int) + (b.length : Int)) = some [] := by unfold slices_Grow_nil.f; rw [if_pos (by omega)]
  rw [hg, Option.bind_some, slices_Concat_uint64_uint64.l1, if_pos (by simp), if_pos (by simp), if_pos (by simp), e0, if_pos (by simp; omega), w1, slices_Concat_uint64_uint64.l1, if_pos (by simp), if_pos (by simp), if_pos (by simp), e1, if_pos (by simp; omega), w2, slices_Concat_uint64_uint64.l1, if_neg (by simp)]
  rfl
theorem concat_pair (A : Option Addr) (a b : List Int) (w : World) (h : Kd.C (Kd.slice 22 (Kd.int .u64)) w A 2 [a, b]) (ha : a.length ≤ 1000) (hb : b.length ≤ 1000) :
    Calls Try.prog 16 #[.slice A 2 2] w fun e w' => ∃ v, e = .returned v ∧ Kd.R (Kd.int .u64) 22 w' w.heap.size (fun _ => True) v (a ++ b) ∧ Below w.heap.size w w' :=
  (slices_Concat_uint64_uint64.calls 6 A 2 [a, b] (a ++ b) w h (Nat.le_refl 2) (concat_two a b ha hb)).mono (by
    rintro e w' ⟨v, rfl, h1, h2⟩
    exact ⟨v, rfl, h1, h2⟩)
end Go.Proofs.Ythhbdampbpndpaa.Bo
