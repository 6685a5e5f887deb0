/- The contract of slices.Repeat at a slice of one element. -/
import Derived.Test.YtohknfbfmobggaaCy0
import Derived.Test.YtohknfbfmobggaaShelf
import Derived.Laws.CopyOwn
import Derived.Outline
import Derived.WalkSpells
namespace Go.Proofs.Ytohknfbfmobggaa.Cy
open Go.RowKit Go.Proofs.YtohknfbfmobggaaW.PrintWords Go.Proofs.YtohknfbfmobggaaW.PrintLast Go.Proofs.YtohknfbfmobggaaW.PrintMore
attribute [local go_sem] max2_int min2_int max_two min_two max_three min_three max_four min_four
set_option linter.unusedVariables false
set_option linter.unusedSimpArgs false

/-- The row when c of n are laid. -/
def repRow (x : Int) (n c : Nat) : List Value := List.replicate c (Value.int .i64 x) ++ List.replicate (n - c) (Value.int .i64 0)
theorem repRow_length (x : Int) (n c : Nat) (h : c ≤ n) : (repRow x n c).length = n := by simp [repRow]; omega
theorem repRow_splice (x : Int) (n c m : Nat) (h : c + m ≤ n) : splice (repRow x n c) c (List.replicate m (Value.int .i64 x)) = repRow x n (c + m) := by
  unfold splice repRow
  rw [List.length_replicate, List.take_left' (by simp), List.drop_append, List.drop_of_length_le (by simp), List.nil_append, List.length_replicate, List.drop_replicate]
  rw [← List.append_assoc, List.replicate_append_replicate]
  congr 2
  omega
theorem repRow_at (x : Int) (n c j : Nat) (h : j < c) : (repRow x n c)[j]? = some (Value.int .i64 x) := by
  unfold repRow
  rw [List.getElem?_append_left (by simpa using h)]
  simp [h]
theorem cell_of_row {w : World} {g : Nat} {xs : List Value} {j : Nat} {v : Value} (hg : w.heap[g]? = some (.cells xs.toArray 3 (0, 0))) (h : xs[j]? = some v) : (w.drew).cell? ((⟨g, 0, none⟩ : Addr).add j) = some v := by
  have hg' : (w.drew).heap[g]? = some (.cells xs.toArray 3 (0, 0)) := hg
  rcases Nat.eq_zero_or_pos j with e | e
  · subst e; simp [World.cell?, hg', Addr.add, h]
  · simp [World.cell?, hg', Addr.add, h, Nat.pos_iff_ne_zero.1 e]
theorem repRow_zero (x : Int) (n : Nat) : repRow x n 0 = List.replicate n (Value.int .i64 0) := by simp [repRow]
theorem repRow_full (x : Int) (n : Nat) : repRow x n n = nums .i64 (List.replicate n x) := by simp [repRow, nums]
theorem mul_one_n (n : Nat) (h : n ≤ 20) (w : World) : Calls Try.prog 30 #[.int .u64 1, .int .u64 (n : Int)] w fun e w' => e = .returned (.tuple #[.int .u64 0, .int .u64 (n : Int)]) ∧ w = w' := by
  refine (Try.bits_Mul 1 n (by omega) (by omega) w).mono ?_
  rintro e w' ⟨rfl, rfl⟩
  refine ⟨?_, rfl⟩
  rw [Nat.one_mul, Nat.div_eq_of_lt (by omega), Nat.mod_eq_of_lt (by omega)]
  rfl
theorem info3s : (Try.prog.info? 3).map (·.size) = some 1 := by kernel_rfl

theorem wrap_small (m : Nat) (h : m ≤ 1000) : IntKind.i64.wrap (m : Int) = (m : Int) := by
  have e : (m : Int) % 18446744073709551616 = m := by omega
  simp [IntKind.wrap, IntKind.bits, IntKind.signed, e]
  omega
theorem repR {x : Int} (w : World) (n g : Nat) (wr : World) (hg : wr.heap[g]? = some (.cells (repRow x n n).toArray 3 (0, 0))) (hB : w.heap.size ≤ g) (hn : n ≤ 20) :
    Kd.R (Kd.int .i64) 3 wr w.heap.size (fun _ => True) (.slice (some ⟨g, 0, none⟩) n n) (List.replicate n x) := by
  refine Kd.R_of_own (enc := fun i => .int .i64 i) (h1 := fun _ => rfl) ⟨by simp [encs], Or.inr ⟨g, n, _, by simp, hB, hg, by simp, by simp only [maxLen]; omega, by simp [repRow], ?_⟩⟩ (fun _ _ => trivial)
  simp [repRow, encs]

set_option maxHeartbeats 2000000 in
set_option maxRecDepth 100000 in
theorem slices_Repeat_int_int.calls0 (A0 : Option Addr) (c0 : Nat) (x : Int) (n : Nat) (w : World) (hr0 : Kd.C (Kd.int .i64) w A0 1 [x]) (hc0 : 1 ≤ c0) (hn : n ≤ 20) :
    Calls Try.prog 24 #[.slice A0 1 c0, .int .i64 (n : Int)] w fun e w' => ∃ v0_ : Value, e = .returned v0_ ∧ Kd.R (Kd.int .i64) 3 w' w.heap.size (fun _ => True) v0_ (List.replicate n x) ∧ Below w.heap.size w w' := by
  obtain ⟨ad, rfl, hcell⟩ := (Kd.reads_of_C (d := (0 : Int)) hr0).at_ 0 (Int.le_refl 0) (by omega)
  have hcell' : w.cell? (ad.add 0) = some (.int .i64 x) := hcell
  have hlt := World.block_lt_of_cell? w _ hcell'
  clear hcell hr0
  have hmk := print_make (P := Try.prog) 22 3 .i64 8 Try.underlying22 info3 (by omega) n (by omega)
  have hmul := mul_one_n n hn
  have w1 : IntKind.u64.wrap (n : Int) = n := by simp [IntKind.wrap, IntKind.bits, IntKind.signed]; omega
  have hmade : (madeCells #[Value.int .i64 0] n).toList = repRow x n 0 := by
    rw [repRow_zero]
    apply List.ext_getElem
    · simp [madeCells]
    · intro i h1 h2
      simp [madeCells, Nat.mod_one]
  go_enter Try.func24, Try.ntmps24
  have hgm := heap_alloc_new w (.cells (madeCells #[Value.int .i64 0] n) 3)
  have hma : madeCells #[Value.int .i64 0] n = (repRow x n 0).toArray := by rw [← hmade]
  rw [hma] at hgm hmk
  have Hgm := Aside0.mk hgm
  have Hcell := Aside0.mk hcell'
  clear hma hmade hgm hcell'
  go_wp2_with (first | (go_at_call 30; refine (hmul _).mono ?_; rintro e w' ⟨rfl, rfl⟩) | ((with_reducible refine gate_builtin (b := .copy) (xs := #[.tmp 31, .tmp 32]) rfl ?_); refine wpList_copy_splice rfl (.tmp 31) (.tmp 32) 22 22 rfl 3 Try.underlying22 info3s (some ⟨w.heap.size, 0, none⟩) (some ad) n n 1 c0 rfl rfl w.heap.size 0 (repRow x n 0) 3 ?hg (List.replicate (min 1 n) (Value.int .i64 x)) ?hn ?hp ?hf ?h1 w.heap.size w ?hb (Nat.le_refl _) ?_; (case hg => exact Hgm.out); (case hn => simp); (case hp => (intro hp; refine ⟨rfl, ad, rfl, fun j v hj => ?_⟩; (obtain rfl : j = 0 := by have := (List.getElem?_eq_some_iff.1 hj).1; simp at this; omega); (have hv : v = .int .i64 x := by have := (List.getElem?_eq_some_iff.1 hj).2; simpa using this.symm); rw [hv, World.cell?_alloc_lt _ _ _ (by simpa [add_block] using hlt)]; exact Hcell.out)); (case hf => rw [repRow_length x n 0 (Nat.zero_le _)]; simp; omega); (case h1 => intro v hv; rw [List.eq_of_mem_replicate hv]; rfl); (case hb => exact (Below.refl _ _).alloc (Nat.le_refl _) _); intro w2 hg2 hb2))
  have hg3 : Hid (w2.heap[w.heap.size]? = some (.cells (repRow x n (min 1 n)).toArray 3 (0, 0))) := by
    have := hg2
    have e := repRow_splice x n 0 (min 1 n) (by omega)
    rw [Nat.zero_add] at e
    rw [← e]
    exact hg2
  clear hg2 Hgm Hcell hmk hmul
  obtain ⟨g, Hge⟩ : ∃ g, Aside0 (g = w.heap.size) := ⟨_, ⟨rfl⟩⟩
  have hgg := Hge.out
  rw [← hgg] at hg3 ⊢
  clear hgg
  have hgB : w.heap.size ≤ g := Nat.le_of_eq Hge.out.symm
  go_loopw [8] (fun v8 wr => ∃ (c : Nat), c ≤ n ∧ min 1 n ≤ c ∧ v8 = .int .i64 c ∧ Aside0 (wr.heap[g]? = some (.cells (repRow x n c).toArray 3 (0, 0))) ∧ Aside0 (Below w.heap.size w wr)) (fun v8 _ => n - (intOf v8).toNat)
  case atStart => exact ⟨min 1 n, Nat.min_le_right _ _, Nat.le_refl _, rfl, ⟨hg3⟩, ⟨hb2⟩⟩
  case round =>
    obtain ⟨c, hcn, hc1, rfl, hg, hB⟩ := hrel
    clear hg3 hb2
    by_cases hlt : c < n
    · have hc2 : 1 ≤ c := by omega
      have hgo := hg.out
      have hBo := hB.out
      go_wp2_with fail
      clear hgo
      have hnc : ¬ n = c := by omega
      go_region_law (refine step_copy_splice rfl (.tmp 41) (.tmp 44) 22 22 rfl 3 Try.underlying22 info3s (some ⟨g, c, none⟩) (some ⟨g, 0, none⟩) (n - c) (n - c) c n (by simp [Act.eval, Act.put, hnc]) (by simp [Act.eval, Act.put]) g c (repRow x n c) 3 hg.out (List.replicate (min c (n - c)) (Value.int .i64 x)) (by simp) (fun _ => ⟨rfl, ⟨g, 0, none⟩, rfl, fun j v hj => ?hp⟩) (by rw [repRow_length x n c hcn, List.length_replicate]; omega) (fun v hv => by rw [List.eq_of_mem_replicate hv]; rfl) w.heap.size w hBo.drew hgB ?_; (case hp => (have hj1 := (List.getElem?_eq_some_iff.1 hj).1); (rw [List.length_replicate] at hj1); (have hv : v = .int .i64 x := by have := (List.getElem?_eq_some_iff.1 hj).2; simpa using this.symm); rw [hv]; exact cell_of_row hg.out (repRow_at x n c j (by omega))); intro w4 hg4 hb4; rw [List.length_replicate, show goInt ((min c (n - c) : Nat) : Int) = .int .i64 ((min c (n - c) : Nat) : Int) from rfl])
      have hg5 := repRow_splice x n c (min c (n - c)) (by omega)
      go_simp
      have hcast : (c : Int) + ((min c (n - c) : Nat) : Int) = ((c + min c (n - c) : Nat) : Int) := rfl
      rw [hcast]
      have hwrap : IntKind.i64.wrap ((c + min c (n - c) : Nat) : Int) = ((c + min c (n - c) : Nat) : Int) := wrap_small _ (by omega)
      go_roundw
      all_goals (try rw [hwrap])
      case rel => exact ⟨_, _, _, _, _, _, _, _, _, _, _, _, _, _, ⟨c + min c (n - c), by omega, by omega, rfl, ⟨by rw [← hg5]; exact hg4.out⟩, ⟨hb4⟩⟩, rfl⟩
      case measure => (show n - (intOf (.int .i64 ((c + min c (n - c) : Nat) : Int))).toNat < n - (intOf (.int .i64 (c : Int))).toNat; simp only [intOf, Int.toNat_natCast]; omega)
    · obtain rfl : c = n := by omega
      go_wp2_with fail
      go_ret
      exact ⟨_, rfl, repR w c g wr hg.out hgB (by omega), hB.out⟩
/-- The contract, as the printed texts ask for it. -/
def slices_Repeat_int_int.f (l0 : List Int) (a1 : Int) : Option (List Int) := if l0.length = 1 ∧ 0 ≤ a1 ∧ a1 ≤ 20 then some (List.replicate a1.toNat (l0.getD 0 0)) else none
theorem slices_Repeat_int_int.calls (A0 : Option Addr) (c0 : Nat) (l0 : List Int) (a1 : Int) (r : List Int) (w : World) (hr0 : Kd.C (Kd.int .i64) w A0 l0.length l0) (hc0 : l0.length ≤ c0) (h : slices_Repeat_int_int.f l0 a1 = some r) :
    Calls Try.prog 24 #[.slice A0 l0.length c0, .int .i64 a1] w fun e w' => ∃ v0_ : Value, e = .returned v0_ ∧ Kd.R (Kd.int .i64) 3 w' w.heap.size (fun _ => True) v0_ r ∧ Below w.heap.size w w' := by
  unfold slices_Repeat_int_int.f at h
  split at h
  · rename_i hc
    obtain rfl := Option.some.inj h
    obtain ⟨h1, h2, h3⟩ := hc
    match l0, h1 with
    | [x], _ =>
      obtain ⟨n, rfl⟩ := Int.eq_ofNat_of_zero_le h2
      exact slices_Repeat_int_int.calls0 A0 c0 x n w hr0 hc0 (by omega)
  · cases h
end Go.Proofs.Ytohknfbfmobggaa.Cy
