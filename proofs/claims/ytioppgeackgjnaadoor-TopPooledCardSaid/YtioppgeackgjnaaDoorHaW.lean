/- strings.Builder at this seat: a builder in a block of its own, held through the calls beside it; WriteString leaves every block of another type. -/
import Derived.Test.YtioppgeackgjnaaDoorBt0
import Derived.Test.YtioppgeackgjnaaDoorHaL
import Derived.Shelf.Strings.Builder1
namespace Go.Proofs
open Go.Shelf
def Tryd.lays166_ren : Go.Shelf.Ren := ⟨fun | 166 => 37 | 240 => 58 | 276 => 66 | n => n, fun | 0 => 0 | 3 => 3 | 4 => 4 | 5 => 5 | 9 => 9 | 20 => 20 | 37 => 74 | 70 => 73 | 72 => 76 | 75 => 78 | 80 => 81 | 164 => 105 | n => n, fun | n => n⟩
theorem Tryd.lays166 : Go.Proofs.Lays.n166 Tryd.prog Tryd.lays166_ren := {
  mixed := by kernel_rfl
  f166 := Tryd.func37.trans (congrArg some (by kernel_rfl))
  f240 := Tryd.func58.trans (congrArg some (by kernel_rfl))
  f276 := Tryd.func66.trans (congrArg some (by kernel_rfl))
  t0 := Tryd.underlying0, a0 := Tryd.isAgg0, z0 := Tryd.sizeOf0, v0 := Tryd.zeroValue0
  t3 := Tryd.underlying3, a3 := Tryd.isAgg3, z3 := Tryd.sizeOf3, v3 := Tryd.zeroValue3
  t4 := Tryd.underlying4, a4 := Tryd.isAgg4, z4 := Tryd.sizeOf4, v4 := Tryd.zeroValue4
  t9 := Tryd.underlying9, a9 := Tryd.isAgg9, z9 := Tryd.sizeOf9, v9 := Tryd.zeroValue9
  t20 := Tryd.underlying20, a20 := Tryd.isAgg20, z20 := Tryd.sizeOf20, v20 := Tryd.zeroValue20
  t37 := Tryd.underlying74, a37 := Tryd.isAgg74, z37 := Tryd.sizeOf74, v37 := Tryd.zeroValue74
  t70 := Tryd.underlying73, a70 := Tryd.isAgg73, z70 := Tryd.sizeOf73, v70 := Tryd.zeroValue73
  t72 := Tryd.underlying76, a72 := Tryd.isAgg76, z72 := Tryd.sizeOf76, v72 := Tryd.zeroValue76
  t75 := Tryd.underlying78, a75 := Tryd.isAgg78, z75 := Tryd.sizeOf78, v75 := Tryd.zeroValue78
  t164 := Tryd.underlying105, a164 := Tryd.isAgg105, z164 := Tryd.sizeOf105, v164 := Tryd.zeroValue105 }
theorem Tryd.Builder_Extra_166 : Builder.Extra Tryd.prog Tryd.lays166_ren := {
  sizeBuilder := by kernel_rfl
  liesBuilder := by kernel_rfl
  t5 := Tryd.underlying5
  a5 := Tryd.isAgg5
  z5 := Tryd.sizeOf5
  v5 := Tryd.zeroValue5
  infoByte := by kernel_rfl
  cellsByte := by kernel_rfl
  sizeByte := by kernel_rfl
  neB5 := by decide }
end Go.Proofs
namespace Go.Proofs.YtioppgeackgjnaaDoor.Bt
open Go.RowKit Go.Proofs.YtioppgeackgjnaaDoorW.PrintWords Go.Proofs.YtioppgeackgjnaaDoorW.PrintLast Go.Proofs.YtioppgeackgjnaaDoorW.PrintMore
set_option linter.unusedVariables false
/-- A builder in block g that holds the text x: its blocks are from B on. -/
def SB (B g : Nat) (x : ByteArray) (w : World) : Prop := Lib.IsBuilder 76 5 B g (Lib.byteCells x.data.toList) w
theorem SB.lt {B g : Nat} {x : ByteArray} {w : World} (h : SB B g x w) : g < w.heap.size := by
  rcases h with h | h <;> exact h.lt
theorem SB_drew {B g : Nat} {x : ByteArray} {w : World} (h : SB B g x w) : SB B g x w.drew := h
theorem SB_drewN {B g : Nat} {x : ByteArray} {w : World} (h : SB B g x w) (n : Nat) : SB B g x (w.drewN n) := h
theorem builderAt_grown {T e : TypeId} {B b : Nat} {p : Value} {bs : List Value} {w w' : World} (h : Lib.BuilderAt T e B b p bs w) (hb : w.grownBy w' none) : Lib.BuilderAt T e B b p bs w' := by
  have hlt := h.lt
  obtain ⟨hB, v, hv, hown, hne⟩ := h
  exact ⟨hB, v, (hb.block b hlt (by simp)).trans hv, hown.kept (row := none) hb (Classical.em _), hne⟩
theorem SB_below {B g : Nat} {x : ByteArray} {w w' : World} (h : SB B g x w) (hb : Below w.heap.size w w') : SB B g x w' := by
  have hg : w.grownBy w' none := ⟨hb.os, hb.tape, hb.output, hb.size, fun i hi _ => hb.block i hi⟩
  exact h.elim (fun h => .inl (builderAt_grown h hg)) (fun h => .inr (builderAt_grown h hg))
/-- Beside a block of another type. -/
def SBT (B g : Nat) (x : ByteArray) (g' : Nat) (w : World) : Prop := SB B g x w ∧ ∃ cs, w.heap[g']? = some (Obj.cells cs 36 (0, 0))
theorem SBT_drew {B g g' : Nat} {x : ByteArray} {w : World} (h : SBT B g x g' w) : SBT B g x g' w.drew := h
theorem SBT_drewN {B g g' : Nat} {x : ByteArray} {w : World} (h : SBT B g x g' w) (n : Nat) : SBT B g x g' (w.drewN n) := h
theorem builderAt_set {B b g' j : Nat} {p : Value} {bs : List Value} {w : World} {cs : Array Value} (h : Lib.BuilderAt 76 5 B b p bs w) (hg : w.heap[g']? = some (Obj.cells cs 36 (0, 0))) (u : Value) : Lib.BuilderAt 76 5 B b p bs (w.setCell ⟨g', j, none⟩ u) := by
  have hlt := h.lt
  obtain ⟨hB, v, hv, hown, hne⟩ := h
  have h1 : b ≠ g' := fun e => by
    rw [e, hg] at hv
    simp at hv
  have h2 : v.ownBlock ≠ some g' := Lib.ownBlock_ne hown hg (by decide)
  exact ⟨hB, v, (Below.heap_setCell _ _ _ _ (fun e => h1 e)).trans hv, hown.kept (row := some g') ⟨rfl, rfl, rfl, by simp [World.setCell], fun k _ hk => Below.heap_setCell _ _ _ _ (fun e => hk (by simp [e]))⟩ (Or.inr h2), hne⟩
theorem SBT_set {B g g' j : Nat} {x : ByteArray} {w : World} {u : Value} (h : SBT B g x g' w) : SBT B g x g' (w.setCell ⟨g', j, none⟩ u) := by
  obtain ⟨h1, cs, hg⟩ := h
  exact ⟨h1.elim (fun h => .inl (builderAt_set h hg u)) (fun h => .inr (builderAt_set h hg u)), _, blk_set hg j u⟩
theorem SB_fresh {B g : Nat} {w : World} (hB : B ≤ g) (h : w.heap[g]? = some (.cells #[.pointer none, .slice none 0 0] 76 (0, 0))) : SB B g ⟨#[]⟩ w :=
  .inl ⟨hB, .slice none 0 0, h, World.ownsRow_nil _ _ _ _, by simp [Value.ownBlock]⟩

open Go.Shelf in
set_option maxHeartbeats 4000000 in
set_option maxRecDepth 100000 in
/-- WriteString: the text behind what is held; a block of type 36 stays. -/
theorem builder_WriteString.calls (B g : Nat) (x s : ByteArray) (w : World) (h : SB B g x w) (hlen : x.size + s.size ≤ 140737488355328) (hBw : B ≤ w.heap.size) :
    Calls Tryd.prog 37 #[.pointer (some ⟨g, 0, none⟩), .string s] w fun e w' => (∃ v, e = .returned v) ∧ SB B g (x ++ s) w' ∧ Below B w w' ∧ ∀ (g' : Nat) (cs : Array Value), w.heap[g']? = some (Obj.cells cs 36 (0, 0)) → w'.heap[g']? = some (Obj.cells cs 36 (0, 0)) := by
  obtain ⟨i0, hi, hz0, hz1, hz2⟩ := info_parts (Tryd.Builder_Extra_166).infoByte
  have hlen' : (Lib.byteCells x.data.toList).length + s.size ≤ 140737488355328 := by
    rw [Lib.byteCells_length, Array.length_toList]; exact hlen
  have u76 := run_underlying Tryd.underlying76
  have u73 := run_underlying Tryd.underlying73
  have u74 := run_underlying Tryd.underlying74
  have u3 := run_underlying Tryd.underlying3
  have u9 := run_underlying Tryd.underlying9
  have e58 : ∀ args w, (callFunc 58 args).run Tryd.prog w = .ok (.enter 58 args) w := enters_of Tryd.func58 (by kernel_rfl) rfl
  have hcheck : ∀ W, Lib.IsBuilder 76 5 B g (Lib.byteCells x.data.toList) W → Calls Tryd.prog 58 #[.pointer (some ⟨g, 0, none⟩)] W fun e w' => e = .returned (.tuple #[]) ∧ (Lib.BuilderAt 76 5 B g (.pointer (some ⟨g, 0, none⟩)) (Lib.byteCells x.data.toList) w' ∧ Below B W w') ∧ ∀ (g' : Nat) (cs : Array Value), W.heap[g']? = some (Obj.cells cs 36 (0, 0)) → w'.heap[g']? = some (Obj.cells cs 36 (0, 0)) := fun W h => by
    have hty : ∀ (g' : Nat) (cs : Array Value), W.heap[g']? = some (Obj.cells cs 36 (0, 0)) → g' ≠ g := fun g' cs hg e => by
      subst e
      rcases h with ⟨_, v, hv, _⟩ | ⟨_, v, hv, _⟩ <;> · rw [hg] at hv; simp at hv
    rcases h with h | h
    · refine (Any.Builder_copyCheck_fresh (P := Tryd.prog) (ρ := Tryd.lays166_ren) { Tryd.lays166 with } (Tryd.Builder_Extra_166).toX72 g W h.cell0 h.shape h.frozen0).mono ?_
      rintro e w' ⟨rfl, rfl⟩
      exact ⟨rfl, ⟨h.used _, (Below.refl B W).setCell (p := ⟨g, 0, none⟩) h.1 _⟩, fun g' cs hg => (Below.heap_setCell _ _ _ _ (hty g' cs hg)).trans hg⟩
    · refine (Any.Builder_copyCheck_used (P := Tryd.prog) (ρ := Tryd.lays166_ren) { Tryd.lays166 with } (Tryd.Builder_Extra_166).toX72 g W h.cell0).mono ?_
      rintro e w' ⟨rfl, rfl⟩
      exact ⟨rfl, ⟨h, Below.refl B _⟩, fun _ _ h => h⟩
  go_enter Tryd.func37, Tryd.ntmps37
  go_wp2_with (go_at_fn 58; refine (hcheck _ h).mono ?_)
  rintro e w1 ⟨rfl, ⟨h1, hb1⟩, hk1⟩
  obtain ⟨hB, v, hbk, hown, hne⟩ := h1
  have c0 : w1.cell? ⟨g, 0, none⟩ = some (.pointer (some ⟨g, 0, none⟩)) := by rw [Lib.cell_of_heap hbk]; rfl
  have c1 : w1.cell? ⟨g, 1, none⟩ = some v := by rw [Lib.cell_of_heap hbk]; rfl
  go_wp2_with (at_builtin; refine Lib.wpList_append_own_string _ rfl _ _ 74 9 rfl B 5 i0 Tryd.underlying74 Tryd.underlying9 hi hz0 hz1 hz2 _ _ _ rfl hown s rfl ?c3 ?c4 ?c5 ?_)
  case c3 => unfold maxLen; omega
  case c4 => omega
  case c5 => have := hb1.size; omega
  intro v' w2 hown' hgrow _
  have hlt : g < w1.heap.size := by
    rcases Nat.lt_or_ge g w1.heap.size with h' | h'
    · exact h'
    · simp [Array.getElem?_eq_none h'] at hbk
  have hb2 : w2.heap[g]? = some (.cells #[.pointer (some ⟨g, 0, none⟩), v] 76 (0, 0)) := by
    rw [hgrow.block g hlt (fun e => hne e.symm)]
    exact hbk
  have d0 : w2.cell? ⟨g, 0, none⟩ = some (.pointer (some ⟨g, 0, none⟩)) := by rw [Lib.cell_of_heap hb2]; rfl
  have d1 : w2.cell? ⟨g, 1, none⟩ = some v := by rw [Lib.cell_of_heap hb2]; rfl
  have f1 : w2.frozen? ⟨g, 1, none⟩ = false := Lib.frozen_of_heap hb2 1
  obtain ⟨ao, n', cap, rfl⟩ : ∃ ao n' cap, v' = .slice ao n' cap := by
    rcases hown'.2 with ⟨hv, _⟩ | ⟨g, cap, cur, hv, _⟩
    · exact ⟨_, _, _, hv⟩
    · exact ⟨_, _, _, hv⟩
  go_wp2
  go_ret2
  have ecat : Lib.byteCells (x ++ s).data.toList = Lib.byteCells x.data.toList ++ Lib.strCells s := by
    rw [Lib.strCells_eq, ← Lib.byteCells_append]; simp
  refine ⟨⟨_, rfl⟩, .inr ?_, ?_, ?_⟩
  · rw [ecat]
    exact Lib.BuilderAt.put (T := 76) (e := 5) hB hb2 (bs' := Lib.byteCells x.data.toList ++ Lib.strCells s) (by simpa [Lib.strCells_length] using hown') (by decide)
  · exact (hb1.grown hgrow (by have := hb1.size; omega) (fun k hk => (hown.lt k hk).1)).setCell (p := ⟨g, 1, none⟩) hB _
  · intro g' cs hg
    have hg1 := hk1 g' cs hg
    have n1 : g' ≠ g := fun e => by rw [e, hbk] at hg1; simp at hg1
    have n2 : v.ownBlock ≠ some g' := Lib.ownBlock_ne hown hg1 (by decide)
    have l1 : g' < w1.heap.size := by
      rcases Nat.lt_or_ge g' w1.heap.size with h' | h'
      · exact h'
      · simp [Array.getElem?_eq_none h'] at hg1
    exact (Below.heap_setCell _ _ _ _ n1).trans ((hgrow.block g' l1 (fun e => n2 e.symm)).trans hg1)
/-- String: what is held. -/
theorem builder_String.calls (B g : Nat) (x : ByteArray) (w : World) (h : SB B g x w) (hBw : B ≤ w.heap.size) :
    Calls Tryd.prog 38 #[.pointer (some ⟨g, 0, none⟩)] w fun e w' => e = .returned (.string x) ∧ Below B w w' := by
  refine (Tryd.Builder_String_any B g x.data.toList w h hBw).mono ?_
  rintro e w' ⟨rfl, hb⟩
  exact ⟨by cases x; simp, hb⟩
end Go.Proofs.YtioppgeackgjnaaDoor.Bt
