/- slices.SortFunc at a row of the call's own, whose elements are of one cell, of whatever kind: behind the call the row holds a permutation, rising by a key. -/
import Derived.Shelf.SlSortCmp.Whole1
import Derived.Shelf.SlSortCmp.NoneTotal
import Derived.Test.YthhbdampbpndpaaWMore
import Derived.Test.YthhbdampbpndpaaWApart
import Derived.Test.YthhbdampbpndpaaWN
namespace Go.Proofs.Ythhbdampbpndpaa.SortKd
open Go.Shelf Go.RowKit Go.Sort Go.Proofs.YthhbdampbpndpaaW.PrintWords
set_option linter.unusedVariables false

/-- An element: its value, what it reads as, and that it does. -/
structure Item {β : Type} (El : β → Value → Prop) (Good : β → Prop) where
  u : Value
  x : β
  hM : El x u
  hG : Good x

theorem heap_putRow_other {α : Type} [Inhabited α] (enc : α → Value) (w : World) (blk off : Nat) (d : Array α) (k : Nat) (h : k ≠ blk) : (putRow enc w blk off d).heap[k]? = w.heap[k]? := by
  unfold putRow mapBlock
  simp only [Array.getElem?_modify]
  rw [if_neg (fun e => h e.symm)]
theorem heap_putRow_same {α : Type} [Inhabited α] (enc : α → Value) (w : World) (blk off : Nat) (d : Array α) {c : Array Value} {e : TypeId} {fr : Nat × Nat} (h : w.heap[blk]? = some (.cells c e fr)) : (putRow enc w blk off d).heap[blk]? = some (.cells (putCells enc off d c) e fr) := by
  unfold putRow mapBlock
  simp only [Array.getElem?_modify, if_true, h, Option.map_some]
  rfl
theorem putCells_take {α : Type} [Inhabited α] (enc : α → Value) (d : Array α) (c : Array Value) (h : d.size ≤ c.size) : (putCells enc 0 d c).toList.take d.size = d.toList.map enc := by
  apply List.ext_getElem?
  intro k
  unfold putCells
  rw [List.getElem?_take, List.getElem?_map]
  by_cases hk : k < d.size
  · rw [if_pos hk]
    simp only [Array.getElem?_toList, Array.getElem?_mapIdx, Nat.zero_le, true_and, Nat.zero_add, hk, if_true, Nat.sub_zero]
    rw [Array.getElem?_eq_getElem (show k < c.size by omega), Array.getElem?_eq_getElem hk]
    simp [getElem!_pos d k hk]
  · rw [if_neg hk]
    simp [Array.getElem?_eq_none (show d.size ≤ k by omega)]

set_option maxHeartbeats 1000000 in
theorem sort_cells {β : Type} {P : Program} {ρ : Ren} (L : SlLaysF.n6 P ρ) (El : World → β → Value → Prop) (Good : β → Prop) (cf : β → β → Int) (key : β → Int)
    (hkey : ∀ x y, Good x → Good y → (cf x y < 0 ↔ key x < key y)) (g : Nat) (cb : Array Value) (eg : ∀ args w, (callFunc g args).run P w = .ok (.enter g args) w)
    (et base : Nat) (v : Value) (xs : List β) (inner : List Value) (W : World) (hown : W.ownsRow base et 1 v xs.length inner)
    (hel : ∀ j (hj : j < xs.length) (hj' : j < inner.length), El W xs[j] inner[j]) (hone : ∀ x u, El W x u → u.oneCell' = true)
    (hmove : ∀ (W1 : World) x u, (∀ k, k < W.heap.size → some k ≠ v.ownBlock → W1.heap[k]? = W.heap[k]?) → El W x u → El W1 x u) (hG : ∀ x ∈ xs, Good x)
    (hcl : ∀ (w1 : World) (x y : β) (u u' : Value), W.grownBy w1 v.ownBlock → El w1 x u → El w1 y u' → Good x → Good y →
      Calls P g (#[u, u'] ++ cb) w1 fun e w' => e = .returned (.int .i64 (cf x y)) ∧ ∃ q os', w' = grow (w1.drewN q) os')
    (hlen : xs.length < 4611686018427387904) :
    Calls P (ρ.f 6) #[v, .func (.func g) #[] cb] W fun e w' => e = .returned (.tuple #[]) ∧ ∃ (ys : List β) (inner' : List Value), ys.Perm xs ∧ ys.Pairwise (fun a b => ¬ key b < key a) ∧
      w'.ownsRow base et 1 v ys.length inner' ∧ (∀ j (hj : j < ys.length) (hj' : j < inner'.length), El w' ys[j] inner'[j]) ∧ W.grownBy w' v.ownBlock := by
  rcases Nat.eq_zero_or_pos xs.length with h0 | hpos
  · obtain rfl : xs = [] := List.eq_nil_of_length_eq_zero h0
    obtain ⟨A, c, rfl⟩ := own_slice hown
    refine (AnyF.slices_SortFunc_none { L with } A c _ W).mono ?_
    rintro e w' ⟨rfl, rfl⟩
    exact ⟨rfl, [], inner, List.Perm.refl _, List.Pairwise.nil, hown, hel, World.grownBy.refl _ _⟩
  · obtain ⟨b, cap, rfl, hbb, hbl⟩ := hown.form hpos
    have hblk : (Value.slice (some ⟨b, 0, none⟩) xs.length cap).ownBlock = some b := rfl
    rw [hblk] at hcl hmove
    have hil : inner.length = xs.length := by have := hown.1; omega
    have hcells := hown.cells (g := b) rfl
    rcases hown.2 with ⟨hv, _⟩ | ⟨b', cap', cur, hv, _, hcur, hnc, hcm, hcs, htake⟩
    · cases hv
    · injection hv with ha _ hc
      injection ha with ha
      injection ha with hb'
      subst hb'
      subst hc
      obtain ⟨arr, harr⟩ : ∃ arr : Array (Item (El W) Good), arr = Array.ofFn (n := xs.length) (fun j => ⟨inner[j.val]'(by omega), xs[j.val], hel j.val j.isLt (by omega), hG _ (List.getElem_mem _)⟩) := ⟨_, rfl⟩
      have hsz : arr.size = xs.length := by rw [harr]; simp
      have hinst : Inhabited (Item (El W) Good) := ⟨arr[0]'(by omega)⟩
      have hget : ∀ j (hj : j < xs.length), (arr[j]!).u = inner[j]'(by omega) ∧ (arr[j]!).x = xs[j] := by
        intro j hj
        rw [getElem!_pos arr j (by omega)]
        subst harr
        simp
      have hH : Holds Item.u W b 0 arr := by
        intro j hj
        have hj' : j < xs.length := by omega
        refine ⟨?_, ?_⟩
        · have h1 := hcells j _ (List.getElem?_eq_getElem (show j < inner.length by omega))
          rw [add_plain] at h1
          rw [Nat.zero_add, (hget j hj').1]
          exact h1
        · simp [World.frozen?, hcur]
      have hO : SWO (ltOf (fun p q : Item (El W) Good => cf p.x q.x)) := by
        have hlt : ∀ p q : Item (El W) Good, ltOf (fun p q : Item (El W) Good => cf p.x q.x) p q = decide (key p.x < key q.x) := by
          intro p q
          unfold ltOf
          rw [decide_eq_decide]
          exact hkey _ _ p.hG q.hG
        constructor
        · intro p; rw [hlt]; simp
        · intro p q r h1 h2; rw [hlt] at *; simp at *; omega
        · intro p q r h1 h2; rw [hlt] at *; simp at *; omega
      have move : ∀ (n : Nat) (dk : Array (Item (El W) Good)) (os : Array Obj), ∀ k, k < W.heap.size → k ≠ b → (sortWorld Item.u W b 0 n dk os).heap[k]? = W.heap[k]? := by
        intro n dk os k hk hkb
        unfold sortWorld
        rw [heap_grow_old _ _ (by simpa using hk), heap_putRow_other _ _ _ _ _ _ hkb]
        rfl
      have grown : ∀ (n : Nat) (dk : Array (Item (El W) Good)) (os : Array Obj), W.grownBy (sortWorld Item.u W b 0 n dk os) (some b) := fun n dk os =>
        ⟨rfl, rfl, rfl, by simp [sortWorld], fun k hk hne => move n dk os k hk (fun e => hne (by rw [e]))⟩
      have stays : ∀ (n : Nat) (dk : Array (Item (El W) Good)) (os : Array Obj) (p : Item (El W) Good), El (sortWorld Item.u W b 0 n dk os) p.x p.u := fun n dk os p =>
        hmove _ _ _ (fun k hk hne => move n dk os k hk (fun e => hne (by rw [e]))) p.hM
      have hcmp : CmpLays1 P g cb Item.u (fun p q : Item (El W) Good => cf p.x q.x) b 0 arr.size W := by
        intro m os dk _ p q
        exact hcl _ p.x q.x p.u q.u (grown m dk os) (stays m dk os p) (stays m dk os q) p.hG q.hG
      have h1c : OneCell (Item.u : Item (El W) Good → Value) := fun p => hone _ _ p.hM
      have hcon := Any.slices_SortFunc L Item.u h1c _ hO g cb b 0 cap arr W eg hcmp hH hbl (by omega)
      rw [hsz] at hcon
      refine hcon.mono ?_
      rintro e w' ⟨rfl, d', n, os, hp, hs, rfl⟩
      obtain ⟨hsz', _, hperm⟩ := hp
      rw [hsz] at hsz'
      have e1 : d'.extract 0 xs.length = d' := by rw [← hsz']; simp
      have e2 : arr.extract 0 xs.length = arr := by rw [← hsz]; simp
      rw [e1, e2] at hperm
      have hxs : arr.toList.map Item.x = xs := by
        apply List.ext_getElem
        · simp [hsz]
        · intro j h2 h3
          have := (hget j h3).2
          rw [getElem!_pos arr j (by omega)] at this
          simpa using this
      refine ⟨rfl, d'.toList.map Item.x, d'.toList.map Item.u, ?_, ?_, ⟨?_, .inr ⟨b, cap, putCells Item.u 0 d' cur, ?_, hbb, ?_, ?_, hcm, ?_, ?_⟩⟩, ?_, by rw [hblk]; exact grown n d' os⟩
      · have := hperm.map Item.x
        rwa [hxs] at this
      · rw [List.pairwise_iff_getElem]
        intro i j hi hj hij
        simp only [List.length_map, Array.length_toList] at hi hj
        have h4 := hs i j (Nat.zero_le _) hij (by omega)
        rw [getElem!_pos d' i hi, getElem!_pos d' j hj] at h4
        unfold ltOf at h4
        simp only [decide_eq_false_iff_not] at h4
        simp only [List.getElem_map, Array.getElem_toList]
        exact fun h5 => h4 ((hkey _ _ d'[j].hG d'[i].hG).2 h5)
      · simp
      · simp [hsz']
      · unfold sortWorld
        rw [heap_grow_old _ _ (by simpa using hbl)]
        exact heap_putRow_same _ _ _ _ _ hcur
      · simp [hsz']; exact hnc
      · rw [show (putCells Item.u 0 d' cur).size = cur.size by simp [putCells]]; exact hcs
      · rw [List.length_map, Array.length_toList, Nat.mul_one]
        exact putCells_take Item.u d' cur (by rw [hcs]; omega)
      · intro j hj hj'
        simpa using stays n d' os (d'[j]'(by simpa using hj))

/-- .. at a row in the form R. -/
theorem sort_R {β : Type} {P : Program} {ρ : Ren} (L : SlLaysF.n6 P ρ) (d : Kd β) (hd : d.sz = 1) (Good : β → Prop) (cf : β → β → Int) (key : β → Int)
    (hkey : ∀ x y, Good x → Good y → (cf x y < 0 ↔ key x < key y)) (g : Nat) (cb : Array Value) (eg : ∀ args w, (callFunc g args).run P w = .ok (.enter g args) w)
    (et base : Nat) (ok : Nat → Prop) (v : Value) (xs : List β) (W : World) (HR : d.R et W base ok v xs) (hG : ∀ x ∈ xs, Good x)
    (hcl : ∀ (w1 : World) (x y : β) (u u' : Value), W.grownBy w1 v.ownBlock → d.M w1 base (fun k => ok k ∧ some k ≠ v.ownBlock) x [u] → d.M w1 base (fun k => ok k ∧ some k ≠ v.ownBlock) y [u'] → Good x → Good y →
      Calls P g (#[u, u'] ++ cb) w1 fun e w' => e = .returned (.int .i64 (cf x y)) ∧ ∃ q os', w' = grow (w1.drewN q) os')
    (hlen : xs.length < 4611686018427387904) :
    Calls P (ρ.f 6) #[v, .func (.func g) #[] cb] W fun e w' => e = .returned (.tuple #[]) ∧ ∃ ys : List β, ys.Perm xs ∧ ys.Pairwise (fun a b => ¬ key b < key a) ∧ d.R et w' base ok v ys ∧ W.grownBy w' v.ownBlock := by
  obtain ⟨hok, inner, hown, hrep⟩ := HR
  rw [hd] at hown
  have hil : inner.length = xs.length := by have := hown.1; omega
  refine (sort_cells L (fun W x u => d.M W base (fun k => ok k ∧ some k ≠ v.ownBlock) x [u]) Good cf key hkey g cb eg et base v xs inner W hown ?_ ?_ ?_ hG hcl hlen).mono ?_
  · intro j hj hj'
    have h1 := hrep.2 j _ (List.getElem?_eq_getElem hj)
    rw [hd, Nat.mul_one, List.drop_eq_getElem_cons hj'] at h1
    exact h1
  · intro x u h
    exact d.K_one (d.K_of_M h) _ (by simp)
  · intro W1 x u hm h
    exact Kd.M_step h (fun k ho hk => hm k hk ho.2)
  · rintro e w' ⟨rfl, ys, inner', hperm, hpw, hown', hel', hg⟩
    refine ⟨rfl, ys, hperm, hpw, ⟨hok, inner', by rw [hd]; exact hown', by rw [hd, Nat.mul_one]; simpa using hown'.1, ?_⟩, hg⟩
    intro j p hj
    obtain ⟨hjl, rfl⟩ := List.getElem?_eq_some_iff.1 hj
    have hj' : j < inner'.length := by have := hown'.1; omega
    rw [hd, Nat.mul_one, List.drop_eq_getElem_cons hj']
    exact hel' j hjl hj'

/-- .. at a row in the form N. -/
theorem sort_N {β : Type} {P : Program} {ρ : Ren} (L : SlLaysF.n6 P ρ) (d : Kd β) (hd : d.sz = 1) (Good : β → Prop) (cf : β → β → Int) (key : β → Int)
    (hkey : ∀ x y, Good x → Good y → (cf x y < 0 ↔ key x < key y)) (g : Nat) (cb : Array Value) (eg : ∀ args w, (callFunc g args).run P w = .ok (.enter g args) w)
    (et base : Nat) (ok : Nat → Prop) (v : Value) (xs : List β) (W : World) (HR : d.N et W base ok v xs) (hG : ∀ x ∈ xs, Good x)
    (hcl : ∀ (w1 : World) (x y : β) (u u' : Value), W.grownBy w1 v.ownBlock → d.K w1 x [u] → d.K w1 y [u'] → Good x → Good y →
      Calls P g (#[u, u'] ++ cb) w1 fun e w' => e = .returned (.int .i64 (cf x y)) ∧ ∃ q os', w' = grow (w1.drewN q) os')
    (hlen : xs.length < 4611686018427387904) :
    Calls P (ρ.f 6) #[v, .func (.func g) #[] cb] W fun e w' => e = .returned (.tuple #[]) ∧ ∃ ys : List β, ys.Perm xs ∧ ys.Pairwise (fun a b => ¬ key b < key a) ∧ d.N et w' base ok v ys ∧ W.grownBy w' v.ownBlock := by
  obtain ⟨hok, rows, hrl, ⟨hok2, inner, hown, hrep⟩, hFK⟩ := HR
  rw [hd] at hrep
  have hsz1 : (Kd.raw d.sz).sz = 1 := hd
  rw [hsz1, hrl] at hown
  have hil : inner.length = xs.length := by have := hown.1; omega
  have hrow : ∀ j (hj : j < rows.length) (hj' : j < inner.length), rows[j] = [inner[j]] ∧ (inner[j]).oneCell' = true := by
    intro j hj hj'
    have h1 := hrep.2 j _ (List.getElem?_eq_getElem hj)
    rw [show (Kd.raw 1).sz = 1 from rfl, Nat.mul_one, List.drop_eq_getElem_cons hj'] at h1
    obtain ⟨h2, _, h3⟩ := h1
    exact ⟨h2.symm, h3 _ (by rw [List.take_succ_cons]; exact List.mem_cons_self)⟩
  refine (sort_cells L (fun W x u => Kd.FK d W (fun k => ok k ∧ some k ≠ v.ownBlock) x [u] ∧ u.oneCell' = true) Good cf key hkey g cb eg et base v xs inner W hown ?_ ?_ ?_ hG ?_ hlen).mono ?_
  · intro j hj hj'
    have h2 := hrow j (by omega) hj'
    refine ⟨?_, h2.2⟩
    have := hFK j xs[j] rows[j] (List.getElem?_eq_getElem hj) (List.getElem?_eq_getElem (by omega))
    rwa [h2.1] at this
  · exact fun x u h => h.2
  · intro W1 x u hm h
    exact ⟨h.1.step (fun k ho hk => hm k hk ho.2), h.2⟩
  · intro w1 x y u u' hg h1 h2 g1 g2
    exact hcl w1 x y u u' hg (Foot.now h1.1) (Foot.now h2.1) g1 g2
  · rintro e w' ⟨rfl, ys, inner', hperm, hpw, hown', hel', hg⟩
    have hil' : inner'.length = ys.length := by have := hown'.1; omega
    refine ⟨rfl, ys, hperm, hpw, ⟨hok, inner'.map (fun u => [u]), by simp [hil'], ⟨hok2, inner', by rw [hsz1, List.length_map, hil']; exact hown', by rw [hsz1]; simp, ?_⟩, ?_⟩, hg⟩
    · intro j p hj
      rw [List.getElem?_map] at hj
      obtain ⟨u, hu, rfl⟩ := Option.map_eq_some_iff.1 hj
      obtain ⟨hjl, rfl⟩ := List.getElem?_eq_some_iff.1 hu
      rw [hsz1, Nat.mul_one, List.drop_eq_getElem_cons hjl]
      refine ⟨rfl, by rw [hd]; rfl, ?_⟩
      intro q hq
      rw [List.take_succ_cons, List.take_zero, List.mem_singleton] at hq
      subst hq
      exact (hel' j (by omega) hjl).2
    · intro j x c hx hc
      rw [List.getElem?_map] at hc
      obtain ⟨u, hu, rfl⟩ := Option.map_eq_some_iff.1 hc
      obtain ⟨hjl, rfl⟩ := List.getElem?_eq_some_iff.1 hu
      obtain ⟨hjx, rfl⟩ := List.getElem?_eq_some_iff.1 hx
      exact (hel' j hjx hjl).1
end Go.Proofs.Ythhbdampbpndpaa.SortKd
