-- written by a program of this session (wip/tools/mp.sh: a patched copy of the kit's printer)
import Derived.Test.YtioppgeackgjnaaDoorBt0
import Derived.Test.YtioppgeackgjnaaDoorBt2
import Derived.Test.YtioppgeackgjnaaDoorBt3
import Derived.Test.YtioppgeackgjnaaDoorBt18
import Derived.Test.YtioppgeackgjnaaDoorBt20
import Derived.Test.YtioppgeackgjnaaDoorBt244
import Derived.Test.YtioppgeackgjnaaDoorBt246
import Derived.Test.YtioppgeackgjnaaDoorBt249
import Derived.Test.YtioppgeackgjnaaDoorHaL
import Derived.Test.YtioppgeackgjnaaDoorHaM
import Derived.Test.YtioppgeackgjnaaDoorHaP
namespace Go.Proofs.YtioppgeackgjnaaDoor.Bt
open Go.RowKit Go.Proofs.YtioppgeackgjnaaDoorW.PrintWords Go.Proofs.YtioppgeackgjnaaDoorW.PrintLast Go.Proofs.YtioppgeackgjnaaDoorW.PrintMore
attribute [local go_sem] max2_int min2_int max_two min_two max_three min_three max_four min_four   -- for this text's walks alone
set_option linter.unusedVariables false
set_option linter.unusedSimpArgs false

/-! ### lotdrawertop_TopPooled: function 8 -/
mutual
def lotdrawertop_TopPooled.j0 : Nat → Int → List Int → Int → List Bool → Int → Bool → Int → Int → List Int → Option (Bool)
  | 0, _, _, _, _, _, _, _, _, _ => none
  | k + 1, x0, x1, x8, x9, x11, x53, x433000, x433001, x433002 => if x53 = true then (if x8 = 0 then (some (x11 == 0)) else (some true)) else (lotdrawertop_TopPooled.l0 k x0 x1 x9 ([] : List (S36)) x1 (x1.length : Int) 0 x433000 x433001 x433002)
def lotdrawertop_TopPooled.l0 : Nat → Int → List Int → List Bool → List (S36) → List Int → Int → Int → Int → Int → List Int → Option (Bool)
  | 0, _, _, _, _, _, _, _, _, _, _ => none
  | k + 1, x0, x1, x9, x12, x60, x61, x62, x433000, x433001, x433002 => if x62 < x61 then (if 0 ≤ x62 then (if x62 < (x60.length : Int) then (if (rd x60 x62) < 0 then (lotdrawertop_TopPooled.j2 k x0 x1 x9 x12 (rd x60 x62) x60 x61 x62 true x433000 x433001 x433002) else (lotdrawertop_TopPooled.j2 k x0 x1 x9 x12 (rd x60 x62) x60 x61 x62 (decide ((rd x60 x62) > 1099511627776)) x433000 x433001 x433002)) else (none)) else (none)) else ((bench_Print.f k x0 x12).bind fun bt465 => ((bench_Tell.f k bt465.1).bind fun bt467 => ((strconv_Itoa.f (x1.length : Int)).bind fun t471 => (if 5 + t471.size ≤ 9223372036854775807 then (lotdrawertop_TopPooled.l1 k x1 bt465.2 bt467.1 bt467.2 ((⟨#[107, 101, 112, 116, 32]⟩ : ByteArray) ++ t471) x433002 (x433002.length : Int) 0) else (none)))))
def lotdrawertop_TopPooled.j2 : Nat → Int → List Int → List Bool → List (S36) → Int → List Int → Int → Int → Bool → Int → Int → List Int → Option (Bool)
  | 0, _, _, _, _, _, _, _, _, _, _, _, _ => none
  | k + 1, x0, x1, x9, x12, x14, x60, x61, x62, x71, x433000, x433001, x433002 => if x71 = true then (some true) else ((pool_Need.f x433000 x433001 x433002).bind fun bt447 => ((tape_Below.f k x9 bt447.1).bind fun bt449 => (if bt449.2.2 = 7 then (some true) else ((pool_Add.f x433000 x433001 x433002 x14 bt449.1).bind fun bt452 => (if bt447.2 = 0 then (if bt449.2.2 = 0 then (if bt452.2.2.2 = 0 then (if 0 ≤ bt449.2.1 then (if bt449.2.1 ≤ (x9.length : Int) then (if x12.length < 8796093022208 then (lotdrawertop_TopPooled.l0 k x0 x1 (x9.drop (bt449.2.1 : Int).toNat) (x12 ++ [(⟨x14, bt449.1⟩ : S36)]) x60 x61 (wrap64 (x62 + 1)) bt452.1 bt452.2.1 bt452.2.2.1) else (none)) else (none)) else (none)) else (some false)) else (some false)) else (some false))))))
def lotdrawertop_TopPooled.l1 : Nat → List Int → Int → List ByteArray → Int → ByteArray → List Int → Int → Int → Option (Bool)
  | 0, _, _, _, _, _, _, _, _ => none
  | k + 1, x1, x23, x24, x25, x26, x130, x131, x132 => if x132 < x131 then (if 0 ≤ x132 then (if x132 < (x130.length : Int) then ((strconv_Itoa.f (rd x130 x132)).bind fun t473 => (if 1 + t473.size ≤ 9223372036854775807 then (if x26.size + ((⟨#[32]⟩ : ByteArray) ++ t473).size ≤ 9223372036854775807 then (lotdrawertop_TopPooled.l1 k x1 x23 x24 x25 (x26 ++ ((⟨#[32]⟩ : ByteArray) ++ t473)) x130 x131 (wrap64 (x132 + 1))) else (none)) else (none))) else (none)) else (none)) else (if x23 = 0 then (if x25 = 0 then (if (x24.length : Int) = (wrap64 ((x1.length : Int) + 1)) then (if 0 ≤ (x1.length : Int) then (if (x1.length : Int) < (x24.length : Int) then (some ((rdOf ByteArray.empty x24 (x1.length : Int)).toList == x26.toList)) else (none)) else (none)) else (some false)) else (some false)) else (some false))
end
def lotdrawertop_TopPooled.f (k : Nat) (a0 : Int) (l1 : List Int) (a2 : Int) : Option (Bool) := (lotdrawertop_alive.f k).bind fun t425 => (if t425 = true then ((pool_New.f a0).bind fun bt426 => ((mixer_Seed.f a2).bind fun bt433 => ((mixer_Bits.f k bt433.1 bt433.2.1 bt433.2.2.1 bt433.2.2.2 2000).bind fun bt437 => (if bt426.2.2.2 = 0 then (if bt437.2.2.2.2.2 = 0 then (lotdrawertop_TopPooled.j0 k a0 l1 bt426.2.2.2 bt437.1 bt437.2.2.2.2.2 (decide ((l1.length : Int) > 60)) bt426.1 bt426.2.1 bt426.2.2.1) else (lotdrawertop_TopPooled.j0 k a0 l1 bt426.2.2.2 bt437.1 bt437.2.2.2.2.2 true bt426.1 bt426.2.1 bt426.2.2.1)) else (lotdrawertop_TopPooled.j0 k a0 l1 bt426.2.2.2 bt437.1 bt437.2.2.2.2.2 true bt426.1 bt426.2.1 bt426.2.2.1))))) else (some false))
theorem lotdrawertop_TopPooled.mono_l : ∀ k, (∀ y0 y1 y2 y3 y4 y5 y6 y7 y8, LeO (lotdrawertop_TopPooled.j0 k y0 y1 y2 y3 y4 y5 y6 y7 y8) (lotdrawertop_TopPooled.j0 (k + 1) y0 y1 y2 y3 y4 y5 y6 y7 y8)) ∧ (∀ y0 y1 y2 y3 y4 y5 y6 y7 y8 y9, LeO (lotdrawertop_TopPooled.l0 k y0 y1 y2 y3 y4 y5 y6 y7 y8 y9) (lotdrawertop_TopPooled.l0 (k + 1) y0 y1 y2 y3 y4 y5 y6 y7 y8 y9)) ∧ (∀ y0 y1 y2 y3 y4 y5 y6 y7 y8 y9 y10 y11, LeO (lotdrawertop_TopPooled.j2 k y0 y1 y2 y3 y4 y5 y6 y7 y8 y9 y10 y11) (lotdrawertop_TopPooled.j2 (k + 1) y0 y1 y2 y3 y4 y5 y6 y7 y8 y9 y10 y11)) ∧ (∀ y0 y1 y2 y3 y4 y5 y6 y7, LeO (lotdrawertop_TopPooled.l1 k y0 y1 y2 y3 y4 y5 y6 y7) (lotdrawertop_TopPooled.l1 (k + 1) y0 y1 y2 y3 y4 y5 y6 y7))
  | 0 => ⟨fun _ _ _ _ _ _ _ _ _ r h => by simp [lotdrawertop_TopPooled.j0] at h, fun _ _ _ _ _ _ _ _ _ _ r h => by simp [lotdrawertop_TopPooled.l0] at h, fun _ _ _ _ _ _ _ _ _ _ _ _ r h => by simp [lotdrawertop_TopPooled.j2] at h, fun _ _ _ _ _ _ _ _ r h => by simp [lotdrawertop_TopPooled.l1] at h⟩
  | k + 1 => by
    obtain ⟨ih0, ih1, ih2, ih3⟩ := lotdrawertop_TopPooled.mono_l k
    refine ⟨?_, ?_, ?_, ?_⟩
    · intro y0 y1 y2 y3 y4 y5 y6 y7 y8
      unfold lotdrawertop_TopPooled.j0
      repeat' first
      | (with_reducible exact ih0 _ _ _ _ _ _ _ _ _)
      | (with_reducible exact ih1 _ _ _ _ _ _ _ _ _ _)
      | (with_reducible exact ih2 _ _ _ _ _ _ _ _ _ _ _ _)
      | (with_reducible exact ih3 _ _ _ _ _ _ _ _)
      | (with_reducible exact bench_Print.mono _ _ _)
      | (with_reducible exact bench_Tell.mono _ _)
      | (with_reducible exact lotdrawertop_alive.mono _)
      | (with_reducible exact mixer_Bits.mono _ _ _ _ _ _)
      | (with_reducible exact tape_Below.mono _ _ _)
      | (with_reducible exact LeO.refl _)
      | (with_reducible exact LeO.none _)
      | (with_reducible refine LeO.ite ?_ ?_)
      | (with_reducible refine LeO.bind ?_ (fun _ => ?_))
      | exact ih0 _ _ _ _ _ _ _ _ _
      | exact ih1 _ _ _ _ _ _ _ _ _ _
      | exact ih2 _ _ _ _ _ _ _ _ _ _ _ _
      | exact ih3 _ _ _ _ _ _ _ _
      | exact bench_Print.mono _ _ _
      | exact bench_Tell.mono _ _
      | exact lotdrawertop_alive.mono _
      | exact mixer_Bits.mono _ _ _ _ _ _
      | exact tape_Below.mono _ _ _
      | exact LeO.none _
      | refine LeO.ite ?_ ?_
      | refine LeO.bind ?_ (fun _ => ?_)
    · intro y0 y1 y2 y3 y4 y5 y6 y7 y8 y9
      unfold lotdrawertop_TopPooled.l0
      repeat' first
      | (with_reducible exact ih0 _ _ _ _ _ _ _ _ _)
      | (with_reducible exact ih1 _ _ _ _ _ _ _ _ _ _)
      | (with_reducible exact ih2 _ _ _ _ _ _ _ _ _ _ _ _)
      | (with_reducible exact ih3 _ _ _ _ _ _ _ _)
      | (with_reducible exact bench_Print.mono _ _ _)
      | (with_reducible exact bench_Tell.mono _ _)
      | (with_reducible exact lotdrawertop_alive.mono _)
      | (with_reducible exact mixer_Bits.mono _ _ _ _ _ _)
      | (with_reducible exact tape_Below.mono _ _ _)
      | (with_reducible exact LeO.refl _)
      | (with_reducible exact LeO.none _)
      | (with_reducible refine LeO.ite ?_ ?_)
      | (with_reducible refine LeO.bind ?_ (fun _ => ?_))
      | exact ih0 _ _ _ _ _ _ _ _ _
      | exact ih1 _ _ _ _ _ _ _ _ _ _
      | exact ih2 _ _ _ _ _ _ _ _ _ _ _ _
      | exact ih3 _ _ _ _ _ _ _ _
      | exact bench_Print.mono _ _ _
      | exact bench_Tell.mono _ _
      | exact lotdrawertop_alive.mono _
      | exact mixer_Bits.mono _ _ _ _ _ _
      | exact tape_Below.mono _ _ _
      | exact LeO.none _
      | refine LeO.ite ?_ ?_
      | refine LeO.bind ?_ (fun _ => ?_)
    · intro y0 y1 y2 y3 y4 y5 y6 y7 y8 y9 y10 y11
      unfold lotdrawertop_TopPooled.j2
      repeat' first
      | (with_reducible exact ih0 _ _ _ _ _ _ _ _ _)
      | (with_reducible exact ih1 _ _ _ _ _ _ _ _ _ _)
      | (with_reducible exact ih2 _ _ _ _ _ _ _ _ _ _ _ _)
      | (with_reducible exact ih3 _ _ _ _ _ _ _ _)
      | (with_reducible exact bench_Print.mono _ _ _)
      | (with_reducible exact bench_Tell.mono _ _)
      | (with_reducible exact lotdrawertop_alive.mono _)
      | (with_reducible exact mixer_Bits.mono _ _ _ _ _ _)
      | (with_reducible exact tape_Below.mono _ _ _)
      | (with_reducible exact LeO.refl _)
      | (with_reducible exact LeO.none _)
      | (with_reducible refine LeO.ite ?_ ?_)
      | (with_reducible refine LeO.bind ?_ (fun _ => ?_))
      | exact ih0 _ _ _ _ _ _ _ _ _
      | exact ih1 _ _ _ _ _ _ _ _ _ _
      | exact ih2 _ _ _ _ _ _ _ _ _ _ _ _
      | exact ih3 _ _ _ _ _ _ _ _
      | exact bench_Print.mono _ _ _
      | exact bench_Tell.mono _ _
      | exact lotdrawertop_alive.mono _
      | exact mixer_Bits.mono _ _ _ _ _ _
      | exact tape_Below.mono _ _ _
      | exact LeO.none _
      | refine LeO.ite ?_ ?_
      | refine LeO.bind ?_ (fun _ => ?_)
    · intro y0 y1 y2 y3 y4 y5 y6 y7
      unfold lotdrawertop_TopPooled.l1
      repeat' first
      | (with_reducible exact ih0 _ _ _ _ _ _ _ _ _)
      | (with_reducible exact ih1 _ _ _ _ _ _ _ _ _ _)
      | (with_reducible exact ih2 _ _ _ _ _ _ _ _ _ _ _ _)
      | (with_reducible exact ih3 _ _ _ _ _ _ _ _)
      | (with_reducible exact bench_Print.mono _ _ _)
      | (with_reducible exact bench_Tell.mono _ _)
      | (with_reducible exact lotdrawertop_alive.mono _)
      | (with_reducible exact mixer_Bits.mono _ _ _ _ _ _)
      | (with_reducible exact tape_Below.mono _ _ _)
      | (with_reducible exact LeO.refl _)
      | (with_reducible exact LeO.none _)
      | (with_reducible refine LeO.ite ?_ ?_)
      | (with_reducible refine LeO.bind ?_ (fun _ => ?_))
      | exact ih0 _ _ _ _ _ _ _ _ _
      | exact ih1 _ _ _ _ _ _ _ _ _ _
      | exact ih2 _ _ _ _ _ _ _ _ _ _ _ _
      | exact ih3 _ _ _ _ _ _ _ _
      | exact bench_Print.mono _ _ _
      | exact bench_Tell.mono _ _
      | exact lotdrawertop_alive.mono _
      | exact mixer_Bits.mono _ _ _ _ _ _
      | exact tape_Below.mono _ _ _
      | exact LeO.none _
      | refine LeO.ite ?_ ?_
      | refine LeO.bind ?_ (fun _ => ?_)
theorem lotdrawertop_TopPooled.mono : ∀ a0 a1 a2 k, LeO (lotdrawertop_TopPooled.f k a0 a1 a2) (lotdrawertop_TopPooled.f (k + 1) a0 a1 a2) := by
  intro a0 a1 a2 k
  obtain ⟨ih0, ih1, ih2, ih3⟩ := lotdrawertop_TopPooled.mono_l k
  unfold lotdrawertop_TopPooled.f
  repeat' first
      | (with_reducible exact ih0 _ _ _ _ _ _ _ _ _)
      | (with_reducible exact ih1 _ _ _ _ _ _ _ _ _ _)
      | (with_reducible exact ih2 _ _ _ _ _ _ _ _ _ _ _ _)
      | (with_reducible exact ih3 _ _ _ _ _ _ _ _)
      | (with_reducible exact bench_Print.mono _ _ _)
      | (with_reducible exact bench_Tell.mono _ _)
      | (with_reducible exact lotdrawertop_alive.mono _)
      | (with_reducible exact mixer_Bits.mono _ _ _ _ _ _)
      | (with_reducible exact tape_Below.mono _ _ _)
      | (with_reducible exact LeO.refl _)
      | (with_reducible exact LeO.none _)
      | (with_reducible refine LeO.ite ?_ ?_)
      | (with_reducible refine LeO.bind ?_ (fun _ => ?_))
      | exact ih0 _ _ _ _ _ _ _ _ _
      | exact ih1 _ _ _ _ _ _ _ _ _ _
      | exact ih2 _ _ _ _ _ _ _ _ _ _ _ _
      | exact ih3 _ _ _ _ _ _ _ _
      | exact bench_Print.mono _ _ _
      | exact bench_Tell.mono _ _
      | exact lotdrawertop_alive.mono _
      | exact mixer_Bits.mono _ _ _ _ _ _
      | exact tape_Below.mono _ _ _
      | exact LeO.none _
      | refine LeO.ite ?_ ?_
      | refine LeO.bind ?_ (fun _ => ?_)
set_option maxHeartbeats 8000000 in
set_option maxRecDepth 100000 in
theorem lotdrawertop_TopPooled.calls (k : Nat) (a0 : Int) (A1 : Option Addr) (c1 : Nat) (l1 : List Int) (a2 : Int) (r : Bool) (w : World) (hL : Laid w) (hr1 : Kd.C (Kd.int .i64) w A1 l1.length l1) (hc1 : l1.length ≤ c1) (h : lotdrawertop_TopPooled.f k a0 l1 a2 = some r) :
    Calls Tryd.prog 8 #[.int .i64 a0, .slice A1 l1.length c1, .int .u64 a2] w fun e w' => e = .returned (.bool r) ∧ Below w.heap.size w w' := by
  have HLaid := Aside0.mk hL
  clear hL
  have hu32 := Tryd.underlying32
  have hu65 := Tryd.underlying65
  have hu36 := Tryd.underlying36
  have HR1 := Aside0.mk hr1
  have HC1 := Aside0.mk hc1
  clear hr1 hc1
  have HB := Aside0.mk (Below.refl w.heap.size w)
  have H : ((lotdrawertop_alive.f k).bind fun t425 => (if t425 = true then ((pool_New.f a0).bind fun bt426 => ((mixer_Seed.f a2).bind fun bt433 => ((mixer_Bits.f k bt433.1 bt433.2.1 bt433.2.2.1 bt433.2.2.2 2000).bind fun bt437 => (if bt426.2.2.2 = 0 then (if bt437.2.2.2.2.2 = 0 then (lotdrawertop_TopPooled.j0 k a0 l1 bt426.2.2.2 bt437.1 bt437.2.2.2.2.2 (decide ((l1.length : Int) > 60)) bt426.1 bt426.2.1 bt426.2.2.1) else (lotdrawertop_TopPooled.j0 k a0 l1 bt426.2.2.2 bt437.1 bt437.2.2.2.2.2 true bt426.1 bt426.2.1 bt426.2.2.1)) else (lotdrawertop_TopPooled.j0 k a0 l1 bt426.2.2.2 bt437.1 bt437.2.2.2.2.2 true bt426.1 bt426.2.1 bt426.2.2.1))))) else (some false))) = some r := h
  clear h
  replace H := Option.bind_eq_some_iff.mp H
  obtain ⟨t425, A40, H⟩ := H
  replace H : (if t425 = true then ((pool_New.f a0).bind fun bt426 => ((mixer_Seed.f a2).bind fun bt433 => ((mixer_Bits.f k bt433.1 bt433.2.1 bt433.2.2.1 bt433.2.2.2 2000).bind fun bt437 => (if bt426.2.2.2 = 0 then (if bt437.2.2.2.2.2 = 0 then (lotdrawertop_TopPooled.j0 k a0 l1 bt426.2.2.2 bt437.1 bt437.2.2.2.2.2 (decide ((l1.length : Int) > 60)) bt426.1 bt426.2.1 bt426.2.2.1) else (lotdrawertop_TopPooled.j0 k a0 l1 bt426.2.2.2 bt437.1 bt437.2.2.2.2.2 true bt426.1 bt426.2.1 bt426.2.2.1)) else (lotdrawertop_TopPooled.j0 k a0 l1 bt426.2.2.2 bt437.1 bt437.2.2.2.2.2 true bt426.1 bt426.2.1 bt426.2.2.1))))) else (some false)) = some r := H
  have A4 := Aside0.mk A40
  clear A40
  by_cases c5 : t425 = true
  · subst c5
    have H1 : ((pool_New.f a0).bind fun bt426 => ((mixer_Seed.f a2).bind fun bt433 => ((mixer_Bits.f k bt433.1 bt433.2.1 bt433.2.2.1 bt433.2.2.2 2000).bind fun bt437 => (if bt426.2.2.2 = 0 then (if bt437.2.2.2.2.2 = 0 then (lotdrawertop_TopPooled.j0 k a0 l1 bt426.2.2.2 bt437.1 bt437.2.2.2.2.2 (decide ((l1.length : Int) > 60)) bt426.1 bt426.2.1 bt426.2.2.1) else (lotdrawertop_TopPooled.j0 k a0 l1 bt426.2.2.2 bt437.1 bt437.2.2.2.2.2 true bt426.1 bt426.2.1 bt426.2.2.1)) else (lotdrawertop_TopPooled.j0 k a0 l1 bt426.2.2.2 bt437.1 bt437.2.2.2.2.2 true bt426.1 bt426.2.1 bt426.2.2.1))))) = some r := by rw [if_pos rfl] at H; exact H
    clear H
    have H := H1
    clear H1
    replace H := Option.bind_eq_some_iff.mp H
    obtain ⟨⟨t426, t427, t428, t431⟩, A60, H⟩ := H
    replace H : ((mixer_Seed.f a2).bind fun bt433 => ((mixer_Bits.f k bt433.1 bt433.2.1 bt433.2.2.1 bt433.2.2.2 2000).bind fun bt437 => (if t431 = 0 then (if bt437.2.2.2.2.2 = 0 then (lotdrawertop_TopPooled.j0 k a0 l1 t431 bt437.1 bt437.2.2.2.2.2 (decide ((l1.length : Int) > 60)) t426 t427 t428) else (lotdrawertop_TopPooled.j0 k a0 l1 t431 bt437.1 bt437.2.2.2.2.2 true t426 t427 t428)) else (lotdrawertop_TopPooled.j0 k a0 l1 t431 bt437.1 bt437.2.2.2.2.2 true t426 t427 t428)))) = some r := H
    have A6 := Aside0.mk A60
    clear A60
    replace H := Option.bind_eq_some_iff.mp H
    obtain ⟨⟨t433, t434, t435, t436⟩, A70, H⟩ := H
    replace H : ((mixer_Bits.f k t433 t434 t435 t436 2000).bind fun bt437 => (if t431 = 0 then (if bt437.2.2.2.2.2 = 0 then (lotdrawertop_TopPooled.j0 k a0 l1 t431 bt437.1 bt437.2.2.2.2.2 (decide ((l1.length : Int) > 60)) t426 t427 t428) else (lotdrawertop_TopPooled.j0 k a0 l1 t431 bt437.1 bt437.2.2.2.2.2 true t426 t427 t428)) else (lotdrawertop_TopPooled.j0 k a0 l1 t431 bt437.1 bt437.2.2.2.2.2 true t426 t427 t428))) = some r := H
    have A7 := Aside0.mk A70
    clear A70
    replace H := Option.bind_eq_some_iff.mp H
    obtain ⟨⟨t437, t440, t441, t442, t443, t444⟩, A80, H⟩ := H
    replace H : (if t431 = 0 then (if t444 = 0 then (lotdrawertop_TopPooled.j0 k a0 l1 t431 t437 t444 (decide ((l1.length : Int) > 60)) t426 t427 t428) else (lotdrawertop_TopPooled.j0 k a0 l1 t431 t437 t444 true t426 t427 t428)) else (lotdrawertop_TopPooled.j0 k a0 l1 t431 t437 t444 true t426 t427 t428)) = some r := H
    have A8 := Aside0.mk A80
    clear A80
    have HC9 := Aside0.mk H
    clear H
    go_enter Tryd.func8, Tryd.ntmps8
    go_upto_region 5 with (first | ((with_reducible refine gate_callee (f := 9) rfl ?_); refine goesL_ (some 29) rfl rfl Tryd.func9 (by kernel_rfl) rfl #[] rfl (by (try simp only [List.map_toArray, List.map_cons, List.map_nil]); first | done | rfl | (simp only [List.length_drop, List.length_take]; rfl)) ?_; (with_reducible refine (lotdrawertop_alive.calls k  true _ ?sideL A4.out).mono ?_); (case sideL => first | exact HLaid.out | exact Laid.below HLaid.out (by repeat (first | (with_reducible first | exact HB.out | apply below_alloc | apply pw_below_drewN | apply below_drew1) | exact HB.out)) | exact Laid.below HLaid.out (by repeat (first | (with_reducible first | exact HB.out | apply below_alloc | apply pw_below_drewN | apply below_drew1) | exact HB.out | exact Below.refl _ _))); rintro e w10 ⟨rfl, hb⟩; refine ⟨_, rfl, ?_⟩; have n0_ := Aside0.mk (below_step (by repeat (first | (with_reducible first | exact HB.out | apply below_alloc | apply pw_below_drewN | apply below_drew1) | exact HB.out)) hb); clear HB; have HB := n0_; clear n0_; (try clear hb); (try clear hb2); (try clear hk); (try clear hi)) | ((with_reducible refine gate_callee (f := 12) rfl ?_); refine goesL_ (some 33) rfl rfl Tryd.func12 (by kernel_rfl) rfl #[.int .i64 a0] rfl (by (try simp only [List.map_toArray, List.map_cons, List.map_nil]); first | done | rfl | (simp only [List.length_drop, List.length_take]; rfl)) ?_; (with_reducible refine (pool_New.calls a0 t426 t427 t428 t431 _ A6.out).mono ?_); rintro e w11 ⟨v429, rfl, ho0, hb⟩; refine ⟨_, rfl, ?_⟩; have n0_ := Aside0.mk (Kd.R_lower ho0 (below_size (by repeat (first | (with_reducible first | exact HB.out | apply below_alloc | apply pw_below_drewN | apply below_drew1) | exact HB.out)))); have n1_ := Aside0.mk (below_step (by repeat (first | (with_reducible first | exact HB.out | apply below_alloc | apply pw_below_drewN | apply below_drew1) | exact HB.out)) hb); clear HB; have HO430 := n0_; have HB := n1_; clear n0_ n1_; (try clear hb); (try clear hb2); (try clear hk); (try clear hi); (try clear ho0)) | ((with_reducible refine gate_dst (N := 7) rfl ?_); (try (refine gate_guard (by rfl) ?_; dsimp only)); refine box_event ?hg (N := 7) ?hd (cs := #[.int .i64 0, .int .i64 0, .slice none 0 0]) (t := 32) ?hr ?_; (case hd => rfl); (case hg => rfl); (case hr => first | (go_simp; done) | (go_simp; rfl)); intro gb432 hg w12 hbox hb; have n0_ := Aside0.mk (Kd.R_below (by (with_reducible repeat (first | apply Kd.R_alloc | apply Kd.R_drewN | apply Kd.R_drew)); exact HO430.out) hb); have n1_ := Aside0.mk (below_step (by repeat (first | (with_reducible first | exact HB.out | apply below_alloc | apply pw_below_drewN | apply below_drew1) | exact HB.out)) hb); have n2_ := Aside0.mk (hbox); have n3_ := Aside0.mk ((by rw [hg]; exact (below_size (by repeat (first | (with_reducible first | exact HB.out | apply below_alloc | apply pw_below_drewN | apply below_drew1) | exact HB.out))) : w.heap.size ≤ gb432)); have n4_ := Aside0.mk ((by rw [hg]; exact (below_size (by repeat (first | (with_reducible first | exact HB.out | apply below_alloc | apply pw_below_drewN | apply below_drew1) | exact HB.out))) : w.heap.size ≤ gb432)); clear HO430; clear HB; have HO430 := n0_; have HB := n1_; have BK432 := n2_; have GW432 := n3_; have GE432 := n4_; clear n0_ n1_ n2_ n3_ n4_; clear hb hbox hg; have hcz13_0 : w12.cell? ⟨gb432, 0, none⟩ = some (.int .i64 0) := (blk_cell BK432.out 0).trans rfl; have hcz13_1 : w12.cell? ⟨gb432, 1, none⟩ = some (.int .i64 0) := (blk_cell BK432.out 1).trans rfl; have hcz13_2 : w12.cell? ⟨gb432, 2, none⟩ = some (.slice none 0 0) := (blk_cell BK432.out 2).trans rfl; have hfz13_0 := blk_frozen BK432.out 0; have hfz13_1 := blk_frozen BK432.out 1; have hfz13_2 := blk_frozen BK432.out 2; obtain ⟨Ao14, co14, eo14⟩ := Kd.R_slice HO430.out; subst eo14) | ((with_reducible refine gate_callee (f := 33) rfl ?_); refine goesL_ (some 38) rfl rfl Tryd.func33 (by kernel_rfl) rfl #[.int .u64 a2] rfl (by (try simp only [List.map_toArray, List.map_cons, List.map_nil]); first | done | rfl | (simp only [List.length_drop, List.length_take]; rfl)) ?_; (with_reducible refine (mixer_Seed.calls a2 t433 t434 t435 t436 _ A7.out).mono ?_); rintro e w15 ⟨rfl, hb⟩; refine ⟨_, rfl, ?_⟩; have n0_ := Aside0.mk (Kd.R_below (by (with_reducible repeat (first | apply Kd.R_alloc | apply Kd.R_drewN | apply Kd.R_drew)); exact (Kd.R_mono (Kd.R_far (p := ⟨gb432, 2, none⟩) (Kd.R_far (p := ⟨gb432, 1, none⟩) (Kd.R_far (p := ⟨gb432, 0, none⟩) (Kd.R_types HO430.out BK432.out (by decide)) (fun _ hk => hk.2) (.int .i64 t426)) (fun _ hk => hk.2) (.int .i64 t427)) (fun _ hk => hk.2) (.slice Ao14 t428.length co14)) (fun _ h_ => h_.1))) hb); have n1_ := Aside0.mk (blk_below (g := gb432) (o := .cells #[.int .i64 t426, .int .i64 t427, .slice Ao14 t428.length co14] 32 (0, 0)) (by (with_reducible repeat (first | refine blk_drewN ?_ _ | refine blk_drew ?_ | refine blk_alloc ?_ _)); refine blk_put (cs := #[.int .i64 t426, .int .i64 t427, .slice none 0 0]) ?_ 2 _ rfl; (with_reducible repeat (first | refine blk_drewN ?_ _ | refine blk_drew ?_ | refine blk_alloc ?_ _)); refine blk_put (cs := #[.int .i64 t426, .int .i64 0, .slice none 0 0]) ?_ 1 _ rfl; (with_reducible repeat (first | refine blk_drewN ?_ _ | refine blk_drew ?_ | refine blk_alloc ?_ _)); refine blk_put (cs := #[.int .i64 0, .int .i64 0, .slice none 0 0]) ?_ 0 _ rfl; (with_reducible repeat (first | refine blk_drewN ?_ _ | refine blk_drew ?_ | refine blk_alloc ?_ _)); exact BK432.out) hb); have n2_ := Aside0.mk (below_step (by repeat (first | (with_reducible first | exact HB.out | apply below_alloc | apply pw_below_drewN | apply below_drew1 | refine below_set ?_ GE432.out) | exact HB.out)) hb); clear HO430; clear BK432; clear HB; have HO430 := n0_; have BK432 := n1_; have HB := n2_; clear n0_ n1_ n2_; (try clear hb); (try clear hb2); (try clear hk); (try clear hi)) | ((with_reducible refine gate_callee (f := 32) rfl ?_); refine goesL_ (some 39) rfl rfl Tryd.func32 (by kernel_rfl) rfl #[.agg #[.int .u64 t433, .int .u64 t434, .int .u64 t435, .int .u64 t436], .int .i64 2000] rfl (by (try simp only [List.map_toArray, List.map_cons, List.map_nil]); first | done | rfl | (simp only [List.length_drop, List.length_take]; rfl)) ?_; (with_reducible refine (mixer_Bits.calls k t433 t434 t435 t436 2000 t437 t440 t441 t442 t443 t444 _ A8.out).mono ?_); rintro e w16 ⟨v438, rfl, ho0, hb⟩; refine ⟨_, rfl, ?_⟩; have n0_ := Aside0.mk (Kd.R_below (by (with_reducible repeat (first | apply Kd.R_alloc | apply Kd.R_drewN | apply Kd.R_drew)); exact HO430.out) hb); have n1_ := Aside0.mk (Kd.R_lower ho0 (below_size (by repeat (first | (with_reducible first | exact HB.out | apply below_alloc | apply pw_below_drewN | apply below_drew1 | refine below_set ?_ GE432.out) | exact HB.out)))); have n2_ := Aside0.mk (blk_below (g := gb432) (o := .cells #[.int .i64 t426, .int .i64 t427, .slice Ao14 t428.length co14] 32 (0, 0)) (by (with_reducible repeat (first | refine blk_drewN ?_ _ | refine blk_drew ?_ | refine blk_alloc ?_ _)); exact BK432.out) hb); have n3_ := Aside0.mk (below_step (by repeat (first | (with_reducible first | exact HB.out | apply below_alloc | apply pw_below_drewN | apply below_drew1 | refine below_set ?_ GE432.out) | exact HB.out)) hb); clear HO430; clear BK432; clear HB; have HO430 := n0_; have HO439 := n1_; have BK432 := n2_; have HB := n3_; clear n0_ n1_ n2_ n3_; (try clear hb); (try clear hb2); (try clear hk); (try clear hi); (try clear ho0)) | ((with_reducible refine gate_dst (N := 10) rfl ?_); (try (refine gate_guard (by rfl) ?_; dsimp only)); refine box_event ?hg (N := 10) ?hd (cs := #[.int .u64 0, .int .u64 0, .int .u64 0, .int .u64 0]) (t := 65) ?hr ?_; (case hd => rfl); (case hg => rfl); (case hr => first | (go_simp; done) | (go_simp; rfl)); intro gb445 hg w17 hbox hb; have n0_ := Aside0.mk (Kd.R_below (by (with_reducible repeat (first | apply Kd.R_alloc | apply Kd.R_drewN | apply Kd.R_drew)); exact HO430.out) hb); have n1_ := Aside0.mk (Kd.R_below (by (with_reducible repeat (first | apply Kd.R_alloc | apply Kd.R_drewN | apply Kd.R_drew)); exact HO439.out) hb); have n2_ := Aside0.mk (blk_below (g := gb432) (o := .cells #[.int .i64 t426, .int .i64 t427, .slice Ao14 t428.length co14] 32 (0, 0)) (by (with_reducible repeat (first | refine blk_drewN ?_ _ | refine blk_drew ?_ | refine blk_alloc ?_ _)); exact BK432.out) hb); have n3_ := Aside0.mk (below_step (by repeat (first | (with_reducible first | exact HB.out | apply below_alloc | apply pw_below_drewN | apply below_drew1 | refine below_set ?_ GE432.out) | exact HB.out)) hb); have n4_ := Aside0.mk (hbox); have n5_ := Aside0.mk ((by rw [hg]; exact (below_size (by repeat (first | (with_reducible first | exact HB.out | apply below_alloc | apply pw_below_drewN | apply below_drew1 | refine below_set ?_ GE432.out) | exact HB.out))) : w.heap.size ≤ gb445)); have n6_ := Aside0.mk ((by rw [hg]; exact (below_size (by repeat (first | (with_reducible first | exact HB.out | apply below_alloc | apply pw_below_drewN | apply below_drew1 | refine below_set ?_ GE432.out) | exact HB.out))) : w.heap.size ≤ gb445)); have n7_ := Aside0.mk ((by rw [hg]; exact Nat.ne_of_lt (blk_lt (g := gb432) (o := .cells #[.int .i64 t426, .int .i64 t427, .slice Ao14 t428.length co14] 32 (0, 0)) (by (with_reducible repeat (first | refine blk_drewN ?_ _ | refine blk_drew ?_ | refine blk_alloc ?_ _)); exact BK432.out)) : gb432 ≠ gb445)); have n8_ := Aside0.mk ((by rw [hg]; exact Nat.ne_of_gt (blk_lt (g := gb432) (o := .cells #[.int .i64 t426, .int .i64 t427, .slice Ao14 t428.length co14] 32 (0, 0)) (by (with_reducible repeat (first | refine blk_drewN ?_ _ | refine blk_drew ?_ | refine blk_alloc ?_ _)); exact BK432.out)) : gb445 ≠ gb432)); clear HO430; clear HO439; clear BK432; clear HB; have HO430 := n0_; have HO439 := n1_; have BK432 := n2_; have HB := n3_; have BK445 := n4_; have GW445 := n5_; have GE445 := n6_; have NB432_445 := n7_; have NB445_432 := n8_; clear n0_ n1_ n2_ n3_ n4_ n5_ n6_ n7_ n8_; clear hb hbox hg; have hnb18 := NB445_432.out; have hnc18 := NB432_445.out; have hcz19_0 : w17.cell? ⟨gb445, 0, none⟩ = some (.int .u64 0) := (blk_cell BK445.out 0).trans rfl; have hcz19_1 : w17.cell? ⟨gb445, 1, none⟩ = some (.int .u64 0) := (blk_cell BK445.out 1).trans rfl; have hcz19_2 : w17.cell? ⟨gb445, 2, none⟩ = some (.int .u64 0) := (blk_cell BK445.out 2).trans rfl; have hcz19_3 : w17.cell? ⟨gb445, 3, none⟩ = some (.int .u64 0) := (blk_cell BK445.out 3).trans rfl; have hfz19_0 := blk_frozen BK445.out 0; have hfz19_1 := blk_frozen BK445.out 1; have hfz19_2 := blk_frozen BK445.out 2; have hfz19_3 := blk_frozen BK445.out 3))
    (try simp only [Act.put, List.setIfInBounds_toArray, List.set_cons_zero, List.set_cons_succ])
    go_cut [53] (fun v53 wc => ∃ (kq : Nat) (x53_8 : Bool), v53 = .bool x53_8 ∧ Aside0 (lotdrawertop_TopPooled.j0 kq a0 l1 t431 t437 t444 x53_8 t426 t427 t428 = some r) ∧ Aside0 (kq ≤ k) ∧ Aside0 (Kd.Q Kd.bool 4 wc w.heap.size (fun _ => True) v438 t437) ∧ Aside0 (Kd.R (Kd.int .i64) 3 wc w.heap.size (fun _ => True) (.slice Ao14 t428.length co14) t428) ∧ Aside0 (wc.heap[gb432]? = some (.cells #[.int .i64 t426, .int .i64 t427, (.slice Ao14 t428.length co14)] 32 (0, 0))) ∧ Aside0 (wc.heap[gb445]? = some (.cells #[.int .u64 t440, .int .u64 t441, .int .u64 t442, .int .u64 t443] 65 (0, 0))) ∧ Aside0 (Below w.heap.size w wc))
    case first =>
      have H := HC9.out
      clear HC9
      by_cases c20 : t431 = 0
      · rw [if_pos c20] at H
        have c20b0 : (t431 == 0) = true := beq_iff_eq.mpr c20
        have c20b1 : (t431 != 0) = false := bne_eq_false_iff_eq.mpr c20
        clear c20
        (first | rw [c20b0] | (simp only [i64_w, i32_w]; rw [c20b0]) | skip)
        by_cases c21 : t444 = 0
        · rw [if_pos c21] at H
          have c21b0 : (t444 == 0) = true := beq_iff_eq.mpr c21
          have c21b1 : (t444 != 0) = false := bne_eq_false_iff_eq.mpr c21
          clear c21
          have H' := Aside0.mk H
          clear H
          go_wp2
          go_meet
          case rel => exact ⟨_, (decide ((l1.length : Int) > 60)), (by first | rfl | (simp; done) | (simp [*]; done)), H', ⟨by first | omega | exact Nat.le_refl _⟩, ⟨Kd.Q_of_R (by (with_reducible repeat (first | apply Kd.R_alloc | apply Kd.R_drewN | apply Kd.R_drew)); exact Kd.R_mono (Kd.R_far (p := ⟨gb445, 3, none⟩) (Kd.R_far (p := ⟨gb445, 2, none⟩) (Kd.R_far (p := ⟨gb445, 1, none⟩) (Kd.R_far (p := ⟨gb445, 0, none⟩) (Kd.R_types HO439.out BK445.out (by decide)) (fun _ hk => hk.2) (.int .u64 t440)) (fun _ hk => hk.2) (.int .u64 t441)) (fun _ hk => hk.2) (.int .u64 t442)) (fun _ hk => hk.2) (.int .u64 t443)) (fun _ hk => trivial))⟩, ⟨by (with_reducible repeat (first | apply Kd.R_alloc | apply Kd.R_drewN | apply Kd.R_drew)); exact Kd.R_mono (Kd.R_far (p := ⟨gb445, 3, none⟩) (Kd.R_far (p := ⟨gb445, 2, none⟩) (Kd.R_far (p := ⟨gb445, 1, none⟩) (Kd.R_far (p := ⟨gb445, 0, none⟩) (Kd.R_types HO430.out BK445.out (by decide)) (fun _ hk => hk.2) (.int .u64 t440)) (fun _ hk => hk.2) (.int .u64 t441)) (fun _ hk => hk.2) (.int .u64 t442)) (fun _ hk => hk.2) (.int .u64 t443)) (fun _ hk => trivial)⟩, ⟨by (with_reducible repeat (first | refine blk_drewN ?_ _ | refine blk_drew ?_ | refine blk_alloc ?_ _)); refine blk_far ?_ NB432_445.out _; (with_reducible repeat (first | refine blk_drewN ?_ _ | refine blk_drew ?_ | refine blk_alloc ?_ _)); refine blk_far ?_ NB432_445.out _; (with_reducible repeat (first | refine blk_drewN ?_ _ | refine blk_drew ?_ | refine blk_alloc ?_ _)); refine blk_far ?_ NB432_445.out _; (with_reducible repeat (first | refine blk_drewN ?_ _ | refine blk_drew ?_ | refine blk_alloc ?_ _)); refine blk_far ?_ NB432_445.out _; (with_reducible repeat (first | refine blk_drewN ?_ _ | refine blk_drew ?_ | refine blk_alloc ?_ _)); exact BK432.out⟩, ⟨by (with_reducible repeat (first | refine blk_drewN ?_ _ | refine blk_drew ?_ | refine blk_alloc ?_ _)); refine blk_put (cs := #[.int .u64 t440, .int .u64 t441, .int .u64 t442, .int .u64 0]) ?_ 3 _ rfl; (with_reducible repeat (first | refine blk_drewN ?_ _ | refine blk_drew ?_ | refine blk_alloc ?_ _)); refine blk_put (cs := #[.int .u64 t440, .int .u64 t441, .int .u64 0, .int .u64 0]) ?_ 2 _ rfl; (with_reducible repeat (first | refine blk_drewN ?_ _ | refine blk_drew ?_ | refine blk_alloc ?_ _)); refine blk_put (cs := #[.int .u64 t440, .int .u64 0, .int .u64 0, .int .u64 0]) ?_ 1 _ rfl; (with_reducible repeat (first | refine blk_drewN ?_ _ | refine blk_drew ?_ | refine blk_alloc ?_ _)); refine blk_put (cs := #[.int .u64 0, .int .u64 0, .int .u64 0, .int .u64 0]) ?_ 0 _ rfl; (with_reducible repeat (first | refine blk_drewN ?_ _ | refine blk_drew ?_ | refine blk_alloc ?_ _)); exact BK445.out⟩, ⟨by repeat (first | (with_reducible first | exact HB.out | apply below_alloc | apply pw_below_drewN | apply below_drew1 | refine below_set ?_ GE432.out | refine below_set ?_ GE445.out) | exact HB.out)⟩⟩
        · rw [if_neg c21] at H
          have c21b0 : (t444 == 0) = false := beq_eq_false_iff_ne.mpr c21
          have c21b1 : (t444 != 0) = true := bne_iff_ne.mpr c21
          have H' := Aside0.mk H
          clear H
          go_wp2
          go_meet
          case rel => exact ⟨_, (true), (by first | rfl | (simp; done) | (simp [*]; done)), H', ⟨by first | omega | exact Nat.le_refl _⟩, ⟨Kd.Q_of_R (by (with_reducible repeat (first | apply Kd.R_alloc | apply Kd.R_drewN | apply Kd.R_drew)); exact Kd.R_mono (Kd.R_far (p := ⟨gb445, 3, none⟩) (Kd.R_far (p := ⟨gb445, 2, none⟩) (Kd.R_far (p := ⟨gb445, 1, none⟩) (Kd.R_far (p := ⟨gb445, 0, none⟩) (Kd.R_types HO439.out BK445.out (by decide)) (fun _ hk => hk.2) (.int .u64 t440)) (fun _ hk => hk.2) (.int .u64 t441)) (fun _ hk => hk.2) (.int .u64 t442)) (fun _ hk => hk.2) (.int .u64 t443)) (fun _ hk => trivial))⟩, ⟨by (with_reducible repeat (first | apply Kd.R_alloc | apply Kd.R_drewN | apply Kd.R_drew)); exact Kd.R_mono (Kd.R_far (p := ⟨gb445, 3, none⟩) (Kd.R_far (p := ⟨gb445, 2, none⟩) (Kd.R_far (p := ⟨gb445, 1, none⟩) (Kd.R_far (p := ⟨gb445, 0, none⟩) (Kd.R_types HO430.out BK445.out (by decide)) (fun _ hk => hk.2) (.int .u64 t440)) (fun _ hk => hk.2) (.int .u64 t441)) (fun _ hk => hk.2) (.int .u64 t442)) (fun _ hk => hk.2) (.int .u64 t443)) (fun _ hk => trivial)⟩, ⟨by (with_reducible repeat (first | refine blk_drewN ?_ _ | refine blk_drew ?_ | refine blk_alloc ?_ _)); refine blk_far ?_ NB432_445.out _; (with_reducible repeat (first | refine blk_drewN ?_ _ | refine blk_drew ?_ | refine blk_alloc ?_ _)); refine blk_far ?_ NB432_445.out _; (with_reducible repeat (first | refine blk_drewN ?_ _ | refine blk_drew ?_ | refine blk_alloc ?_ _)); refine blk_far ?_ NB432_445.out _; (with_reducible repeat (first | refine blk_drewN ?_ _ | refine blk_drew ?_ | refine blk_alloc ?_ _)); refine blk_far ?_ NB432_445.out _; (with_reducible repeat (first | refine blk_drewN ?_ _ | refine blk_drew ?_ | refine blk_alloc ?_ _)); exact BK432.out⟩, ⟨by (with_reducible repeat (first | refine blk_drewN ?_ _ | refine blk_drew ?_ | refine blk_alloc ?_ _)); refine blk_put (cs := #[.int .u64 t440, .int .u64 t441, .int .u64 t442, .int .u64 0]) ?_ 3 _ rfl; (with_reducible repeat (first | refine blk_drewN ?_ _ | refine blk_drew ?_ | refine blk_alloc ?_ _)); refine blk_put (cs := #[.int .u64 t440, .int .u64 t441, .int .u64 0, .int .u64 0]) ?_ 2 _ rfl; (with_reducible repeat (first | refine blk_drewN ?_ _ | refine blk_drew ?_ | refine blk_alloc ?_ _)); refine blk_put (cs := #[.int .u64 t440, .int .u64 0, .int .u64 0, .int .u64 0]) ?_ 1 _ rfl; (with_reducible repeat (first | refine blk_drewN ?_ _ | refine blk_drew ?_ | refine blk_alloc ?_ _)); refine blk_put (cs := #[.int .u64 0, .int .u64 0, .int .u64 0, .int .u64 0]) ?_ 0 _ rfl; (with_reducible repeat (first | refine blk_drewN ?_ _ | refine blk_drew ?_ | refine blk_alloc ?_ _)); exact BK445.out⟩, ⟨by repeat (first | (with_reducible first | exact HB.out | apply below_alloc | apply pw_below_drewN | apply below_drew1 | refine below_set ?_ GE432.out | refine below_set ?_ GE445.out) | exact HB.out)⟩⟩
      · rw [if_neg c20] at H
        have c20b0 : (t431 == 0) = false := beq_eq_false_iff_ne.mpr c20
        have c20b1 : (t431 != 0) = true := bne_iff_ne.mpr c20
        (first | rw [c20b0] | (simp only [i64_w, i32_w]; rw [c20b0]) | skip)
        have H' := Aside0.mk H
        clear H
        go_wp2
        go_meet
        case rel => exact ⟨_, (true), (by first | rfl | (simp; done) | (simp [*]; done)), H', ⟨by first | omega | exact Nat.le_refl _⟩, ⟨Kd.Q_of_R (by (with_reducible repeat (first | apply Kd.R_alloc | apply Kd.R_drewN | apply Kd.R_drew)); exact Kd.R_mono (Kd.R_far (p := ⟨gb445, 3, none⟩) (Kd.R_far (p := ⟨gb445, 2, none⟩) (Kd.R_far (p := ⟨gb445, 1, none⟩) (Kd.R_far (p := ⟨gb445, 0, none⟩) (Kd.R_types HO439.out BK445.out (by decide)) (fun _ hk => hk.2) (.int .u64 t440)) (fun _ hk => hk.2) (.int .u64 t441)) (fun _ hk => hk.2) (.int .u64 t442)) (fun _ hk => hk.2) (.int .u64 t443)) (fun _ hk => trivial))⟩, ⟨by (with_reducible repeat (first | apply Kd.R_alloc | apply Kd.R_drewN | apply Kd.R_drew)); exact Kd.R_mono (Kd.R_far (p := ⟨gb445, 3, none⟩) (Kd.R_far (p := ⟨gb445, 2, none⟩) (Kd.R_far (p := ⟨gb445, 1, none⟩) (Kd.R_far (p := ⟨gb445, 0, none⟩) (Kd.R_types HO430.out BK445.out (by decide)) (fun _ hk => hk.2) (.int .u64 t440)) (fun _ hk => hk.2) (.int .u64 t441)) (fun _ hk => hk.2) (.int .u64 t442)) (fun _ hk => hk.2) (.int .u64 t443)) (fun _ hk => trivial)⟩, ⟨by (with_reducible repeat (first | refine blk_drewN ?_ _ | refine blk_drew ?_ | refine blk_alloc ?_ _)); refine blk_far ?_ NB432_445.out _; (with_reducible repeat (first | refine blk_drewN ?_ _ | refine blk_drew ?_ | refine blk_alloc ?_ _)); refine blk_far ?_ NB432_445.out _; (with_reducible repeat (first | refine blk_drewN ?_ _ | refine blk_drew ?_ | refine blk_alloc ?_ _)); refine blk_far ?_ NB432_445.out _; (with_reducible repeat (first | refine blk_drewN ?_ _ | refine blk_drew ?_ | refine blk_alloc ?_ _)); refine blk_far ?_ NB432_445.out _; (with_reducible repeat (first | refine blk_drewN ?_ _ | refine blk_drew ?_ | refine blk_alloc ?_ _)); exact BK432.out⟩, ⟨by (with_reducible repeat (first | refine blk_drewN ?_ _ | refine blk_drew ?_ | refine blk_alloc ?_ _)); refine blk_put (cs := #[.int .u64 t440, .int .u64 t441, .int .u64 t442, .int .u64 0]) ?_ 3 _ rfl; (with_reducible repeat (first | refine blk_drewN ?_ _ | refine blk_drew ?_ | refine blk_alloc ?_ _)); refine blk_put (cs := #[.int .u64 t440, .int .u64 t441, .int .u64 0, .int .u64 0]) ?_ 2 _ rfl; (with_reducible repeat (first | refine blk_drewN ?_ _ | refine blk_drew ?_ | refine blk_alloc ?_ _)); refine blk_put (cs := #[.int .u64 t440, .int .u64 0, .int .u64 0, .int .u64 0]) ?_ 1 _ rfl; (with_reducible repeat (first | refine blk_drewN ?_ _ | refine blk_drew ?_ | refine blk_alloc ?_ _)); refine blk_put (cs := #[.int .u64 0, .int .u64 0, .int .u64 0, .int .u64 0]) ?_ 0 _ rfl; (with_reducible repeat (first | refine blk_drewN ?_ _ | refine blk_drew ?_ | refine blk_alloc ?_ _)); exact BK445.out⟩, ⟨by repeat (first | (with_reducible first | exact HB.out | apply below_alloc | apply pw_below_drewN | apply below_drew1 | refine below_set ?_ GE432.out | refine below_set ?_ GE445.out) | exact HB.out)⟩⟩
    case rest =>
      clear HC9
      try clear c1
      try clear c2
      try clear p2
      try clear c3
      try clear c5
      try clear c8
      try clear c9
      try clear c12
      try clear c18
      try clear c20
      try clear c20b0
      try clear c20b1
      try clear c21
      try clear c21b0
      try clear c21b1
      try clear hcz13_0
      try clear hcz13_1
      try clear hcz13_2
      try clear hcz19_0
      try clear hcz19_1
      try clear hcz19_2
      try clear hcz19_3
      try clear hfz13_0
      try clear hfz13_1
      try clear hfz13_2
      try clear hfz19_0
      try clear hfz19_1
      try clear hfz19_2
      try clear hfz19_3
      obtain ⟨kq, x53_8, rfl, HA, HJ8, HO_9, HO_433002, BK432, BK445, HB⟩ := hcut
      cases kq with
      | zero => exact absurd HA.out (by simp [lotdrawertop_TopPooled.j0])
      | succ kj8 =>
        have H := HA.out
        clear HA
        simp only [lotdrawertop_TopPooled.j0] at H
        by_cases c22 : x53_8 = true
        · subst c22
          have H1 : (if t431 = 0 then (some (t444 == 0)) else (some true)) = some r := by rw [if_pos rfl] at H; exact H
          clear H
          have H := H1
          clear H1
          by_cases c23 : t431 = 0
          · rw [if_pos c23] at H
            have c23b0 : (t431 == 0) = true := beq_iff_eq.mpr c23
            have c23b1 : (t431 != 0) = false := bne_eq_false_iff_eq.mpr c23
            clear c23
            obtain rfl := Option.some.inj H
            go_wp2
            go_ret
            exact ⟨by first | rfl | (simp [errW_none, errW_some] <;> rfl) | (simp [*, errW_none, errW_some] <;> rfl), by repeat (first | (with_reducible first | exact HB.out | apply below_alloc | apply pw_below_drewN | apply below_drew1 | refine below_set ?_ GE432.out | refine below_set ?_ GE445.out) | exact HB.out)⟩
          · rw [if_neg c23] at H
            have c23b0 : (t431 == 0) = false := beq_eq_false_iff_ne.mpr c23
            have c23b1 : (t431 != 0) = true := bne_iff_ne.mpr c23
            obtain rfl := Option.some.inj H
            go_wp2
            go_ret
            exact ⟨by first | rfl | (simp [errW_none, errW_some] <;> rfl) | (simp [*, errW_none, errW_some] <;> rfl), by repeat (first | (with_reducible first | exact HB.out | apply below_alloc | apply pw_below_drewN | apply below_drew1 | refine below_set ?_ GE432.out | refine below_set ?_ GE445.out) | exact HB.out)⟩
        · replace c22 := Bool.eq_false_iff.mpr c22
          subst c22
          have H1 : (lotdrawertop_TopPooled.l0 kj8 a0 l1 t437 ([] : List (S36)) l1 (l1.length : Int) 0 t426 t427 t428) = some r := by rw [if_neg (show ¬ (false = true) by decide)] at H; exact H
          clear H
          have H := H1
          clear H1
          have H' := Aside0.mk H
          clear H
          go_wp2
          go_loopg [9, 12, 62] kj8 (fun kq v9 v12 v62 w' => ∃ (x9_2 : List Bool) (x12_2 : List (S36)) (x62_2 : Int) (x433000_2 : Int) (x433001_2 : Int) (x433002_2 : List Int) (u433002 : Value), v62 = .int .i64 x62_2 ∧ Aside0 (lotdrawertop_TopPooled.l0 kq a0 l1 x9_2 x12_2 l1 (l1.length : Int) x62_2 x433000_2 x433001_2 x433002_2 = some r) ∧ Aside0 (kq ≤ kj8) ∧ Aside0 (Kd.Q Kd.bool 4 w' w.heap.size (fun _ => True) v9 x9_2) ∧ Aside0 (Kd.R k36 36 w' w.heap.size (fun _ => True) v12 x12_2) ∧ Aside0 (Kd.R (Kd.int .i64) 3 w' w.heap.size (fun _ => True) u433002 x433002_2) ∧ Aside0 (w'.heap[gb432]? = some (.cells #[.int .i64 x433000_2, .int .i64 x433001_2, u433002] 32 (0, 0))) ∧ Aside0 (w'.heap[gb445]? = some (.cells #[.int .u64 t440, .int .u64 t441, .int .u64 t442, .int .u64 t443] 65 (0, 0))) ∧ Aside0 (Below w.heap.size w w'))
          case atStart => exact ⟨(t437), (([] : List (S36))), (0), (t426), (t427), (t428), (.slice Ao14 t428.length co14), (by first | rfl | (simp; done) | (simp [*]; done)), H', ⟨Nat.le_refl _⟩, ⟨by (with_reducible repeat (first | apply Kd.Q_alloc | apply Kd.Q_drewN | apply Kd.Q_drew)); exact HO_9.out⟩, ⟨by first | exact Kd.R_nil _ _ _ _ _ | exact Kd.N_nil _ _ _ _ _ | exact Kd.V_nil _ _ _ _ _ | exact Kd.Q_nil _ _ _ _ _ | exact Kd.S_nil _ _ _ _ _⟩, ⟨by (with_reducible repeat (first | apply Kd.R_alloc | apply Kd.R_drewN | apply Kd.R_drew)); exact HO_433002.out⟩, ⟨by (with_reducible repeat (first | refine blk_drewN ?_ _ | refine blk_drew ?_ | refine blk_alloc ?_ _)); exact BK432.out⟩, ⟨by (with_reducible repeat (first | refine blk_drewN ?_ _ | refine blk_drew ?_ | refine blk_alloc ?_ _)); exact BK445.out⟩, ⟨by repeat (first | (with_reducible first | exact HB.out | apply below_alloc | apply pw_below_drewN | apply below_drew1 | refine below_set ?_ GE432.out | refine below_set ?_ GE445.out) | exact HB.out)⟩⟩
          case round =>
            clear H'
            try clear c1
            try clear c2
            try clear p2
            try clear c3
            try clear c5
            try clear c8
            try clear c9
            try clear c12
            try clear c18
            try clear c20
            try clear c20b0
            try clear c20b1
            try clear c21
            try clear c21b0
            try clear c21b1
            try clear c22
            try clear c23
            try clear c23b0
            try clear c23b1
            try clear hcz13_0
            try clear hcz13_1
            try clear hcz13_2
            try clear hcz19_0
            try clear hcz19_1
            try clear hcz19_2
            try clear hcz19_3
            try clear hfz13_0
            try clear hfz13_1
            try clear hfz13_2
            try clear hfz19_0
            try clear hfz19_1
            try clear hfz19_2
            try clear hfz19_3
            try clear p2
            obtain ⟨x9_2, x12_2, x62_2, x433000_2, x433001_2, x433002_2, u433002, rfl, HA, HK2, HO_9, HO_12, HO_433002, BK432, BK445, HB⟩ := hrel
            cases gk with
            | zero => exact absurd HA.out (by simp [lotdrawertop_TopPooled.l0])
            | succ k2 =>
              have H := HA.out
              clear HA
              simp only [lotdrawertop_TopPooled.l0] at H
              by_cases c24 : x62_2 < (l1.length : Int)
              · rw [if_pos c24] at H
                have c24b0 : decide (x62_2 < (l1.length : Int)) = true := decide_eq_true c24
                clear c24
                by_cases c25 : 0 ≤ x62_2
                · rw [if_pos c25] at H
                  have c25b0 : decide (0 ≤ x62_2) = true := decide_eq_true c25
                  clear c25
                  by_cases c26 : x62_2 < (l1.length : Int)
                  · rw [if_pos c26] at H
                    have c26b0 : decide (x62_2 < (l1.length : Int)) = true := decide_eq_true c26
                    clear c26
                    have HC27 := Aside0.mk H
                    clear H
                    have p446 : 0 ≤ (x62_2 : Int) := of_decide_eq_true (by first | (with_reducible assumption) | assumption)
                    have q446 : x62_2 < (l1.length : Int) := of_decide_eq_true (by first | (with_reducible assumption) | assumption)
                    obtain ⟨ad446, e446, hx446_0⟩ := Kd.at_int HR1.out x62_2 p446 q446
                    cases e446
                    replace hx446_0 := (HB.out.cell (World.block_lt_of_cell? w _ hx446_0)).trans hx446_0
                    replace p446 := eq_true p446
                    replace q446 := eq_true q446
                    go_upto_region 11 with (fail)
                    go_cut [71] (fun v71 wc => ∃ (kq : Nat) (x71_26 : Bool), v71 = .bool x71_26 ∧ Aside0 (lotdrawertop_TopPooled.j2 kq a0 l1 x9_2 x12_2 (rd l1 x62_2) l1 (l1.length : Int) x62_2 x71_26 x433000_2 x433001_2 x433002_2 = some r) ∧ Aside0 (kq ≤ k2) ∧ Aside0 (Kd.Q Kd.bool 4 wc w.heap.size (fun _ => True) u9 x9_2) ∧ Aside0 (Kd.R k36 36 wc w.heap.size (fun _ => True) u12 x12_2) ∧ Aside0 (Kd.R (Kd.int .i64) 3 wc w.heap.size (fun _ => True) u433002 x433002_2) ∧ Aside0 (wc.heap[gb432]? = some (.cells #[.int .i64 x433000_2, .int .i64 x433001_2, u433002] 32 (0, 0))) ∧ Aside0 (wc.heap[gb445]? = some (.cells #[.int .u64 t440, .int .u64 t441, .int .u64 t442, .int .u64 t443] 65 (0, 0))) ∧ Aside0 (Below w.heap.size w wc))
                    case first =>
                      have H := HC27.out
                      clear HC27
                      by_cases c28 : (rd l1 x62_2) < 0
                      · rw [if_pos c28] at H
                        have c28b0 : decide ((rd l1 x62_2) < 0) = true := decide_eq_true c28
                        clear c28
                        (first | rw [c28b0] | (simp only [i64_w, i32_w]; rw [c28b0]) | skip)
                        have H' := Aside0.mk H
                        clear H
                        go_wp2
                        go_meet
                        case rel => exact ⟨_, (true), (by first | rfl | (simp; done) | (simp [*]; done)), H', ⟨by have := HJ8.out; have := HK2.out; first | omega | exact Nat.le_refl _⟩, ⟨by (with_reducible repeat (first | apply Kd.Q_alloc | apply Kd.Q_drewN | apply Kd.Q_drew)); exact HO_9.out⟩, ⟨by (with_reducible repeat (first | apply Kd.R_alloc | apply Kd.R_drewN | apply Kd.R_drew)); exact HO_12.out⟩, ⟨by (with_reducible repeat (first | apply Kd.R_alloc | apply Kd.R_drewN | apply Kd.R_drew)); exact HO_433002.out⟩, ⟨by (with_reducible repeat (first | refine blk_drewN ?_ _ | refine blk_drew ?_ | refine blk_alloc ?_ _)); exact BK432.out⟩, ⟨by (with_reducible repeat (first | refine blk_drewN ?_ _ | refine blk_drew ?_ | refine blk_alloc ?_ _)); exact BK445.out⟩, ⟨by repeat (first | (with_reducible first | exact HB.out | apply below_alloc | apply pw_below_drewN | apply below_drew1 | refine below_set ?_ GE432.out | refine below_set ?_ GE445.out) | exact HB.out)⟩⟩
                      · rw [if_neg c28] at H
                        have c28b0 : decide ((rd l1 x62_2) < 0) = false := decide_eq_false c28
                        clear c28
                        (first | rw [c28b0] | (simp only [i64_w, i32_w]; rw [c28b0]) | skip)
                        have H' := Aside0.mk H
                        clear H
                        go_wp2
                        go_meet
                        case rel => exact ⟨_, (decide ((rd l1 x62_2) > 1099511627776)), (by first | rfl | (simp; done) | (simp [*]; done)), H', ⟨by have := HJ8.out; have := HK2.out; first | omega | exact Nat.le_refl _⟩, ⟨by (with_reducible repeat (first | apply Kd.Q_alloc | apply Kd.Q_drewN | apply Kd.Q_drew)); exact HO_9.out⟩, ⟨by (with_reducible repeat (first | apply Kd.R_alloc | apply Kd.R_drewN | apply Kd.R_drew)); exact HO_12.out⟩, ⟨by (with_reducible repeat (first | apply Kd.R_alloc | apply Kd.R_drewN | apply Kd.R_drew)); exact HO_433002.out⟩, ⟨by (with_reducible repeat (first | refine blk_drewN ?_ _ | refine blk_drew ?_ | refine blk_alloc ?_ _)); exact BK432.out⟩, ⟨by (with_reducible repeat (first | refine blk_drewN ?_ _ | refine blk_drew ?_ | refine blk_alloc ?_ _)); exact BK445.out⟩, ⟨by repeat (first | (with_reducible first | exact HB.out | apply below_alloc | apply pw_below_drewN | apply below_drew1 | refine below_set ?_ GE432.out | refine below_set ?_ GE445.out) | exact HB.out)⟩⟩
                    case rest =>
                      clear HC27
                      try clear c1
                      try clear c2
                      try clear p2
                      try clear c3
                      try clear p4
                      try clear q4
                      try clear hx4
                      try clear c5
                      try clear c8
                      try clear c9
                      try clear c12
                      try clear c18
                      try clear c20
                      try clear c20b0
                      try clear c20b1
                      try clear c21
                      try clear c21b0
                      try clear c21b1
                      try clear c22
                      try clear c23
                      try clear c23b0
                      try clear c23b1
                      try clear c24
                      try clear c24b0
                      try clear c25
                      try clear c25b0
                      try clear c26
                      try clear c26b0
                      try clear c28
                      try clear c28b0
                      try clear hcz13_0
                      try clear hcz13_1
                      try clear hcz13_2
                      try clear hcz19_0
                      try clear hcz19_1
                      try clear hcz19_2
                      try clear hcz19_3
                      try clear hfz13_0
                      try clear hfz13_1
                      try clear hfz13_2
                      try clear hfz19_0
                      try clear hfz19_1
                      try clear hfz19_2
                      try clear hfz19_3
                      try clear hx446_0
                      try clear p2
                      try clear p446
                      try clear q446
                      obtain ⟨kq, x71_26, rfl, HA, HJ26, HO_9, HO_12, HO_433002, BK432, BK445, HB⟩ := hcut
                      cases kq with
                      | zero => exact absurd HA.out (by simp [lotdrawertop_TopPooled.j2])
                      | succ kj26 =>
                        have H := HA.out
                        clear HA
                        simp only [lotdrawertop_TopPooled.j2] at H
                        by_cases c29 : x71_26 = true
                        · subst c29
                          have H1 : (some true) = some r := by rw [if_pos rfl] at H; exact H
                          clear H
                          have H := H1
                          clear H1
                          obtain rfl := Option.some.inj H
                          go_wp2
                          go_ret
                          exact ⟨by first | rfl | (simp [errW_none, errW_some] <;> rfl) | (simp [*, errW_none, errW_some] <;> rfl), by repeat (first | (with_reducible first | exact HB.out | apply below_alloc | apply pw_below_drewN | apply below_drew1 | refine below_set ?_ GE432.out | refine below_set ?_ GE445.out) | exact HB.out)⟩
                        · replace c29 := Bool.eq_false_iff.mpr c29
                          subst c29
                          have H1 : ((pool_Need.f x433000_2 x433001_2 x433002_2).bind fun bt447 => ((tape_Below.f kj26 x9_2 bt447.1).bind fun bt449 => (if bt449.2.2 = 7 then (some true) else ((pool_Add.f x433000_2 x433001_2 x433002_2 (rd l1 x62_2) bt449.1).bind fun bt452 => (if bt447.2 = 0 then (if bt449.2.2 = 0 then (if bt452.2.2.2 = 0 then (if 0 ≤ bt449.2.1 then (if bt449.2.1 ≤ (x9_2.length : Int) then (if x12_2.length < 8796093022208 then (lotdrawertop_TopPooled.l0 kj26 a0 l1 (x9_2.drop (bt449.2.1 : Int).toNat) (x12_2 ++ [(⟨(rd l1 x62_2), bt449.1⟩ : S36)]) l1 (l1.length : Int) (wrap64 (x62_2 + 1)) bt452.1 bt452.2.1 bt452.2.2.1) else (none)) else (none)) else (none)) else (some false)) else (some false)) else (some false)))))) = some r := by rw [if_neg (show ¬ (false = true) by decide)] at H; exact H
                          clear H
                          have H := H1
                          clear H1
                          replace H := Option.bind_eq_some_iff.mp H
                          obtain ⟨⟨t447, t448⟩, A300, H⟩ := H
                          replace H : ((tape_Below.f kj26 x9_2 t447).bind fun bt449 => (if bt449.2.2 = 7 then (some true) else ((pool_Add.f x433000_2 x433001_2 x433002_2 (rd l1 x62_2) bt449.1).bind fun bt452 => (if t448 = 0 then (if bt449.2.2 = 0 then (if bt452.2.2.2 = 0 then (if 0 ≤ bt449.2.1 then (if bt449.2.1 ≤ (x9_2.length : Int) then (if x12_2.length < 8796093022208 then (lotdrawertop_TopPooled.l0 kj26 a0 l1 (x9_2.drop (bt449.2.1 : Int).toNat) (x12_2 ++ [(⟨(rd l1 x62_2), bt449.1⟩ : S36)]) l1 (l1.length : Int) (wrap64 (x62_2 + 1)) bt452.1 bt452.2.1 bt452.2.2.1) else (none)) else (none)) else (none)) else (some false)) else (some false)) else (some false))))) = some r := H
                          have A30 := Aside0.mk A300
                          clear A300
                          replace H := Option.bind_eq_some_iff.mp H
                          obtain ⟨⟨t449, t450, t451⟩, A310, H⟩ := H
                          replace H : (if t451 = 7 then (some true) else ((pool_Add.f x433000_2 x433001_2 x433002_2 (rd l1 x62_2) t449).bind fun bt452 => (if t448 = 0 then (if t451 = 0 then (if bt452.2.2.2 = 0 then (if 0 ≤ t450 then (if t450 ≤ (x9_2.length : Int) then (if x12_2.length < 8796093022208 then (lotdrawertop_TopPooled.l0 kj26 a0 l1 (x9_2.drop (t450 : Int).toNat) (x12_2 ++ [(⟨(rd l1 x62_2), t449⟩ : S36)]) l1 (l1.length : Int) (wrap64 (x62_2 + 1)) bt452.1 bt452.2.1 bt452.2.2.1) else (none)) else (none)) else (none)) else (some false)) else (some false)) else (some false)))) = some r := H
                          have A31 := Aside0.mk A310
                          clear A310
                          by_cases c32 : t451 = 7
                          · rw [if_pos c32] at H
                            have c32b0 : (t451 == 7) = true := beq_iff_eq.mpr c32
                            have c32b1 : (t451 != 7) = false := bne_eq_false_iff_eq.mpr c32
                            clear c32
                            obtain rfl := Option.some.inj H
                            have hnb33 := NB432_445.out
                            have hnc33 := NB445_432.out
                            have hcz34_0 : wc.cell? ⟨gb432, 0, none⟩ = some (.int .i64 x433000_2) := (blk_cell BK432.out 0).trans rfl
                            have hcz34_1 : wc.cell? ⟨gb432, 1, none⟩ = some (.int .i64 x433001_2) := (blk_cell BK432.out 1).trans rfl
                            have hcz34_2 : wc.cell? ⟨gb432, 2, none⟩ = some (u433002) := (blk_cell BK432.out 2).trans rfl
                            have hfz34_0 := blk_frozen BK432.out 0
                            have hfz34_1 := blk_frozen BK432.out 1
                            have hfz34_2 := blk_frozen BK432.out 2
                            obtain ⟨Ao35, co35, eo35⟩ := Kd.R_slice HO_433002.out
                            subst eo35
                            go_wp2_with (first | ((with_reducible refine gate_callee (f := 34) rfl ?_); refine goesL_ (some 74) rfl rfl Tryd.func34 (by kernel_rfl) rfl #[.agg #[.int .i64 x433000_2, .int .i64 x433001_2, .slice Ao35 x433002_2.length co35]] rfl (by (try simp only [List.map_toArray, List.map_cons, List.map_nil]); first | done | rfl | (simp only [List.length_drop, List.length_take]; rfl)) ?_; (with_reducible refine (pool_Need.calls x433000_2 x433001_2 _ _ x433002_2 t447 t448 _ ?side1 ?side2 A30.out).mono ?_); (case side1 => repeat (first | exact (Kd.R_reads' HO_433002.out).2.2 | (with_reducible refine Kd.C_alloc ?_ _) | (with_reducible refine Kd.C_drewN ?_ _) | (with_reducible refine Kd.C_drew ?_))); (case side2 => exact (Kd.R_reads' HO_433002.out).2.1); rintro e w36 ⟨rfl, hb⟩; refine ⟨_, rfl, ?_⟩; have n0_ := Aside0.mk (Kd.Q_below (by (with_reducible repeat (first | apply Kd.Q_alloc | apply Kd.Q_drewN | apply Kd.Q_drew)); exact HO_9.out) hb); have n1_ := Aside0.mk (Kd.R_below (by (with_reducible repeat (first | apply Kd.R_alloc | apply Kd.R_drewN | apply Kd.R_drew)); exact HO_12.out) hb); have n2_ := Aside0.mk (Kd.R_below (by (with_reducible repeat (first | apply Kd.R_alloc | apply Kd.R_drewN | apply Kd.R_drew)); exact HO_433002.out) hb); have n3_ := Aside0.mk (blk_below (g := gb432) (o := .cells #[.int .i64 x433000_2, .int .i64 x433001_2, .slice Ao35 x433002_2.length co35] 32 (0, 0)) (by (with_reducible repeat (first | refine blk_drewN ?_ _ | refine blk_drew ?_ | refine blk_alloc ?_ _)); exact BK432.out) hb); have n4_ := Aside0.mk (blk_below (g := gb445) (o := .cells #[.int .u64 t440, .int .u64 t441, .int .u64 t442, .int .u64 t443] 65 (0, 0)) (by (with_reducible repeat (first | refine blk_drewN ?_ _ | refine blk_drew ?_ | refine blk_alloc ?_ _)); exact BK445.out) hb); have n5_ := Aside0.mk (below_step (by repeat (first | (with_reducible first | exact HB.out | apply below_alloc | apply pw_below_drewN | apply below_drew1 | refine below_set ?_ GE432.out | refine below_set ?_ GE445.out) | exact HB.out)) hb); clear HO_9; clear HO_12; clear HO_433002; clear BK432; clear BK445; clear HB; have HO_9 := n0_; have HO_12 := n1_; have HO_433002 := n2_; have BK432 := n3_; have BK445 := n4_; have HB := n5_; clear n0_ n1_ n2_ n3_ n4_ n5_; (try clear hb); (try clear hb2); (try clear hk); (try clear hi); obtain ⟨Ao37, co37, eo37, _⟩ := Kd.Q_slice HO_9.out; subst eo37) | ((with_reducible refine gate_callee (f := 35) rfl ?_); refine goesL_ (some 80) rfl rfl Tryd.func35 (by kernel_rfl) rfl #[.slice Ao37 x9_2.length co37, .int .i64 t447] rfl (by (try simp only [List.map_toArray, List.map_cons, List.map_nil]); first | done | rfl | (simp only [List.length_drop, List.length_take]; rfl)) ?_; (with_reducible refine (tape_Below.calls kj26 _ _ x9_2 t447 t449 t450 t451 _ ?side1 ?side2 A31.out).mono ?_); (case side1 => repeat (first | exact (Kd.Q_reads' HO_9.out).2.2 | (with_reducible refine Kd.C_alloc ?_ _) | (with_reducible refine Kd.C_drewN ?_ _) | (with_reducible refine Kd.C_drew ?_))); (case side2 => exact (Kd.Q_reads' HO_9.out).2.1); rintro e w' ⟨rfl, ⟨nd, rfl⟩⟩; refine ⟨_, rfl, ?_⟩))
                            go_ret
                            exact ⟨by first | rfl | (simp [errW_none, errW_some] <;> rfl) | (simp [*, errW_none, errW_some] <;> rfl), by repeat (first | (with_reducible first | exact HB.out | apply below_alloc | apply pw_below_drewN | apply below_drew1 | refine below_set ?_ GE432.out | refine below_set ?_ GE445.out) | exact HB.out)⟩
                          · rw [if_neg c32] at H
                            have c32b0 : (t451 == 7) = false := beq_eq_false_iff_ne.mpr c32
                            have c32b1 : (t451 != 7) = true := bne_iff_ne.mpr c32
                            replace H := Option.bind_eq_some_iff.mp H
                            obtain ⟨⟨t452, t453, t454, t457⟩, A380, H⟩ := H
                            replace H : (if t448 = 0 then (if t451 = 0 then (if t457 = 0 then (if 0 ≤ t450 then (if t450 ≤ (x9_2.length : Int) then (if x12_2.length < 8796093022208 then (lotdrawertop_TopPooled.l0 kj26 a0 l1 (x9_2.drop (t450 : Int).toNat) (x12_2 ++ [(⟨(rd l1 x62_2), t449⟩ : S36)]) l1 (l1.length : Int) (wrap64 (x62_2 + 1)) t452 t453 t454) else (none)) else (none)) else (none)) else (some false)) else (some false)) else (some false)) = some r := H
                            have A38 := Aside0.mk A380
                            clear A380
                            by_cases c39 : t448 = 0
                            · rw [if_pos c39] at H
                              have c39b0 : (t448 == 0) = true := beq_iff_eq.mpr c39
                              have c39b1 : (t448 != 0) = false := bne_eq_false_iff_eq.mpr c39
                              clear c39
                              by_cases c40 : t451 = 0
                              · rw [if_pos c40] at H
                                have c40b0 : (t451 == 0) = true := beq_iff_eq.mpr c40
                                have c40b1 : (t451 != 0) = false := bne_eq_false_iff_eq.mpr c40
                                clear c40
                                by_cases c41 : t457 = 0
                                · rw [if_pos c41] at H
                                  have c41b0 : (t457 == 0) = true := beq_iff_eq.mpr c41
                                  have c41b1 : (t457 != 0) = false := bne_eq_false_iff_eq.mpr c41
                                  clear c41
                                  by_cases c42 : 0 ≤ t450
                                  · rw [if_pos c42] at H
                                    have c42b0 := eq_true c42
                                    have c42b1 : decide (0 ≤ t450) = true := decide_eq_true c42
                                    clear c42
                                    by_cases c43 : t450 ≤ (x9_2.length : Int)
                                    · rw [if_pos c43] at H
                                      have c43b0 := eq_true c43
                                      have c43b1 : decide (t450 ≤ (x9_2.length : Int)) = true := decide_eq_true c43
                                      clear c43
                                      obtain ⟨y459, hy459⟩ : ∃ y_ : List Bool, y_ = (x9_2.drop (t450 : Int).toNat) := ⟨_, rfl⟩
                                      replace H : (if x12_2.length < 8796093022208 then (lotdrawertop_TopPooled.l0 kj26 a0 l1 y459 (x12_2 ++ [(⟨(rd l1 x62_2), t449⟩ : S36)]) l1 (l1.length : Int) (wrap64 (x62_2 + 1)) t452 t453 t454) else (none)) = some r := by first | (rw [hy459]; with_reducible exact H) | (have H2_ := (Option.bind_some _ _).symm.trans H; rw [hy459]; with_reducible exact H2_) | (have H2_ := (Option.bind_some _ _).symm.trans H; with_reducible exact H2_) | with_reducible exact H | (rw [hy459]; exact H) | exact H
                                      have Ny459 := Aside0.mk hy459
                                      clear hy459
                                      by_cases c44 : x12_2.length < 8796093022208
                                      · rw [if_pos c44] at H
                                        have LMc44 := Aside0.mk c44
                                        clear c44
                                        obtain ⟨y462, hy462⟩ : ∃ y_ : List (S36), y_ = (x12_2 ++ [(⟨(rd l1 x62_2), t449⟩ : S36)]) := ⟨_, rfl⟩
                                        replace H : (lotdrawertop_TopPooled.l0 kj26 a0 l1 y459 y462 l1 (l1.length : Int) (wrap64 (x62_2 + 1)) t452 t453 t454) = some r := by first | (rw [hy462]; with_reducible exact H) | (have H2_ := (Option.bind_some _ _).symm.trans H; rw [hy462]; with_reducible exact H2_) | (have H2_ := (Option.bind_some _ _).symm.trans H; with_reducible exact H2_) | with_reducible exact H | (rw [hy462]; exact H) | exact H
                                        have Ny462 := Aside0.mk hy462
                                        clear hy462
                                        have H' := Aside0.mk H
                                        clear H
                                        have hnb45 := NB432_445.out
                                        have hnc45 := NB445_432.out
                                        have hcz46_0 : wc.cell? ⟨gb432, 0, none⟩ = some (.int .i64 x433000_2) := (blk_cell BK432.out 0).trans rfl
                                        have hcz46_1 : wc.cell? ⟨gb432, 1, none⟩ = some (.int .i64 x433001_2) := (blk_cell BK432.out 1).trans rfl
                                        have hcz46_2 : wc.cell? ⟨gb432, 2, none⟩ = some (u433002) := (blk_cell BK432.out 2).trans rfl
                                        have hfz46_0 := blk_frozen BK432.out 0
                                        have hfz46_1 := blk_frozen BK432.out 1
                                        have hfz46_2 := blk_frozen BK432.out 2
                                        obtain ⟨Ao47, co47, eo47⟩ := Kd.R_slice HO_433002.out
                                        subst eo47
                                        try go_wp2_with (first | ((with_reducible refine gate_callee (f := 34) rfl ?_); refine goesL_ (some 74) rfl rfl Tryd.func34 (by kernel_rfl) rfl #[.agg #[.int .i64 x433000_2, .int .i64 x433001_2, .slice Ao47 x433002_2.length co47]] rfl (by (try simp only [List.map_toArray, List.map_cons, List.map_nil]); first | done | rfl | (simp only [List.length_drop, List.length_take]; rfl)) ?_; (with_reducible refine (pool_Need.calls x433000_2 x433001_2 _ _ x433002_2 t447 t448 _ ?side1 ?side2 A30.out).mono ?_); (case side1 => repeat (first | exact (Kd.R_reads' HO_433002.out).2.2 | (with_reducible refine Kd.C_alloc ?_ _) | (with_reducible refine Kd.C_drewN ?_ _) | (with_reducible refine Kd.C_drew ?_))); (case side2 => exact (Kd.R_reads' HO_433002.out).2.1); rintro e w48 ⟨rfl, hb⟩; refine ⟨_, rfl, ?_⟩; have n0_ := Aside0.mk (Kd.Q_below (by (with_reducible repeat (first | apply Kd.Q_alloc | apply Kd.Q_drewN | apply Kd.Q_drew)); exact HO_9.out) hb); have n1_ := Aside0.mk (Kd.R_below (by (with_reducible repeat (first | apply Kd.R_alloc | apply Kd.R_drewN | apply Kd.R_drew)); exact HO_12.out) hb); have n2_ := Aside0.mk (Kd.R_below (by (with_reducible repeat (first | apply Kd.R_alloc | apply Kd.R_drewN | apply Kd.R_drew)); exact HO_433002.out) hb); have n3_ := Aside0.mk (blk_below (g := gb432) (o := .cells #[.int .i64 x433000_2, .int .i64 x433001_2, .slice Ao47 x433002_2.length co47] 32 (0, 0)) (by (with_reducible repeat (first | refine blk_drewN ?_ _ | refine blk_drew ?_ | refine blk_alloc ?_ _)); exact BK432.out) hb); have n4_ := Aside0.mk (blk_below (g := gb445) (o := .cells #[.int .u64 t440, .int .u64 t441, .int .u64 t442, .int .u64 t443] 65 (0, 0)) (by (with_reducible repeat (first | refine blk_drewN ?_ _ | refine blk_drew ?_ | refine blk_alloc ?_ _)); exact BK445.out) hb); have n5_ := Aside0.mk (below_step (by repeat (first | (with_reducible first | exact HB.out | apply below_alloc | apply pw_below_drewN | apply below_drew1 | refine below_set ?_ GE432.out | refine below_set ?_ GE445.out) | exact HB.out)) hb); clear HO_9; clear HO_12; clear HO_433002; clear BK432; clear BK445; clear HB; have HO_9 := n0_; have HO_12 := n1_; have HO_433002 := n2_; have BK432 := n3_; have BK445 := n4_; have HB := n5_; clear n0_ n1_ n2_ n3_ n4_ n5_; (try clear hb); (try clear hb2); (try clear hk); (try clear hi); obtain ⟨Ao49, co49, eo49, _⟩ := Kd.Q_slice HO_9.out; subst eo49) | ((with_reducible refine gate_callee (f := 35) rfl ?_); refine goesL_ (some 80) rfl rfl Tryd.func35 (by kernel_rfl) rfl #[.slice Ao49 x9_2.length co49, .int .i64 t447] rfl (by (try simp only [List.map_toArray, List.map_cons, List.map_nil]); first | done | rfl | (simp only [List.length_drop, List.length_take]; rfl)) ?_; (with_reducible refine (tape_Below.calls kj26 _ _ x9_2 t447 t449 t450 t451 _ ?side1 ?side2 A31.out).mono ?_); (case side1 => repeat (first | exact (Kd.Q_reads' HO_9.out).2.2 | (with_reducible refine Kd.C_alloc ?_ _) | (with_reducible refine Kd.C_drewN ?_ _) | (with_reducible refine Kd.C_drew ?_))); (case side2 => exact (Kd.Q_reads' HO_9.out).2.1); rintro e w' ⟨rfl, ⟨nd, rfl⟩⟩; refine ⟨_, rfl, ?_⟩; (try (rw [drewN_self w48]; generalize hq_ : World.drewN w48 _ = w48; have n0_ : Aside0 (Kd.R k36 36 w48 w.heap.size (fun _ => True) u12 x12_2) := ⟨by rw [← hq_]; exact (by (with_reducible repeat (first | apply Kd.R_alloc | apply Kd.R_drewN | apply Kd.R_drew)); exact HO_12.out)⟩; have n1_ : Aside0 (Kd.R (Kd.int .i64) 3 w48 w.heap.size (fun _ => True) (.slice Ao47 x433002_2.length co47) x433002_2) := ⟨by rw [← hq_]; exact (by (with_reducible repeat (first | apply Kd.R_alloc | apply Kd.R_drewN | apply Kd.R_drew)); exact HO_433002.out)⟩; have n2_ : Aside0 (Kd.Q Kd.bool 4 w48 w.heap.size (fun _ => True) (.slice Ao49 x9_2.length co49) x9_2) := ⟨by rw [← hq_]; exact (by (with_reducible repeat (first | apply Kd.Q_alloc | apply Kd.Q_drewN | apply Kd.Q_drew)); exact HO_9.out)⟩; have n3_ : Aside0 (w48.heap[gb432]? = some (.cells #[.int .i64 x433000_2, .int .i64 x433001_2, .slice Ao47 x433002_2.length co47] 32 (0, 0))) := ⟨by rw [← hq_]; exact (by (with_reducible repeat (first | refine blk_drewN ?_ _ | refine blk_drew ?_ | refine blk_alloc ?_ _)); exact BK432.out)⟩; have n4_ : Aside0 (w48.heap[gb445]? = some (.cells #[.int .u64 t440, .int .u64 t441, .int .u64 t442, .int .u64 t443] 65 (0, 0))) := ⟨by rw [← hq_]; exact (by (with_reducible repeat (first | refine blk_drewN ?_ _ | refine blk_drew ?_ | refine blk_alloc ?_ _)); exact BK445.out)⟩; have n5_ : Aside0 (Below w.heap.size w w48) := ⟨by rw [← hq_]; exact (by repeat (first | (with_reducible first | exact HB.out | apply below_alloc | apply pw_below_drewN | apply below_drew1 | refine below_set ?_ GE432.out | refine below_set ?_ GE445.out) | exact HB.out))⟩; clear HO_12 HO_433002 HO_9 BK432 BK445 HB hq_; have HO_12 := n0_; have HO_433002 := n1_; have HO_9 := n2_; have BK432 := n3_; have BK445 := n4_; have HB := n5_; clear n0_ n1_ n2_ n3_ n4_ n5_)); have hcz50_0 : w48.cell? ⟨gb432, 0, none⟩ = some (.int .i64 x433000_2) := (blk_cell BK432.out 0).trans rfl; have hcz50_1 : w48.cell? ⟨gb432, 1, none⟩ = some (.int .i64 x433001_2) := (blk_cell BK432.out 1).trans rfl; have hcz50_2 : w48.cell? ⟨gb432, 2, none⟩ = some (.slice Ao47 x433002_2.length co47) := (blk_cell BK432.out 2).trans rfl; have hfz50_0 := blk_frozen BK432.out 0; have hfz50_1 := blk_frozen BK432.out 1; have hfz50_2 := blk_frozen BK432.out 2) | ((with_reducible refine gate_callee (f := 13) rfl ?_); refine goesL_ (some 90) rfl rfl Tryd.func13 (by kernel_rfl) rfl #[.agg #[.int .i64 x433000_2, .int .i64 x433001_2, .slice Ao47 x433002_2.length co47], .int .i64 (rd l1 x62_2), .int .i64 t449] rfl (by (try simp only [List.map_toArray, List.map_cons, List.map_nil]); first | done | rfl | (simp only [List.length_drop, List.length_take]; rfl)) ?_; (with_reducible refine (pool_Add.calls x433000_2 x433001_2 _ _ x433002_2 (rd l1 x62_2) t449 t452 t453 t454 t457 _ ?side1 ?side2 A38.out).mono ?_); (case side1 => repeat (first | exact (Kd.R_reads' HO_433002.out).2.2 | (with_reducible refine Kd.C_alloc ?_ _) | (with_reducible refine Kd.C_drewN ?_ _) | (with_reducible refine Kd.C_drew ?_))); (case side2 => exact (Kd.R_reads' HO_433002.out).2.1); rintro e w51 ⟨v455, rfl, ho0, hb⟩; refine ⟨_, rfl, ?_⟩; have n0_ := Aside0.mk (Kd.Q_below (by (with_reducible repeat (first | apply Kd.Q_alloc | apply Kd.Q_drewN | apply Kd.Q_drew)); exact HO_9.out) hb); have n1_ := Aside0.mk (Kd.R_below (by (with_reducible repeat (first | apply Kd.R_alloc | apply Kd.R_drewN | apply Kd.R_drew)); exact HO_12.out) hb); have n2_ := Aside0.mk (Kd.R_elder' (by (with_reducible repeat (first | apply Kd.R_alloc | apply Kd.R_drewN | apply Kd.R_drew)); exact HO_433002.out) (Kd.R_base ho0) hb); have n3_ := Aside0.mk (Kd.R_lower (Kd.R_new' ho0 (Kd.R_lt (by (with_reducible repeat (first | apply Kd.R_alloc | apply Kd.R_drewN | apply Kd.R_drew)); exact HO_433002.out))) (below_size (by repeat (first | (with_reducible first | exact HB.out | apply below_alloc | apply pw_below_drewN | apply below_drew1 | refine below_set ?_ GE432.out | refine below_set ?_ GE445.out) | exact HB.out)))); have n4_ := Aside0.mk (blk_below (g := gb432) (o := .cells #[.int .i64 x433000_2, .int .i64 x433001_2, .slice Ao47 x433002_2.length co47] 32 (0, 0)) (by (with_reducible repeat (first | refine blk_drewN ?_ _ | refine blk_drew ?_ | refine blk_alloc ?_ _)); exact BK432.out) hb); have n5_ := Aside0.mk (blk_below (g := gb445) (o := .cells #[.int .u64 t440, .int .u64 t441, .int .u64 t442, .int .u64 t443] 65 (0, 0)) (by (with_reducible repeat (first | refine blk_drewN ?_ _ | refine blk_drew ?_ | refine blk_alloc ?_ _)); exact BK445.out) hb); have n6_ := Aside0.mk (below_step (by repeat (first | (with_reducible first | exact HB.out | apply below_alloc | apply pw_below_drewN | apply below_drew1 | refine below_set ?_ GE432.out | refine below_set ?_ GE445.out) | exact HB.out)) hb); clear HO_9; clear HO_12; clear HO_433002; clear BK432; clear BK445; clear HB; have HO_9 := n0_; have HO_12 := n1_; have HO_433002 := n2_; have HO456 := n3_; have BK432 := n4_; have BK445 := n5_; have HB := n6_; clear n0_ n1_ n2_ n3_ n4_ n5_ n6_; (try clear hb); (try clear hb2); (try clear hk); (try clear hi); (try clear ho0)) | ((with_reducible refine gate_dst (N := 20) rfl ?_); (try (refine gate_guard (by rfl) ?_; dsimp only)); refine box_event ?hg (N := 20) ?hd (cs := #[.int .i64 0, .int .i64 0, .slice none 0 0]) (t := 32) ?hr ?_; (case hd => rfl); (case hg => rfl); (case hr => first | (go_simp; done) | (go_simp; rfl)); intro gb458 hg w52 hbox hb; have n0_ := Aside0.mk (Kd.Q_below (by (with_reducible repeat (first | apply Kd.Q_alloc | apply Kd.Q_drewN | apply Kd.Q_drew)); exact HO_9.out) hb); have n1_ := Aside0.mk (Kd.R_below (by (with_reducible repeat (first | apply Kd.R_alloc | apply Kd.R_drewN | apply Kd.R_drew)); exact HO_12.out) hb); have n2_ := Aside0.mk (Kd.R_below (by (with_reducible repeat (first | apply Kd.R_alloc | apply Kd.R_drewN | apply Kd.R_drew)); exact HO_433002.out) hb); have n3_ := Aside0.mk (Kd.R_below (by (with_reducible repeat (first | apply Kd.R_alloc | apply Kd.R_drewN | apply Kd.R_drew)); exact HO456.out) hb); have n4_ := Aside0.mk (blk_below (g := gb432) (o := .cells #[.int .i64 x433000_2, .int .i64 x433001_2, .slice Ao47 x433002_2.length co47] 32 (0, 0)) (by (with_reducible repeat (first | refine blk_drewN ?_ _ | refine blk_drew ?_ | refine blk_alloc ?_ _)); exact BK432.out) hb); have n5_ := Aside0.mk (blk_below (g := gb445) (o := .cells #[.int .u64 t440, .int .u64 t441, .int .u64 t442, .int .u64 t443] 65 (0, 0)) (by (with_reducible repeat (first | refine blk_drewN ?_ _ | refine blk_drew ?_ | refine blk_alloc ?_ _)); exact BK445.out) hb); have n6_ := Aside0.mk (below_step (by repeat (first | (with_reducible first | exact HB.out | apply below_alloc | apply pw_below_drewN | apply below_drew1 | refine below_set ?_ GE432.out | refine below_set ?_ GE445.out) | exact HB.out)) hb); have n7_ := Aside0.mk (hbox); have n8_ := Aside0.mk ((by rw [hg]; exact (below_size (by repeat (first | (with_reducible first | exact HB.out | apply below_alloc | apply pw_below_drewN | apply below_drew1 | refine below_set ?_ GE432.out | refine below_set ?_ GE445.out) | exact HB.out))) : w.heap.size ≤ gb458)); have n9_ := Aside0.mk ((by rw [hg]; exact (below_size (by repeat (first | (with_reducible first | exact HB.out | apply below_alloc | apply pw_below_drewN | apply below_drew1 | refine below_set ?_ GE432.out | refine below_set ?_ GE445.out) | exact HB.out))) : w.heap.size ≤ gb458)); have n10_ := Aside0.mk ((by rw [hg]; exact Nat.ne_of_lt (blk_lt (g := gb432) (o := .cells #[.int .i64 x433000_2, .int .i64 x433001_2, .slice Ao47 x433002_2.length co47] 32 (0, 0)) (by (with_reducible repeat (first | refine blk_drewN ?_ _ | refine blk_drew ?_ | refine blk_alloc ?_ _)); exact BK432.out)) : gb432 ≠ gb458)); have n11_ := Aside0.mk ((by rw [hg]; exact Nat.ne_of_gt (blk_lt (g := gb432) (o := .cells #[.int .i64 x433000_2, .int .i64 x433001_2, .slice Ao47 x433002_2.length co47] 32 (0, 0)) (by (with_reducible repeat (first | refine blk_drewN ?_ _ | refine blk_drew ?_ | refine blk_alloc ?_ _)); exact BK432.out)) : gb458 ≠ gb432)); have n12_ := Aside0.mk ((by rw [hg]; exact Nat.ne_of_lt (blk_lt (g := gb445) (o := .cells #[.int .u64 t440, .int .u64 t441, .int .u64 t442, .int .u64 t443] 65 (0, 0)) (by (with_reducible repeat (first | refine blk_drewN ?_ _ | refine blk_drew ?_ | refine blk_alloc ?_ _)); exact BK445.out)) : gb445 ≠ gb458)); have n13_ := Aside0.mk ((by rw [hg]; exact Nat.ne_of_gt (blk_lt (g := gb445) (o := .cells #[.int .u64 t440, .int .u64 t441, .int .u64 t442, .int .u64 t443] 65 (0, 0)) (by (with_reducible repeat (first | refine blk_drewN ?_ _ | refine blk_drew ?_ | refine blk_alloc ?_ _)); exact BK445.out)) : gb458 ≠ gb445)); clear HO_9; clear HO_12; clear HO_433002; clear HO456; clear BK432; clear BK445; clear HB; have HO_9 := n0_; have HO_12 := n1_; have HO_433002 := n2_; have HO456 := n3_; have BK432 := n4_; have BK445 := n5_; have HB := n6_; have BK458 := n7_; have GW458 := n8_; have GE458 := n9_; have NB432_458 := n10_; have NB458_432 := n11_; have NB445_458 := n12_; have NB458_445 := n13_; clear n0_ n1_ n2_ n3_ n4_ n5_ n6_ n7_ n8_ n9_ n10_ n11_ n12_ n13_; clear hb hbox hg; have hnb53 := NB458_432.out; have hnc53 := NB432_458.out; have hnb54 := NB458_445.out; have hnc54 := NB445_458.out; have hcz55_0 : w52.cell? ⟨gb458, 0, none⟩ = some (.int .i64 0) := (blk_cell BK458.out 0).trans rfl; have hcz55_1 : w52.cell? ⟨gb458, 1, none⟩ = some (.int .i64 0) := (blk_cell BK458.out 1).trans rfl; have hcz55_2 : w52.cell? ⟨gb458, 2, none⟩ = some (.slice none 0 0) := (blk_cell BK458.out 2).trans rfl; have hfz55_0 := blk_frozen BK458.out 0; have hfz55_1 := blk_frozen BK458.out 1; have hfz55_2 := blk_frozen BK458.out 2; obtain ⟨Ao56, co56, eo56⟩ := Kd.R_slice HO456.out; subst eo56))
                                        have n0_ : Aside0 (Kd.Q Kd.bool 4 (((w52.setCell ⟨gb458, 0, none⟩ (.int .i64 t452)).setCell ⟨gb458, 1, none⟩ (.int .i64 t453)).setCell ⟨gb458, 2, none⟩ (.slice Ao56 t454.length co56)) w.heap.size (fun _ => True) (.slice Ao49 x9_2.length co49) x9_2) := ⟨by (with_reducible repeat (first | apply Kd.Q_alloc | apply Kd.Q_drewN | apply Kd.Q_drew)); exact Kd.Q_mono (Kd.Q_far (p := ⟨gb458, 2, none⟩) (Kd.Q_far (p := ⟨gb458, 1, none⟩) (Kd.Q_far (p := ⟨gb458, 0, none⟩) (Kd.Q_types HO_9.out BK458.out (by decide)) (fun _ hk => hk.2) (.int .i64 t452)) (fun _ hk => hk.2) (.int .i64 t453)) (fun _ hk => hk.2) (.slice Ao56 t454.length co56)) (fun _ hk => trivial)⟩
                                        have n1_ : Aside0 (Kd.R k36 36 (((w52.setCell ⟨gb458, 0, none⟩ (.int .i64 t452)).setCell ⟨gb458, 1, none⟩ (.int .i64 t453)).setCell ⟨gb458, 2, none⟩ (.slice Ao56 t454.length co56)) w.heap.size (fun _ => True) u12 x12_2) := ⟨by (with_reducible repeat (first | apply Kd.R_alloc | apply Kd.R_drewN | apply Kd.R_drew)); exact Kd.R_mono (Kd.R_far (p := ⟨gb458, 2, none⟩) (Kd.R_far (p := ⟨gb458, 1, none⟩) (Kd.R_far (p := ⟨gb458, 0, none⟩) (Kd.R_types HO_12.out BK458.out (by decide)) (fun _ hk => hk.2) (.int .i64 t452)) (fun _ hk => hk.2) (.int .i64 t453)) (fun _ hk => hk.2) (.slice Ao56 t454.length co56)) (fun _ hk => trivial)⟩
                                        have n2_ : Aside0 (Kd.R (Kd.int .i64) 3 (((w52.setCell ⟨gb458, 0, none⟩ (.int .i64 t452)).setCell ⟨gb458, 1, none⟩ (.int .i64 t453)).setCell ⟨gb458, 2, none⟩ (.slice Ao56 t454.length co56)) w.heap.size (fun k_ => some k_ ≠ (.slice Ao56 t454.length co56 : Value).ownBlock) (.slice Ao47 x433002_2.length co47) x433002_2) := ⟨by (with_reducible repeat (first | apply Kd.R_alloc | apply Kd.R_drewN | apply Kd.R_drew)); exact Kd.R_mono (Kd.R_far (p := ⟨gb458, 2, none⟩) (Kd.R_far (p := ⟨gb458, 1, none⟩) (Kd.R_far (p := ⟨gb458, 0, none⟩) (Kd.R_types HO_433002.out BK458.out (by decide)) (fun _ hk => hk.2) (.int .i64 t452)) (fun _ hk => hk.2) (.int .i64 t453)) (fun _ hk => hk.2) (.slice Ao56 t454.length co56)) (fun _ hk => hk.1.2)⟩
                                        have n3_ : Aside0 (Kd.R (Kd.int .i64) 3 (((w52.setCell ⟨gb458, 0, none⟩ (.int .i64 t452)).setCell ⟨gb458, 1, none⟩ (.int .i64 t453)).setCell ⟨gb458, 2, none⟩ (.slice Ao56 t454.length co56)) w.heap.size (fun k_ => some k_ ≠ (.slice Ao47 x433002_2.length co47 : Value).ownBlock) (.slice Ao56 t454.length co56) t454) := ⟨by (with_reducible repeat (first | apply Kd.R_alloc | apply Kd.R_drewN | apply Kd.R_drew)); exact Kd.R_mono (Kd.R_far (p := ⟨gb458, 2, none⟩) (Kd.R_far (p := ⟨gb458, 1, none⟩) (Kd.R_far (p := ⟨gb458, 0, none⟩) (Kd.R_types HO456.out BK458.out (by decide)) (fun _ hk => hk.2) (.int .i64 t452)) (fun _ hk => hk.2) (.int .i64 t453)) (fun _ hk => hk.2) (.slice Ao56 t454.length co56)) (fun _ hk => hk.1.2)⟩
                                        have n4_ : Aside0 ((((w52.setCell ⟨gb458, 0, none⟩ (.int .i64 t452)).setCell ⟨gb458, 1, none⟩ (.int .i64 t453)).setCell ⟨gb458, 2, none⟩ (.slice Ao56 t454.length co56)).heap[gb432]? = some (.cells #[.int .i64 x433000_2, .int .i64 x433001_2, .slice Ao47 x433002_2.length co47] 32 (0, 0))) := ⟨by (with_reducible repeat (first | refine blk_drewN ?_ _ | refine blk_drew ?_ | refine blk_alloc ?_ _)); refine blk_far ?_ NB432_458.out _; (with_reducible repeat (first | refine blk_drewN ?_ _ | refine blk_drew ?_ | refine blk_alloc ?_ _)); refine blk_far ?_ NB432_458.out _; (with_reducible repeat (first | refine blk_drewN ?_ _ | refine blk_drew ?_ | refine blk_alloc ?_ _)); refine blk_far ?_ NB432_458.out _; (with_reducible repeat (first | refine blk_drewN ?_ _ | refine blk_drew ?_ | refine blk_alloc ?_ _)); exact BK432.out⟩
                                        have n5_ : Aside0 ((((w52.setCell ⟨gb458, 0, none⟩ (.int .i64 t452)).setCell ⟨gb458, 1, none⟩ (.int .i64 t453)).setCell ⟨gb458, 2, none⟩ (.slice Ao56 t454.length co56)).heap[gb445]? = some (.cells #[.int .u64 t440, .int .u64 t441, .int .u64 t442, .int .u64 t443] 65 (0, 0))) := ⟨by (with_reducible repeat (first | refine blk_drewN ?_ _ | refine blk_drew ?_ | refine blk_alloc ?_ _)); refine blk_far ?_ NB445_458.out _; (with_reducible repeat (first | refine blk_drewN ?_ _ | refine blk_drew ?_ | refine blk_alloc ?_ _)); refine blk_far ?_ NB445_458.out _; (with_reducible repeat (first | refine blk_drewN ?_ _ | refine blk_drew ?_ | refine blk_alloc ?_ _)); refine blk_far ?_ NB445_458.out _; (with_reducible repeat (first | refine blk_drewN ?_ _ | refine blk_drew ?_ | refine blk_alloc ?_ _)); exact BK445.out⟩
                                        have n6_ : Aside0 ((((w52.setCell ⟨gb458, 0, none⟩ (.int .i64 t452)).setCell ⟨gb458, 1, none⟩ (.int .i64 t453)).setCell ⟨gb458, 2, none⟩ (.slice Ao56 t454.length co56)).heap[gb458]? = some (.cells #[.int .i64 t452, .int .i64 t453, .slice Ao56 t454.length co56] 32 (0, 0))) := ⟨by (with_reducible repeat (first | refine blk_drewN ?_ _ | refine blk_drew ?_ | refine blk_alloc ?_ _)); refine blk_put (cs := #[.int .i64 t452, .int .i64 t453, .slice none 0 0]) ?_ 2 _ rfl; (with_reducible repeat (first | refine blk_drewN ?_ _ | refine blk_drew ?_ | refine blk_alloc ?_ _)); refine blk_put (cs := #[.int .i64 t452, .int .i64 0, .slice none 0 0]) ?_ 1 _ rfl; (with_reducible repeat (first | refine blk_drewN ?_ _ | refine blk_drew ?_ | refine blk_alloc ?_ _)); refine blk_put (cs := #[.int .i64 0, .int .i64 0, .slice none 0 0]) ?_ 0 _ rfl; (with_reducible repeat (first | refine blk_drewN ?_ _ | refine blk_drew ?_ | refine blk_alloc ?_ _)); exact BK458.out⟩
                                        have n7_ : Aside0 (Below w.heap.size w (((w52.setCell ⟨gb458, 0, none⟩ (.int .i64 t452)).setCell ⟨gb458, 1, none⟩ (.int .i64 t453)).setCell ⟨gb458, 2, none⟩ (.slice Ao56 t454.length co56))) := ⟨by repeat (first | (with_reducible first | exact HB.out | apply below_alloc | apply pw_below_drewN | apply below_drew1 | refine below_set ?_ GE432.out | refine below_set ?_ GE445.out | refine below_set ?_ GE458.out) | exact HB.out)⟩
                                        (try clear HO_9)
                                        (try clear HO_12)
                                        (try clear HO_433002)
                                        (try clear HO456)
                                        (try clear BK432)
                                        (try clear BK445)
                                        (try clear BK458)
                                        (try clear HB)
                                        generalize (((w52.setCell ⟨gb458, 0, none⟩ (.int .i64 t452)).setCell ⟨gb458, 1, none⟩ (.int .i64 t453)).setCell ⟨gb458, 2, none⟩ (.slice Ao56 t454.length co56)) = w57 at n0_ n1_ n2_ n3_ n4_ n5_ n6_ n7_ ⊢
                                        have HO_9 := n0_
                                        have HO_12 := n1_
                                        have HO_433002 := n2_
                                        have HO456 := n3_
                                        have BK432 := n4_
                                        have BK445 := n5_
                                        have BK458 := n6_
                                        have HB := n7_
                                        clear n0_ n1_ n2_ n3_ n4_ n5_ n6_ n7_
                                        have n0_ := Aside0.mk (Kd.Q_drew HO_9.out)
                                        have n1_ := Aside0.mk (Kd.R_drew HO_12.out)
                                        have n2_ := Aside0.mk (Kd.R_drew HO_433002.out)
                                        have n3_ := Aside0.mk (Kd.R_drew HO456.out)
                                        have n4_ := Aside0.mk (blk_drew BK432.out)
                                        have n5_ := Aside0.mk (blk_drew BK445.out)
                                        have n6_ := Aside0.mk (blk_drew BK458.out)
                                        have n7_ := Aside0.mk (below_drew1 HB.out)
                                        clear HO_9
                                        clear HO_12
                                        clear HO_433002
                                        clear HO456
                                        clear BK432
                                        clear BK445
                                        clear BK458
                                        clear HB
                                        have HO_9 := n0_
                                        have HO_12 := n1_
                                        have HO_433002 := n2_
                                        have HO456 := n3_
                                        have BK432 := n4_
                                        have BK445 := n5_
                                        have BK458 := n6_
                                        have HB := n7_
                                        clear n0_ n1_ n2_ n3_ n4_ n5_ n6_ n7_
                                        refine start_ (n := 6) (S := fun w' => w'.cell? ⟨gb458, 0, none⟩ = some (.int .i64 t452) ∧ w'.cell? ⟨gb458, 1, none⟩ = some (.int .i64 t453) ∧ w'.cell? ⟨gb458, 2, none⟩ = some (.slice Ao56 t454.length co56)) (ds := []) #[false, false, false, false, false, false] (by kernel_rfl) rfl rfl ⟨(blk_cell BK458.out 0).trans rfl, (blk_cell BK458.out 1).trans rfl, (blk_cell BK458.out 2).trans rfl⟩ (fun hHeld => ?_)
                                        generalize w57.drew = w58 at HO_9 HO_12 HO_433002 HO456 BK432 BK445 BK458 HB hHeld ⊢
                                        have q59 : (t450 : Int) ≤ ((x9_2.length : Int) : Int) := of_decide_eq_true (by first | (with_reducible assumption) | assumption)
                                        obtain ⟨i059, hi059, _, hsz59, _⟩ := info_parts info4
                                        have hcut59 := cut_from (P := Tryd.prog) 63 4 .i64 Tryd.underlying63 hi059 1 hsz59 Ao49 x9_2.length co49 t450 (of_decide_eq_true (by first | (with_reducible assumption) | assumption)) q59
                                        have hr59 := Kd.Q_drop (k := (t450 : Int).toNat) HO_9.out (by omega)
                                        obtain ⟨A59, hA59⟩ : ∃ A1, A1 = (if co49 = (t450 : Int).toNat then Ao49 else (Ao49 : Option Addr).map (·.add ((t450 : Int).toNat * 1))) := ⟨_, rfl⟩
                                        obtain ⟨c59, hc59⟩ : ∃ c1, c1 = co49 - (t450 : Int).toNat := ⟨_, rfl⟩
                                        have hy59 : y459.length = x9_2.length - (t450 : Int).toNat := (by rw [Ny459.out, List.length_drop])
                                        rw [← Ny459.out] at hr59
                                        rw [← hy59, ← hA59, ← hc59] at hcut59
                                        replace hr59 : Kd.Q Kd.bool 4 w58 w.heap.size (fun _ => True) (.slice A59 y459.length c59) y459 := (by rw [hA59, hc59, hy59]; exact hr59)
                                        have HE59 : Aside0 ((Value.slice A59 y459.length c59).ownBlock = (.slice Ao49 x9_2.length co49 : Value).ownBlock) := ⟨by rw [hA59]; split <;> (cases (Ao49 : Option Addr) <;> first | rfl | (simp [Value.ownBlock, Addr.add]; split <;> rfl))⟩
                                        clear hy59 hi059 hsz59 HO_9 hA59 hc59
                                        have HO461 := Aside0.mk hr59
                                        clear hr59
                                        replace q59 := eq_true q59
                                        refine pure_ (i := 1) (N := some 104) (v := ?_) (a' := ?_) #[false, true, false, false, false, false] rfl rfl (by kernel_rfl) (fun _ _ _ h => h) (Or.inl ⟨by rfl, ?_⟩) ?_ ?_
                                        rotate_left
                                        · intro w'
                                          go_simp
                                          with_reducible rfl
                                        rotate_left
                                        · simp only [Act.put, List.setIfInBounds_toArray, List.set_cons_zero, List.set_cons_succ, i64_w, i32_w]
                                          rfl
                                        refine pure_ (i := 2) (N := some 105) (v := ?_) (a' := ?_) #[false, true, true, false, false, false] rfl rfl (by kernel_rfl) (fun _ _ _ h => h) (Or.inl ⟨by rfl, ?_⟩) ?_ ?_
                                        rotate_left
                                        · intro w'
                                          go_simp
                                          with_reducible rfl
                                        rotate_left
                                        · simp only [Act.put, List.setIfInBounds_toArray, List.set_cons_zero, List.set_cons_succ, i64_w, i32_w]
                                          rfl
                                        refine pure_ (i := 3) (N := some 106) (v := ?_) (a' := ?_) #[false, true, true, true, false, false] rfl rfl (by kernel_rfl) (fun _ _ _ h => h) (Or.inl ⟨by rfl, ?_⟩) ?_ ?_
                                        rotate_left
                                        · intro w'
                                          go_simp
                                          with_reducible rfl
                                        rotate_left
                                        · simp only [Act.put, List.setIfInBounds_toArray, List.set_cons_zero, List.set_cons_succ, i64_w, i32_w]
                                          rfl
                                        refine take_ (i := 0) (N := some 103) (v := ?_) (a' := ?_) #[true, true, true, true, false, false] rfl rfl (by kernel_rfl) (fun _ _ _ h => h) (Or.inl ⟨by rfl, ?_⟩) hHeld ?_ ?_
                                        rotate_left
                                        · rintro w' ⟨s0, s1, s2⟩
                                          go_simp
                                          with_reducible rfl
                                        rotate_left
                                        · simp only [Act.put, List.setIfInBounds_toArray, List.set_cons_zero, List.set_cons_succ, i64_w, i32_w]
                                          rfl
                                        refine one_ (i := 4) (N := none) #[true, true, true, true, true, false] rfl rfl (by kernel_rfl) (by decide) (fun K hK => ?_)
                                        have hs60 : w58.cell? ⟨gb432, 0, none⟩ = some (.int .i64 x433000_2) := (blk_cell BK432.out 0).trans rfl
                                        have hfs60 := blk_frozen BK432.out 0
                                        have hns60_1 := NB445_432.out
                                        have hns60_2 := NB458_432.out
                                        have hms60_1 := NB432_445.out
                                        have hms60_2 := NB432_458.out
                                        have hs61 : w58.cell? ⟨gb432, 1, none⟩ = some (.int .i64 x433001_2) := (blk_cell BK432.out 1).trans rfl
                                        have hfs61 := blk_frozen BK432.out 1
                                        have hns61_1 := NB445_432.out
                                        have hns61_2 := NB458_432.out
                                        have hms61_1 := NB432_445.out
                                        have hms61_2 := NB432_458.out
                                        have hs62 : w58.cell? ⟨gb432, 2, none⟩ = some (.slice Ao47 x433002_2.length co47) := (blk_cell BK432.out 2).trans rfl
                                        have hfs62 := blk_frozen BK432.out 2
                                        have hns62_1 := NB445_432.out
                                        have hns62_2 := NB458_432.out
                                        have hms62_1 := NB432_445.out
                                        have hms62_2 := NB432_458.out
                                        refine skip_ (w1 := ?_) (by rfl) rfl ?_ ?_
                                        rotate_left
                                        · go_simp
                                          rfl
                                        refine hK.out _ _ ⟨((cell_far (p := ⟨gb432, _, none⟩) NB458_432.out _).trans (((cell_far (p := ⟨gb432, _, none⟩) NB458_432.out _).trans (((cell_far (p := ⟨gb432, _, none⟩) NB458_432.out _).trans (hHeld.1)))))), ((cell_far (p := ⟨gb432, _, none⟩) NB458_432.out _).trans (((cell_far (p := ⟨gb432, _, none⟩) NB458_432.out _).trans (((cell_far (p := ⟨gb432, _, none⟩) NB458_432.out _).trans (hHeld.2.1)))))), ((cell_far (p := ⟨gb432, _, none⟩) NB458_432.out _).trans (((cell_far (p := ⟨gb432, _, none⟩) NB458_432.out _).trans (((cell_far (p := ⟨gb432, _, none⟩) NB458_432.out _).trans (hHeld.2.2))))))⟩ (fun hHeld => ?_)
                                        clear hK K
                                        refine pure_ (i := 5) (N := some 9) (v := ?_) (a' := ?_) #[true, true, true, true, true, true] rfl rfl (by kernel_rfl) (fun _ _ _ h => h) (Or.inl ⟨by rfl, ?_⟩) ?_ ?_
                                        rotate_left
                                        · intro w'
                                          go_simp
                                          with_reducible rfl
                                        rotate_left
                                        · simp only [Act.put, List.setIfInBounds_toArray, List.set_cons_zero, List.set_cons_succ, i64_w, i32_w]
                                          rfl
                                        refine done_ (by kernel_rfl) ?_
                                        try go_wp2_with (first | ((with_reducible refine gate_builtin (b := .append) (xs := #[.tmp 107, .tmp 111]) rfl ?_); (try (refine gate_guard (by rfl) ?_; dsimp only)); at_builtin; refine Kd.R_append k36 (w0 := w) w.heap.size rfl (.tmp 107) (.tmp 111) 22 36 (.agg #[(.int .i64 0), (.int .i64 0)]) 16 rfl Tryd.underlying22 info36 rfl (by decide) (by omega) u12 x12_2 (⟨(rd l1 x62_2), t449⟩ : S36) [.int .i64 (rd l1 x62_2), .int .i64 t449] (fun _ => True) (fun _ => False) rfl (by first | (go_simp; done) | (go_simp; rfl)) ?aP (fun _ hk => hk.elim) ?aF ?aO ?aB ?aS ?aL ?_; (case aP => exact k36_mkM _ _ _ (⟨(rd l1 x62_2), t449⟩ : S36)); (case aB => exact (by repeat (first | (with_reducible first | exact HB.out | apply below_alloc | apply pw_below_drewN | apply below_drew1 | refine below_set ?_ GE432.out | refine below_set ?_ GE445.out | refine below_set ?_ GE458.out) | exact HB.out))); (case aF => exact (fun _ _ => trivial)); (case aO => exact (by (with_reducible repeat (first | apply Kd.R_alloc | apply Kd.R_drewN | apply Kd.R_drew)); exact Kd.R_mono (Kd.R_far (p := ⟨gb432, 2, none⟩) (Kd.R_far (p := ⟨gb432, 1, none⟩) (Kd.R_far (p := ⟨gb432, 0, none⟩) (Kd.R_types HO_12.out BK432.out (by decide)) (fun _ hk => hk.2) (.int .i64 t452)) (fun _ hk => hk.2) (.int .i64 t453)) (fun _ hk => hk.2) (.slice Ao56 t454.length co56)) (fun _ hk => trivial))); (case aS => exact (below_size (by repeat (first | (with_reducible first | exact HB.out | apply below_alloc | apply pw_below_drewN | apply below_drew1 | refine below_set ?_ GE432.out | refine below_set ?_ GE445.out | refine below_set ?_ GE458.out) | exact HB.out)))); (case aL => have := LMc44.out; omega); intro v463 w63 ho hb hg hat; rw [← Ny462.out] at ho; have n0_ := Aside0.mk (Kd.Q_over' (by (with_reducible repeat (first | apply Kd.Q_alloc | apply Kd.Q_drewN | apply Kd.Q_drew)); exact (Kd.Q_mono (Kd.Q_far (p := ⟨gb432, 2, none⟩) (Kd.Q_far (p := ⟨gb432, 1, none⟩) (Kd.Q_far (p := ⟨gb432, 0, none⟩) (Kd.Q_types HO461.out BK432.out (by decide)) (fun _ hk => hk.2) (.int .i64 t452)) (fun _ hk => hk.2) (.int .i64 t453)) (fun _ hk => hk.2) (.slice Ao56 t454.length co56)) (fun _ h_ => h_.1))) (Kd.R_typed (by (with_reducible repeat (first | apply Kd.R_alloc | apply Kd.R_drewN | apply Kd.R_drew)); exact (Kd.R_mono (Kd.R_far (p := ⟨gb432, 2, none⟩) (Kd.R_far (p := ⟨gb432, 1, none⟩) (Kd.R_far (p := ⟨gb432, 0, none⟩) (Kd.R_types HO_12.out BK432.out (by decide)) (fun _ hk => hk.2) (.int .i64 t452)) (fun _ hk => hk.2) (.int .i64 t453)) (fun _ hk => hk.2) (.slice Ao56 t454.length co56)) (fun _ h_ => h_.1)))) (by decide) hg); have n1_ := Aside0.mk (Kd.R_over' (by (with_reducible repeat (first | apply Kd.R_alloc | apply Kd.R_drewN | apply Kd.R_drew)); exact (Kd.R_mono (Kd.R_far (p := ⟨gb432, 2, none⟩) (Kd.R_far (p := ⟨gb432, 1, none⟩) (Kd.R_far (p := ⟨gb432, 0, none⟩) (Kd.R_types HO_433002.out BK432.out (by decide)) (fun _ hk => hk.2) (.int .i64 t452)) (fun _ hk => hk.2) (.int .i64 t453)) (fun _ hk => hk.2) (.slice Ao56 t454.length co56)) (fun _ h_ => h_.1))) (Kd.R_typed (by (with_reducible repeat (first | apply Kd.R_alloc | apply Kd.R_drewN | apply Kd.R_drew)); exact (Kd.R_mono (Kd.R_far (p := ⟨gb432, 2, none⟩) (Kd.R_far (p := ⟨gb432, 1, none⟩) (Kd.R_far (p := ⟨gb432, 0, none⟩) (Kd.R_types HO_12.out BK432.out (by decide)) (fun _ hk => hk.2) (.int .i64 t452)) (fun _ hk => hk.2) (.int .i64 t453)) (fun _ hk => hk.2) (.slice Ao56 t454.length co56)) (fun _ h_ => h_.1)))) (by decide) hg); have n2_ := Aside0.mk (blk_grown (g := gb432) (o := .cells #[.int .i64 t452, .int .i64 t453, .slice Ao56 t454.length co56] 32 (0, 0)) (by (with_reducible repeat (first | refine blk_drewN ?_ _ | refine blk_drew ?_ | refine blk_alloc ?_ _)); refine blk_put (cs := #[.int .i64 t452, .int .i64 t453, .slice Ao47 x433002_2.length co47]) ?_ 2 _ rfl; (with_reducible repeat (first | refine blk_drewN ?_ _ | refine blk_drew ?_ | refine blk_alloc ?_ _)); refine blk_put (cs := #[.int .i64 t452, .int .i64 x433001_2, .slice Ao47 x433002_2.length co47]) ?_ 1 _ rfl; (with_reducible repeat (first | refine blk_drewN ?_ _ | refine blk_drew ?_ | refine blk_alloc ?_ _)); refine blk_put (cs := #[.int .i64 x433000_2, .int .i64 x433001_2, .slice Ao47 x433002_2.length co47]) ?_ 0 _ rfl; (with_reducible repeat (first | refine blk_drewN ?_ _ | refine blk_drew ?_ | refine blk_alloc ?_ _)); exact BK432.out) hg (Kd.R_ne HO_12.out BK432.out (by decide))); have n3_ := Aside0.mk (blk_grown (g := gb445) (o := .cells #[.int .u64 t440, .int .u64 t441, .int .u64 t442, .int .u64 t443] 65 (0, 0)) (by (with_reducible repeat (first | refine blk_drewN ?_ _ | refine blk_drew ?_ | refine blk_alloc ?_ _)); refine blk_far ?_ NB445_432.out _; (with_reducible repeat (first | refine blk_drewN ?_ _ | refine blk_drew ?_ | refine blk_alloc ?_ _)); refine blk_far ?_ NB445_432.out _; (with_reducible repeat (first | refine blk_drewN ?_ _ | refine blk_drew ?_ | refine blk_alloc ?_ _)); refine blk_far ?_ NB445_432.out _; (with_reducible repeat (first | refine blk_drewN ?_ _ | refine blk_drew ?_ | refine blk_alloc ?_ _)); exact BK445.out) hg (Kd.R_ne HO_12.out BK445.out (by decide))); have n4_ := Aside0.mk (Kd.R_over' (by (with_reducible repeat (first | apply Kd.R_alloc | apply Kd.R_drewN | apply Kd.R_drew)); exact (Kd.R_mono (Kd.R_far (p := ⟨gb432, 2, none⟩) (Kd.R_far (p := ⟨gb432, 1, none⟩) (Kd.R_far (p := ⟨gb432, 0, none⟩) (Kd.R_types HO456.out BK432.out (by decide)) (fun _ hk => hk.2) (.int .i64 t452)) (fun _ hk => hk.2) (.int .i64 t453)) (fun _ hk => hk.2) (.slice Ao56 t454.length co56)) (fun _ h_ => h_.1))) (Kd.R_typed (by (with_reducible repeat (first | apply Kd.R_alloc | apply Kd.R_drewN | apply Kd.R_drew)); exact (Kd.R_mono (Kd.R_far (p := ⟨gb432, 2, none⟩) (Kd.R_far (p := ⟨gb432, 1, none⟩) (Kd.R_far (p := ⟨gb432, 0, none⟩) (Kd.R_types HO_12.out BK432.out (by decide)) (fun _ hk => hk.2) (.int .i64 t452)) (fun _ hk => hk.2) (.int .i64 t453)) (fun _ hk => hk.2) (.slice Ao56 t454.length co56)) (fun _ h_ => h_.1)))) (by decide) hg); have n5_ := Aside0.mk (blk_grown (g := gb458) (o := .cells #[.int .i64 t452, .int .i64 t453, .slice Ao56 t454.length co56] 32 (0, 0)) (by (with_reducible repeat (first | refine blk_drewN ?_ _ | refine blk_drew ?_ | refine blk_alloc ?_ _)); refine blk_far ?_ NB458_432.out _; (with_reducible repeat (first | refine blk_drewN ?_ _ | refine blk_drew ?_ | refine blk_alloc ?_ _)); refine blk_far ?_ NB458_432.out _; (with_reducible repeat (first | refine blk_drewN ?_ _ | refine blk_drew ?_ | refine blk_alloc ?_ _)); refine blk_far ?_ NB458_432.out _; (with_reducible repeat (first | refine blk_drewN ?_ _ | refine blk_drew ?_ | refine blk_alloc ?_ _)); exact BK458.out) hg (Kd.R_ne HO_12.out BK458.out (by decide))); have n6_ := Aside0.mk (hb); have n7_ := Aside0.mk (ho); clear HO461; clear HO_433002; clear BK432; clear BK445; clear HO456; clear BK458; clear HB; clear HO_12; have HO461 := n0_; have HO_433002 := n1_; have BK432 := n2_; have BK445 := n3_; have HO456 := n4_; have BK458 := n5_; have HB := n6_; have HO464 := n7_; clear n0_ n1_ n2_ n3_ n4_ n5_ n6_ n7_; clear ho hb hg hat))
                                        go_roundg kj26
                                        case measure => have := HJ8.out; have := HK2.out; have := HJ26.out; omega
                                        case rel => exact ⟨(y459), (y462), (wrap64 (x62_2 + 1)), (t452), (t453), (t454), (.slice Ao56 t454.length co56), (by first | rfl | (simp; done) | (simp [*]; done)), H', ⟨by have := HJ8.out; have := HK2.out; have := HJ26.out; omega⟩, ⟨by (with_reducible repeat (first | apply Kd.Q_alloc | apply Kd.Q_drewN | apply Kd.Q_drew)); exact HO461.out⟩, ⟨by (with_reducible repeat (first | apply Kd.R_alloc | apply Kd.R_drewN | apply Kd.R_drew)); exact HO464.out⟩, ⟨by (with_reducible repeat (first | apply Kd.R_alloc | apply Kd.R_drewN | apply Kd.R_drew)); exact Kd.R_mono HO456.out (fun _ hk => trivial)⟩, ⟨by (with_reducible repeat (first | refine blk_drewN ?_ _ | refine blk_drew ?_ | refine blk_alloc ?_ _)); exact BK432.out⟩, ⟨by (with_reducible repeat (first | refine blk_drewN ?_ _ | refine blk_drew ?_ | refine blk_alloc ?_ _)); exact BK445.out⟩, ⟨by repeat (first | (with_reducible first | exact HB.out | apply below_alloc | apply pw_below_drewN | apply below_drew1 | refine below_set ?_ GE432.out | refine below_set ?_ GE445.out | refine below_set ?_ GE458.out) | exact HB.out)⟩⟩
                                      · rw [if_neg c44] at H
                                        exact absurd H (by simp)
                                    · rw [if_neg c43] at H
                                      exact absurd H (by simp)
                                  · rw [if_neg c42] at H
                                    exact absurd H (by simp)
                                · rw [if_neg c41] at H
                                  have c41b0 : (t457 == 0) = false := beq_eq_false_iff_ne.mpr c41
                                  have c41b1 : (t457 != 0) = true := bne_iff_ne.mpr c41
                                  obtain rfl := Option.some.inj H
                                  have hnb64 := NB432_445.out
                                  have hnc64 := NB445_432.out
                                  have hcz65_0 : wc.cell? ⟨gb432, 0, none⟩ = some (.int .i64 x433000_2) := (blk_cell BK432.out 0).trans rfl
                                  have hcz65_1 : wc.cell? ⟨gb432, 1, none⟩ = some (.int .i64 x433001_2) := (blk_cell BK432.out 1).trans rfl
                                  have hcz65_2 : wc.cell? ⟨gb432, 2, none⟩ = some (u433002) := (blk_cell BK432.out 2).trans rfl
                                  have hfz65_0 := blk_frozen BK432.out 0
                                  have hfz65_1 := blk_frozen BK432.out 1
                                  have hfz65_2 := blk_frozen BK432.out 2
                                  obtain ⟨Ao66, co66, eo66⟩ := Kd.R_slice HO_433002.out
                                  subst eo66
                                  go_wp2_with (first | ((with_reducible refine gate_callee (f := 34) rfl ?_); refine goesL_ (some 74) rfl rfl Tryd.func34 (by kernel_rfl) rfl #[.agg #[.int .i64 x433000_2, .int .i64 x433001_2, .slice Ao66 x433002_2.length co66]] rfl (by (try simp only [List.map_toArray, List.map_cons, List.map_nil]); first | done | rfl | (simp only [List.length_drop, List.length_take]; rfl)) ?_; (with_reducible refine (pool_Need.calls x433000_2 x433001_2 _ _ x433002_2 t447 t448 _ ?side1 ?side2 A30.out).mono ?_); (case side1 => repeat (first | exact (Kd.R_reads' HO_433002.out).2.2 | (with_reducible refine Kd.C_alloc ?_ _) | (with_reducible refine Kd.C_drewN ?_ _) | (with_reducible refine Kd.C_drew ?_))); (case side2 => exact (Kd.R_reads' HO_433002.out).2.1); rintro e w67 ⟨rfl, hb⟩; refine ⟨_, rfl, ?_⟩; have n0_ := Aside0.mk (Kd.Q_below (by (with_reducible repeat (first | apply Kd.Q_alloc | apply Kd.Q_drewN | apply Kd.Q_drew)); exact HO_9.out) hb); have n1_ := Aside0.mk (Kd.R_below (by (with_reducible repeat (first | apply Kd.R_alloc | apply Kd.R_drewN | apply Kd.R_drew)); exact HO_12.out) hb); have n2_ := Aside0.mk (Kd.R_below (by (with_reducible repeat (first | apply Kd.R_alloc | apply Kd.R_drewN | apply Kd.R_drew)); exact HO_433002.out) hb); have n3_ := Aside0.mk (blk_below (g := gb432) (o := .cells #[.int .i64 x433000_2, .int .i64 x433001_2, .slice Ao66 x433002_2.length co66] 32 (0, 0)) (by (with_reducible repeat (first | refine blk_drewN ?_ _ | refine blk_drew ?_ | refine blk_alloc ?_ _)); exact BK432.out) hb); have n4_ := Aside0.mk (blk_below (g := gb445) (o := .cells #[.int .u64 t440, .int .u64 t441, .int .u64 t442, .int .u64 t443] 65 (0, 0)) (by (with_reducible repeat (first | refine blk_drewN ?_ _ | refine blk_drew ?_ | refine blk_alloc ?_ _)); exact BK445.out) hb); have n5_ := Aside0.mk (below_step (by repeat (first | (with_reducible first | exact HB.out | apply below_alloc | apply pw_below_drewN | apply below_drew1 | refine below_set ?_ GE432.out | refine below_set ?_ GE445.out) | exact HB.out)) hb); clear HO_9; clear HO_12; clear HO_433002; clear BK432; clear BK445; clear HB; have HO_9 := n0_; have HO_12 := n1_; have HO_433002 := n2_; have BK432 := n3_; have BK445 := n4_; have HB := n5_; clear n0_ n1_ n2_ n3_ n4_ n5_; (try clear hb); (try clear hb2); (try clear hk); (try clear hi); obtain ⟨Ao68, co68, eo68, _⟩ := Kd.Q_slice HO_9.out; subst eo68) | ((with_reducible refine gate_callee (f := 35) rfl ?_); refine goesL_ (some 80) rfl rfl Tryd.func35 (by kernel_rfl) rfl #[.slice Ao68 x9_2.length co68, .int .i64 t447] rfl (by (try simp only [List.map_toArray, List.map_cons, List.map_nil]); first | done | rfl | (simp only [List.length_drop, List.length_take]; rfl)) ?_; (with_reducible refine (tape_Below.calls kj26 _ _ x9_2 t447 t449 t450 t451 _ ?side1 ?side2 A31.out).mono ?_); (case side1 => repeat (first | exact (Kd.Q_reads' HO_9.out).2.2 | (with_reducible refine Kd.C_alloc ?_ _) | (with_reducible refine Kd.C_drewN ?_ _) | (with_reducible refine Kd.C_drew ?_))); (case side2 => exact (Kd.Q_reads' HO_9.out).2.1); rintro e w' ⟨rfl, ⟨nd, rfl⟩⟩; refine ⟨_, rfl, ?_⟩; (try (rw [drewN_self w67]; generalize hq_ : World.drewN w67 _ = w67; have n0_ : Aside0 (Kd.R k36 36 w67 w.heap.size (fun _ => True) u12 x12_2) := ⟨by rw [← hq_]; exact (by (with_reducible repeat (first | apply Kd.R_alloc | apply Kd.R_drewN | apply Kd.R_drew)); exact HO_12.out)⟩; have n1_ : Aside0 (Kd.R (Kd.int .i64) 3 w67 w.heap.size (fun _ => True) (.slice Ao66 x433002_2.length co66) x433002_2) := ⟨by rw [← hq_]; exact (by (with_reducible repeat (first | apply Kd.R_alloc | apply Kd.R_drewN | apply Kd.R_drew)); exact HO_433002.out)⟩; have n2_ : Aside0 (Kd.Q Kd.bool 4 w67 w.heap.size (fun _ => True) (.slice Ao68 x9_2.length co68) x9_2) := ⟨by rw [← hq_]; exact (by (with_reducible repeat (first | apply Kd.Q_alloc | apply Kd.Q_drewN | apply Kd.Q_drew)); exact HO_9.out)⟩; have n3_ : Aside0 (w67.heap[gb432]? = some (.cells #[.int .i64 x433000_2, .int .i64 x433001_2, .slice Ao66 x433002_2.length co66] 32 (0, 0))) := ⟨by rw [← hq_]; exact (by (with_reducible repeat (first | refine blk_drewN ?_ _ | refine blk_drew ?_ | refine blk_alloc ?_ _)); exact BK432.out)⟩; have n4_ : Aside0 (w67.heap[gb445]? = some (.cells #[.int .u64 t440, .int .u64 t441, .int .u64 t442, .int .u64 t443] 65 (0, 0))) := ⟨by rw [← hq_]; exact (by (with_reducible repeat (first | refine blk_drewN ?_ _ | refine blk_drew ?_ | refine blk_alloc ?_ _)); exact BK445.out)⟩; have n5_ : Aside0 (Below w.heap.size w w67) := ⟨by rw [← hq_]; exact (by repeat (first | (with_reducible first | exact HB.out | apply below_alloc | apply pw_below_drewN | apply below_drew1 | refine below_set ?_ GE432.out | refine below_set ?_ GE445.out) | exact HB.out))⟩; clear HO_12 HO_433002 HO_9 BK432 BK445 HB hq_; have HO_12 := n0_; have HO_433002 := n1_; have HO_9 := n2_; have BK432 := n3_; have BK445 := n4_; have HB := n5_; clear n0_ n1_ n2_ n3_ n4_ n5_)); have hcz69_0 : w67.cell? ⟨gb432, 0, none⟩ = some (.int .i64 x433000_2) := (blk_cell BK432.out 0).trans rfl; have hcz69_1 : w67.cell? ⟨gb432, 1, none⟩ = some (.int .i64 x433001_2) := (blk_cell BK432.out 1).trans rfl; have hcz69_2 : w67.cell? ⟨gb432, 2, none⟩ = some (.slice Ao66 x433002_2.length co66) := (blk_cell BK432.out 2).trans rfl; have hfz69_0 := blk_frozen BK432.out 0; have hfz69_1 := blk_frozen BK432.out 1; have hfz69_2 := blk_frozen BK432.out 2) | ((with_reducible refine gate_callee (f := 13) rfl ?_); refine goesL_ (some 90) rfl rfl Tryd.func13 (by kernel_rfl) rfl #[.agg #[.int .i64 x433000_2, .int .i64 x433001_2, .slice Ao66 x433002_2.length co66], .int .i64 (rd l1 x62_2), .int .i64 t449] rfl (by (try simp only [List.map_toArray, List.map_cons, List.map_nil]); first | done | rfl | (simp only [List.length_drop, List.length_take]; rfl)) ?_; (with_reducible refine (pool_Add.calls x433000_2 x433001_2 _ _ x433002_2 (rd l1 x62_2) t449 t452 t453 t454 t457 _ ?side1 ?side2 A38.out).mono ?_); (case side1 => repeat (first | exact (Kd.R_reads' HO_433002.out).2.2 | (with_reducible refine Kd.C_alloc ?_ _) | (with_reducible refine Kd.C_drewN ?_ _) | (with_reducible refine Kd.C_drew ?_))); (case side2 => exact (Kd.R_reads' HO_433002.out).2.1); rintro e w70 ⟨v455, rfl, ho0, hb⟩; refine ⟨_, rfl, ?_⟩; have n0_ := Aside0.mk (Kd.Q_below (by (with_reducible repeat (first | apply Kd.Q_alloc | apply Kd.Q_drewN | apply Kd.Q_drew)); exact HO_9.out) hb); have n1_ := Aside0.mk (Kd.R_below (by (with_reducible repeat (first | apply Kd.R_alloc | apply Kd.R_drewN | apply Kd.R_drew)); exact HO_12.out) hb); have n2_ := Aside0.mk (Kd.R_elder' (by (with_reducible repeat (first | apply Kd.R_alloc | apply Kd.R_drewN | apply Kd.R_drew)); exact HO_433002.out) (Kd.R_base ho0) hb); have n3_ := Aside0.mk (Kd.R_lower (Kd.R_new' ho0 (Kd.R_lt (by (with_reducible repeat (first | apply Kd.R_alloc | apply Kd.R_drewN | apply Kd.R_drew)); exact HO_433002.out))) (below_size (by repeat (first | (with_reducible first | exact HB.out | apply below_alloc | apply pw_below_drewN | apply below_drew1 | refine below_set ?_ GE432.out | refine below_set ?_ GE445.out) | exact HB.out)))); have n4_ := Aside0.mk (blk_below (g := gb432) (o := .cells #[.int .i64 x433000_2, .int .i64 x433001_2, .slice Ao66 x433002_2.length co66] 32 (0, 0)) (by (with_reducible repeat (first | refine blk_drewN ?_ _ | refine blk_drew ?_ | refine blk_alloc ?_ _)); exact BK432.out) hb); have n5_ := Aside0.mk (blk_below (g := gb445) (o := .cells #[.int .u64 t440, .int .u64 t441, .int .u64 t442, .int .u64 t443] 65 (0, 0)) (by (with_reducible repeat (first | refine blk_drewN ?_ _ | refine blk_drew ?_ | refine blk_alloc ?_ _)); exact BK445.out) hb); have n6_ := Aside0.mk (below_step (by repeat (first | (with_reducible first | exact HB.out | apply below_alloc | apply pw_below_drewN | apply below_drew1 | refine below_set ?_ GE432.out | refine below_set ?_ GE445.out) | exact HB.out)) hb); clear HO_9; clear HO_12; clear HO_433002; clear BK432; clear BK445; clear HB; have HO_9 := n0_; have HO_12 := n1_; have HO_433002 := n2_; have HO456 := n3_; have BK432 := n4_; have BK445 := n5_; have HB := n6_; clear n0_ n1_ n2_ n3_ n4_ n5_ n6_; (try clear hb); (try clear hb2); (try clear hk); (try clear hi); (try clear ho0)) | ((with_reducible refine gate_dst (N := 20) rfl ?_); (try (refine gate_guard (by rfl) ?_; dsimp only)); refine box_event ?hg (N := 20) ?hd (cs := #[.int .i64 0, .int .i64 0, .slice none 0 0]) (t := 32) ?hr ?_; (case hd => rfl); (case hg => rfl); (case hr => first | (go_simp; done) | (go_simp; rfl)); intro gb458 hg w71 hbox hb; have n0_ := Aside0.mk (Kd.Q_below (by (with_reducible repeat (first | apply Kd.Q_alloc | apply Kd.Q_drewN | apply Kd.Q_drew)); exact HO_9.out) hb); have n1_ := Aside0.mk (Kd.R_below (by (with_reducible repeat (first | apply Kd.R_alloc | apply Kd.R_drewN | apply Kd.R_drew)); exact HO_12.out) hb); have n2_ := Aside0.mk (Kd.R_below (by (with_reducible repeat (first | apply Kd.R_alloc | apply Kd.R_drewN | apply Kd.R_drew)); exact HO_433002.out) hb); have n3_ := Aside0.mk (Kd.R_below (by (with_reducible repeat (first | apply Kd.R_alloc | apply Kd.R_drewN | apply Kd.R_drew)); exact HO456.out) hb); have n4_ := Aside0.mk (blk_below (g := gb432) (o := .cells #[.int .i64 x433000_2, .int .i64 x433001_2, .slice Ao66 x433002_2.length co66] 32 (0, 0)) (by (with_reducible repeat (first | refine blk_drewN ?_ _ | refine blk_drew ?_ | refine blk_alloc ?_ _)); exact BK432.out) hb); have n5_ := Aside0.mk (blk_below (g := gb445) (o := .cells #[.int .u64 t440, .int .u64 t441, .int .u64 t442, .int .u64 t443] 65 (0, 0)) (by (with_reducible repeat (first | refine blk_drewN ?_ _ | refine blk_drew ?_ | refine blk_alloc ?_ _)); exact BK445.out) hb); have n6_ := Aside0.mk (below_step (by repeat (first | (with_reducible first | exact HB.out | apply below_alloc | apply pw_below_drewN | apply below_drew1 | refine below_set ?_ GE432.out | refine below_set ?_ GE445.out) | exact HB.out)) hb); have n7_ := Aside0.mk (hbox); have n8_ := Aside0.mk ((by rw [hg]; exact (below_size (by repeat (first | (with_reducible first | exact HB.out | apply below_alloc | apply pw_below_drewN | apply below_drew1 | refine below_set ?_ GE432.out | refine below_set ?_ GE445.out) | exact HB.out))) : w.heap.size ≤ gb458)); have n9_ := Aside0.mk ((by rw [hg]; exact (below_size (by repeat (first | (with_reducible first | exact HB.out | apply below_alloc | apply pw_below_drewN | apply below_drew1 | refine below_set ?_ GE432.out | refine below_set ?_ GE445.out) | exact HB.out))) : w.heap.size ≤ gb458)); have n10_ := Aside0.mk ((by rw [hg]; exact Nat.ne_of_lt (blk_lt (g := gb432) (o := .cells #[.int .i64 x433000_2, .int .i64 x433001_2, .slice Ao66 x433002_2.length co66] 32 (0, 0)) (by (with_reducible repeat (first | refine blk_drewN ?_ _ | refine blk_drew ?_ | refine blk_alloc ?_ _)); exact BK432.out)) : gb432 ≠ gb458)); have n11_ := Aside0.mk ((by rw [hg]; exact Nat.ne_of_gt (blk_lt (g := gb432) (o := .cells #[.int .i64 x433000_2, .int .i64 x433001_2, .slice Ao66 x433002_2.length co66] 32 (0, 0)) (by (with_reducible repeat (first | refine blk_drewN ?_ _ | refine blk_drew ?_ | refine blk_alloc ?_ _)); exact BK432.out)) : gb458 ≠ gb432)); have n12_ := Aside0.mk ((by rw [hg]; exact Nat.ne_of_lt (blk_lt (g := gb445) (o := .cells #[.int .u64 t440, .int .u64 t441, .int .u64 t442, .int .u64 t443] 65 (0, 0)) (by (with_reducible repeat (first | refine blk_drewN ?_ _ | refine blk_drew ?_ | refine blk_alloc ?_ _)); exact BK445.out)) : gb445 ≠ gb458)); have n13_ := Aside0.mk ((by rw [hg]; exact Nat.ne_of_gt (blk_lt (g := gb445) (o := .cells #[.int .u64 t440, .int .u64 t441, .int .u64 t442, .int .u64 t443] 65 (0, 0)) (by (with_reducible repeat (first | refine blk_drewN ?_ _ | refine blk_drew ?_ | refine blk_alloc ?_ _)); exact BK445.out)) : gb458 ≠ gb445)); clear HO_9; clear HO_12; clear HO_433002; clear HO456; clear BK432; clear BK445; clear HB; have HO_9 := n0_; have HO_12 := n1_; have HO_433002 := n2_; have HO456 := n3_; have BK432 := n4_; have BK445 := n5_; have HB := n6_; have BK458 := n7_; have GW458 := n8_; have GE458 := n9_; have NB432_458 := n10_; have NB458_432 := n11_; have NB445_458 := n12_; have NB458_445 := n13_; clear n0_ n1_ n2_ n3_ n4_ n5_ n6_ n7_ n8_ n9_ n10_ n11_ n12_ n13_; clear hb hbox hg; have hnb72 := NB458_432.out; have hnc72 := NB432_458.out; have hnb73 := NB458_445.out; have hnc73 := NB445_458.out; have hcz74_0 : w71.cell? ⟨gb458, 0, none⟩ = some (.int .i64 0) := (blk_cell BK458.out 0).trans rfl; have hcz74_1 : w71.cell? ⟨gb458, 1, none⟩ = some (.int .i64 0) := (blk_cell BK458.out 1).trans rfl; have hcz74_2 : w71.cell? ⟨gb458, 2, none⟩ = some (.slice none 0 0) := (blk_cell BK458.out 2).trans rfl; have hfz74_0 := blk_frozen BK458.out 0; have hfz74_1 := blk_frozen BK458.out 1; have hfz74_2 := blk_frozen BK458.out 2; obtain ⟨Ao75, co75, eo75⟩ := Kd.R_slice HO456.out; subst eo75))
                                  go_ret
                                  exact ⟨by first | rfl | (simp [errW_none, errW_some] <;> rfl) | (simp [*, errW_none, errW_some] <;> rfl), by repeat (first | (with_reducible first | exact HB.out | apply below_alloc | apply pw_below_drewN | apply below_drew1 | refine below_set ?_ GE432.out | refine below_set ?_ GE445.out | refine below_set ?_ GE458.out) | exact HB.out)⟩
                              · rw [if_neg c40] at H
                                have c40b0 : (t451 == 0) = false := beq_eq_false_iff_ne.mpr c40
                                have c40b1 : (t451 != 0) = true := bne_iff_ne.mpr c40
                                obtain rfl := Option.some.inj H
                                have hnb76 := NB432_445.out
                                have hnc76 := NB445_432.out
                                have hcz77_0 : wc.cell? ⟨gb432, 0, none⟩ = some (.int .i64 x433000_2) := (blk_cell BK432.out 0).trans rfl
                                have hcz77_1 : wc.cell? ⟨gb432, 1, none⟩ = some (.int .i64 x433001_2) := (blk_cell BK432.out 1).trans rfl
                                have hcz77_2 : wc.cell? ⟨gb432, 2, none⟩ = some (u433002) := (blk_cell BK432.out 2).trans rfl
                                have hfz77_0 := blk_frozen BK432.out 0
                                have hfz77_1 := blk_frozen BK432.out 1
                                have hfz77_2 := blk_frozen BK432.out 2
                                obtain ⟨Ao78, co78, eo78⟩ := Kd.R_slice HO_433002.out
                                subst eo78
                                go_wp2_with (first | ((with_reducible refine gate_callee (f := 34) rfl ?_); refine goesL_ (some 74) rfl rfl Tryd.func34 (by kernel_rfl) rfl #[.agg #[.int .i64 x433000_2, .int .i64 x433001_2, .slice Ao78 x433002_2.length co78]] rfl (by (try simp only [List.map_toArray, List.map_cons, List.map_nil]); first | done | rfl | (simp only [List.length_drop, List.length_take]; rfl)) ?_; (with_reducible refine (pool_Need.calls x433000_2 x433001_2 _ _ x433002_2 t447 t448 _ ?side1 ?side2 A30.out).mono ?_); (case side1 => repeat (first | exact (Kd.R_reads' HO_433002.out).2.2 | (with_reducible refine Kd.C_alloc ?_ _) | (with_reducible refine Kd.C_drewN ?_ _) | (with_reducible refine Kd.C_drew ?_))); (case side2 => exact (Kd.R_reads' HO_433002.out).2.1); rintro e w79 ⟨rfl, hb⟩; refine ⟨_, rfl, ?_⟩; have n0_ := Aside0.mk (Kd.Q_below (by (with_reducible repeat (first | apply Kd.Q_alloc | apply Kd.Q_drewN | apply Kd.Q_drew)); exact HO_9.out) hb); have n1_ := Aside0.mk (Kd.R_below (by (with_reducible repeat (first | apply Kd.R_alloc | apply Kd.R_drewN | apply Kd.R_drew)); exact HO_12.out) hb); have n2_ := Aside0.mk (Kd.R_below (by (with_reducible repeat (first | apply Kd.R_alloc | apply Kd.R_drewN | apply Kd.R_drew)); exact HO_433002.out) hb); have n3_ := Aside0.mk (blk_below (g := gb432) (o := .cells #[.int .i64 x433000_2, .int .i64 x433001_2, .slice Ao78 x433002_2.length co78] 32 (0, 0)) (by (with_reducible repeat (first | refine blk_drewN ?_ _ | refine blk_drew ?_ | refine blk_alloc ?_ _)); exact BK432.out) hb); have n4_ := Aside0.mk (blk_below (g := gb445) (o := .cells #[.int .u64 t440, .int .u64 t441, .int .u64 t442, .int .u64 t443] 65 (0, 0)) (by (with_reducible repeat (first | refine blk_drewN ?_ _ | refine blk_drew ?_ | refine blk_alloc ?_ _)); exact BK445.out) hb); have n5_ := Aside0.mk (below_step (by repeat (first | (with_reducible first | exact HB.out | apply below_alloc | apply pw_below_drewN | apply below_drew1 | refine below_set ?_ GE432.out | refine below_set ?_ GE445.out) | exact HB.out)) hb); clear HO_9; clear HO_12; clear HO_433002; clear BK432; clear BK445; clear HB; have HO_9 := n0_; have HO_12 := n1_; have HO_433002 := n2_; have BK432 := n3_; have BK445 := n4_; have HB := n5_; clear n0_ n1_ n2_ n3_ n4_ n5_; (try clear hb); (try clear hb2); (try clear hk); (try clear hi); obtain ⟨Ao80, co80, eo80, _⟩ := Kd.Q_slice HO_9.out; subst eo80) | ((with_reducible refine gate_callee (f := 35) rfl ?_); refine goesL_ (some 80) rfl rfl Tryd.func35 (by kernel_rfl) rfl #[.slice Ao80 x9_2.length co80, .int .i64 t447] rfl (by (try simp only [List.map_toArray, List.map_cons, List.map_nil]); first | done | rfl | (simp only [List.length_drop, List.length_take]; rfl)) ?_; (with_reducible refine (tape_Below.calls kj26 _ _ x9_2 t447 t449 t450 t451 _ ?side1 ?side2 A31.out).mono ?_); (case side1 => repeat (first | exact (Kd.Q_reads' HO_9.out).2.2 | (with_reducible refine Kd.C_alloc ?_ _) | (with_reducible refine Kd.C_drewN ?_ _) | (with_reducible refine Kd.C_drew ?_))); (case side2 => exact (Kd.Q_reads' HO_9.out).2.1); rintro e w' ⟨rfl, ⟨nd, rfl⟩⟩; refine ⟨_, rfl, ?_⟩; (try (rw [drewN_self w79]; generalize hq_ : World.drewN w79 _ = w79; have n0_ : Aside0 (Kd.R k36 36 w79 w.heap.size (fun _ => True) u12 x12_2) := ⟨by rw [← hq_]; exact (by (with_reducible repeat (first | apply Kd.R_alloc | apply Kd.R_drewN | apply Kd.R_drew)); exact HO_12.out)⟩; have n1_ : Aside0 (Kd.R (Kd.int .i64) 3 w79 w.heap.size (fun _ => True) (.slice Ao78 x433002_2.length co78) x433002_2) := ⟨by rw [← hq_]; exact (by (with_reducible repeat (first | apply Kd.R_alloc | apply Kd.R_drewN | apply Kd.R_drew)); exact HO_433002.out)⟩; have n2_ : Aside0 (Kd.Q Kd.bool 4 w79 w.heap.size (fun _ => True) (.slice Ao80 x9_2.length co80) x9_2) := ⟨by rw [← hq_]; exact (by (with_reducible repeat (first | apply Kd.Q_alloc | apply Kd.Q_drewN | apply Kd.Q_drew)); exact HO_9.out)⟩; have n3_ : Aside0 (w79.heap[gb432]? = some (.cells #[.int .i64 x433000_2, .int .i64 x433001_2, .slice Ao78 x433002_2.length co78] 32 (0, 0))) := ⟨by rw [← hq_]; exact (by (with_reducible repeat (first | refine blk_drewN ?_ _ | refine blk_drew ?_ | refine blk_alloc ?_ _)); exact BK432.out)⟩; have n4_ : Aside0 (w79.heap[gb445]? = some (.cells #[.int .u64 t440, .int .u64 t441, .int .u64 t442, .int .u64 t443] 65 (0, 0))) := ⟨by rw [← hq_]; exact (by (with_reducible repeat (first | refine blk_drewN ?_ _ | refine blk_drew ?_ | refine blk_alloc ?_ _)); exact BK445.out)⟩; have n5_ : Aside0 (Below w.heap.size w w79) := ⟨by rw [← hq_]; exact (by repeat (first | (with_reducible first | exact HB.out | apply below_alloc | apply pw_below_drewN | apply below_drew1 | refine below_set ?_ GE432.out | refine below_set ?_ GE445.out) | exact HB.out))⟩; clear HO_12 HO_433002 HO_9 BK432 BK445 HB hq_; have HO_12 := n0_; have HO_433002 := n1_; have HO_9 := n2_; have BK432 := n3_; have BK445 := n4_; have HB := n5_; clear n0_ n1_ n2_ n3_ n4_ n5_)); have hcz81_0 : w79.cell? ⟨gb432, 0, none⟩ = some (.int .i64 x433000_2) := (blk_cell BK432.out 0).trans rfl; have hcz81_1 : w79.cell? ⟨gb432, 1, none⟩ = some (.int .i64 x433001_2) := (blk_cell BK432.out 1).trans rfl; have hcz81_2 : w79.cell? ⟨gb432, 2, none⟩ = some (.slice Ao78 x433002_2.length co78) := (blk_cell BK432.out 2).trans rfl; have hfz81_0 := blk_frozen BK432.out 0; have hfz81_1 := blk_frozen BK432.out 1; have hfz81_2 := blk_frozen BK432.out 2) | ((with_reducible refine gate_callee (f := 13) rfl ?_); refine goesL_ (some 90) rfl rfl Tryd.func13 (by kernel_rfl) rfl #[.agg #[.int .i64 x433000_2, .int .i64 x433001_2, .slice Ao78 x433002_2.length co78], .int .i64 (rd l1 x62_2), .int .i64 t449] rfl (by (try simp only [List.map_toArray, List.map_cons, List.map_nil]); first | done | rfl | (simp only [List.length_drop, List.length_take]; rfl)) ?_; (with_reducible refine (pool_Add.calls x433000_2 x433001_2 _ _ x433002_2 (rd l1 x62_2) t449 t452 t453 t454 t457 _ ?side1 ?side2 A38.out).mono ?_); (case side1 => repeat (first | exact (Kd.R_reads' HO_433002.out).2.2 | (with_reducible refine Kd.C_alloc ?_ _) | (with_reducible refine Kd.C_drewN ?_ _) | (with_reducible refine Kd.C_drew ?_))); (case side2 => exact (Kd.R_reads' HO_433002.out).2.1); rintro e w82 ⟨v455, rfl, ho0, hb⟩; refine ⟨_, rfl, ?_⟩; have n0_ := Aside0.mk (Kd.Q_below (by (with_reducible repeat (first | apply Kd.Q_alloc | apply Kd.Q_drewN | apply Kd.Q_drew)); exact HO_9.out) hb); have n1_ := Aside0.mk (Kd.R_below (by (with_reducible repeat (first | apply Kd.R_alloc | apply Kd.R_drewN | apply Kd.R_drew)); exact HO_12.out) hb); have n2_ := Aside0.mk (Kd.R_elder' (by (with_reducible repeat (first | apply Kd.R_alloc | apply Kd.R_drewN | apply Kd.R_drew)); exact HO_433002.out) (Kd.R_base ho0) hb); have n3_ := Aside0.mk (Kd.R_lower (Kd.R_new' ho0 (Kd.R_lt (by (with_reducible repeat (first | apply Kd.R_alloc | apply Kd.R_drewN | apply Kd.R_drew)); exact HO_433002.out))) (below_size (by repeat (first | (with_reducible first | exact HB.out | apply below_alloc | apply pw_below_drewN | apply below_drew1 | refine below_set ?_ GE432.out | refine below_set ?_ GE445.out) | exact HB.out)))); have n4_ := Aside0.mk (blk_below (g := gb432) (o := .cells #[.int .i64 x433000_2, .int .i64 x433001_2, .slice Ao78 x433002_2.length co78] 32 (0, 0)) (by (with_reducible repeat (first | refine blk_drewN ?_ _ | refine blk_drew ?_ | refine blk_alloc ?_ _)); exact BK432.out) hb); have n5_ := Aside0.mk (blk_below (g := gb445) (o := .cells #[.int .u64 t440, .int .u64 t441, .int .u64 t442, .int .u64 t443] 65 (0, 0)) (by (with_reducible repeat (first | refine blk_drewN ?_ _ | refine blk_drew ?_ | refine blk_alloc ?_ _)); exact BK445.out) hb); have n6_ := Aside0.mk (below_step (by repeat (first | (with_reducible first | exact HB.out | apply below_alloc | apply pw_below_drewN | apply below_drew1 | refine below_set ?_ GE432.out | refine below_set ?_ GE445.out) | exact HB.out)) hb); clear HO_9; clear HO_12; clear HO_433002; clear BK432; clear BK445; clear HB; have HO_9 := n0_; have HO_12 := n1_; have HO_433002 := n2_; have HO456 := n3_; have BK432 := n4_; have BK445 := n5_; have HB := n6_; clear n0_ n1_ n2_ n3_ n4_ n5_ n6_; (try clear hb); (try clear hb2); (try clear hk); (try clear hi); (try clear ho0)) | ((with_reducible refine gate_dst (N := 20) rfl ?_); (try (refine gate_guard (by rfl) ?_; dsimp only)); refine box_event ?hg (N := 20) ?hd (cs := #[.int .i64 0, .int .i64 0, .slice none 0 0]) (t := 32) ?hr ?_; (case hd => rfl); (case hg => rfl); (case hr => first | (go_simp; done) | (go_simp; rfl)); intro gb458 hg w83 hbox hb; have n0_ := Aside0.mk (Kd.Q_below (by (with_reducible repeat (first | apply Kd.Q_alloc | apply Kd.Q_drewN | apply Kd.Q_drew)); exact HO_9.out) hb); have n1_ := Aside0.mk (Kd.R_below (by (with_reducible repeat (first | apply Kd.R_alloc | apply Kd.R_drewN | apply Kd.R_drew)); exact HO_12.out) hb); have n2_ := Aside0.mk (Kd.R_below (by (with_reducible repeat (first | apply Kd.R_alloc | apply Kd.R_drewN | apply Kd.R_drew)); exact HO_433002.out) hb); have n3_ := Aside0.mk (Kd.R_below (by (with_reducible repeat (first | apply Kd.R_alloc | apply Kd.R_drewN | apply Kd.R_drew)); exact HO456.out) hb); have n4_ := Aside0.mk (blk_below (g := gb432) (o := .cells #[.int .i64 x433000_2, .int .i64 x433001_2, .slice Ao78 x433002_2.length co78] 32 (0, 0)) (by (with_reducible repeat (first | refine blk_drewN ?_ _ | refine blk_drew ?_ | refine blk_alloc ?_ _)); exact BK432.out) hb); have n5_ := Aside0.mk (blk_below (g := gb445) (o := .cells #[.int .u64 t440, .int .u64 t441, .int .u64 t442, .int .u64 t443] 65 (0, 0)) (by (with_reducible repeat (first | refine blk_drewN ?_ _ | refine blk_drew ?_ | refine blk_alloc ?_ _)); exact BK445.out) hb); have n6_ := Aside0.mk (below_step (by repeat (first | (with_reducible first | exact HB.out | apply below_alloc | apply pw_below_drewN | apply below_drew1 | refine below_set ?_ GE432.out | refine below_set ?_ GE445.out) | exact HB.out)) hb); have n7_ := Aside0.mk (hbox); have n8_ := Aside0.mk ((by rw [hg]; exact (below_size (by repeat (first | (with_reducible first | exact HB.out | apply below_alloc | apply pw_below_drewN | apply below_drew1 | refine below_set ?_ GE432.out | refine below_set ?_ GE445.out) | exact HB.out))) : w.heap.size ≤ gb458)); have n9_ := Aside0.mk ((by rw [hg]; exact (below_size (by repeat (first | (with_reducible first | exact HB.out | apply below_alloc | apply pw_below_drewN | apply below_drew1 | refine below_set ?_ GE432.out | refine below_set ?_ GE445.out) | exact HB.out))) : w.heap.size ≤ gb458)); have n10_ := Aside0.mk ((by rw [hg]; exact Nat.ne_of_lt (blk_lt (g := gb432) (o := .cells #[.int .i64 x433000_2, .int .i64 x433001_2, .slice Ao78 x433002_2.length co78] 32 (0, 0)) (by (with_reducible repeat (first | refine blk_drewN ?_ _ | refine blk_drew ?_ | refine blk_alloc ?_ _)); exact BK432.out)) : gb432 ≠ gb458)); have n11_ := Aside0.mk ((by rw [hg]; exact Nat.ne_of_gt (blk_lt (g := gb432) (o := .cells #[.int .i64 x433000_2, .int .i64 x433001_2, .slice Ao78 x433002_2.length co78] 32 (0, 0)) (by (with_reducible repeat (first | refine blk_drewN ?_ _ | refine blk_drew ?_ | refine blk_alloc ?_ _)); exact BK432.out)) : gb458 ≠ gb432)); have n12_ := Aside0.mk ((by rw [hg]; exact Nat.ne_of_lt (blk_lt (g := gb445) (o := .cells #[.int .u64 t440, .int .u64 t441, .int .u64 t442, .int .u64 t443] 65 (0, 0)) (by (with_reducible repeat (first | refine blk_drewN ?_ _ | refine blk_drew ?_ | refine blk_alloc ?_ _)); exact BK445.out)) : gb445 ≠ gb458)); have n13_ := Aside0.mk ((by rw [hg]; exact Nat.ne_of_gt (blk_lt (g := gb445) (o := .cells #[.int .u64 t440, .int .u64 t441, .int .u64 t442, .int .u64 t443] 65 (0, 0)) (by (with_reducible repeat (first | refine blk_drewN ?_ _ | refine blk_drew ?_ | refine blk_alloc ?_ _)); exact BK445.out)) : gb458 ≠ gb445)); clear HO_9; clear HO_12; clear HO_433002; clear HO456; clear BK432; clear BK445; clear HB; have HO_9 := n0_; have HO_12 := n1_; have HO_433002 := n2_; have HO456 := n3_; have BK432 := n4_; have BK445 := n5_; have HB := n6_; have BK458 := n7_; have GW458 := n8_; have GE458 := n9_; have NB432_458 := n10_; have NB458_432 := n11_; have NB445_458 := n12_; have NB458_445 := n13_; clear n0_ n1_ n2_ n3_ n4_ n5_ n6_ n7_ n8_ n9_ n10_ n11_ n12_ n13_; clear hb hbox hg; have hnb84 := NB458_432.out; have hnc84 := NB432_458.out; have hnb85 := NB458_445.out; have hnc85 := NB445_458.out; have hcz86_0 : w83.cell? ⟨gb458, 0, none⟩ = some (.int .i64 0) := (blk_cell BK458.out 0).trans rfl; have hcz86_1 : w83.cell? ⟨gb458, 1, none⟩ = some (.int .i64 0) := (blk_cell BK458.out 1).trans rfl; have hcz86_2 : w83.cell? ⟨gb458, 2, none⟩ = some (.slice none 0 0) := (blk_cell BK458.out 2).trans rfl; have hfz86_0 := blk_frozen BK458.out 0; have hfz86_1 := blk_frozen BK458.out 1; have hfz86_2 := blk_frozen BK458.out 2; obtain ⟨Ao87, co87, eo87⟩ := Kd.R_slice HO456.out; subst eo87))
                                go_ret
                                exact ⟨by first | rfl | (simp [errW_none, errW_some] <;> rfl) | (simp [*, errW_none, errW_some] <;> rfl), by repeat (first | (with_reducible first | exact HB.out | apply below_alloc | apply pw_below_drewN | apply below_drew1 | refine below_set ?_ GE432.out | refine below_set ?_ GE445.out | refine below_set ?_ GE458.out) | exact HB.out)⟩
                            · rw [if_neg c39] at H
                              have c39b0 : (t448 == 0) = false := beq_eq_false_iff_ne.mpr c39
                              have c39b1 : (t448 != 0) = true := bne_iff_ne.mpr c39
                              obtain rfl := Option.some.inj H
                              have hnb88 := NB432_445.out
                              have hnc88 := NB445_432.out
                              have hcz89_0 : wc.cell? ⟨gb432, 0, none⟩ = some (.int .i64 x433000_2) := (blk_cell BK432.out 0).trans rfl
                              have hcz89_1 : wc.cell? ⟨gb432, 1, none⟩ = some (.int .i64 x433001_2) := (blk_cell BK432.out 1).trans rfl
                              have hcz89_2 : wc.cell? ⟨gb432, 2, none⟩ = some (u433002) := (blk_cell BK432.out 2).trans rfl
                              have hfz89_0 := blk_frozen BK432.out 0
                              have hfz89_1 := blk_frozen BK432.out 1
                              have hfz89_2 := blk_frozen BK432.out 2
                              obtain ⟨Ao90, co90, eo90⟩ := Kd.R_slice HO_433002.out
                              subst eo90
                              go_wp2_with (first | ((with_reducible refine gate_callee (f := 34) rfl ?_); refine goesL_ (some 74) rfl rfl Tryd.func34 (by kernel_rfl) rfl #[.agg #[.int .i64 x433000_2, .int .i64 x433001_2, .slice Ao90 x433002_2.length co90]] rfl (by (try simp only [List.map_toArray, List.map_cons, List.map_nil]); first | done | rfl | (simp only [List.length_drop, List.length_take]; rfl)) ?_; (with_reducible refine (pool_Need.calls x433000_2 x433001_2 _ _ x433002_2 t447 t448 _ ?side1 ?side2 A30.out).mono ?_); (case side1 => repeat (first | exact (Kd.R_reads' HO_433002.out).2.2 | (with_reducible refine Kd.C_alloc ?_ _) | (with_reducible refine Kd.C_drewN ?_ _) | (with_reducible refine Kd.C_drew ?_))); (case side2 => exact (Kd.R_reads' HO_433002.out).2.1); rintro e w91 ⟨rfl, hb⟩; refine ⟨_, rfl, ?_⟩; have n0_ := Aside0.mk (Kd.Q_below (by (with_reducible repeat (first | apply Kd.Q_alloc | apply Kd.Q_drewN | apply Kd.Q_drew)); exact HO_9.out) hb); have n1_ := Aside0.mk (Kd.R_below (by (with_reducible repeat (first | apply Kd.R_alloc | apply Kd.R_drewN | apply Kd.R_drew)); exact HO_12.out) hb); have n2_ := Aside0.mk (Kd.R_below (by (with_reducible repeat (first | apply Kd.R_alloc | apply Kd.R_drewN | apply Kd.R_drew)); exact HO_433002.out) hb); have n3_ := Aside0.mk (blk_below (g := gb432) (o := .cells #[.int .i64 x433000_2, .int .i64 x433001_2, .slice Ao90 x433002_2.length co90] 32 (0, 0)) (by (with_reducible repeat (first | refine blk_drewN ?_ _ | refine blk_drew ?_ | refine blk_alloc ?_ _)); exact BK432.out) hb); have n4_ := Aside0.mk (blk_below (g := gb445) (o := .cells #[.int .u64 t440, .int .u64 t441, .int .u64 t442, .int .u64 t443] 65 (0, 0)) (by (with_reducible repeat (first | refine blk_drewN ?_ _ | refine blk_drew ?_ | refine blk_alloc ?_ _)); exact BK445.out) hb); have n5_ := Aside0.mk (below_step (by repeat (first | (with_reducible first | exact HB.out | apply below_alloc | apply pw_below_drewN | apply below_drew1 | refine below_set ?_ GE432.out | refine below_set ?_ GE445.out) | exact HB.out)) hb); clear HO_9; clear HO_12; clear HO_433002; clear BK432; clear BK445; clear HB; have HO_9 := n0_; have HO_12 := n1_; have HO_433002 := n2_; have BK432 := n3_; have BK445 := n4_; have HB := n5_; clear n0_ n1_ n2_ n3_ n4_ n5_; (try clear hb); (try clear hb2); (try clear hk); (try clear hi); obtain ⟨Ao92, co92, eo92, _⟩ := Kd.Q_slice HO_9.out; subst eo92) | ((with_reducible refine gate_callee (f := 35) rfl ?_); refine goesL_ (some 80) rfl rfl Tryd.func35 (by kernel_rfl) rfl #[.slice Ao92 x9_2.length co92, .int .i64 t447] rfl (by (try simp only [List.map_toArray, List.map_cons, List.map_nil]); first | done | rfl | (simp only [List.length_drop, List.length_take]; rfl)) ?_; (with_reducible refine (tape_Below.calls kj26 _ _ x9_2 t447 t449 t450 t451 _ ?side1 ?side2 A31.out).mono ?_); (case side1 => repeat (first | exact (Kd.Q_reads' HO_9.out).2.2 | (with_reducible refine Kd.C_alloc ?_ _) | (with_reducible refine Kd.C_drewN ?_ _) | (with_reducible refine Kd.C_drew ?_))); (case side2 => exact (Kd.Q_reads' HO_9.out).2.1); rintro e w' ⟨rfl, ⟨nd, rfl⟩⟩; refine ⟨_, rfl, ?_⟩; (try (rw [drewN_self w91]; generalize hq_ : World.drewN w91 _ = w91; have n0_ : Aside0 (Kd.R k36 36 w91 w.heap.size (fun _ => True) u12 x12_2) := ⟨by rw [← hq_]; exact (by (with_reducible repeat (first | apply Kd.R_alloc | apply Kd.R_drewN | apply Kd.R_drew)); exact HO_12.out)⟩; have n1_ : Aside0 (Kd.R (Kd.int .i64) 3 w91 w.heap.size (fun _ => True) (.slice Ao90 x433002_2.length co90) x433002_2) := ⟨by rw [← hq_]; exact (by (with_reducible repeat (first | apply Kd.R_alloc | apply Kd.R_drewN | apply Kd.R_drew)); exact HO_433002.out)⟩; have n2_ : Aside0 (Kd.Q Kd.bool 4 w91 w.heap.size (fun _ => True) (.slice Ao92 x9_2.length co92) x9_2) := ⟨by rw [← hq_]; exact (by (with_reducible repeat (first | apply Kd.Q_alloc | apply Kd.Q_drewN | apply Kd.Q_drew)); exact HO_9.out)⟩; have n3_ : Aside0 (w91.heap[gb432]? = some (.cells #[.int .i64 x433000_2, .int .i64 x433001_2, .slice Ao90 x433002_2.length co90] 32 (0, 0))) := ⟨by rw [← hq_]; exact (by (with_reducible repeat (first | refine blk_drewN ?_ _ | refine blk_drew ?_ | refine blk_alloc ?_ _)); exact BK432.out)⟩; have n4_ : Aside0 (w91.heap[gb445]? = some (.cells #[.int .u64 t440, .int .u64 t441, .int .u64 t442, .int .u64 t443] 65 (0, 0))) := ⟨by rw [← hq_]; exact (by (with_reducible repeat (first | refine blk_drewN ?_ _ | refine blk_drew ?_ | refine blk_alloc ?_ _)); exact BK445.out)⟩; have n5_ : Aside0 (Below w.heap.size w w91) := ⟨by rw [← hq_]; exact (by repeat (first | (with_reducible first | exact HB.out | apply below_alloc | apply pw_below_drewN | apply below_drew1 | refine below_set ?_ GE432.out | refine below_set ?_ GE445.out) | exact HB.out))⟩; clear HO_12 HO_433002 HO_9 BK432 BK445 HB hq_; have HO_12 := n0_; have HO_433002 := n1_; have HO_9 := n2_; have BK432 := n3_; have BK445 := n4_; have HB := n5_; clear n0_ n1_ n2_ n3_ n4_ n5_)); have hcz93_0 : w91.cell? ⟨gb432, 0, none⟩ = some (.int .i64 x433000_2) := (blk_cell BK432.out 0).trans rfl; have hcz93_1 : w91.cell? ⟨gb432, 1, none⟩ = some (.int .i64 x433001_2) := (blk_cell BK432.out 1).trans rfl; have hcz93_2 : w91.cell? ⟨gb432, 2, none⟩ = some (.slice Ao90 x433002_2.length co90) := (blk_cell BK432.out 2).trans rfl; have hfz93_0 := blk_frozen BK432.out 0; have hfz93_1 := blk_frozen BK432.out 1; have hfz93_2 := blk_frozen BK432.out 2) | ((with_reducible refine gate_callee (f := 13) rfl ?_); refine goesL_ (some 90) rfl rfl Tryd.func13 (by kernel_rfl) rfl #[.agg #[.int .i64 x433000_2, .int .i64 x433001_2, .slice Ao90 x433002_2.length co90], .int .i64 (rd l1 x62_2), .int .i64 t449] rfl (by (try simp only [List.map_toArray, List.map_cons, List.map_nil]); first | done | rfl | (simp only [List.length_drop, List.length_take]; rfl)) ?_; (with_reducible refine (pool_Add.calls x433000_2 x433001_2 _ _ x433002_2 (rd l1 x62_2) t449 t452 t453 t454 t457 _ ?side1 ?side2 A38.out).mono ?_); (case side1 => repeat (first | exact (Kd.R_reads' HO_433002.out).2.2 | (with_reducible refine Kd.C_alloc ?_ _) | (with_reducible refine Kd.C_drewN ?_ _) | (with_reducible refine Kd.C_drew ?_))); (case side2 => exact (Kd.R_reads' HO_433002.out).2.1); rintro e w94 ⟨v455, rfl, ho0, hb⟩; refine ⟨_, rfl, ?_⟩; have n0_ := Aside0.mk (Kd.Q_below (by (with_reducible repeat (first | apply Kd.Q_alloc | apply Kd.Q_drewN | apply Kd.Q_drew)); exact HO_9.out) hb); have n1_ := Aside0.mk (Kd.R_below (by (with_reducible repeat (first | apply Kd.R_alloc | apply Kd.R_drewN | apply Kd.R_drew)); exact HO_12.out) hb); have n2_ := Aside0.mk (Kd.R_elder' (by (with_reducible repeat (first | apply Kd.R_alloc | apply Kd.R_drewN | apply Kd.R_drew)); exact HO_433002.out) (Kd.R_base ho0) hb); have n3_ := Aside0.mk (Kd.R_lower (Kd.R_new' ho0 (Kd.R_lt (by (with_reducible repeat (first | apply Kd.R_alloc | apply Kd.R_drewN | apply Kd.R_drew)); exact HO_433002.out))) (below_size (by repeat (first | (with_reducible first | exact HB.out | apply below_alloc | apply pw_below_drewN | apply below_drew1 | refine below_set ?_ GE432.out | refine below_set ?_ GE445.out) | exact HB.out)))); have n4_ := Aside0.mk (blk_below (g := gb432) (o := .cells #[.int .i64 x433000_2, .int .i64 x433001_2, .slice Ao90 x433002_2.length co90] 32 (0, 0)) (by (with_reducible repeat (first | refine blk_drewN ?_ _ | refine blk_drew ?_ | refine blk_alloc ?_ _)); exact BK432.out) hb); have n5_ := Aside0.mk (blk_below (g := gb445) (o := .cells #[.int .u64 t440, .int .u64 t441, .int .u64 t442, .int .u64 t443] 65 (0, 0)) (by (with_reducible repeat (first | refine blk_drewN ?_ _ | refine blk_drew ?_ | refine blk_alloc ?_ _)); exact BK445.out) hb); have n6_ := Aside0.mk (below_step (by repeat (first | (with_reducible first | exact HB.out | apply below_alloc | apply pw_below_drewN | apply below_drew1 | refine below_set ?_ GE432.out | refine below_set ?_ GE445.out) | exact HB.out)) hb); clear HO_9; clear HO_12; clear HO_433002; clear BK432; clear BK445; clear HB; have HO_9 := n0_; have HO_12 := n1_; have HO_433002 := n2_; have HO456 := n3_; have BK432 := n4_; have BK445 := n5_; have HB := n6_; clear n0_ n1_ n2_ n3_ n4_ n5_ n6_; (try clear hb); (try clear hb2); (try clear hk); (try clear hi); (try clear ho0)) | ((with_reducible refine gate_dst (N := 20) rfl ?_); (try (refine gate_guard (by rfl) ?_; dsimp only)); refine box_event ?hg (N := 20) ?hd (cs := #[.int .i64 0, .int .i64 0, .slice none 0 0]) (t := 32) ?hr ?_; (case hd => rfl); (case hg => rfl); (case hr => first | (go_simp; done) | (go_simp; rfl)); intro gb458 hg w95 hbox hb; have n0_ := Aside0.mk (Kd.Q_below (by (with_reducible repeat (first | apply Kd.Q_alloc | apply Kd.Q_drewN | apply Kd.Q_drew)); exact HO_9.out) hb); have n1_ := Aside0.mk (Kd.R_below (by (with_reducible repeat (first | apply Kd.R_alloc | apply Kd.R_drewN | apply Kd.R_drew)); exact HO_12.out) hb); have n2_ := Aside0.mk (Kd.R_below (by (with_reducible repeat (first | apply Kd.R_alloc | apply Kd.R_drewN | apply Kd.R_drew)); exact HO_433002.out) hb); have n3_ := Aside0.mk (Kd.R_below (by (with_reducible repeat (first | apply Kd.R_alloc | apply Kd.R_drewN | apply Kd.R_drew)); exact HO456.out) hb); have n4_ := Aside0.mk (blk_below (g := gb432) (o := .cells #[.int .i64 x433000_2, .int .i64 x433001_2, .slice Ao90 x433002_2.length co90] 32 (0, 0)) (by (with_reducible repeat (first | refine blk_drewN ?_ _ | refine blk_drew ?_ | refine blk_alloc ?_ _)); exact BK432.out) hb); have n5_ := Aside0.mk (blk_below (g := gb445) (o := .cells #[.int .u64 t440, .int .u64 t441, .int .u64 t442, .int .u64 t443] 65 (0, 0)) (by (with_reducible repeat (first | refine blk_drewN ?_ _ | refine blk_drew ?_ | refine blk_alloc ?_ _)); exact BK445.out) hb); have n6_ := Aside0.mk (below_step (by repeat (first | (with_reducible first | exact HB.out | apply below_alloc | apply pw_below_drewN | apply below_drew1 | refine below_set ?_ GE432.out | refine below_set ?_ GE445.out) | exact HB.out)) hb); have n7_ := Aside0.mk (hbox); have n8_ := Aside0.mk ((by rw [hg]; exact (below_size (by repeat (first | (with_reducible first | exact HB.out | apply below_alloc | apply pw_below_drewN | apply below_drew1 | refine below_set ?_ GE432.out | refine below_set ?_ GE445.out) | exact HB.out))) : w.heap.size ≤ gb458)); have n9_ := Aside0.mk ((by rw [hg]; exact (below_size (by repeat (first | (with_reducible first | exact HB.out | apply below_alloc | apply pw_below_drewN | apply below_drew1 | refine below_set ?_ GE432.out | refine below_set ?_ GE445.out) | exact HB.out))) : w.heap.size ≤ gb458)); have n10_ := Aside0.mk ((by rw [hg]; exact Nat.ne_of_lt (blk_lt (g := gb432) (o := .cells #[.int .i64 x433000_2, .int .i64 x433001_2, .slice Ao90 x433002_2.length co90] 32 (0, 0)) (by (with_reducible repeat (first | refine blk_drewN ?_ _ | refine blk_drew ?_ | refine blk_alloc ?_ _)); exact BK432.out)) : gb432 ≠ gb458)); have n11_ := Aside0.mk ((by rw [hg]; exact Nat.ne_of_gt (blk_lt (g := gb432) (o := .cells #[.int .i64 x433000_2, .int .i64 x433001_2, .slice Ao90 x433002_2.length co90] 32 (0, 0)) (by (with_reducible repeat (first | refine blk_drewN ?_ _ | refine blk_drew ?_ | refine blk_alloc ?_ _)); exact BK432.out)) : gb458 ≠ gb432)); have n12_ := Aside0.mk ((by rw [hg]; exact Nat.ne_of_lt (blk_lt (g := gb445) (o := .cells #[.int .u64 t440, .int .u64 t441, .int .u64 t442, .int .u64 t443] 65 (0, 0)) (by (with_reducible repeat (first | refine blk_drewN ?_ _ | refine blk_drew ?_ | refine blk_alloc ?_ _)); exact BK445.out)) : gb445 ≠ gb458)); have n13_ := Aside0.mk ((by rw [hg]; exact Nat.ne_of_gt (blk_lt (g := gb445) (o := .cells #[.int .u64 t440, .int .u64 t441, .int .u64 t442, .int .u64 t443] 65 (0, 0)) (by (with_reducible repeat (first | refine blk_drewN ?_ _ | refine blk_drew ?_ | refine blk_alloc ?_ _)); exact BK445.out)) : gb458 ≠ gb445)); clear HO_9; clear HO_12; clear HO_433002; clear HO456; clear BK432; clear BK445; clear HB; have HO_9 := n0_; have HO_12 := n1_; have HO_433002 := n2_; have HO456 := n3_; have BK432 := n4_; have BK445 := n5_; have HB := n6_; have BK458 := n7_; have GW458 := n8_; have GE458 := n9_; have NB432_458 := n10_; have NB458_432 := n11_; have NB445_458 := n12_; have NB458_445 := n13_; clear n0_ n1_ n2_ n3_ n4_ n5_ n6_ n7_ n8_ n9_ n10_ n11_ n12_ n13_; clear hb hbox hg; have hnb96 := NB458_432.out; have hnc96 := NB432_458.out; have hnb97 := NB458_445.out; have hnc97 := NB445_458.out; have hcz98_0 : w95.cell? ⟨gb458, 0, none⟩ = some (.int .i64 0) := (blk_cell BK458.out 0).trans rfl; have hcz98_1 : w95.cell? ⟨gb458, 1, none⟩ = some (.int .i64 0) := (blk_cell BK458.out 1).trans rfl; have hcz98_2 : w95.cell? ⟨gb458, 2, none⟩ = some (.slice none 0 0) := (blk_cell BK458.out 2).trans rfl; have hfz98_0 := blk_frozen BK458.out 0; have hfz98_1 := blk_frozen BK458.out 1; have hfz98_2 := blk_frozen BK458.out 2; obtain ⟨Ao99, co99, eo99⟩ := Kd.R_slice HO456.out; subst eo99))
                              go_ret
                              exact ⟨by first | rfl | (simp [errW_none, errW_some] <;> rfl) | (simp [*, errW_none, errW_some] <;> rfl), by repeat (first | (with_reducible first | exact HB.out | apply below_alloc | apply pw_below_drewN | apply below_drew1 | refine below_set ?_ GE432.out | refine below_set ?_ GE445.out | refine below_set ?_ GE458.out) | exact HB.out)⟩
                  · rw [if_neg c26] at H
                    exact absurd H (by simp)
                · rw [if_neg c25] at H
                  exact absurd H (by simp)
              · rw [if_neg c24] at H
                have c24b0 : decide (x62_2 < (l1.length : Int)) = false := decide_eq_false c24
                clear c24
                replace H := Option.bind_eq_some_iff.mp H
                obtain ⟨⟨t465, t466⟩, A1000, H⟩ := H
                replace H : ((bench_Tell.f k2 t465).bind fun bt467 => ((strconv_Itoa.f (l1.length : Int)).bind fun t471 => (if 5 + t471.size ≤ 9223372036854775807 then (lotdrawertop_TopPooled.l1 k2 l1 t466 bt467.1 bt467.2 ((⟨#[107, 101, 112, 116, 32]⟩ : ByteArray) ++ t471) x433002_2 (x433002_2.length : Int) 0) else (none)))) = some r := H
                have A100 := Aside0.mk A1000
                clear A1000
                replace H := Option.bind_eq_some_iff.mp H
                obtain ⟨⟨t467, t468⟩, A1010, H⟩ := H
                replace H : ((strconv_Itoa.f (l1.length : Int)).bind fun t471 => (if 5 + t471.size ≤ 9223372036854775807 then (lotdrawertop_TopPooled.l1 k2 l1 t466 t467 t468 ((⟨#[107, 101, 112, 116, 32]⟩ : ByteArray) ++ t471) x433002_2 (x433002_2.length : Int) 0) else (none))) = some r := H
                have A101 := Aside0.mk A1010
                clear A1010
                replace H := Option.bind_eq_some_iff.mp H
                obtain ⟨t471, A1020, H⟩ := H
                replace H : (if 5 + t471.size ≤ 9223372036854775807 then (lotdrawertop_TopPooled.l1 k2 l1 t466 t467 t468 ((⟨#[107, 101, 112, 116, 32]⟩ : ByteArray) ++ t471) x433002_2 (x433002_2.length : Int) 0) else (none)) = some r := H
                have A102 := Aside0.mk A1020
                clear A1020
                by_cases c103 : 5 + t471.size ≤ 9223372036854775807
                · rw [if_pos c103] at H
                  have c103b0 := eq_true c103
                  have c103b1 : decide (5 + t471.size ≤ 9223372036854775807) = true := decide_eq_true c103
                  try have c103b2 : (9223372036854775807 < 5 + t471.size) = False := eq_false (Nat.not_lt.2 c103)
                  have H' := Aside0.mk H
                  clear H
                  obtain ⟨Ao104, co104, eo104⟩ := Kd.R_slice HO_12.out
                  subst eo104
                  go_wp2_with (first | ((with_reducible refine gate_callee (f := 10) rfl ?_); refine goesL_ (some 117) rfl rfl Tryd.func10 (by kernel_rfl) rfl #[.int .i64 a0, .slice Ao104 x12_2.length co104] rfl (by (try simp only [List.map_toArray, List.map_cons, List.map_nil]); first | done | rfl | (simp only [List.length_drop, List.length_take]; rfl)) ?_; (with_reducible refine (bench_Print.calls k2 a0 _ _ x12_2 t465 t466 _ ?sideL ?side1 ?side2 A100.out).mono ?_); (case sideL => first | exact HLaid.out | exact Laid.below HLaid.out (by repeat (first | (with_reducible first | exact HB.out | apply below_alloc | apply pw_below_drewN | apply below_drew1 | refine below_set ?_ GE432.out | refine below_set ?_ GE445.out) | exact HB.out)) | exact Laid.below HLaid.out (by repeat (first | (with_reducible first | exact HB.out | apply below_alloc | apply pw_below_drewN | apply below_drew1) | exact HB.out | exact Below.refl _ _))); (case side1 => repeat (first | exact (Kd.R_reads' HO_12.out).2.2 | (with_reducible refine Kd.C_alloc ?_ _) | (with_reducible refine Kd.C_drewN ?_ _) | (with_reducible refine Kd.C_drew ?_))); (case side2 => exact (Kd.R_reads' HO_12.out).2.1); rintro e w105 ⟨rfl, hb⟩; refine ⟨_, rfl, ?_⟩; have n0_ := Aside0.mk (Kd.Q_below (by (with_reducible repeat (first | apply Kd.Q_alloc | apply Kd.Q_drewN | apply Kd.Q_drew)); exact HO_9.out) hb); have n1_ := Aside0.mk (Kd.R_below (by (with_reducible repeat (first | apply Kd.R_alloc | apply Kd.R_drewN | apply Kd.R_drew)); exact HO_12.out) hb); have n2_ := Aside0.mk (Kd.R_below (by (with_reducible repeat (first | apply Kd.R_alloc | apply Kd.R_drewN | apply Kd.R_drew)); exact HO_433002.out) hb); have n3_ := Aside0.mk (blk_below (g := gb432) (o := .cells #[.int .i64 x433000_2, .int .i64 x433001_2, u433002] 32 (0, 0)) (by (with_reducible repeat (first | refine blk_drewN ?_ _ | refine blk_drew ?_ | refine blk_alloc ?_ _)); exact BK432.out) hb); have n4_ := Aside0.mk (blk_below (g := gb445) (o := .cells #[.int .u64 t440, .int .u64 t441, .int .u64 t442, .int .u64 t443] 65 (0, 0)) (by (with_reducible repeat (first | refine blk_drewN ?_ _ | refine blk_drew ?_ | refine blk_alloc ?_ _)); exact BK445.out) hb); have n5_ := Aside0.mk (below_step (by repeat (first | (with_reducible first | exact HB.out | apply below_alloc | apply pw_below_drewN | apply below_drew1 | refine below_set ?_ GE432.out | refine below_set ?_ GE445.out) | exact HB.out)) hb); clear HO_9; clear HO_12; clear HO_433002; clear BK432; clear BK445; clear HB; have HO_9 := n0_; have HO_12 := n1_; have HO_433002 := n2_; have BK432 := n3_; have BK445 := n4_; have HB := n5_; clear n0_ n1_ n2_ n3_ n4_ n5_; (try clear hb); (try clear hb2); (try clear hk); (try clear hi)) | ((with_reducible refine gate_callee (f := 11) rfl ?_); refine goesL_ (some 122) rfl rfl Tryd.func11 (by kernel_rfl) rfl #[.string t465] rfl (by (try simp only [List.map_toArray, List.map_cons, List.map_nil]); first | done | rfl | (simp only [List.length_drop, List.length_take]; rfl)) ?_; (with_reducible refine (bench_Tell.calls k2 t465 t467 t468 _ ?sideL A101.out).mono ?_); (case sideL => first | exact HLaid.out | exact Laid.below HLaid.out (by repeat (first | (with_reducible first | exact HB.out | apply below_alloc | apply pw_below_drewN | apply below_drew1 | refine below_set ?_ GE432.out | refine below_set ?_ GE445.out) | exact HB.out)) | exact Laid.below HLaid.out (by repeat (first | (with_reducible first | exact HB.out | apply below_alloc | apply pw_below_drewN | apply below_drew1) | exact HB.out | exact Below.refl _ _))); rintro e w106 ⟨v469, rfl, ho0, hb⟩; refine ⟨_, rfl, ?_⟩; have n0_ := Aside0.mk (Kd.Q_below (by (with_reducible repeat (first | apply Kd.Q_alloc | apply Kd.Q_drewN | apply Kd.Q_drew)); exact HO_9.out) hb); have n1_ := Aside0.mk (Kd.R_below (by (with_reducible repeat (first | apply Kd.R_alloc | apply Kd.R_drewN | apply Kd.R_drew)); exact HO_12.out) hb); have n2_ := Aside0.mk (Kd.R_below (by (with_reducible repeat (first | apply Kd.R_alloc | apply Kd.R_drewN | apply Kd.R_drew)); exact HO_433002.out) hb); have n3_ := Aside0.mk (Kd.R_lower ho0 (below_size (by repeat (first | (with_reducible first | exact HB.out | apply below_alloc | apply pw_below_drewN | apply below_drew1 | refine below_set ?_ GE432.out | refine below_set ?_ GE445.out) | exact HB.out)))); have n4_ := Aside0.mk (blk_below (g := gb432) (o := .cells #[.int .i64 x433000_2, .int .i64 x433001_2, u433002] 32 (0, 0)) (by (with_reducible repeat (first | refine blk_drewN ?_ _ | refine blk_drew ?_ | refine blk_alloc ?_ _)); exact BK432.out) hb); have n5_ := Aside0.mk (blk_below (g := gb445) (o := .cells #[.int .u64 t440, .int .u64 t441, .int .u64 t442, .int .u64 t443] 65 (0, 0)) (by (with_reducible repeat (first | refine blk_drewN ?_ _ | refine blk_drew ?_ | refine blk_alloc ?_ _)); exact BK445.out) hb); have n6_ := Aside0.mk (below_step (by repeat (first | (with_reducible first | exact HB.out | apply below_alloc | apply pw_below_drewN | apply below_drew1 | refine below_set ?_ GE432.out | refine below_set ?_ GE445.out) | exact HB.out)) hb); clear HO_9; clear HO_12; clear HO_433002; clear BK432; clear BK445; clear HB; have HO_9 := n0_; have HO_12 := n1_; have HO_433002 := n2_; have HO470 := n3_; have BK432 := n4_; have BK445 := n5_; have HB := n6_; clear n0_ n1_ n2_ n3_ n4_ n5_ n6_; (try clear hb); (try clear hb2); (try clear hk); (try clear hi); (try clear ho0)) | ((with_reducible refine gate_callee (f := 15) rfl ?_); refine goesL_ (some 127) rfl rfl Tryd.func15 (by kernel_rfl) rfl #[.int .i64 (l1.length : Int)] rfl (by (try simp only [List.map_toArray, List.map_cons, List.map_nil]); first | done | rfl | (simp only [List.length_drop, List.length_take]; rfl)) ?_; (with_reducible refine (strconv_Itoa.calls (l1.length : Int) t471 _ ?sideL A102.out).mono ?_); (case sideL => first | exact HLaid.out | exact Laid.below HLaid.out (by repeat (first | (with_reducible first | exact HB.out | apply below_alloc | apply pw_below_drewN | apply below_drew1 | refine below_set ?_ GE432.out | refine below_set ?_ GE445.out) | exact HB.out)) | exact Laid.below HLaid.out (by repeat (first | (with_reducible first | exact HB.out | apply below_alloc | apply pw_below_drewN | apply below_drew1) | exact HB.out | exact Below.refl _ _))); rintro e w107 ⟨rfl, hb⟩; refine ⟨_, rfl, ?_⟩; have n0_ := Aside0.mk (Kd.Q_below (by (with_reducible repeat (first | apply Kd.Q_alloc | apply Kd.Q_drewN | apply Kd.Q_drew)); exact HO_9.out) hb); have n1_ := Aside0.mk (Kd.R_below (by (with_reducible repeat (first | apply Kd.R_alloc | apply Kd.R_drewN | apply Kd.R_drew)); exact HO_12.out) hb); have n2_ := Aside0.mk (Kd.R_below (by (with_reducible repeat (first | apply Kd.R_alloc | apply Kd.R_drewN | apply Kd.R_drew)); exact HO_433002.out) hb); have n3_ := Aside0.mk (Kd.R_below (by (with_reducible repeat (first | apply Kd.R_alloc | apply Kd.R_drewN | apply Kd.R_drew)); exact HO470.out) hb); have n4_ := Aside0.mk (blk_below (g := gb432) (o := .cells #[.int .i64 x433000_2, .int .i64 x433001_2, u433002] 32 (0, 0)) (by (with_reducible repeat (first | refine blk_drewN ?_ _ | refine blk_drew ?_ | refine blk_alloc ?_ _)); exact BK432.out) hb); have n5_ := Aside0.mk (blk_below (g := gb445) (o := .cells #[.int .u64 t440, .int .u64 t441, .int .u64 t442, .int .u64 t443] 65 (0, 0)) (by (with_reducible repeat (first | refine blk_drewN ?_ _ | refine blk_drew ?_ | refine blk_alloc ?_ _)); exact BK445.out) hb); have n6_ := Aside0.mk (below_step (by repeat (first | (with_reducible first | exact HB.out | apply below_alloc | apply pw_below_drewN | apply below_drew1 | refine below_set ?_ GE432.out | refine below_set ?_ GE445.out) | exact HB.out)) hb); clear HO_9; clear HO_12; clear HO_433002; clear HO470; clear BK432; clear BK445; clear HB; have HO_9 := n0_; have HO_12 := n1_; have HO_433002 := n2_; have HO470 := n3_; have BK432 := n4_; have BK445 := n5_; have HB := n6_; clear n0_ n1_ n2_ n3_ n4_ n5_ n6_; (try clear hb); (try clear hb2); (try clear hk); (try clear hi); have hnb108 := NB432_445.out; have hnc108 := NB445_432.out; have hcz109_0 : w107.cell? ⟨gb432, 0, none⟩ = some (.int .i64 x433000_2) := (blk_cell BK432.out 0).trans rfl; have hcz109_1 : w107.cell? ⟨gb432, 1, none⟩ = some (.int .i64 x433001_2) := (blk_cell BK432.out 1).trans rfl; have hcz109_2 : w107.cell? ⟨gb432, 2, none⟩ = some (u433002) := (blk_cell BK432.out 2).trans rfl; have hfz109_0 := blk_frozen BK432.out 0; have hfz109_1 := blk_frozen BK432.out 1; have hfz109_2 := blk_frozen BK432.out 2; obtain ⟨Ao110, co110, eo110⟩ := Kd.R_slice HO_433002.out; subst eo110))
                  go_loopg [26, 132] k2 (fun kq v26 v132 w' => ∃ (x26_3 : ByteArray) (x132_3 : Int), v26 = .string x26_3 ∧ v132 = .int .i64 x132_3 ∧ Aside0 (lotdrawertop_TopPooled.l1 kq l1 t466 t467 t468 x26_3 x433002_2 (x433002_2.length : Int) x132_3 = some r) ∧ Aside0 (kq ≤ k2) ∧ Aside0 (Kd.R Kd.string 9 w' w.heap.size (fun _ => True) v469 t467) ∧ Aside0 (Kd.R (Kd.int .i64) 3 w' w.heap.size (fun _ => True) (.slice Ao110 x433002_2.length co110) x433002_2) ∧ Aside0 (Kd.R (Kd.int .i64) 3 w' w.heap.size (fun _ => True) (.slice Ao110 x433002_2.length co110) x433002_2) ∧ Aside0 (w'.heap[gb432]? = some (.cells #[.int .i64 x433000_2, .int .i64 x433001_2, (.slice Ao110 x433002_2.length co110)] 32 (0, 0))) ∧ Aside0 (w'.heap[gb445]? = some (.cells #[.int .u64 t440, .int .u64 t441, .int .u64 t442, .int .u64 t443] 65 (0, 0))) ∧ Aside0 (Below w.heap.size w w'))
                  case atStart => exact ⟨((⟨#[107, 101, 112, 116, 32]⟩ : ByteArray) ++ t471), (0), (by first | rfl | (simp; done) | (simp [*]; done)), (by first | rfl | (simp; done) | (simp [*]; done)), H', ⟨Nat.le_refl _⟩, ⟨by (with_reducible repeat (first | apply Kd.R_alloc | apply Kd.R_drewN | apply Kd.R_drew)); exact HO470.out⟩, ⟨by (with_reducible repeat (first | apply Kd.R_alloc | apply Kd.R_drewN | apply Kd.R_drew)); exact HO_433002.out⟩, ⟨by (with_reducible repeat (first | apply Kd.R_alloc | apply Kd.R_drewN | apply Kd.R_drew)); exact HO_433002.out⟩, ⟨by (with_reducible repeat (first | refine blk_drewN ?_ _ | refine blk_drew ?_ | refine blk_alloc ?_ _)); exact BK432.out⟩, ⟨by (with_reducible repeat (first | refine blk_drewN ?_ _ | refine blk_drew ?_ | refine blk_alloc ?_ _)); exact BK445.out⟩, ⟨by repeat (first | (with_reducible first | exact HB.out | apply below_alloc | apply pw_below_drewN | apply below_drew1 | refine below_set ?_ GE432.out | refine below_set ?_ GE445.out) | exact HB.out)⟩⟩
                  case round =>
                    clear H'
                    try clear c1
                    try clear c2
                    try clear p2
                    try clear c3
                    try clear c4
                    try clear p4
                    try clear q4
                    try clear hx4
                    try clear c5
                    try clear q5
                    try clear c6
                    try clear p6
                    try clear c7
                    try clear c8
                    try clear c9
                    try clear c10
                    try clear c11
                    try clear c12
                    try clear c13
                    try clear c15
                    try clear c18
                    try clear c20
                    try clear c20b0
                    try clear c20b1
                    try clear c21
                    try clear c21b0
                    try clear c21b1
                    try clear c22
                    try clear c23
                    try clear c23b0
                    try clear c23b1
                    try clear c24
                    try clear c24b0
                    try clear c25
                    try clear c25b0
                    try clear c26
                    try clear c26b0
                    try clear c28
                    try clear c28b0
                    try clear c29
                    try clear c32
                    try clear c32b0
                    try clear c32b1
                    try clear c33
                    try clear c34
                    try clear c35
                    try clear c39
                    try clear c39b0
                    try clear c39b1
                    try clear c40
                    try clear c40b0
                    try clear c40b1
                    try clear c41
                    try clear c41b0
                    try clear c41b1
                    try clear c42
                    try clear c42b0
                    try clear c42b1
                    try clear c43
                    try clear c43b0
                    try clear c43b1
                    try clear c44
                    try clear p44
                    try clear q44
                    try clear hx44
                    try clear c45
                    try clear c53
                    try clear c54
                    try clear c59
                    try clear q59
                    try clear c64
                    try clear p64
                    try clear c72
                    try clear c73
                    try clear c76
                    try clear c84
                    try clear c85
                    try clear c88
                    try clear c96
                    try clear c97
                    try clear c103
                    try clear c103b0
                    try clear c103b1
                    try clear c103b2
                    try clear c108
                    try clear hcz109_0
                    try clear hcz109_1
                    try clear hcz109_2
                    try clear hcz13_0
                    try clear hcz13_1
                    try clear hcz13_2
                    try clear hcz19_0
                    try clear hcz19_1
                    try clear hcz19_2
                    try clear hcz19_3
                    try clear hcz34_0
                    try clear hcz34_1
                    try clear hcz34_2
                    try clear hcz46_0
                    try clear hcz46_1
                    try clear hcz46_2
                    try clear hcz50_0
                    try clear hcz50_1
                    try clear hcz50_2
                    try clear hcz55_0
                    try clear hcz55_1
                    try clear hcz55_2
                    try clear hcz65_0
                    try clear hcz65_1
                    try clear hcz65_2
                    try clear hcz69_0
                    try clear hcz69_1
                    try clear hcz69_2
                    try clear hcz74_0
                    try clear hcz74_1
                    try clear hcz74_2
                    try clear hcz77_0
                    try clear hcz77_1
                    try clear hcz77_2
                    try clear hcz81_0
                    try clear hcz81_1
                    try clear hcz81_2
                    try clear hcz86_0
                    try clear hcz86_1
                    try clear hcz86_2
                    try clear hcz89_0
                    try clear hcz89_1
                    try clear hcz89_2
                    try clear hcz93_0
                    try clear hcz93_1
                    try clear hcz93_2
                    try clear hcz98_0
                    try clear hcz98_1
                    try clear hcz98_2
                    try clear hfz109_0
                    try clear hfz109_1
                    try clear hfz109_2
                    try clear hfz13_0
                    try clear hfz13_1
                    try clear hfz13_2
                    try clear hfz19_0
                    try clear hfz19_1
                    try clear hfz19_2
                    try clear hfz19_3
                    try clear hfz34_0
                    try clear hfz34_1
                    try clear hfz34_2
                    try clear hfz46_0
                    try clear hfz46_1
                    try clear hfz46_2
                    try clear hfz50_0
                    try clear hfz50_1
                    try clear hfz50_2
                    try clear hfz55_0
                    try clear hfz55_1
                    try clear hfz55_2
                    try clear hfz65_0
                    try clear hfz65_1
                    try clear hfz65_2
                    try clear hfz69_0
                    try clear hfz69_1
                    try clear hfz69_2
                    try clear hfz74_0
                    try clear hfz74_1
                    try clear hfz74_2
                    try clear hfz77_0
                    try clear hfz77_1
                    try clear hfz77_2
                    try clear hfz81_0
                    try clear hfz81_1
                    try clear hfz81_2
                    try clear hfz86_0
                    try clear hfz86_1
                    try clear hfz86_2
                    try clear hfz89_0
                    try clear hfz89_1
                    try clear hfz89_2
                    try clear hfz93_0
                    try clear hfz93_1
                    try clear hfz93_2
                    try clear hfz98_0
                    try clear hfz98_1
                    try clear hfz98_2
                    try clear hx446_0
                    try clear p2
                    try clear p4
                    try clear p446
                    try clear q4
                    try clear q446
                    try clear q59
                    obtain ⟨x26_3, x132_3, rfl, rfl, HA, HK3, HO_24, HO_130, HO_433002, BK432, BK445, HB⟩ := hrel
                    cases gk with
                    | zero => exact absurd HA.out (by simp [lotdrawertop_TopPooled.l1])
                    | succ k3 =>
                      have H := HA.out
                      clear HA
                      simp only [lotdrawertop_TopPooled.l1] at H
                      by_cases c111 : x132_3 < (x433002_2.length : Int)
                      · rw [if_pos c111] at H
                        have c111b0 : decide (x132_3 < (x433002_2.length : Int)) = true := decide_eq_true c111
                        clear c111
                        by_cases c112 : 0 ≤ x132_3
                        · rw [if_pos c112] at H
                          have c112b0 : decide (0 ≤ x132_3) = true := decide_eq_true c112
                          clear c112
                          by_cases c113 : x132_3 < (x433002_2.length : Int)
                          · rw [if_pos c113] at H
                            have c113b0 : decide (x132_3 < (x433002_2.length : Int)) = true := decide_eq_true c113
                            clear c113
                            replace H := Option.bind_eq_some_iff.mp H
                            obtain ⟨t473, A1140, H⟩ := H
                            replace H : (if 1 + t473.size ≤ 9223372036854775807 then (if x26_3.size + ((⟨#[32]⟩ : ByteArray) ++ t473).size ≤ 9223372036854775807 then (lotdrawertop_TopPooled.l1 k3 l1 t466 t467 t468 (x26_3 ++ ((⟨#[32]⟩ : ByteArray) ++ t473)) x433002_2 (x433002_2.length : Int) (wrap64 (x132_3 + 1))) else (none)) else (none)) = some r := H
                            have A114 := Aside0.mk A1140
                            clear A1140
                            by_cases c115 : 1 + t473.size ≤ 9223372036854775807
                            · rw [if_pos c115] at H
                              have c115b0 := eq_true c115
                              have c115b1 : decide (1 + t473.size ≤ 9223372036854775807) = true := decide_eq_true c115
                              try have c115b2 : (9223372036854775807 < 1 + t473.size) = False := eq_false (Nat.not_lt.2 c115)
                              by_cases c116 : x26_3.size + ((⟨#[32]⟩ : ByteArray) ++ t473).size ≤ 9223372036854775807
                              · rw [if_pos c116] at H
                                have c116b0 := eq_true c116
                                have c116b1 : decide (x26_3.size + ((⟨#[32]⟩ : ByteArray) ++ t473).size ≤ 9223372036854775807) = true := decide_eq_true c116
                                try have c116b2 : (9223372036854775807 < x26_3.size + ((⟨#[32]⟩ : ByteArray) ++ t473).size) = False := eq_false (Nat.not_lt.2 c116)
                                have H' := Aside0.mk H
                                clear H
                                have p472 : 0 ≤ (x132_3 : Int) := of_decide_eq_true (by first | (with_reducible assumption) | assumption)
                                have q472 : x132_3 < (x433002_2.length : Int) := of_decide_eq_true (by first | (with_reducible assumption) | assumption)
                                obtain ⟨ad472, e472, hx472_0⟩ := Kd.at_int (Kd.R_reads' HO_130.out).2.2 x132_3 p472 q472
                                cases e472
                                replace p472 := eq_true p472
                                replace q472 := eq_true q472
                                go_wp2_with (first | ((with_reducible refine gate_callee (f := 15) rfl ?_); refine goesL_ (some 138) rfl rfl Tryd.func15 (by kernel_rfl) rfl #[.int .i64 (rd x433002_2 x132_3)] rfl (by (try simp only [List.map_toArray, List.map_cons, List.map_nil]); first | done | rfl | (simp only [List.length_drop, List.length_take]; rfl)) ?_; (with_reducible refine (strconv_Itoa.calls (rd x433002_2 x132_3) t473 _ ?sideL A114.out).mono ?_); (case sideL => first | exact HLaid.out | exact Laid.below HLaid.out (by repeat (first | (with_reducible first | exact HB.out | apply below_alloc | apply pw_below_drewN | apply below_drew1 | refine below_set ?_ GE432.out | refine below_set ?_ GE445.out) | exact HB.out)) | exact Laid.below HLaid.out (by repeat (first | (with_reducible first | exact HB.out | apply below_alloc | apply pw_below_drewN | apply below_drew1) | exact HB.out | exact Below.refl _ _))); rintro e w117 ⟨rfl, hb⟩; refine ⟨_, rfl, ?_⟩; have n0_ := Aside0.mk (Kd.R_below (by (with_reducible repeat (first | apply Kd.R_alloc | apply Kd.R_drewN | apply Kd.R_drew)); exact HO_24.out) hb); have n1_ := Aside0.mk (Kd.R_below (by (with_reducible repeat (first | apply Kd.R_alloc | apply Kd.R_drewN | apply Kd.R_drew)); exact HO_130.out) hb); have n2_ := Aside0.mk (Kd.R_below (by (with_reducible repeat (first | apply Kd.R_alloc | apply Kd.R_drewN | apply Kd.R_drew)); exact HO_433002.out) hb); have n3_ := Aside0.mk (blk_below (g := gb432) (o := .cells #[.int .i64 x433000_2, .int .i64 x433001_2, .slice (some ad472) x433002_2.length co110] 32 (0, 0)) (by (with_reducible repeat (first | refine blk_drewN ?_ _ | refine blk_drew ?_ | refine blk_alloc ?_ _)); exact BK432.out) hb); have n4_ := Aside0.mk (blk_below (g := gb445) (o := .cells #[.int .u64 t440, .int .u64 t441, .int .u64 t442, .int .u64 t443] 65 (0, 0)) (by (with_reducible repeat (first | refine blk_drewN ?_ _ | refine blk_drew ?_ | refine blk_alloc ?_ _)); exact BK445.out) hb); have n5_ := Aside0.mk (below_step (by repeat (first | (with_reducible first | exact HB.out | apply below_alloc | apply pw_below_drewN | apply below_drew1 | refine below_set ?_ GE432.out | refine below_set ?_ GE445.out) | exact HB.out)) hb); clear HO_24; clear HO_130; clear HO_433002; clear BK432; clear BK445; clear HB; have HO_24 := n0_; have HO_130 := n1_; have HO_433002 := n2_; have BK432 := n3_; have BK445 := n4_; have HB := n5_; clear n0_ n1_ n2_ n3_ n4_ n5_; (try clear hb); (try clear hb2); (try clear hk); (try clear hi)))
                                go_roundg k3
                                case measure => have := HJ8.out; have := HK2.out; have := HK3.out; omega
                                case rel => exact ⟨(x26_3 ++ ((⟨#[32]⟩ : ByteArray) ++ t473)), (wrap64 (x132_3 + 1)), (by first | rfl | (simp; done) | (simp [*]; done)), (by first | rfl | (simp; done) | (simp [*]; done)), H', ⟨by have := HJ8.out; have := HK2.out; have := HK3.out; omega⟩, ⟨by (with_reducible repeat (first | apply Kd.R_alloc | apply Kd.R_drewN | apply Kd.R_drew)); exact HO_24.out⟩, ⟨by (with_reducible repeat (first | apply Kd.R_alloc | apply Kd.R_drewN | apply Kd.R_drew)); exact HO_130.out⟩, ⟨by (with_reducible repeat (first | apply Kd.R_alloc | apply Kd.R_drewN | apply Kd.R_drew)); exact HO_433002.out⟩, ⟨by (with_reducible repeat (first | refine blk_drewN ?_ _ | refine blk_drew ?_ | refine blk_alloc ?_ _)); exact BK432.out⟩, ⟨by (with_reducible repeat (first | refine blk_drewN ?_ _ | refine blk_drew ?_ | refine blk_alloc ?_ _)); exact BK445.out⟩, ⟨by repeat (first | (with_reducible first | exact HB.out | apply below_alloc | apply pw_below_drewN | apply below_drew1 | refine below_set ?_ GE432.out | refine below_set ?_ GE445.out) | exact HB.out)⟩⟩
                              · rw [if_neg c116] at H
                                exact absurd H (by simp)
                            · rw [if_neg c115] at H
                              exact absurd H (by simp)
                          · rw [if_neg c113] at H
                            exact absurd H (by simp)
                        · rw [if_neg c112] at H
                          exact absurd H (by simp)
                      · rw [if_neg c111] at H
                        have c111b0 : decide (x132_3 < (x433002_2.length : Int)) = false := decide_eq_false c111
                        clear c111
                        by_cases c118 : t466 = 0
                        · rw [if_pos c118] at H
                          have c118b0 : (t466 == 0) = true := beq_iff_eq.mpr c118
                          have c118b1 : (t466 != 0) = false := bne_eq_false_iff_eq.mpr c118
                          clear c118
                          by_cases c119 : t468 = 0
                          · rw [if_pos c119] at H
                            have c119b0 : (t468 == 0) = true := beq_iff_eq.mpr c119
                            have c119b1 : (t468 != 0) = false := bne_eq_false_iff_eq.mpr c119
                            clear c119
                            by_cases c120 : (t467.length : Int) = (wrap64 ((l1.length : Int) + 1))
                            · rw [if_pos c120] at H
                              have c120b0 : ((t467.length : Int) == (wrap64 ((l1.length : Int) + 1))) = true := beq_iff_eq.mpr c120
                              have c120b1 : ((t467.length : Int) != (wrap64 ((l1.length : Int) + 1))) = false := bne_eq_false_iff_eq.mpr c120
                              clear c120
                              by_cases c121 : 0 ≤ (l1.length : Int)
                              · rw [if_pos c121] at H
                                have c121b0 : decide (0 ≤ (l1.length : Int)) = true := decide_eq_true c121
                                have c121b1 : decide (0 ≤ l1.length) = true := decide_eq_true (by omega)
                                clear c121
                                by_cases c122 : (l1.length : Int) < (t467.length : Int)
                                · rw [if_pos c122] at H
                                  have c122b0 : decide ((l1.length : Int) < (t467.length : Int)) = true := decide_eq_true c122
                                  have c122b1 : decide (l1.length < t467.length) = true := decide_eq_true (Int.ofNat_lt.mp c122)
                                  clear c122
                                  obtain rfl := Option.some.inj H
                                  obtain ⟨Ao123, co123, eo123⟩ := Kd.R_slice HO_24.out
                                  subst eo123
                                  have p474 : 0 ≤ ((l1.length : Int) : Int) := of_decide_eq_true (by first | (with_reducible assumption) | assumption)
                                  have q474 : (l1.length : Int) < (t467.length : Int) := of_decide_eq_true (by first | (with_reducible assumption) | assumption)
                                  obtain ⟨ad474, e474, hx474_0⟩ := Kd.at_string (Kd.R_reads' HO_24.out).2.2 (l1.length : Int) p474 q474
                                  cases e474
                                  (try simp only [Go.IntWalk.toNatUp] at hx474_0)
                                  replace p474 := eq_true p474
                                  replace q474 := eq_true q474
                                  go_wp2
                                  go_ret
                                  exact ⟨by first | rfl | (simp [errW_none, errW_some] <;> rfl) | (simp [*, errW_none, errW_some] <;> rfl), by repeat (first | (with_reducible first | exact HB.out | apply below_alloc | apply pw_below_drewN | apply below_drew1 | refine below_set ?_ GE432.out | refine below_set ?_ GE445.out) | exact HB.out)⟩
                                · rw [if_neg c122] at H
                                  exact absurd H (by simp)
                              · rw [if_neg c121] at H
                                exact absurd H (by simp)
                            · rw [if_neg c120] at H
                              have c120b0 : ((t467.length : Int) == (wrap64 ((l1.length : Int) + 1))) = false := beq_eq_false_iff_ne.mpr c120
                              have c120b1 : ((t467.length : Int) != (wrap64 ((l1.length : Int) + 1))) = true := bne_iff_ne.mpr c120
                              obtain rfl := Option.some.inj H
                              obtain ⟨Ao124, co124, eo124⟩ := Kd.R_slice HO_24.out
                              subst eo124
                              go_wp2
                              go_ret
                              exact ⟨by first | rfl | (simp [errW_none, errW_some] <;> rfl) | (simp [*, errW_none, errW_some] <;> rfl), by repeat (first | (with_reducible first | exact HB.out | apply below_alloc | apply pw_below_drewN | apply below_drew1 | refine below_set ?_ GE432.out | refine below_set ?_ GE445.out) | exact HB.out)⟩
                          · rw [if_neg c119] at H
                            have c119b0 : (t468 == 0) = false := beq_eq_false_iff_ne.mpr c119
                            have c119b1 : (t468 != 0) = true := bne_iff_ne.mpr c119
                            obtain rfl := Option.some.inj H
                            go_wp2
                            go_ret
                            exact ⟨by first | rfl | (simp [errW_none, errW_some] <;> rfl) | (simp [*, errW_none, errW_some] <;> rfl), by repeat (first | (with_reducible first | exact HB.out | apply below_alloc | apply pw_below_drewN | apply below_drew1 | refine below_set ?_ GE432.out | refine below_set ?_ GE445.out) | exact HB.out)⟩
                        · rw [if_neg c118] at H
                          have c118b0 : (t466 == 0) = false := beq_eq_false_iff_ne.mpr c118
                          have c118b1 : (t466 != 0) = true := bne_iff_ne.mpr c118
                          obtain rfl := Option.some.inj H
                          go_wp2
                          go_ret
                          exact ⟨by first | rfl | (simp [errW_none, errW_some] <;> rfl) | (simp [*, errW_none, errW_some] <;> rfl), by repeat (first | (with_reducible first | exact HB.out | apply below_alloc | apply pw_below_drewN | apply below_drew1 | refine below_set ?_ GE432.out | refine below_set ?_ GE445.out) | exact HB.out)⟩
                · rw [if_neg c103] at H
                  exact absurd H (by simp)
  · replace c5 := Bool.eq_false_iff.mpr c5
    subst c5
    have H1 : (some false) = some r := by rw [if_neg (show ¬ (false = true) by decide)] at H; exact H
    clear H
    have H := H1
    clear H1
    obtain rfl := Option.some.inj H
    go_enter Tryd.func8, Tryd.ntmps8
    go_wp2_with (first | ((with_reducible refine gate_callee (f := 9) rfl ?_); refine goesL_ (some 29) rfl rfl Tryd.func9 (by kernel_rfl) rfl #[] rfl (by (try simp only [List.map_toArray, List.map_cons, List.map_nil]); first | done | rfl | (simp only [List.length_drop, List.length_take]; rfl)) ?_; (with_reducible refine (lotdrawertop_alive.calls k  false _ ?sideL A4.out).mono ?_); (case sideL => first | exact HLaid.out | exact Laid.below HLaid.out (by repeat (first | (with_reducible first | exact HB.out | apply below_alloc | apply pw_below_drewN | apply below_drew1) | exact HB.out)) | exact Laid.below HLaid.out (by repeat (first | (with_reducible first | exact HB.out | apply below_alloc | apply pw_below_drewN | apply below_drew1) | exact HB.out | exact Below.refl _ _))); rintro e w125 ⟨rfl, hb⟩; refine ⟨_, rfl, ?_⟩; have n0_ := Aside0.mk (below_step (by repeat (first | (with_reducible first | exact HB.out | apply below_alloc | apply pw_below_drewN | apply below_drew1) | exact HB.out)) hb); clear HB; have HB := n0_; clear n0_; (try clear hb); (try clear hb2); (try clear hk); (try clear hi)))
    go_ret
    exact ⟨by first | rfl | (simp [errW_none, errW_some] <;> rfl) | (simp [*, errW_none, errW_some] <;> rfl), by repeat (first | (with_reducible first | exact HB.out | apply below_alloc | apply pw_below_drewN | apply below_drew1) | exact HB.out)⟩

/-- THE ONE PURE STATEMENT of lotdrawertop_TopPooled: yours. -/
def lotdrawertop_TopPooled.Pure : Prop := ∀ (a0 : Int) (l1 : List Int) (a2 : Int), (Lit.int .i64 a0).wf = true → l1.length ≤ maxLen → l1.length * 8 ≤ 140737488351232 → (∀ x ∈ l1, (Lit.int .i64 x).wf = true) → (Lit.int .u64 a2).wf = true → ∃ k, lotdrawertop_TopPooled.f k a0 l1 a2 = some true
theorem lotdrawertop_TopPooled.walk (P : lotdrawertop_TopPooled.Pure) (a0 : Int) (a1 : Option Addr) (len1 cap1 : Nat) (z1 : List Int) (a2 : Int) (w : World) (hL : Laid w) (w0 : (Lit.int .i64 a0).wf = true) (w1 : (a1 = none ∧ len1 = 0 ∧ cap1 = 0 ∧ z1 = []) ∨ ∃ x, a1 = some x ∧ len1 ≤ cap1 ∧ cap1 ≤ maxLen ∧ z1.length = cap1 ∧ (∀ i, i < z1.length → w.cell? (x.add i) = some (.int .i64 (z1.getD i 0))) ∧ ∀ n ∈ z1, (Lit.int .i64 n).wf = true) (y1 : len1 * 8 ≤ 140737488351232) (w2 : (Lit.int .u64 a2).wf = true) :
    Calls Tryd.prog 8 #[.int .i64 a0, .slice a1 len1 cap1, .int .u64 a2] w fun e w' => e = .returned (.bool true) ∧ Below w.heap.size w w' := by
  obtain ⟨l1, rfl, hr1, hm1, hw1, hc1⟩ := ReadsInt.ofRowC w1
  obtain ⟨k, h⟩ := P a0 l1 a2 w0 hm1 y1 hw1 w2
  refine (lotdrawertop_TopPooled.calls k a0 _ _ l1 a2 true w hL (Kd.C_of_reads (d := (0 : Int)) (h1 := fun _ => rfl) hr1) hc1 h).mono ?_
  rintro e w' ⟨rfl, hd⟩
  exact ⟨rfl, hd⟩

end Go.Proofs.YtioppgeackgjnaaDoor.Bt
