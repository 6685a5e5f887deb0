/- math/bits.Len. -/
import Derived.Test.YtioppgeackgjnaaDoorBt0
import Derived.Test.YtioppgeackgjnaaDoorShelf
import Derived.Shelf.Strconv.Itoa0
namespace Go.Proofs.YtioppgeackgjnaaDoor.Bt
open Go.RowKit Go.Proofs.YtioppgeackgjnaaDoorW.PrintWords Go.Proofs.YtioppgeackgjnaaDoorW.PrintLast Go.Proofs.YtioppgeackgjnaaDoorW.PrintMore
set_option linter.unusedVariables false
def bits_Len.f (x : Int) : Option Int := if 0 ≤ x ∧ x ≤ 18446744073709551615 then some (Lib.bitLen x.toNat : Nat) else none
theorem bits_Len64_at (x : Int) (w : World) (h0 : 0 ≤ x) (h1 : x ≤ 18446744073709551615) : Calls Tryd.prog 80 #[.int .u64 x] w fun e w' => e = .returned (.int .i64 (Lib.bitLen x.toNat : Nat)) ∧ w' = w :=
  Any.bits_Len64 (P := Tryd.prog) (ρ := Tryd.laysM171_ren) { Tryd.laysM171 with } x w h0 h1
set_option maxRecDepth 100000 in
theorem bits_Len.calls (a0 : Int) (r : Int) (w : World) (h : bits_Len.f a0 = some r) :
    Calls Tryd.prog 65 #[.int .u64 a0] w fun e w' => e = .returned (.int .i64 r) ∧ Drawn0 w w' := by
  unfold bits_Len.f at h
  split at h
  · rename_i hx
    obtain rfl := Option.some.inj h
    go_enter Tryd.func65, Tryd.ntmps65
    go_wp2_with (first | (go_at_call 80; refine (bits_Len64_at a0 _ hx.1 hx.2).mono ?_; rintro e w' ⟨rfl, rfl⟩))
    go_ret
    exact ⟨rfl, by first | exact Drawn0.refl _ | exact (Drawn0.refl _).step _ | exact ⟨⟨_, rfl⟩⟩⟩
  · cases h
end Go.Proofs.YtioppgeackgjnaaDoor.Bt
