import Derived.Test.YtfoaeigoajooeaaXshelf
import Derived.Test.YtfoaeigoajooeaaZ0
/- strings.Compare: as the shelf has it. -/
namespace Go.Proofs.Ytfoaeigoajooeaa.Z
open Go.RowKit
def strings_Compare.f (a0 a1 : ByteArray) : Option Int := some (Lib.compareBytes a0.data.toList a1.data.toList)
theorem strings_Compare.calls (a0 a1 : ByteArray) (r : Int) (w : World) (h : strings_Compare.f a0 a1 = some r) :
    Calls Try.prog 66 #[.string a0, .string a1] w fun e w' => e = .returned (.int .i64 r) ∧ Below w.heap.size w w' := by
  refine (Try.strings_Compare a0 a1 w).mono ?_
  rintro e w' ⟨rfl, rfl⟩
  obtain rfl := Option.some.inj h
  exact ⟨rfl, Below.refl _ _⟩
end Go.Proofs.Ytfoaeigoajooeaa.Z
