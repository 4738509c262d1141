/-
  What a reading of each parameter's type says. Written by a program of mine. No condition.
-/
import Derived.Test.YtelinfnhihmjeaaCom
namespace Go.Proofs.Ytelinfnhihmjeaa
open Go.RowKit Go.ChangeShapes Go.WideShapes

abbrev E32 : World → List Value → List (Int) → Prop := ESlice 1 (EInt .i64)
theorem Op32 : Opens Try.prog 32 E32 := opens_slice Try.underlying32 1 (by kernel_rfl) (opens_int Try.underlying2)

end Go.Proofs.Ytelinfnhihmjeaa
