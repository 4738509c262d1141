/-
  Equality of arrays of four. No condition.
-/
import Derived.Test.YtfhbndfhmphnaaaX3
set_option linter.unusedVariables false
set_option linter.unusedSimpArgs false
namespace Go.Proofs.Ytfhbndfhmphnaaa
open Go.RowKit Go.BigFrame

set_option maxHeartbeats 8000000 in
theorem eq4_int (a b c d x y z t : Int) (w : World) : (Op.equalIn 10000 24 (.agg #[.int .i64 a, .int .i64 b, .int .i64 c, .int .i64 d]) (.agg #[.int .i64 x, .int .i64 y, .int .i64 z, .int .i64 t])).run Try.prog w = .ok (a == x && (b == y && (c == z && d == t))) w := by
  have e := fun (p q : Int) (w : World) => run_equalIn_int (P := Try.prog) w 9998 2 .i64 .i64 p q Try.underlying2
  have hs := Try.sizeOf2
  have hg := Try.isAgg2
  rw [show (10000 : Nat) = 9999 + 1 from rfl, Op.equalIn]
  have e0 : List.range' 0 4 = [0, 1, 2, 3] := rfl
  cases h1 : a == x <;> cases h2 : b == y <;> cases h3 : c == z <;> cases h4 : d == t <;>
    simp [run_underlying Try.underlying24, hs, part, hg, e, e0, h1, h2, h3, h4, -beq_iff_eq, -beq_eq_false_iff_ne]
set_option maxHeartbeats 8000000 in
theorem eq4_bool (a b c d x y z t : Bool) (w : World) : (Op.equalIn 10000 50 (.agg #[.bool a, .bool b, .bool c, .bool d]) (.agg #[.bool x, .bool y, .bool z, .bool t])).run Try.prog w = .ok (a == x && (b == y && (c == z && d == t))) w := by
  have e := fun (p q : Bool) (w : World) => run_equalIn_bool' (P := Try.prog) w 9998 4 p q Try.underlying4
  have hs := Try.sizeOf4
  have hg := Try.isAgg4
  rw [show (10000 : Nat) = 9999 + 1 from rfl, Op.equalIn]
  have e0 : List.range' 0 4 = [0, 1, 2, 3] := rfl
  cases h1 : a == x <;> cases h2 : b == y <;> cases h3 : c == z <;> cases h4 : d == t <;>
    simp [run_underlying Try.underlying50, hs, part, hg, e, e0, h1, h2, h3, h4, -beq_iff_eq, -beq_eq_false_iff_ne]
end Go.Proofs.Ytfhbndfhmphnaaa
