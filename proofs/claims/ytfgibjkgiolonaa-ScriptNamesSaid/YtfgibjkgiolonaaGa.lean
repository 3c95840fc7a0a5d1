/- The contracts of record.eight and record.Check in the form in which the printed texts call it. -/
import Derived.Test.YtfgibjkgiolonaaG2
set_option linter.unusedVariables false
namespace Go.Proofs.YtfgibjkgiolonaaG
open Go.RowKit
def record_eight.f (a0 : Int) : Option ByteArray := if -9223372036854775808 ≤ a0 ∧ a0 ≤ 9223372036854775807 then some (eightS a0) else none
theorem record_eight.calls (a0 : Int) (r : ByteArray) (w : World) (h : record_eight.f a0 = some r) :
  Calls Try.prog 49 #[.int .i64 a0] w fun e w' => e = .returned (.string r) ∧ Below w.heap.size w w' := by
 unfold record_eight.f at h
 by_cases hs : -9223372036854775808 ≤ a0 ∧ a0 ≤ 9223372036854775807
 ·rw [if_pos hs] at h
  obtain rfl := Option.some.inj h
  exact eight_any a0 w hs.1 hs.2
 ·rw [if_neg hs] at h
  simp at h
def record_Check.f (k c n : Int) (ok : Bool) (t : ByteArray) : Option Int := some (checkI k c n ok t)
theorem record_Check.calls (k c n : Int) (ok : Bool) (t : ByteArray) (r : Int) (w : World) (h : record_Check.f k c n ok t = some r) :
  Calls Try.prog 46 #[.agg #[.int .i64 k, .int .i64 c, .int .i64 n, .bool ok, .string t]] w fun e w' => e = .returned (.int .i64 r) ∧ Below w.heap.size w w' := by
 obtain rfl := Option.some.inj h
 exact check_any k c n ok t w
end Go.Proofs.YtfgibjkgiolonaaG
