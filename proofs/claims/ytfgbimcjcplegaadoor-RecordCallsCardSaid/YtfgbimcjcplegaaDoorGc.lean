/- The contract of the reference's Line in the form in which the printed texts call it. -/
import Derived.Test.YtfgbimcjcplegaaDoorGR
set_option linter.unusedVariables false
namespace Go.Proofs.YtfgbimcjcplegaaDoorG
open Go.RowKit
def outlawref21_Line.f (k c n : Int) (ok : Bool) (t : ByteArray) : Option ByteArray :=
  if (-9223372036854775808 ≤ c ∧ c ≤ 9223372036854775807) ∧ (-9223372036854775808 ≤ n ∧ n ≤ 9223372036854775807) ∧ t.size ≤ 5000 then some (lineS k c n ok t) else none
theorem outlawref21_Line.calls (k c n : Int) (ok : Bool) (t : ByteArray) (r : ByteArray) (w : World) (h : outlawref21_Line.f k c n ok t = some r) :
    Calls Tryd.prog 18 #[.agg #[.int .i64 k, .int .i64 c, .int .i64 n, .bool ok, .string t]] w fun e w' => e = .returned (.string r) ∧ Below w.heap.size w w' := by
  unfold outlawref21_Line.f at h
  by_cases hs : (-9223372036854775808 ≤ c ∧ c ≤ 9223372036854775807) ∧ (-9223372036854775808 ≤ n ∧ n ≤ 9223372036854775807) ∧ t.size ≤ 5000
  · rw [if_pos hs] at h
    obtain rfl := Option.some.inj h
    exact ref_any k c n ok t w hs.1.1 hs.1.2 hs.2.1.1 hs.2.1.2 hs.2.2
  · rw [if_neg hs] at h
    simp at h
end Go.Proofs.YtfgbimcjcplegaaDoorG
