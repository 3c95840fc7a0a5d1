/- The contract of record.Line in the form in which the printed texts call it: where strconv's table lies. -/
import Derived.Test.YtfgbimcjcplegaaDoorGM
set_option linter.unusedVariables false
namespace Go.Proofs.YtfgbimcjcplegaaDoorG
open Go.RowKit
theorem Tab.at {w w' : World} (h : Tab w) (hb : Below w.heap.size w w') : Tab w' := h.below hb (Nat.le_refl _)
def record_Line.f (k c n : Int) (ok : Bool) (t : ByteArray) : Option ByteArray :=
  if (-9223372036854775808 ≤ c ∧ c ≤ 9223372036854775807) ∧ (-9223372036854775808 ≤ n ∧ n ≤ 9223372036854775807) ∧ t.size ≤ 5000 then some (lineS k c n ok t) else none
theorem record_Line.calls (k c n : Int) (ok : Bool) (t : ByteArray) (r : ByteArray) (w : World) (ht : Tab w) (h : record_Line.f k c n ok t = some r) :
    Calls Tryd.prog 10 #[.agg #[.int .i64 k, .int .i64 c, .int .i64 n, .bool ok, .string t]] w fun e w' => e = .returned (.string r) ∧ Below w.heap.size w w' := by
  unfold record_Line.f at h
  by_cases hs : (-9223372036854775808 ≤ c ∧ c ≤ 9223372036854775807) ∧ (-9223372036854775808 ≤ n ∧ n ≤ 9223372036854775807) ∧ t.size ≤ 5000
  · rw [if_pos hs] at h
    obtain rfl := Option.some.inj h
    exact line_any k c n ok t w hs.1.1 hs.1.2 hs.2.1.1 hs.2.1.2 hs.2.2 ht
  · rw [if_neg hs] at h
    simp at h
end Go.Proofs.YtfgbimcjcplegaaDoorG
