/- The contract of record.Read in the form in which the printed texts call it. -/
import Derived.Test.YtfgbimcjcplegaaDoorG7
set_option linter.unusedVariables false
namespace Go.Proofs.YtfgbimcjcplegaaDoorG
open Go.RowKit
theorem record_Read.calls (s : ByteArray) (r1 r2 r3 : Int) (r4 : Bool) (r5 : ByteArray) (r6 : Int) (w : World) (h : record_Read.f s = some (r1, r2, r3, r4, r5, r6)) :
    Calls Tryd.prog 6 #[.string s] w fun e w' => e = .returned (.tuple #[.agg #[.int .i64 r1, .int .i64 r2, .int .i64 r3, .bool r4, .string r5], .int .i64 r6]) ∧ Below w.heap.size w w' := by
  unfold record_Read.f at h
  by_cases hs : s.size ≤ 6000
  · rw [if_pos hs] at h
    have h2 := Option.some.inj h
    unfold readG at h2
    cases hg : gotOf s with
    | bad x =>
      rw [hg] at h2
      simp only [Prod.mk.injEq] at h2
      obtain ⟨rfl, rfl, rfl, rfl, rfl, rfl⟩ := h2
      exact read_bad s w hs x hg
    | got k c n ok t =>
      rw [hg] at h2
      simp only at h2
      by_cases hc : checkI k c n ok t = 0
      · rw [if_pos hc] at h2
        simp only [Prod.mk.injEq] at h2
        obtain ⟨rfl, rfl, rfl, rfl, rfl, rfl⟩ := h2
        exact read_got_ok s w hs k c n ok t hg hc
      · rw [if_neg hc] at h2
        simp only [Prod.mk.injEq] at h2
        obtain ⟨rfl, rfl, rfl, rfl, rfl, rfl⟩ := h2
        exact read_got_bad s w hs k c n ok t hg _ rfl (beq_eq_false_iff_ne.2 hc)
  · rw [if_neg hs] at h
    simp at h
end Go.Proofs.YtfgbimcjcplegaaDoorG
