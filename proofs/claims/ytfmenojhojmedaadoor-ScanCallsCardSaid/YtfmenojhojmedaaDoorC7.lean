/- scan.Unquote in the form in which the printed texts call it. -/
import Derived.Test.YtfmenojhojmedaaDoorC6
set_option linter.unusedVariables false
set_option linter.unusedSimpArgs false
namespace Go.Proofs.YtfmenojhojmedaaDoorG
open Go.RowKit Go.Proofs Go.Proofs.YtfmenojhojmedaaDoorX Go.Proofs.YtfmenojhojmedaaDoorB Go.Proofs.YtfmenojhojmedaaDoorW.PrintWords Go.Proofs.YtfmenojhojmedaaDoor.PR
theorem scan_Unquote.mono_l : ∀ k, (∀ s a e acc, LeO (scan_Unquote.l0 k s a e acc) (scan_Unquote.l0 (k + 1) s a e acc))
  | 0 => fun _ _ _ _ r h => by simp [scan_Unquote.l0] at h
  | k + 1 => by
    have ih0 := scan_Unquote.mono_l k
    intro s a e acc
    unfold scan_Unquote.l0
    repeat' first
      | (with_reducible exact ih0 _ _ _ _)
      | (with_reducible exact scan_reader_escape.mono _ _ _ _)
      | (with_reducible exact LeO.refl _)
      | (with_reducible exact LeO.none _)
      | (with_reducible refine LeO.ite ?_ ?_)
      | (with_reducible refine LeO.bind ?_ (fun _ => ?_))
theorem scan_Unquote.mono : ∀ s k, LeO (scan_Unquote.f k s) (scan_Unquote.f (k + 1) s) := by
  intro s k
  have ih0 := scan_Unquote.mono_l k
  unfold scan_Unquote.f
  repeat' first
      | (with_reducible exact ih0 _ _ _ _)
      | (with_reducible exact LeO.refl _)
      | (with_reducible exact LeO.none _)
      | (with_reducible refine LeO.ite ?_ ?_)
      | (with_reducible refine LeO.bind ?_ (fun _ => ?_))
theorem scan_Unquote.calls (k : Nat) (s : ByteArray) (r1 : ByteArray) (r2 r3 : Int) (w : World) (ht : TabU w) (h : scan_Unquote.f k s = some (r1, r2, r3)) :
    Calls Tryd.prog 12 #[.string s] w fun e w' => e = .returned (.tuple #[.string r1, .int .i64 r2, .int .i64 r3]) ∧ Below w.heap.size w w' := by
  unfold scan_Unquote.f at h
  by_cases hs : s.size ≤ 1000000
  case neg => rw [if_neg hs] at h; simp at h
  rw [if_pos hs] at h
  obtain ⟨⟨c, is, s', a, e0⟩, hn, h⟩ := Option.bind_eq_some_iff.mp h
  simp only at h
  by_cases h1 : s' = s
  case neg => rw [if_neg h1] at h; simp at h
  rw [if_pos h1] at h
  subst h1
  cases is with
  | false =>
    rw [if_neg Bool.false_ne_true] at h
    simp only [unqBad, Option.some.injEq, Prod.mk.injEq] at h
    obtain ⟨rfl, rfl, rfl⟩ := h
    refine (unq_head s' c false a e0 w hn (.inl rfl)).mono ?_
    rintro q w' ⟨rfl, hb⟩
    exact ⟨rfl, hb⟩
  | true =>
    rw [if_pos rfl] at h
    by_cases h34 : c = 34
    · rw [if_pos h34] at h
      subst h34
      exact unq_body k s' a e0 (r1, r2, r3) w hs ht hn h
    · rw [if_neg h34] at h
      simp only [unqBad, Option.some.injEq, Prod.mk.injEq] at h
      obtain ⟨rfl, rfl, rfl⟩ := h
      refine (unq_head s' c true a e0 w hn (.inr h34)).mono ?_
      rintro q w' ⟨rfl, hb⟩
      exact ⟨rfl, hb⟩
end Go.Proofs.YtfmenojhojmedaaDoorG
