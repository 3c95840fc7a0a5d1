/- scan.ReadNumber's contract, in the form that the print takes as given. -/
import Derived.Test.YtfmenojhojmedaaDoorC4
import Derived.Test.YtfmenojhojmedaaDoorShelf
set_option linter.unusedVariables false
set_option linter.unusedSimpArgs false
namespace Go.Proofs.YtfmenojhojmedaaDoorG
open Go.RowKit Go.Proofs Go.Proofs.YtfmenojhojmedaaDoorX Go.Proofs.YtfmenojhojmedaaDoorB Go.Proofs.YtfmenojhojmedaaDoorW.PrintWords
theorem read_empty (s D : ByteArray) (w : World) (hs : s.size ≤ 140737488351232) (hc : Calls Tryd.prog 36 #[.string s, .string ⟨#[45]⟩] w fun e w' => e = .returned (.string D) ∧ w' = w) (hD : D.size ≤ s.size) (h0 : D.toList.isEmpty = true) :
    Calls Tryd.prog 17 #[.string s] w fun e w' => e = .returned (.tuple #[.int .i64 0, .int .i64 0, .int .i64 3]) ∧ w' = w := by
  have HC := Lib.hid hc
  clear hc
  obtain ⟨less, hl⟩ : ∃ b, decide (D.size < s.size) = b := ⟨_, rfl⟩
  go_enter Tryd.func17, Tryd.ntmps17
  go_wp2
  go_step3
  go_wp2_with (go_at_call 36; refine HC.out.mono ?_; rintro e w' ⟨rfl, rfl⟩)
  all_goals (try rw [Exit.noGoto_ret])
  all_goals go_ret3
  all_goals exact ⟨rfl, rfl⟩
/-- What stands behind the sign. -/
def behind (s : ByteArray) : List UInt8 := Lib.trimPrefix s.data.toList [45]
def readS (s : ByteArray) : Int × Int × Int := if behind s = [] then (0, 0, 3) else readR (behind s) (decide ((behind s).length < s.size))
theorem read_all (s : ByteArray) (w : World) (hs : s.size ≤ 140737488351232) :
    Calls Tryd.prog 17 #[.string s] w fun e w' => e = .returned (.tuple #[.int .i64 (readS s).1, .int .i64 (readS s).2.1, .int .i64 (readS s).2.2]) ∧ w' = w := by
  have hc := Tryd.strings_TrimPrefix s ⟨#[45]⟩ w
  have e1 : (⟨(Lib.trimPrefix s.data.toList (⟨#[45]⟩ : ByteArray).data.toList).toArray⟩ : ByteArray) = ⟨(behind s).toArray⟩ := rfl
  rw [e1] at hc
  have hl : (⟨(behind s).toArray⟩ : ByteArray).data.toList = behind s := by simp
  have hsz : (⟨(behind s).toArray⟩ : ByteArray).size = (behind s).length := by rw [← size_list, hl]
  have hle : (behind s).length ≤ s.size := by
    unfold behind Lib.trimPrefix
    rw [← size_list]
    split
    · rw [List.length_drop]; omega
    · exact Nat.le_refl _
  unfold readS
  by_cases h : behind s = []
  · rw [if_pos h]
    exact read_empty s _ w hs hc (by rw [hsz]; exact hle) (by rw [Lib.toList_data, hl, h]; rfl)
  · rw [if_neg h]
    have := read_any s _ (decide ((behind s).length < s.size)) w hs hc (by rw [hsz]) (by rw [hsz]; exact hle) (by rw [Lib.toList_data, hl]; cases hh : behind s with | nil => exact absurd hh h | cons a b => rfl)
    rw [hl] at this
    exact this
def scan_ReadNumber.f (s : ByteArray) : Option (Int × Int × Int) := if s.size ≤ 140737488351232 then some (readS s) else none
theorem scan_ReadNumber.calls (s : ByteArray) (r1 r2 r3 : Int) (w : World) (h : scan_ReadNumber.f s = some (r1, r2, r3)) :
    Calls Tryd.prog 17 #[.string s] w fun e w' => e = .returned (.tuple #[.int .i64 r1, .int .i64 r2, .int .i64 r3]) ∧ Drawn0 w w' := by
  unfold scan_ReadNumber.f at h
  by_cases hs : s.size ≤ 140737488351232
  · rw [if_pos hs] at h
    have hv := Option.some.inj h
    refine (read_all s w hs).mono ?_
    rintro e w' ⟨rfl, rfl⟩
    rw [hv]
    exact ⟨rfl, ⟨0, rfl⟩⟩
  · rw [if_neg hs] at h; simp at h
end Go.Proofs.YtfmenojhojmedaaDoorG
