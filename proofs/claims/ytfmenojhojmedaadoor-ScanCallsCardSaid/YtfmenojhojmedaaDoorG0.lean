/- The contracts of the library's functions that chapter 1 calls, in the form in which the printed texts call them. -/
import Derived.Test.YtfmenojhojmedaaDoorC1
import Derived.Test.YtfmenojhojmedaaDoorWWords
import Derived.Lib.ItoaLen
import Derived.Lib.SmallJoins
import Derived.Lib.AppendIntMem
set_option linter.unusedVariables false
set_option linter.unusedSimpArgs false
namespace Go.Proofs.YtfmenojhojmedaaDoorG
open Go.RowKit Go.Proofs Go.Proofs.YtfmenojhojmedaaDoorX Go.Proofs.YtfmenojhojmedaaDoorB Go.Proofs.YtfmenojhojmedaaDoorW.PrintWords
def strings_IndexByte.f (s : ByteArray) (c : Int) : Option Int := some (Lib.indexByte s.data.toList c.toNat.toUInt8)
theorem strings_IndexByte.calls (s : ByteArray) (c : Int) (r : Int) (w : World) (h : strings_IndexByte.f s c = some r) :
    Calls Tryd.prog 72 #[.string s, .int .u8 c] w fun e w' => e = .returned (.int .i64 r) ∧ Drawn0 w w' := by
  obtain rfl := Option.some.inj h
  refine (Tryd.strings_IndexByte s c w).mono ?_
  rintro e w' ⟨rfl, rfl⟩
  exact ⟨rfl, ⟨0, rfl⟩⟩
def utf8_ValidString.f (s : ByteArray) : Option Bool := if s.size ≤ 9223372036854775807 then some (Lib.validD s.data.toList) else none
theorem utf8_ValidString.calls (s : ByteArray) (r : Bool) (w : World) (ht : TabU w) (h : utf8_ValidString.f s = some r) :
    Calls Tryd.prog 31 #[.string s] w fun e w' => e = .returned (.bool r) ∧ Below w.heap.size w w' := by
  unfold utf8_ValidString.f at h
  by_cases hs : s.size ≤ 9223372036854775807
  · rw [if_pos hs] at h
    obtain rfl := Option.some.inj h
    exact Tryd.utf8_ValidString s w hs ht
  · rw [if_neg hs] at h
    simp at h
/-- Blanks. -/
def blanks : ByteArray := ⟨#[9, 10, 13, 32]⟩
def strings_TrimLeft.f (s c : ByteArray) : Option ByteArray := if c = blanks then some ⟨(Lib.trimLeftS s.data.toList blanks.data.toList).toArray⟩ else none
theorem strings_TrimLeft.calls (s c : ByteArray) (r : ByteArray) (w : World) (h : strings_TrimLeft.f s c = some r) :
    Calls Tryd.prog 37 #[.string s, .string c] w fun e w' => e = .returned (.string r) ∧ Below w.heap.size w w' := by
  unfold strings_TrimLeft.f at h
  by_cases hs : c = blanks
  · rw [if_pos hs] at h
    obtain rfl := Option.some.inj h
    subst hs
    exact Tryd.strings_TrimLeft_laid s blanks w (by decide) (ascii_of_all (by decide))
  · rw [if_neg hs] at h
    simp at h
def TabN (w : World) : Prop := Lib.TabIs Tryd.prog w "internal/strconv.uint64pow10" .u64 Lib.pow10Tab
theorem TabN.at {w w' : World} (h : TabN w) (hb : Below w.heap.size w w') : TabN w' := Go.Joins.tab_stays (g := 2) (by kernel_rfl) h hb (Nat.le_refl _)
def itoaS (n : Int) : ByteArray := ⟨(Lib.itoa n).toArray⟩
theorem grow_below {w w' : World} (h : ∃ k os, w' = Go.Sort.grow (w.drewN k) os) : Below w.heap.size w w' := by
  obtain ⟨k, os, rfl⟩ := h
  exact Lib.below_grow _ w (Nat.le_refl _) k os
def strconv_FormatInt.f (n b : Int) : Option ByteArray := if -9223372036854775808 ≤ n ∧ n ≤ 9223372036854775807 ∧ b = 10 then some (itoaS n) else none
theorem strconv_FormatInt.calls (n b : Int) (r : ByteArray) (w : World) (ht : TabN w) (h : strconv_FormatInt.f n b = some r) :
    Calls Tryd.prog 35 #[.int .i64 n, .int .i64 b] w fun e w' => e = .returned (.string r) ∧ Below w.heap.size w w' := by
  unfold strconv_FormatInt.f at h
  by_cases hs : -9223372036854775808 ≤ n ∧ n ≤ 9223372036854775807 ∧ b = 10
  · rw [if_pos hs] at h
    obtain rfl := Option.some.inj h
    obtain ⟨h0, h1, rfl⟩ := hs
    refine (Tryd.strconv_FormatInt_10 n h0 h1 w ht).mono ?_
    rintro e w' ⟨rfl, h⟩
    exact ⟨rfl, grow_below h⟩
  · rw [if_neg hs] at h
    simp at h
def scan_Quote.f (s : ByteArray) : Option (ByteArray × Int) := if s.size ≤ 1000000 then some (if Lib.validD s.data.toList then (⟨(qAll s).toArray⟩, 0) else (⟨#[]⟩, 6)) else none
theorem scan_Quote.calls (s : ByteArray) (r1 : ByteArray) (r2 : Int) (w : World) (ht : TabU w) (h : scan_Quote.f s = some (r1, r2)) :
    Calls Tryd.prog 10 #[.string s] w fun e w' => e = .returned (.tuple #[.string r1, .int .i64 r2]) ∧ Below w.heap.size w w' := by
  unfold scan_Quote.f at h
  by_cases hs : s.size ≤ 1000000
  · rw [if_pos hs] at h
    have h2 := Option.some.inj h
    by_cases hv : Lib.validD s.data.toList = true
    · rw [if_pos hv] at h2
      simp only [Prod.mk.injEq] at h2
      obtain ⟨rfl, rfl⟩ := h2
      exact quote_ok s w hs ht hv
    · rw [if_neg hv] at h2
      simp only [Prod.mk.injEq] at h2
      obtain ⟨rfl, rfl⟩ := h2
      exact quote_bad s w (by omega) ht (Bool.eq_false_iff.2 hv)
  · rw [if_neg hs] at h
    simp at h
end Go.Proofs.YtfmenojhojmedaaDoorG
