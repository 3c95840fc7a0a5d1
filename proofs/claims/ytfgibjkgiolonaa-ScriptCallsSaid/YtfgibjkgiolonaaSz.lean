/- outlawref21.Bytes: an input's record. -/
import Derived.Test.YtfgibjkgiolonaaTm
import Derived.Test.YtfgibjkgiolonaaPAv1
set_option linter.unusedVariables false
set_option linter.unusedSimpArgs false
namespace Go.Proofs.YtfgibjkgiolonaaS
open Go.RowKit Go.Proofs.Ytfgibjkgiolonaa.PA Go.Proofs.YtfgibjkgiolonaaW.PrintWords Go.Proofs.YtfgibjkgiolonaaW.PrintLast Go.Proofs.YtfgibjkgiolonaaG Go.Proofs.YtfgibjkgiolonaaX Go.Proofs.YtfgibjkgiolonaaQ Go.Proofs.YtfgibjkgiolonaaR Go.Proofs.Ytfgibjkgiolonaa.PR
theorem big_val (m : Nat) (n : Int) (h0 : 0 ≤ n) (h1 : n ≤ 1152921504606846976) : outlawref20_Big.f (m + 9) n = some (strOfNums (eightL n)) := by
  unfold outlawref20_Big.f
  rw [if_pos (by decide)]
  simp only [outlawref20_Big.l0]
  simp [wrap64, IntKind.wrap_u64, List.replicate]
  simp [shr, eightL, IntKind.bits]
theorem str_app (a b : List Int) : strOfNums a ++ strOfNums b = strOfNums (a ++ b) := by
  apply ByteArray.ext
  simp [strOfNums, ByteArray.data_append]
theorem refbytes_val (m : Nat) (k c n : Int) (ok : Bool) (t : ByteArray) :
    outlawref21_Bytes.f (m + 9) k c n ok t = some (if checkI k c n ok t = 0 then (strOfNums (recL k c n ok t), 0) else ((⟨#[]⟩ : ByteArray), checkI k c n ok t)) := by
  unfold outlawref21_Bytes.f
  rw [Go.Proofs.YtfgibjkgiolonaaR.check_val (m + 3)]
  simp only [Option.bind_some]
  by_cases h : checkI k c n ok t = 0
  · rw [if_pos h, if_pos h]
    have hl := bytesOf_length t
    have h8 : ∀ n, (eightL n).length = 8 := fun _ => rfl
    have hT := str_bytesOf t
    have hn : 0 ≤ n ∧ n ≤ 1152921504606846976 := by
      rcases check_ok h with ⟨rfl, rfl, rfl, rfl, h1⟩ | ⟨rfl, rfl, h0, h1, h2⟩ | ⟨rfl, rfl, h0, h1, rfl, h2⟩ | ⟨rfl, rfl, h0, h1, rfl, h2⟩ | ⟨rfl, h0, h1, rfl, rfl, h2⟩ | ⟨rfl, rfl, rfl, rfl, h2⟩ <;> omega
    have hw : IntKind.u64.wrap n = n := by simp [IntKind.wrap_u64]; omega
    rw [hw, big_val m n hn.1 hn.2]
    simp only [Option.bind_some]
    have one1 : (⟨#[1]⟩ : ByteArray) = strOfNums [1] := rfl
    have one0 : (⟨#[0]⟩ : ByteArray) = strOfNums [0] := rfl
    rcases check_ok h with ⟨rfl, rfl, rfl, rfl, h1⟩ | ⟨rfl, rfl, h0, h1, h2⟩ | ⟨rfl, rfl, h0, h1, rfl, h2⟩ | ⟨rfl, rfl, h0, h1, rfl, h2⟩ | ⟨rfl, h0, h1, rfl, rfl, h2⟩ | ⟨rfl, rfl, rfl, rfl, h2⟩
    · rw [if_pos rfl, if_pos (by rw [str_size]; simp; omega)]
      conv => lhs; rw [← hT]
      rw [str_app]
      rfl
    · cases ok <;> simp [outlawref21_Bytes.j0, recL, str_size, h8, str_app, one0, one1]
    · simp [outlawref21_Bytes.j0, recL, str_size, h8, str_app]
    · simp [outlawref21_Bytes.j0, recL, str_size, h8, str_app]
    · have e : (strOfNums [5] ++ strOfNums [c % 256]) ++ t = strOfNums ([5] ++ [c % 256] ++ bytesOf t) := by
        conv => lhs; rw [← hT]
        rw [str_app, str_app]
      simp [outlawref21_Bytes.j0, recL, str_size, h8, str_app] at e ⊢
      refine ⟨by omega, e⟩
    · simp [outlawref21_Bytes.j0, recL]
  · rw [if_neg h, if_neg h]
theorem refrec_val (m : Nat) (x : S42) (h : checkI x.f0 x.f1 x.f2 x.f3 x.f4 = 0) : outlawref21_Bytes.f (m + 9) x.f0 x.f1 x.f2 x.f3 x.f4 = some (strOfNums (recS x), 0) := by
  rw [refbytes_val, if_pos h]; rfl
end Go.Proofs.YtfgibjkgiolonaaS
