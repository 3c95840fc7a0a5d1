/- The examples of the chapter have the results that it states; invalid ones; lines: no condition. -/
import Derived.Test.YtfgbimcjcplegaaDoorPNx4
import Derived.Test.YtfgbimcjcplegaaDoorX1
set_option linter.unusedVariables false
set_option linter.unusedSimpArgs false
namespace Go.Proofs.YtfgbimcjcplegaaDoor.Pure
open Go.RowKit Go.Proofs.YtfgbimcjcplegaaDoor.PN Go.Proofs.YtfgbimcjcplegaaDoorW.PrintWords Go.Proofs.YtfgbimcjcplegaaDoorW.PrintLast Go.Proofs.YtfgbimcjcplegaaDoorG Go.Proofs.YtfgbimcjcplegaaDoorX
theorem lives_3 : outlawlaw21_lives.f 3 = some true := by
  unfold outlawlaw21_lives.f
  simp only [ByteArray.toList_eq]
  decide +kernel
theorem lives_ev : Ev (fun k => outlawlaw21_lives.f k) true := Ev.of (fun k => outlawlaw21_lives.mono k) lives_3
theorem times_a (m : Nat) (hm : m ≤ 6000) : ∃ T : ByteArray, T.size = m ∧ Ev (fun k => outlawkit_Times.f k ⟨#[97]⟩ (m : Int)) T := by
  have hone : (⟨#[97]⟩ : ByteArray).size = 1 := rfl
  have ht := times_ev (l0 := outlawkit_Times.l0) (fun k x0 x1 x5 => by simp only [outlawkit_Times.l0]) m ⟨#[97]⟩ ⟨#[]⟩ (by omega) (by rw [hone]; show 0 + _ ≤ _; omega)
  refine ⟨_, ?_, ht⟩
  rw [ByteArray.size_append, repS_size, hone]
  show 0 + m * 1 = m
  omega
theorem r0 : record_Read.f (⟨#[]⟩ : ByteArray) = some (0, 0, 0, false, ⟨#[]⟩, 3) := by decide +kernel
theorem r1 : record_Read.f (⟨#[7]⟩ : ByteArray) = some (0, 0, 0, false, ⟨#[]⟩, 9) := by decide +kernel
theorem r2 : record_Read.f (⟨#[3, 0]⟩ : ByteArray) = some (0, 0, 0, false, ⟨#[]⟩, 3) := by decide +kernel
theorem r3 : record_Read.f (⟨#[3, 0, 0, 0, 0, 0, 0, 1, 2, 2]⟩ : ByteArray) = some (0, 0, 0, false, ⟨#[]⟩, 5) := by decide +kernel
theorem r4 : record_Read.f (⟨#[6, 6]⟩ : ByteArray) = some (0, 0, 0, false, ⟨#[]⟩, 5) := by decide +kernel
theorem r5 : record_Read.f (⟨#[2, 0, 0, 0, 0, 0, 0, 16, 0]⟩ : ByteArray) = some (0, 0, 0, false, ⟨#[]⟩, 2) := by decide +kernel
theorem r6 : record_Read.f (⟨#[4, 255, 255, 255, 255, 255, 255, 255, 255]⟩ : ByteArray) = some (0, 0, 0, false, ⟨#[]⟩, 2) := by decide +kernel
theorem c5 : record_Command.f 5 (⟨#[64, 117, 58, 120]⟩ : ByteArray) = some (5, 5, 0, false, ⟨#[64, 117, 58, 120]⟩) := by decide +kernel
theorem tk : record_Take.f (⟨#[97]⟩ : ByteArray) = some (1, 0, 0, false, ⟨#[97]⟩) := by decide +kernel
theorem l1 : record_Line.f 5 5 0 false (⟨#[64, 117, 58, 120]⟩ : ByteArray) = some ⟨#[99, 111, 109, 109, 97, 110, 100, 32, 53, 32, 64, 117, 58, 120]⟩ := by decide +kernel
theorem l2 : record_Line.f 2 0 4097 false (⟨#[]⟩ : ByteArray) = some ⟨#[108, 111, 110, 103, 32, 52, 48, 57, 55]⟩ := by decide +kernel
theorem l3 : record_Line.f 3 0 (-3) false (⟨#[]⟩ : ByteArray) = some ⟨#[114, 101, 112, 108, 121, 32, 45, 51, 32, 110, 111]⟩ := by decide +kernel
theorem l4 : record_Line.f 0 0 0 false (⟨#[]⟩ : ByteArray) = some ⟨#[63]⟩ := by decide +kernel
theorem k1 : record_Check.f 4 0 0 false (⟨#[97]⟩ : ByteArray) = some 2 := by decide +kernel
theorem k2 (T : ByteArray) (h : T.size = 301) : record_Check.f 5 0 0 false T = some 4 := by
  unfold record_Check.f checkI errIf
  simp [h]
theorem RecordNames : outlawlaw21_RecordNames.Pure := by
  obtain ⟨T1, s1, K1, h1⟩ := times_a 4097 (by omega)
  obtain ⟨T2, s2, K2, h2⟩ := times_a 301 (by omega)
  obtain ⟨K3, h3⟩ := lives_ev
  refine ⟨K1 + K2 + K3, ?_⟩
  have e1 := h1 (K1 + K2 + K3) (by omega)
  have e2 := h2 (K1 + K2 + K3) (by omega)
  have e3 := h3 (K1 + K2 + K3) (by omega)
  have t1 : record_Take.f T1 = some (2, 0, 4097, false, ⟨#[]⟩) := by
    unfold record_Take.f
    rw [if_pos (by omega), s1]
    rfl
  simp only at e1 e2 e3
  unfold outlawlaw21_RecordNames.f
  rw [e3]
  simp only [Option.bind_some, if_true, r0, r1, r2, r3, r4, r5, r6, c5, tk, l1, l2, l3, l4, k1, e2, k2 T2 s2, ByteArray.toList_eq]
  rw [show ((4097 : Int)) = ((4097 : Nat) : Int) from rfl, e1]
  simp only [Option.bind_some, t1]
  simp [l1, l2, l3, l4, k1, tk]
  rw [show ((301 : Int)) = ((301 : Nat) : Int) from rfl, e2]
  simp [k2 T2 s2]
end Go.Proofs.YtfgbimcjcplegaaDoor.Pure
