import Derived.Test.YtfmenojhojmedaaDoorMe
import Derived.Test.YtfmenojhojmedaaDoorMV
set_option linter.unusedVariables false
set_option linter.unusedSimpArgs false
namespace Go.Proofs.YtfmenojhojmedaaDoor.Pure
open Go.RowKit Go.Lib Go.Proofs.YtfmenojhojmedaaDoor.PB Go.Proofs.YtfmenojhojmedaaDoorG Go.Proofs.YtfmenojhojmedaaDoorX Go.Proofs.YtfmenojhojmedaaDoorU
open Go.Proofs.YtfmenojhojmedaaDoorV hiding size_list valid_val lives_val
open Go.Proofs.YtfmenojhojmedaaDoorW.PrintWords hiding encs encs_append
theorem livesC : outlawlaw01_lives.f = some true := by kernel_rfl
theorem ScanCalls : outlawlaw01_ScanCalls.Pure := by
  intro a0 a1 _ _
  by_cases c1 : (a0.size : Int) > 2000
  · refine ⟨0, ?_⟩
    unfold outlawlaw01_ScanCalls.f
    rw [livesC, Option.bind_some]
    exact (if_pos rfl).trans (if_pos c1)
  have hs : a0.size ≤ 1000000 := by omega
  obtain ⟨q, hq, K1, h1⟩ := quote_ref (s := a0) (by omega)
  obtain ⟨K2, h2⟩ := unq_val hs
  obtain ⟨K3, h3⟩ := refunq_ev hs
  obtain ⟨K4, h4⟩ := readnum_ref hs
  obtain ⟨n, hn, K5, h5⟩ := number_ref a1
  obtain ⟨p, hp, K6, h6⟩ := space_ref hs
  obtain ⟨K7, h7⟩ := word_ref hs
  obtain ⟨K8, h8⟩ := valid_ref hs
  have hrd : scan_ReadNumber.f a0 = some (readS a0) := if_pos (by omega)
  have hv : scan_Valid.f a0 = some (validD a0.data.toList) := by
    unfold scan_Valid.f utf8_ValidString.f
    rw [if_pos (by omega)]
    rfl
  refine ⟨K1 + K2 + K3 + K4 + K5 + K6 + K7 + K8, ?_⟩
  have e1 : outlawref01_Quote.f (K1 + K2 + K3 + K4 + K5 + K6 + K7 + K8) a0 = some q := h1 _ (by omega)
  have e2 : scan_Unquote.f (K1 + K2 + K3 + K4 + K5 + K6 + K7 + K8) a0 = some (UnqAns a0 (litL a0.data.toList)) := h2 _ (by omega)
  have e3 : outlawref01_Unquote.f (K1 + K2 + K3 + K4 + K5 + K6 + K7 + K8) a0 = some (UnqAns a0 (litL a0.data.toList)) := h3 _ (by omega)
  have e4 : outlawref01_ReadNumber.f (K1 + K2 + K3 + K4 + K5 + K6 + K7 + K8) a0 = some (readS a0) := h4 _ (by omega)
  have e5 : outlawref01_Number.f (K1 + K2 + K3 + K4 + K5 + K6 + K7 + K8) a1 = some n := h5 _ (by omega)
  have e6 : outlawref01_Space.f (K1 + K2 + K3 + K4 + K5 + K6 + K7 + K8) a0 = some p := h6 _ (by omega)
  have e7 : outlawref01_Word.f (K1 + K2 + K3 + K4 + K5 + K6 + K7 + K8) a0 = some (wordS a0) := h7 _ (by omega)
  have e8 : outlawref01_Valid.f (K1 + K2 + K3 + K4 + K5 + K6 + K7 + K8) a0 = some (validD a0.data.toList) := h8 _ (by omega)
  have hw : scan_Word.f a0 = some (wordS a0) := rfl
  unfold outlawlaw01_ScanCalls.f
  rw [livesC, Option.bind_some]
  refine (if_pos rfl).trans ((if_neg c1).trans ?_)
  generalize UnqAns a0 (litL a0.data.toList) = u at e2 e3
  rw [hq, Option.bind_some, e1, Option.bind_some, e2, Option.bind_some, e3, Option.bind_some, hrd, Option.bind_some, e4, Option.bind_some, hn, Option.bind_some, e5, Option.bind_some, hp, Option.bind_some, e6, Option.bind_some, hw, Option.bind_some, e7, Option.bind_some, hv, Option.bind_some, e8, Option.bind_some]
  simp
end Go.Proofs.YtfmenojhojmedaaDoor.Pure
