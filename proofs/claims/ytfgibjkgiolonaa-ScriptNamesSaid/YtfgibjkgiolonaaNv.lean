/- The chapter's example: its values, by computing. -/
import Derived.Test.YtfgibjkgiolonaaTm
set_option linter.unusedVariables false
set_option linter.unusedSimpArgs false
namespace Go.Proofs.YtfgibjkgiolonaaS
open Go.RowKit Go.Proofs.YtfgibjkgiolonaaW.PrintWords Go.Proofs.YtfgibjkgiolonaaX Go.Proofs.Ytfgibjkgiolonaa.PA Go.Proofs.YtfgibjkgiolonaaG Go.Proofs.YtfgibjkgiolonaaQ Go.Proofs.YtfgibjkgiolonaaI
def nBot : ByteArray := ⟨#[64, 98, 58, 120]⟩
def nX0 : S45 := ⟨false, ⟨6, 0, 0, false, ⟨#[]⟩⟩, []⟩
def nX1 : S45 := ⟨true, ⟨4, 0, 2, false, ⟨#[]⟩⟩, [512, 3]⟩
def nX2 : S45 := ⟨true, ⟨4, 0, 2, false, ⟨#[]⟩⟩, [601, 3]⟩
def nX3 : S45 := ⟨false, ⟨6, 0, 0, false, ⟨#[]⟩⟩, [1]⟩
theorem n_check : checkS nBot 8 [nX0, nX1] = (0, 0) := by decide +kernel
theorem n_bad : checkS nBot 8 [nX3] = (0, 2) := by decide +kernel
theorem n_far : checkS nBot 8 [nX0, nX2] = (1, 2) := by decide +kernel
theorem n_id : checkS ⟨#[98]⟩ 8 [] = (0, 11) := by decide +kernel
theorem n_arg : checkS nBot 0 [] = (0, 2) := by decide +kernel
theorem n_i : (readS ⟨#[4, 64, 98, 58, 120, 0, 8, 0, 1, 2, 0, 1, 6]⟩).2.2.2 = 5 := by decide +kernel
def nB : ByteArray := strOfNums (scrL nBot 8 [nX0, nX1])
theorem n_back : readS nB = (nBot, 8, [nX0, nX1], 0) := read_back (by rw [n_check])
theorem n_j : (readS (nB ++ ⟨#[120]⟩)).2.2.2 = 5 := by decide +kernel
theorem n_k : (readS (nB.extract 0 (nB.size - 1))).2.2.2 = 3 := by decide +kernel
theorem n_same : sameS nBot 8 [nX0, nX1] nBot 8 [nX0] = false := by decide +kernel
theorem n_few : fewCuts [nX0, nX1] ∧ fewCuts [nX3] ∧ fewCuts [nX0, nX2] ∧ fewCuts [nX0] ∧ fewCuts [] := by decide
end Go.Proofs.YtfgibjkgiolonaaS
