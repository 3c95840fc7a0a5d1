/- script.Check, as a plain answer. -/
import Derived.Test.YtfgibjkgiolonaaPAx2
set_option linter.unusedVariables false
set_option linter.unusedSimpArgs false
namespace Go.Proofs.YtfgibjkgiolonaaS
open Go.RowKit Go.Proofs.YtfgibjkgiolonaaW.PrintWords Go.Proofs.YtfgibjkgiolonaaW.PrintLast Go.Proofs.YtfgibjkgiolonaaW.PrintMore Go.Proofs.YtfgibjkgiolonaaX Go.Proofs.Ytfgibjkgiolonaa.PA Go.Proofs.YtfgibjkgiolonaaG Go.Proofs.YtfgibjkgiolonaaI
def wrongS (x : S45) : Int := wrongI x.f0 x.f1.f0 x.f1.f1 x.f1.f2 x.f1.f3 x.f1.f4 x.f2
def firstBad : Nat → List S45 → Int × Int
 | _, [] => (0, 0)
 | i, x :: r => if wrongS x = 0 then firstBad (i + 1) r else ((i : Int), wrongS x)
def headS (bot : ByteArray) (sec : Int) (n : Nat) : Int := if userI bot = false then 11 else if sec < 1 ∨ 1024 < sec then 2 else if 300 < n then 4 else 0
def checkS (bot : ByteArray) (sec : Int) (l : List S45) : Int × Int := if headS bot sec l.length = 0 then firstBad 0 l else (0, headS bot sec l.length)
def fewCuts (l : List S45) : Prop := ∀ x ∈ l, x.f2.length ≤ 1000000000000
theorem wrong_val (x : S45) (h : x.f2.length ≤ 1000000000000) : script_wrong.f x.f0 x.f1.f0 x.f1.f1 x.f1.f2 x.f1.f3 x.f1.f4 x.f2 = some (wrongS x) := if_pos h
theorem loop_val (l : List S45) (hf : fewCuts l) (hl : l.length ≤ 300) : ∀ (d m i : Nat), l.length - i = d → i ≤ l.length → script_Check.l0 (m + d + 1) l (l.length : Int) (i : Int) = some (firstBad i (l.drop i)) := by
 intro d
 induction d with
 | zero =>
  intro m i hd hi
  obtain rfl : i = l.length := by omega
  simp only [script_Check.l0]
  rw [if_neg (by omega), List.drop_length]
  rfl
 | succ d ih =>
  intro m i hd hi
  have hlt : i < l.length := by omega
  have hdrop : l.drop i = l[i] :: l.drop (i + 1) := List.drop_eq_getElem_cons hlt
  have hrd : rd_T45 l (i : Int) = l[i] := by
   unfold rd_T45
   simp [List.getD_eq_getElem?_getD, List.getElem?_eq_getElem hlt]
  rw [show m + (d + 1) + 1 = (m + d + 1) + 1 by omega]
  simp only [script_Check.l0]
  rw [if_pos (by omega), if_pos (by omega), if_pos (by omega), hrd, wrong_val _ (hf _ (List.getElem_mem hlt))]
  simp only [Option.bind_some]
  rw [hdrop]
  unfold firstBad
  by_cases hw : wrongS l[i] = 0
  ·rw [if_pos hw, if_pos hw, show wrap64 ((i : Int) + 1) = ((i + 1 : Nat) : Int) by unfold wrap64; omega]
   exact ih m (i + 1) (by omega) (by omega)
  ·rw [if_neg hw, if_neg hw]
theorem check_val (m : Nat) (bot : ByteArray) (sec : Int) (l : List S45) (hf : fewCuts l) (hb : bot.size ≤ 140737488351232) (hm : 302 ≤ m) : script_Check.f m bot sec l = some (checkS bot sec l) := by
 unfold script_Check.f
 rw [show ident_User.f bot = some (userI bot) from if_pos hb]
 simp only [Option.bind_some]
 unfold checkS headS
 obtain ⟨m, rfl⟩ : ∃ q, m = q + 1 := ⟨m - 1, by omega⟩
 cases hu : userI bot with
 | false => simp
 | true =>
  simp only [if_true]
  by_cases h1 : sec < 1
  ·rw [if_pos h1]
   simp [script_Check.j0, h1]
  ·rw [if_neg h1]
   by_cases h2 : sec > 1024
   ·rw [decide_eq_true h2]
    have : 1024 < sec := h2
    simp [script_Check.j0, this]
   ·rw [decide_eq_false h2]
    have h3 : ¬ (sec < 1 ∨ 1024 < sec) := by omega
    simp only [script_Check.j0]
    rw [if_neg (by decide)]
    by_cases h4 : (l.length : Int) > 300
    ·have : 300 < l.length := by omega
     rw [if_pos h4]
     simp [h3, this]
    ·have : ¬ 300 < l.length := by omega
     rw [if_neg h4]
     have hv := loop_val l hf (by omega) l.length (m - l.length - 1) 0 (by omega) (Nat.zero_le _)
     rw [show m - l.length - 1 + l.length + 1 = m by omega] at hv
     simp [h3, this] at hv ⊢
     exact hv
end Go.Proofs.YtfgibjkgiolonaaS
