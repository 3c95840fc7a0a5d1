/- outlawref25.Check answers what script.Check answers. -/
import Derived.Test.YtfgibjkgiolonaaUi
import Derived.Test.YtfgibjkgiolonaaPAx12
import Derived.Test.YtfgibjkgiolonaaS6
set_option linter.unusedVariables false
set_option linter.unusedSimpArgs false
namespace Go.Proofs.YtfgibjkgiolonaaS
open Go.RowKit Go.Proofs.YtfgibjkgiolonaaW.PrintWords Go.Proofs.YtfgibjkgiolonaaX Go.Proofs.YtfgibjkgiolonaaI Go.Proofs.Ytfgibjkgiolonaa.PA Go.Proofs.YtfgibjkgiolonaaG
open Go.Proofs.Ytfgibjkgiolonaa.PR (outlawref21_Check.f outlawref21_Check.mono)
theorem cuts_go (c0 : Bool) (c1 c2 c3 : Int) (c4 : Bool) (c5 : ByteArray) (l : List Int) (hl : l.length ≤ 16) : ∀ d i : Nat, l.length - i = d → i ≤ l.length → Ev (fun k => outlawref25_step.l0 k (i : Int) c0 c1 c2 c3 c4 c5 l) (if (l.drop i).any badCut = true then 2 else 0) := by
 intro d
 induction d with
 | zero =>
  intro i hd hi
  obtain rfl : i = l.length := by omega
  refine Ev.step (f := fun _ => some _) (fun k => ?_) (Ev.now _)
  rw [outlawref25_step.l0, if_neg (by omega), List.drop_length]
  rfl
 | succ d ih =>
  intro i hd hi
  have hlt : i < l.length := by omega
  have hw : wrap64 ((i : Int) + 1) = ((i + 1 : Nat) : Int) := by unfold wrap64; omega
  have hr : rd l (i : Int) = l[i] := by unfold rd; simp [List.getD_eq_getElem?_getD, List.getElem?_eq_getElem hlt]
  rw [List.drop_eq_getElem_cons hlt, List.any_cons]
  by_cases h1 : l[i] < 0
  ·rw [show badCut l[i] = true by unfold badCut; simp [h1], Bool.true_or, if_pos rfl]
   refine Ev.step (f := fun _ => some _) (fun k => ?_) (Ev.now _)
   rw [outlawref25_step.l0, if_pos (by omega), if_pos (by omega), hr, if_pos h1]
  by_cases h2 : l[i] > 600
  ·rw [show badCut l[i] = true by unfold badCut; simp [h2], Bool.true_or, if_pos rfl]
   refine Ev.step (f := fun _ => some _) (fun k => ?_) (Ev.now _)
   rw [outlawref25_step.l0, if_pos (by omega), if_pos (by omega), hr, if_neg h1, if_pos h2]
  rw [show badCut l[i] = false by unfold badCut; simp [h1, h2], Bool.false_or]
  refine Ev.step (f := fun k => outlawref25_step.l0 k ((i + 1 : Nat) : Int) c0 c1 c2 c3 c4 c5 l) (fun k => ?_) (ih (i + 1) (by omega) (by omega))
  rw [outlawref25_step.l0, if_pos (by omega), if_pos (by omega), hr, if_neg h1, if_neg h2, hw]
theorem refstep_ev (x : S45) (hx : x.f2.length ≤ 1000000000000) : Ev (fun k => outlawref25_step.f k x.f0 x.f1.f0 x.f1.f1 x.f1.f2 x.f1.f3 x.f1.f4 x.f2) (wrongS x) := by
 unfold outlawref25_step.f wrongS wrongI
 refine Ev.bind (f := fun k t437 => _) (Ev.of (outlawref21_Check.mono _ _ _ _ _) (Go.Proofs.YtfgibjkgiolonaaR.check_val 0 x.f1.f0 x.f1.f1 x.f1.f2 x.f1.f3 x.f1.f4)) ?_
 by_cases hc : checkI x.f1.f0 x.f1.f1 x.f1.f2 x.f1.f3 x.f1.f4 = 0
 ·rw [if_pos hc]
  simp only [if_pos hc]
  have j1 : Ev (fun k => outlawref25_step.j0 k true x.f0 x.f1.f0 x.f1.f1 x.f1.f2 x.f1.f3 x.f1.f4 x.f2) 2 :=
   Ev.step (f := fun _ => some _) (fun k => by rw [outlawref25_step.j0, if_pos rfl]) (Ev.now _)
  have j0 : Ev (fun k => outlawref25_step.j0 k false x.f0 x.f1.f0 x.f1.f1 x.f1.f2 x.f1.f3 x.f1.f4 x.f2) (if 16 < x.f2.length then 4 else if x.f2.any badCut = true then 2 else 0) := by
   by_cases h16 : 16 < x.f2.length
   ·rw [if_pos h16]
    exact Ev.step (f := fun _ => some _) (fun k => by rw [outlawref25_step.j0, if_neg (by decide), if_pos (by omega)]) (Ev.now _)
   ·rw [if_neg h16]
    have := cuts_go x.f0 x.f1.f0 x.f1.f1 x.f1.f2 x.f1.f3 x.f1.f4 x.f2 (by omega) _ 0 rfl (Nat.zero_le _)
    rw [List.drop_zero] at this
    exact Ev.step (f := fun k => outlawref25_step.l0 k ((0 : Nat) : Int) x.f0 x.f1.f0 x.f1.f1 x.f1.f2 x.f1.f3 x.f1.f4 x.f2) (fun k => by rw [outlawref25_step.j0, if_neg (by decide), if_neg (by omega)]; rfl) this
  unfold errCuts
  cases hf : x.f0 with
  | true =>
   rw [if_neg (by simp)]
   rw [hf] at j0
   exact Ev.congr (fun k => by rw [if_pos rfl]) j0
  | false =>
   by_cases h0 : 0 < x.f2.length
   ·rw [if_pos ⟨rfl, h0⟩]
    rw [hf] at j1
    exact Ev.congr (fun k => by rw [if_neg (by decide), show decide ((x.f2.length : Int) > 0) = true from by simpa using h0]) j1
   ·rw [if_neg (fun h => h0 h.2)]
    rw [hf] at j0
    exact Ev.congr (fun k => by rw [if_neg (by decide), show decide ((x.f2.length : Int) > 0) = false from by simpa using h0]) j0
 ·rw [if_neg hc]
  simp only [if_neg hc]
  exact Ev.now _
theorem refcheck_go (bot : ByteArray) (sec : Int) (l : List S45) (hf : fewCuts l) (hl : l.length ≤ 300) : ∀ d i : Nat, l.length - i = d → i ≤ l.length → Ev (fun k => outlawref25_Check.l0 k (i : Int) bot sec l) (firstBad i (l.drop i)) := by
 intro d
 induction d with
 | zero =>
  intro i hd hi
  obtain rfl : i = l.length := by omega
  refine Ev.step (f := fun _ => some _) (fun k => ?_) (Ev.now _)
  rw [outlawref25_Check.l0, if_neg (by omega), List.drop_length]
  rfl
 | succ d ih =>
  intro i hd hi
  have hlt : i < l.length := by omega
  have hw : wrap64 ((i : Int) + 1) = ((i + 1 : Nat) : Int) := by unfold wrap64; omega
  have hrd : rd_T45 l (i : Int) = l[i] := by
   unfold rd_T45
   simp [List.getD_eq_getElem?_getD, List.getElem?_eq_getElem hlt]
  rw [List.drop_eq_getElem_cons hlt]
  unfold firstBad
  refine Ev.step (f := fun k => (outlawref25_step.f k l[i].f0 l[i].f1.f0 l[i].f1.f1 l[i].f1.f2 l[i].f1.f3 l[i].f1.f4 l[i].f2).bind fun t443 => (if t443 = 0 then (outlawref25_Check.l0 k ((i + 1 : Nat) : Int) bot sec l) else (some ((i : Int), t443)))) (fun k => ?_) ?_
  ·rw [outlawref25_Check.l0, if_pos (by omega), if_pos (by omega), hrd, hw]
  refine Ev.bind (f := fun k t443 => _) (refstep_ev l[i] (hf _ (List.getElem_mem hlt))) ?_
  by_cases hz : wrongS l[i] = 0
  ·rw [if_pos hz]
   exact Ev.congr (fun k => by rw [if_pos hz]) (ih (i + 1) (by omega) (by omega))
  ·rw [if_neg hz]
   exact Ev.congr (f := fun _ => some _) (fun k => by rw [if_neg hz]) (Ev.now _)
theorem refcheck_ev (bot : ByteArray) (sec : Int) (l : List S45) (hf : fewCuts l) (hb : bot.size ≤ 140737488351232) : Ev (fun k => outlawref25_Check.f k bot sec l) (checkS bot sec l) := by
 unfold outlawref25_Check.f checkS headS
 refine Ev.bind (f := fun k t441 => _) (Go.Proofs.YtfgibjkgiolonaaU.user_ev bot hb) ?_
 cases hu : userI bot with
 | false => simpa using Ev.now _
 | true =>
  simp only [if_true]
  have j1 : Ev (fun k => outlawref25_Check.j0 k true bot sec l) (0, 2) := Ev.step (f := fun _ => some _) (fun k => by rw [outlawref25_Check.j0, if_pos rfl]) (Ev.now _)
  by_cases h1 : sec < 1
  ·simp only [if_pos h1]
   simpa [h1] using j1
  by_cases h2 : 1024 < sec
  ·simp only [if_neg h1, show decide (sec > 1024) = true from by simpa using h2]
   simpa [h1, h2] using j1
  simp only [if_neg h1, show decide (sec > 1024) = false from by simpa using h2]
  by_cases h3 : 300 < l.length
  ·have : Ev (fun k => outlawref25_Check.j0 k false bot sec l) (0, 4) := Ev.step (f := fun _ => some _) (fun k => by rw [outlawref25_Check.j0, if_neg (by decide), if_pos (by omega)]) (Ev.now _)
   simpa [h1, h2, h3] using this
  ·have h := refcheck_go bot sec l hf (by omega) _ 0 rfl (Nat.zero_le _)
   rw [List.drop_zero] at h
   have : Ev (fun k => outlawref25_Check.j0 k false bot sec l) (firstBad 0 l) := Ev.step (f := fun k => outlawref25_Check.l0 k ((0 : Nat) : Int) bot sec l) (fun k => by rw [outlawref25_Check.j0, if_neg (by decide), if_neg (by omega)]; rfl) h
   simpa [h1, h2, h3] using this
end Go.Proofs.YtfgibjkgiolonaaS
