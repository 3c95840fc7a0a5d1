/- The law AuditCalls: each call of the code answers as the document's. -/
import Derived.Test.YtlmhgnkkdjpkcaaDoorP6
import Derived.Test.YtlmhgnkkdjpkcaaDoorPAx19
set_option linter.unusedVariables false
set_option linter.unusedSimpArgs false
namespace Go.Proofs.YtlmhgnkkdjpkcaaDoorG
open Go.RowKit Go.Proofs.YtlmhgnkkdjpkcaaDoor.PA Go.Proofs.YtlmhgnkkdjpkcaaDoorW.PrintWords
theorem calls_go (l : List S30) (x1 x2 : ByteArray) (x3 : Int) (hl : l.length ≤ 1000) (hok : ∀ n ∈ l, TextOk n) : ∀ d i : Nat, l.length - i = d → i ≤ l.length → Ev (fun k => outlawlaw23_AuditCalls.l0 k l x1 x2 x3 (i : Int)) true := by
 intro d
 induction d with
 | zero =>
  intro i hd hi
  refine Ev.step (f := fun k => tailF k l x1 x2 x3) (fun k => ?_) (tail_ev l x1 x2 x3 hl hok)
  rw [outlawlaw23_AuditCalls.l0, if_neg (by omega)]
  rfl
 | succ d ih =>
  intro i hd hi
  have hlt : i < l.length := by omega
  have hw := wrap_nat hlt (by omega)
  have hn : TextOk l[i] := hok _ (List.getElem_mem hlt)
  refine Ev.step (f := fun k => (outlawref23_Line.f k l[i].f0 l[i].f1 l[i].f2.f0 l[i].f2.f1 l[i].f2.f2 l[i].f2.f3 l[i].f2.f4 l[i].f3 l[i].f4).bind fun t259 => (if (noteS l[i]).toList = t259.toList then (outlawlaw23_AuditCalls.l0 k l x1 x2 x3 ((i + 1 : Nat) : Int)) else (some false))) (fun k => ?_) ?_
  ·rw [outlawlaw23_AuditCalls.l0, if_pos (by omega), if_pos (by omega), rd_nat l hlt, line_is hn, Option.bind_some, hw]
  ·exact Ev.bind (f := fun k t259 => (if (noteS l[i]).toList = t259.toList then (outlawlaw23_AuditCalls.l0 k l x1 x2 x3 ((i + 1 : Nat) : Int)) else (some false))) (rnote_ev hn) (Ev.congr (fun k => by rw [if_pos rfl]) (ih (i + 1) (by omega) (by omega)))
theorem auditCalls (l : List S30) (a1 a2 : ByteArray) (a3 : Int) (hl : l.length ≤ 9223372036854775807) (hf : ∀ n ∈ l, FitN n) : Ev (fun k => outlawlaw23_AuditCalls.f k l a1 a2 a3) true := by
 unfold outlawlaw23_AuditCalls.f
 refine Ev.bind (f := fun k t254 => _) lives_ev ?_
 simp only [if_true]
 refine Ev.bind (f := fun k t255 => _) (light_ev l 60 hl) ?_
 have yes : ∀ b, (l.all lightB && decide ((l.length : Int) ≤ 60)) = true → Ev (fun k => outlawlaw23_AuditCalls.j0 k l a1 a2 a3 b) true := fun b hq => by
  simp only [Bool.and_eq_true, decide_eq_true_eq, List.all_eq_true] at hq
  cases b with
  | true => exact Ev.step (f := fun _ => some true) (fun k => by rw [outlawlaw23_AuditCalls.j0, if_pos rfl]) (Ev.now _)
  | false => exact Ev.step (f := fun k => outlawlaw23_AuditCalls.l0 k l a1 a2 a3 ((0 : Nat) : Int)) (fun k => by rw [outlawlaw23_AuditCalls.j0, if_neg (by decide)]; rfl) (calls_go l a1 a2 a3 (by omega) (fun n hn => textOk_of (hq.1 n hn) (hf n hn)) _ 0 rfl (Nat.zero_le _))
 by_cases hq : (l.all lightB && decide ((l.length : Int) ≤ 60)) = true
 ·by_cases h1 : (a1.size : Int) > 300
  ·exact Ev.congr (fun k => by rw [if_pos hq, if_pos h1]) (yes true hq)
  ·exact Ev.congr (fun k => by rw [if_pos hq, if_neg h1]) (yes (decide ((a2.size : Int) > 300)) hq)
 ·refine Ev.congr (f := fun k => outlawlaw23_AuditCalls.j0 k l a1 a2 a3 true) (fun k => by rw [if_neg hq]) ?_
  exact Ev.step (f := fun _ => some true) (fun k => by rw [outlawlaw23_AuditCalls.j0, if_pos rfl]) (Ev.now _)
end Go.Proofs.YtlmhgnkkdjpkcaaDoorG
