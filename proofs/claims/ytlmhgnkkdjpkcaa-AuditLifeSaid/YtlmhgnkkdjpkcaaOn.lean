/- Arguments that are notes, opened. -/
import Derived.Test.YtlmhgnkkdjpkcaaOpq
import Derived.Test.YtlmhgnkkdjpkcaaPAx0
set_option linter.unusedVariables false
set_option linter.unusedSimpArgs false
namespace Go.Proofs.YtlmhgnkkdjpkcaaO
open Go.ChangeShapes Go.WideShapes Go.RowKit Go.Deep Go.Proofs.YtlmhgnkkdjpkcaaW.PrintWords Go.Proofs.YtlmhgnkkdjpkcaaW.PrintWords.Kd Go.Proofs.Ytlmhgnkkdjpkcaa.PA
section
variable {W : World}
theorem opens29 : Opens Try.prog W 29 k29 := fun {H enc base spare held fuel cs x} h => by
  obtain ⟨hl, hf⟩ := field_of Try.underlying29 h
  exact Part.whole (hl.trans (by kernel_rfl)) (Part.iso (fun y => ⟨y.1, y.2.1, y.2.2.1, y.2.2.2.1, y.2.2.2.2⟩) (fun _ => rfl) (Part.pair (hf (Kd.int .i64) 0 _ 1 0 rfl (by kernel_rfl) rfl (opens_int Try.underlying3)) (Part.pair (hf Kd.string 1 _ 1 1 rfl (by kernel_rfl) rfl (opens_string Try.underlying9)) (Part.pair (hf Kd.string 2 _ 1 2 rfl (by kernel_rfl) rfl (opens_string Try.underlying9)) (Part.pair (hf Kd.string 3 _ 1 3 rfl (by kernel_rfl) rfl (opens_string Try.underlying9)) (hf Kd.string 4 _ 1 4 rfl (by kernel_rfl) rfl (opens_string Try.underlying9)))))))
theorem opens31 : Opens Try.prog W 31 k31 := fun {H enc base spare held fuel cs x} h => by
  obtain ⟨hl, hf⟩ := field_of Try.underlying31 h
  exact Part.whole (hl.trans (by kernel_rfl)) (Part.iso (fun y => ⟨y.1, y.2.1, y.2.2.1, y.2.2.2.1, y.2.2.2.2⟩) (fun _ => rfl) (Part.pair (hf (Kd.int .i64) 0 _ 1 0 rfl (by kernel_rfl) rfl (opens_int Try.underlying3)) (Part.pair (hf (Kd.int .i64) 1 _ 1 1 rfl (by kernel_rfl) rfl (opens_int Try.underlying2)) (Part.pair (hf k29 2 _ 5 2 rfl (by kernel_rfl) rfl opens29) (Part.pair (hf (Kd.int .i64) 3 _ 1 7 rfl (by kernel_rfl) rfl (opens_int Try.underlying3)) (hf Kd.string 4 _ 1 8 rfl (by kernel_rfl) rfl (opens_string Try.underlying9)))))))
/-- A note's numbers are of their kinds. -/
def NoteOk (n : S31) : Prop := (Lit.int .i64 n.f0).wf = true ∧ (Lit.int .i64 n.f1).wf = true ∧ (Lit.int .i64 n.f3).wf = true
theorem opens31q : OpensQ Try.prog W 31 k31 NoteOk := fun {H enc base spare held fuel cs x} h => by
  obtain ⟨y, hy⟩ := opens31 h
  obtain ⟨n0, e0, w0⟩ := fieldQ_of Try.underlying31 h (Kd.int .i64) _ 0 _ 1 0 rfl (by kernel_rfl) rfl (opensQ_int Try.underlying3)
  obtain ⟨n1, e1, w1⟩ := fieldQ_of Try.underlying31 h (Kd.int .i64) _ 1 _ 1 1 rfl (by kernel_rfl) rfl (opensQ_int Try.underlying2)
  obtain ⟨n3, e3, w3⟩ := fieldQ_of Try.underlying31 h (Kd.int .i64) _ 3 _ 1 7 rfl (by kernel_rfl) rfl (opensQ_int Try.underlying3)
  have hc := k31_open hy
  subst hc
  have q0 : [Value.int .i64 y.f0] = [Value.int .i64 n0] := e0
  have q1 : [Value.int .i64 y.f1] = [Value.int .i64 n1] := e1
  have q3 : [Value.int .i64 y.f3] = [Value.int .i64 n3] := e3
  simp only [List.cons.injEq, Value.int.injEq, true_and, and_true] at q0 q1 q3
  subst q0 q1 q3
  exact ⟨y, hy, w0, w1, w3⟩
theorem open_notes {H : Type} {enc : TypeId × Value → H} {base b0 : Nat} {sp : Nat → Bool} {held : Bool} {r : Reach} {v : Value} {d : DataW H} {p : List MemPlace} (hv : Value.okWide Try.prog W r b0 22 v) (h : DataW.Trod enc Try.prog W base sp held 22 v d p) :
    ∃ (A : Option Addr) (c : Nat) (l : List S31), v = .slice A l.length c ∧ Kd.C k31 W A l.length l ∧ l.length ≤ c ∧ ∀ y ∈ l, NoteOk y := open_slice_q Try.underlying22 (by kernel_rfl) opens31q hv h
theorem open_note {H : Type} {enc : TypeId × Value → H} {base b0 : Nat} {sp : Nat → Bool} {held : Bool} {r : Reach} {v : Value} {d : DataW H} {p : List MemPlace} (hv : Value.okWide Try.prog W r b0 31 v) (h : DataW.Trod enc Try.prog W base sp held 31 v d p) :
    ∃ (n : S31), v = .agg #[.int .i64 n.f0, .int .i64 n.f1, .int .i64 n.f2.f0, .string n.f2.f1, .string n.f2.f2, .string n.f2.f3, .string n.f2.f4, .int .i64 n.f3, .string n.f4] ∧ NoteOk n := by
  obtain ⟨cs, y, rfl, hk, hq⟩ := open_struct_q (k := k31) Try.underlying31 opens31q hv h
  obtain rfl := k31_open hk
  exact ⟨y, rfl, hq⟩
end
end Go.Proofs.YtlmhgnkkdjpkcaaO
