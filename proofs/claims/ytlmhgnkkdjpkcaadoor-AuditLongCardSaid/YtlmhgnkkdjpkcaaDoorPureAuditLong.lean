/- The law AuditLong: with many full notes ahead, too, each call of the code answers as the document's. -/
import Derived.Test.YtlmhgnkkdjpkcaaDoorP6
import Derived.Test.YtlmhgnkkdjpkcaaDoorPAx22
set_option linter.unusedVariables false
set_option linter.unusedSimpArgs false
namespace Go.Proofs.YtlmhgnkkdjpkcaaDoorG
open Go.RowKit Go.Proofs.YtlmhgnkkdjpkcaaDoor.PA Go.Proofs.YtlmhgnkkdjpkcaaDoorW.PrintWords
def fullN : S30 := ⟨9, 0, ⟨0, ⟨#[]⟩, ⟨#[]⟩, ⟨#[]⟩, ⟨#[]⟩⟩, 0, ⟨#[]⟩⟩
theorem full_ok : TextOk fullN := by
 unfold TextOk fullN
 refine ⟨⟨⟨by decide, by decide⟩, by decide, by decide⟩, by decide⟩
theorem pick_to (n : Int) (m : Nat) (h1 : 1 ≤ m) (hm : m ≤ 1000000) : ∃ p : Nat, p < m ∧ outlawkit_Pick.f n (m : Int) = some (p : Int) := by
 unfold outlawkit_Pick.f
 rw [if_neg (by omega), if_neg (by omega)]
 have hlt := Int.tmod_lt_of_pos n (b := (m : Int)) (by omega)
 have hgt := Int.lt_tmod_of_pos n (b := (m : Int)) (by omega)
 generalize Int.tmod n (m : Int) = t at hlt hgt ⊢
 by_cases ht : t < 0
 ·rw [if_pos ht]
  refine ⟨(t + (m : Int)).toNat, by omega, ?_⟩
  have : wrap64 (t + (m : Int)) = t + (m : Int) := by unfold wrap64; omega
  rw [this]; congr 1; omega
 ·rw [if_neg ht]
  exact ⟨t.toNat, by omega, by congr 1; omega⟩
theorem long_go (x0 : Int) (l : List S30) (x2 : Int) (p : Nat) (hp : p < 300) (hpick : outlawkit_Pick.f x0 300 = some (p : Int)) (hl : l.length ≤ 60) (hok : ∀ n ∈ l, TextOk n) : ∀ d i : Nat, p - i = d → i ≤ p → Ev (fun k => outlawlaw23_AuditLong.l0 k x0 l x2 (List.replicate i fullN) (i : Int)) true := by
 intro d
 induction d with
 | zero =>
  intro i hd hi
  obtain rfl : i = p := by omega
  have hall : ∀ n ∈ List.replicate i fullN ++ l, TextOk n := fun n hn => (List.mem_append.1 hn).elim (fun h => (List.eq_of_mem_replicate h) ▸ full_ok) (hok n)
  have hlen : (List.replicate i fullN ++ l).length ≤ 1000 := by rw [List.length_append, List.length_replicate]; omega
  have tl : ∀ x9 x10, Ev (fun k => outlawlaw23_AuditLong.j1 k x2 (List.replicate i fullN ++ l) x9 x10) true := fun x9 x10 =>
   Ev.step (f := fun k => tailF k (List.replicate i fullN ++ l) x9 x10 x2) (fun k => by rw [outlawlaw23_AuditLong.j1]; rfl) (tail_ev _ x9 x10 x2 hlen hall)
  by_cases h0 : 0 < (l.length : Int)
  ·refine Ev.step (f := fun k => outlawlaw23_AuditLong.j1 k x2 (List.replicate i fullN ++ l) (rd_T30 l 0).f2.f1 (rd_T30 l 0).f2.f2) (fun k => ?_) (tl _ _)
   rw [outlawlaw23_AuditLong.l0, hpick, Option.bind_some, if_neg (by omega), if_pos (by rw [List.length_replicate]; omega), Option.bind_some, if_pos h0, if_pos h0]
  ·refine Ev.step (f := fun k => outlawlaw23_AuditLong.j1 k x2 (List.replicate i fullN ++ l) ⟨#[]⟩ ⟨#[]⟩) (fun k => ?_) (tl _ _)
   rw [outlawlaw23_AuditLong.l0, hpick, Option.bind_some, if_neg (by omega), if_pos (by rw [List.length_replicate]; omega), Option.bind_some, if_neg (by omega)]
 | succ d ih =>
  intro i hd hi
  have hlt : i < p := by omega
  have hw := wrap_nat hlt (by omega)
  refine Ev.step (f := fun k => outlawlaw23_AuditLong.l0 k x0 l x2 (List.replicate (i + 1) fullN) ((i + 1 : Nat) : Int)) (fun k => ?_) (ih (i + 1) (by omega) (by omega))
  rw [outlawlaw23_AuditLong.l0, hpick, Option.bind_some, if_pos (by omega), if_pos (by rw [List.length_replicate]; omega), hw, List.replicate_succ']
  rfl
theorem auditLong (x0 : Int) (l : List S30) (x2 : Int) (hl : l.length ≤ 9223372036854775807) (hf : ∀ n ∈ l, FitN n) : Ev (fun k => outlawlaw23_AuditLong.f k x0 l x2) true := by
 unfold outlawlaw23_AuditLong.f
 refine Ev.bind (f := fun k t303 => _) lives_ev ?_
 simp only [if_true]
 refine Ev.bind (f := fun k t304 => _) (light_ev l 60 hl) ?_
 by_cases hq : (l.all lightB && decide ((l.length : Int) ≤ 60)) = true
 ·have hq' := hq
  simp only [Bool.and_eq_true, decide_eq_true_eq, List.all_eq_true] at hq'
  obtain ⟨p, hp, hpick⟩ := pick_to x0 300 (by decide) (by decide)
  refine Ev.congr (f := fun k => outlawlaw23_AuditLong.l0 k x0 l x2 (List.replicate 0 fullN) ((0 : Nat) : Int)) (fun k => ?_) (long_go x0 l x2 p hp hpick (by omega) (fun n hn => textOk_of (hq'.1 n hn) (hf n hn)) _ 0 rfl (Nat.zero_le _))
  rw [if_pos hq]; rfl
 ·refine Ev.congr (f := fun _ => some true) (fun k => ?_) (Ev.now _)
  rw [if_neg hq]
end Go.Proofs.YtlmhgnkkdjpkcaaDoorG
