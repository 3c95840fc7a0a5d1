/- The contracts of audit's bare and ended; a note as it lies. -/
import Derived.Test.YtlmhgnkkdjpkcaaDoorPAx0m
import Derived.Test.YtlmhgnkkdjpkcaaDoorMV
set_option linter.unusedVariables false
set_option linter.unusedSimpArgs false
namespace Go.Proofs.YtlmhgnkkdjpkcaaDoorG
open Go.RowKit Go.Proofs.YtlmhgnkkdjpkcaaDoor.PA Go.Proofs.YtlmhgnkkdjpkcaaDoorW.PrintWords
def endedB (k : Int) : Bool := k == 5 || (k == 7 || k == 8)
set_option maxHeartbeats 400000 in
theorem ended_any (k : Int) (w : World) : Calls Tryd.prog 44 #[.int .i64 k] w fun e w' => e = .returned (.bool (endedB k)) ∧ w = w' := by
 unfold endedB
 by_cases h5 : k = 5
 ·subst h5
  go_enter Tryd.func44, Tryd.ntmps44
  go_wp2_with fail
  go_ret
  exact ⟨rfl, rfl⟩
 ·have e5 : (k == 5) = false := by simpa using h5
  by_cases h7 : k = 7
  ·subst h7
   go_enter Tryd.func44, Tryd.ntmps44
   go_wp2_with fail
   go_ret
   exact ⟨rfl, rfl⟩
  ·have e7 : (k == 7) = false := by simpa using h7
   go_enter Tryd.func44, Tryd.ntmps44
   go_wp2_with fail
   go_ret
   exact ⟨by simp [e5, e7], rfl⟩
/-- A note of nothing but what its kind has. -/
def bareP (n : S30) : S30 :=
 if n.f0 = 1 then ⟨1, 0, z28, n.f3, ⟨#[]⟩⟩ else if n.f0 = 2 then ⟨2, 0, z28, n.f3, n.f4⟩ else if n.f0 = 9 then ⟨9, 0, z28, 0, ⟨#[]⟩⟩ else ⟨n.f0, n.f1, n.f2, 0, ⟨#[]⟩⟩
def encN (n : S30) : Value := .agg #[.int .i64 n.f0, .int .i64 n.f1, .int .i64 n.f2.f0, .string n.f2.f1, .string n.f2.f2, .string n.f2.f3, .string n.f2.f4, .int .i64 n.f3, .string n.f4]
theorem below2 (w : World) (o o' : Obj) : Below w.heap.size w ((w.alloc o).alloc o') := ((Below.refl _ _).alloc (Nat.le_refl _) _).alloc (by simp) _
set_option maxHeartbeats 1000000 in
theorem bare_any (n : S30) (w : World) : Calls Tryd.prog 55 #[encN n] w fun e w' => e = .returned (encN (bareP n)) ∧ Below w.heap.size w w' := by
 obtain ⟨k, t, ⟨a0, a1, a2, a3, a4⟩, c, x⟩ := n
 by_cases h1 : k = 1
 ·subst h1
  rw [show bareP ⟨1, t, ⟨a0, a1, a2, a3, a4⟩, c, x⟩ = ⟨1, 0, ⟨0, ⟨#[]⟩, ⟨#[]⟩, ⟨#[]⟩, ⟨#[]⟩⟩, c, ⟨#[]⟩⟩ from rfl]
  unfold encN
  dsimp only
  go_enter Tryd.func55, Tryd.ntmps55
  go_wp2_with fail
  exact bodyPost_ret (by simp [results, Tryd.results55, go_sem]) rfl ⟨rfl, below2 w _ _⟩
 have e1 : (k == 1) = false := by simpa using h1
 by_cases h2 : k = 2
 ·subst h2
  rw [show bareP ⟨2, t, ⟨a0, a1, a2, a3, a4⟩, c, x⟩ = ⟨2, 0, ⟨0, ⟨#[]⟩, ⟨#[]⟩, ⟨#[]⟩, ⟨#[]⟩⟩, c, x⟩ from rfl]
  unfold encN
  dsimp only
  go_enter Tryd.func55, Tryd.ntmps55
  go_wp2_with fail
  exact bodyPost_ret (by simp [results, Tryd.results55, go_sem]) rfl ⟨rfl, below2 w _ _⟩
 have e2 : (k == 2) = false := by simpa using h2
 by_cases h9 : k = 9
 ·subst h9
  rw [show bareP ⟨9, t, ⟨a0, a1, a2, a3, a4⟩, c, x⟩ = ⟨9, 0, ⟨0, ⟨#[]⟩, ⟨#[]⟩, ⟨#[]⟩, ⟨#[]⟩⟩, 0, ⟨#[]⟩⟩ from rfl]
  unfold encN
  dsimp only
  go_enter Tryd.func55, Tryd.ntmps55
  go_wp2_with fail
  exact bodyPost_ret (by simp [results, Tryd.results55, go_sem]) rfl ⟨rfl, below2 w _ _⟩
 have e9 : (k == 9) = false := by simpa using h9
 have hb : bareP ⟨k, t, ⟨a0, a1, a2, a3, a4⟩, c, x⟩ = ⟨k, t, ⟨a0, a1, a2, a3, a4⟩, 0, ⟨#[]⟩⟩ := by unfold bareP; rw [if_neg h1, if_neg h2, if_neg h9]
 rw [hb]
 clear hb
 unfold encN
 dsimp only
 go_enter Tryd.func55, Tryd.ntmps55
 go_wp2_with fail
 exact bodyPost_ret (by simp [results, Tryd.results55, go_sem]) rfl ⟨rfl, below2 w _ _⟩
end Go.Proofs.YtlmhgnkkdjpkcaaDoorG
