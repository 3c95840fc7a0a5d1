/- The contract of record.Check: what is wrong with an input, for every input. -/
import Derived.Test.YtfgibjkgiolonaaG1
set_option linter.unusedVariables false
set_option linter.unusedSimpArgs false
namespace Go.Proofs.YtfgibjkgiolonaaG
open Go.RowKit Go.Proofs.YtfgibjkgiolonaaW.PrintWords Go.Proofs.YtfgibjkgiolonaaX Go.Proofs.YtfgibjkgiolonaaW.PrintMore
attribute [local go_sem] max2_int min2_int max_two min_two
def errIf (a b : Prop) [Decidable a] [Decidable b] : Int := if a then 2 else if b then 4 else 0
def checkI (k c n : Int) (ok : Bool) (t : ByteArray) : Int :=
 if k = 1 then errIf (¬ (c = 0 ∧ n = 0 ∧ ok = false)) (4096 < t.size)
 else if k = 3 then errIf (¬ (c = 0 ∧ 0 ≤ n ∧ n ≤ 1152921504606846976 ∧ t.size = 0)) False
 else if k = 4 then errIf (¬ (c = 0 ∧ 0 ≤ n ∧ n ≤ 1152921504606846976 ∧ ok = false ∧ t.size = 0)) False
 else if k = 2 then errIf (¬ (c = 0 ∧ 4097 ≤ n ∧ n ≤ 1152921504606846975 ∧ ok = false ∧ t.size = 0)) False
 else if k = 5 then errIf (¬ (0 ≤ c ∧ c ≤ 255 ∧ n = 0 ∧ ok = false)) (300 < t.size)
 else if k = 6 then errIf (¬ (c = 0 ∧ n = 0 ∧ ok = false ∧ t.size = 0)) False
 else 9
theorem size_nil {t : ByteArray} : t.toList = [] ↔ t.size = 0 := by
 rw [ByteArray.toList_eq, ← List.length_eq_zero_iff, Array.length_toList]
 rfl
set_option maxHeartbeats 4000000 in
set_option maxRecDepth 100000 in
theorem check_1 (c n : Int) (ok : Bool) (t : ByteArray) (w : World) :
  Calls Try.prog 46 #[.agg #[.int .i64 1, .int .i64 c, .int .i64 n, .bool ok, .string t]] w fun e w' => e = .returned (.int .i64 (checkI 1 c n ok t)) ∧ Below w.heap.size w w' := by
 go_enter Try.func46, Try.ntmps46
 go_wp2
 go_region
 all_goals go_wp2
 all_goals
  go_ret
  refine ⟨?_, by first | exact ((Below.refl _ _).alloc (Nat.le_refl _) _).alloc (by simp) _ | exact (((Below.refl _ _).alloc (Nat.le_refl _) _).alloc (by simp) _).drew⟩
  cases ok <;> simp_all [checkI, errIf, size_nil] <;> omega
set_option maxHeartbeats 4000000 in
set_option maxRecDepth 100000 in
theorem check_3 (c n : Int) (ok : Bool) (t : ByteArray) (w : World) :
  Calls Try.prog 46 #[.agg #[.int .i64 3, .int .i64 c, .int .i64 n, .bool ok, .string t]] w fun e w' => e = .returned (.int .i64 (checkI 3 c n ok t)) ∧ Below w.heap.size w w' := by
 go_enter Try.func46, Try.ntmps46
 go_wp2
 all_goals
  go_ret
  refine ⟨?_, by first | exact ((Below.refl _ _).alloc (Nat.le_refl _) _).alloc (by simp) _ | exact (((Below.refl _ _).alloc (Nat.le_refl _) _).alloc (by simp) _).drew⟩
  cases ok <;> simp_all [checkI, errIf, size_nil] <;> omega
set_option maxHeartbeats 4000000 in
set_option maxRecDepth 100000 in
theorem check_4 (c n : Int) (ok : Bool) (t : ByteArray) (w : World) :
  Calls Try.prog 46 #[.agg #[.int .i64 4, .int .i64 c, .int .i64 n, .bool ok, .string t]] w fun e w' => e = .returned (.int .i64 (checkI 4 c n ok t)) ∧ Below w.heap.size w w' := by
 go_enter Try.func46, Try.ntmps46
 go_wp2
 all_goals
  go_ret
  refine ⟨?_, by first | exact ((Below.refl _ _).alloc (Nat.le_refl _) _).alloc (by simp) _ | exact (((Below.refl _ _).alloc (Nat.le_refl _) _).alloc (by simp) _).drew⟩
  cases ok <;> simp_all [checkI, errIf, size_nil] <;> omega
set_option maxHeartbeats 4000000 in
set_option maxRecDepth 100000 in
theorem check_2 (c n : Int) (ok : Bool) (t : ByteArray) (w : World) :
  Calls Try.prog 46 #[.agg #[.int .i64 2, .int .i64 c, .int .i64 n, .bool ok, .string t]] w fun e w' => e = .returned (.int .i64 (checkI 2 c n ok t)) ∧ Below w.heap.size w w' := by
 go_enter Try.func46, Try.ntmps46
 go_wp2
 all_goals
  go_ret
  refine ⟨?_, by first | exact ((Below.refl _ _).alloc (Nat.le_refl _) _).alloc (by simp) _ | exact (((Below.refl _ _).alloc (Nat.le_refl _) _).alloc (by simp) _).drew⟩
  cases ok <;> simp_all [checkI, errIf, size_nil] <;> omega
set_option maxHeartbeats 4000000 in
set_option maxRecDepth 100000 in
theorem check_5 (c n : Int) (ok : Bool) (t : ByteArray) (w : World) :
  Calls Try.prog 46 #[.agg #[.int .i64 5, .int .i64 c, .int .i64 n, .bool ok, .string t]] w fun e w' => e = .returned (.int .i64 (checkI 5 c n ok t)) ∧ Below w.heap.size w w' := by
 go_enter Try.func46, Try.ntmps46
 go_wp2
 go_region
 all_goals go_wp2
 all_goals
  go_ret
  refine ⟨?_, by first | exact ((Below.refl _ _).alloc (Nat.le_refl _) _).alloc (by simp) _ | exact (((Below.refl _ _).alloc (Nat.le_refl _) _).alloc (by simp) _).drew⟩
  cases ok <;> simp_all [checkI, errIf, size_nil] <;> omega
set_option maxHeartbeats 4000000 in
set_option maxRecDepth 100000 in
theorem check_6 (c n : Int) (ok : Bool) (t : ByteArray) (w : World) :
  Calls Try.prog 46 #[.agg #[.int .i64 6, .int .i64 c, .int .i64 n, .bool ok, .string t]] w fun e w' => e = .returned (.int .i64 (checkI 6 c n ok t)) ∧ Below w.heap.size w w' := by
 go_enter Try.func46, Try.ntmps46
 go_wp2
 all_goals
  go_ret
  refine ⟨?_, by first | exact ((Below.refl _ _).alloc (Nat.le_refl _) _).alloc (by simp) _ | exact (((Below.refl _ _).alloc (Nat.le_refl _) _).alloc (by simp) _).drew⟩
  cases ok <;> simp_all [checkI, errIf, size_nil] <;> omega
set_option maxHeartbeats 4000000 in
set_option maxRecDepth 100000 in
theorem check_9 (k c n : Int) (ok : Bool) (t : ByteArray) (w : World) (h1 : (k == 1) = false) (h2 : (k == 2) = false) (h3 : (k == 3) = false) (h4 : (k == 4) = false) (h5 : (k == 5) = false) (h6 : (k == 6) = false) :
  Calls Try.prog 46 #[.agg #[.int .i64 k, .int .i64 c, .int .i64 n, .bool ok, .string t]] w fun e w' => e = .returned (.int .i64 9) ∧ Below w.heap.size w w' := by
 go_enter Try.func46, Try.ntmps46
 go_wp2
 go_ret
 exact ⟨rfl, by first | exact ((Below.refl _ _).alloc (Nat.le_refl _) _).alloc (by simp) _ | exact (((Below.refl _ _).alloc (Nat.le_refl _) _).alloc (by simp) _).drew⟩
theorem check_any (k c n : Int) (ok : Bool) (t : ByteArray) (w : World) :
  Calls Try.prog 46 #[.agg #[.int .i64 k, .int .i64 c, .int .i64 n, .bool ok, .string t]] w fun e w' => e = .returned (.int .i64 (checkI k c n ok t)) ∧ Below w.heap.size w w' := by
 by_cases h1 : k = 1
 ·subst h1; exact check_1 c n ok t w
 by_cases h2 : k = 2
 ·subst h2; exact check_2 c n ok t w
 by_cases h3 : k = 3
 ·subst h3; exact check_3 c n ok t w
 by_cases h4 : k = 4
 ·subst h4; exact check_4 c n ok t w
 by_cases h5 : k = 5
 ·subst h5; exact check_5 c n ok t w
 by_cases h6 : k = 6
 ·subst h6; exact check_6 c n ok t w
 have : checkI k c n ok t = 9 := by unfold checkI; simp [h1, h2, h3, h4, h5, h6]
 rw [this]
 exact check_9 k c n ok t w (beq_eq_false_iff_ne.2 h1) (beq_eq_false_iff_ne.2 h2) (beq_eq_false_iff_ne.2 h3) (beq_eq_false_iff_ne.2 h4) (beq_eq_false_iff_ne.2 h5) (beq_eq_false_iff_ne.2 h6)
end Go.Proofs.YtfgibjkgiolonaaG
