/- The contracts of ident's classes of bytes: what they return, for every byte. -/
import Derived.Test.YtppgoppkciakgaaShelf
import Derived.Test.YtppgoppkciakgaaWWords
import Derived.Test.YtppgoppkciakgaaWMore
import Derived.Test.YtppgoppkciakgaaWLast
import Derived.WalkKit
import Derived.Deep.QuietTactic
import Derived.BigQuiet
import Derived.Lib.Hide
import Derived.WalkLawsBesides
import Derived.WalkSpells
namespace Go.Proofs.YtppgoppkciakgaaG
open Go.RowKit Go.Proofs.YtppgoppkciakgaaW.PrintWords
def digitI (c : Int) : Bool := decide (48 ≤ c) && decide (c ≤ 57)
def smallI (c : Int) : Bool := (decide (97 ≤ c) && decide (c ≤ 122)) || digitI c
def greatI (c : Int) : Bool := (decide (65 ≤ c) && decide (c ≤ 90)) || smallI c
set_option maxHeartbeats 400000 in
theorem digit_any (c : Int) (w : World) : Calls Try.prog 30 #[.int .u8 c] w fun e w' => e = .returned (.bool (digitI c)) ∧ w' = w := by
  go_enter Try.func30, Try.ntmps30
  go_wp2
  all_goals (go_ret; refine ⟨?_, rfl⟩; first | (simp [digitI, *]; done) | (simp [digitI]; omega))
set_option maxHeartbeats 400000 in
theorem small_any (c : Int) (w : World) : Calls Try.prog 35 #[.int .u8 c] w fun e w' => e = .returned (.bool (smallI c)) ∧ w' = w := by
  go_enter Try.func35, Try.ntmps35
  go_wp2_with (go_at_call 30; refine (digit_any _ _).mono ?_; rintro e w' ⟨rfl, rfl⟩)
  all_goals (go_ret; refine ⟨?_, rfl⟩; first | (simp [smallI, *]; done) | (simp [smallI, *]; omega))
set_option maxHeartbeats 400000 in
theorem great_any (c : Int) (w : World) : Calls Try.prog 27 #[.int .u8 c] w fun e w' => e = .returned (.bool (greatI c)) ∧ w' = w := by
  go_enter Try.func27, Try.ntmps27
  go_wp2_with (go_at_call 35; refine (small_any _ _).mono ?_; rintro e w' ⟨rfl, rfl⟩)
  all_goals (go_ret; refine ⟨?_, rfl⟩; first | (simp [greatI, *]; done) | (simp [greatI, *]; omega))
/-- A function value without captures that tells a class and leaves the world. -/
structure Tells (G : Nat) (p : Int → Bool) : Prop where
  enters : ∀ args w, (callFunc G args).run Try.prog w = .ok (.enter G args) w
  calls : ∀ (c : Int) (w : World), Calls Try.prog G #[.int .u8 c] w fun e w' => e = .returned (.bool (p c)) ∧ w' = w
theorem tells_digit : Tells 30 digitI := ⟨enters_of Try.func30 (by kernel_rfl) rfl, digit_any⟩
theorem tells_small : Tells 35 smallI := ⟨enters_of Try.func35 (by kernel_rfl) rfl, small_any⟩
theorem tells_great : Tells 27 greatI := ⟨enters_of Try.func27 (by kernel_rfl) rfl, great_any⟩
def orI (p : Int → Bool) (more : ByteArray) (c : Int) : Bool := p c || decide (0 ≤ Lib.indexByte more.data.toList c.toNat.toUInt8)
set_option maxHeartbeats 400000 in
theorem or1_any (G : Nat) (p : Int → Bool) (hg : Tells G p) (more : ByteArray) (B C : Nat) (c : Int) (w : World)
    (hf : w.cell? ⟨B, 0, none⟩ = some (.func (.func G) #[] #[])) (hm : w.cell? ⟨C, 0, none⟩ = some (.string more)) :
    Calls Try.prog 42 #[.int .u8 c, .pointer (some ⟨B, 0, none⟩), .pointer (some ⟨C, 0, none⟩)] w fun e w' => e = .returned (.bool (orI p more c)) ∧ w' = w := by
  have he := hg.enters
  have hi := Lib.hid hg.calls
  clear hg
  go_enter Try.func42, Try.ntmps42
  go_wp2_with (first | (go_at_call 43; refine (Try.strings_IndexByte _ _ _).mono ?_; rintro e w' ⟨rfl, rfl⟩) | (go_at_fn G; refine (hi.out _ _).mono ?_; rintro e w' ⟨rfl, rfl⟩))
  all_goals (go_ret; refine ⟨?_, rfl⟩; simp [orI, *])
set_option maxHeartbeats 400000 in
theorem or_any (G : Nat) (more : ByteArray) (w : World) :
    Calls Try.prog 28 #[.func (.func G) #[] #[], .string more] w fun e w' => e = .returned (.func (.func 42) #[] #[.pointer (some ⟨w.heap.size, 0, none⟩), .pointer (some ⟨w.heap.size + 1, 0, none⟩)]) ∧ w' = (w.alloc (.cells #[.func (.func G) #[] #[]] 36)).alloc (.cells #[.string more] 9) := by
  have hmf : ∀ (fn : Fn) (first cap : Array Value) (w : World), (Instr.makeFunc fn first cap).run Try.prog w = .ok (.func fn first cap) w := fun _ _ _ _ => rfl
  go_enter Try.func28, Try.ntmps28
  go_wp2
  go_ret
  exact ⟨rfl, rfl⟩
/-- A function value that tells a class of bytes in every later world. -/
structure TellsAt (G : Nat) (lb : Array Value) (p : Int → Bool) (w : World) : Prop where
  enters : ∀ args w, (callFunc G args).run Try.prog w = .ok (.enter G args) w
  calls : ∀ (c : Int), Calls Try.prog G (#[.int .u8 c] ++ lb) w fun e w' => e = .returned (.bool (p c)) ∧ w' = w
def allI (p : Int → Bool) (s : ByteArray) (most : Int) : Bool := (s.data.toList.all fun b => p b.toNat) && !s.data.toList.isEmpty && decide ((s.size : Int) ≤ most)
theorem allI_no {p : Int → Bool} {s : ByteArray} {most : Int} {k : Nat} (hk : k < s.size) (h : p s[k].toNat = false) : allI p s most = false := by
  unfold allI
  have : (s.data.toList.all fun b => p b.toNat) = false := by
    rw [List.all_eq_false]
    exact ⟨s[k], by rw [Array.mem_toList_iff]; exact Array.getElem_mem hk, by simp [h]⟩
  rw [this]; rfl
theorem allI_end {p : Int → Bool} {s : ByteArray} {most : Int} (h : ∀ j, j < s.size → ∀ h : j < s.size, p s[j].toNat = true) : allI p s most = (!s.data.toList.isEmpty && decide ((s.size : Int) ≤ most)) := by
  unfold allI
  have : (s.data.toList.all fun b => p b.toNat) = true := by
    rw [List.all_eq_true]
    intro b hb
    rw [Array.mem_toList_iff] at hb
    obtain ⟨j, hj, rfl⟩ := Array.mem_iff_getElem.1 hb
    exact h j hj hj
  rw [this, Bool.true_and]
set_option maxHeartbeats 400000 in
theorem all_any (G : Nat) (lb : Array Value) (p : Int → Bool) (s : ByteArray) (most : Int) (w : World) (hs : s.size ≤ 140737488351232) (hg : TellsAt G lb p w) :
    Calls Try.prog 29 #[.func (.func G) #[] lb, .string s, .int .i64 most] w fun e w' => e = .returned (.bool (allI p s most)) ∧ w' = w := by
  have he := hg.enters
  have hi := Lib.hid hg.calls
  clear hg
  go_enter Try.func29, Try.ntmps29
  go_wp2
  go_loop [10] (fun i => ∃ k : Nat, k ≤ s.size ∧ i = .int .i64 k ∧ Hid (∀ j, j < k → ∀ h : j < s.size, p s[j].toNat = true)) (fun i => s.size - (intOf i).toNat)
  case atStart => exact ⟨0, Nat.zero_le _, rfl, fun j h => absurd h (by omega)⟩
  case round =>
    obtain ⟨k, hk, rfl, hA⟩ := hrel
    by_cases hlt : k < s.size
    · cases hp : p s[k].toNat with
      | true =>
        have HP := Lib.hid hp
        clear hp
        go_wp2_with (go_at_fn G; refine (hi.out _).mono ?_; rintro e w' ⟨rfl, rfl⟩; rw [HP.out])
        go_round
        case rel => exact ⟨k + 1, by omega, by go_num, fun j hj h => if e : j = k then by subst e; exact HP.out else hA.out j (by omega) h⟩
        case measure => simp [intOf]; omega
      | false =>
        have HP := Lib.hid (allI_no (most := most) hlt hp)
        have HQ := Lib.hid hp
        clear hp
        go_wp2_with (go_at_fn G; refine (hi.out _).mono ?_; rintro e w' ⟨rfl, rfl⟩; rw [HQ.out])
        go_ret
        rw [HP.out]
        exact ⟨rfl, rfl⟩
    · obtain rfl : k = s.size := by omega
      have HE := Lib.hid (allI_end (most := most) hA.out)
      clear hA
      go_wp2
      all_goals
        go_ret
        rw [HE.out, ← ByteArray.toList_eq]
        refine ⟨?_, rfl⟩
        simp [*]
end Go.Proofs.YtppgoppkciakgaaG
