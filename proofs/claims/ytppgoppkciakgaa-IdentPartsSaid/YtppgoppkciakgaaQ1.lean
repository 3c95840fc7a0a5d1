/- The walk of the law IdentParts. -/
import Derived.Test.YtppgoppkciakgaaPAx4
import Derived.Test.YtppgoppkciakgaaPAx5
import Derived.Test.YtppgoppkciakgaaL3
import Derived.Test.YtppgoppkciakgaaL4
set_option linter.unusedVariables false
set_option linter.unusedSimpArgs false
namespace Go.Proofs.YtppgoppkciakgaaQ
open Go.RowKit Go.Proofs.Ytppgoppkciakgaa.PA Go.Proofs.YtppgoppkciakgaaW.PrintWords Go.Proofs.YtppgoppkciakgaaG Go.Proofs.YtppgoppkciakgaaX Go.Proofs.YtppgoppkciakgaaL
theorem three_cases {s v z : Bool} (h : false = (s && (v && z))) : s = false ∨ (s = true ∧ v = false) ∨ (s = true ∧ v = true ∧ z = false) := by
  cases s <;> cases v <;> cases z <;> simp_all
theorem thenB {w w1 w2 : World} (h : Below w.heap.size w w1) (k : Below w1.heap.size w1 w2) : Below w.heap.size w w2 := below_then h h.size k
/-- A name and a server, as the law puts them together. -/
abbrev uS (a c : ByteArray) : ByteArray := ⟨#[64]⟩ ++ a ++ ⟨#[58]⟩ ++ c
set_option maxHeartbeats 2000000 in
set_option maxRecDepth 100000 in
theorem parts_walk (a b c : ByteArray) (w : World) (ha : a.size ≤ 600) (hb : b.size ≤ 600) (hc : c.size ≤ 600) (k : Nat) (h1 : outlawlaw04_colon.f k a = some false) (h2 : outlawlaw04_colon.f k b = some false)
   (s v is al : Bool) (t : ByteArray) (h3 : outlawlaw04_small.f k a = some s) (h4 : serverI c = v) (h5 : is = (s && (v && decide (((⟨#[64]⟩ ++ a ++ ⟨#[58]⟩ ++ c : ByteArray).size : Int) ≤ 255)))) (h6 : userI (⟨#[64]⟩ ++ a ++ ⟨#[58]⟩ ++ c) = is)
   (h7 : serverOfI (⟨#[64]⟩ ++ a ++ ⟨#[58]⟩ ++ c) = if is = true then (lowerS c, true) else (⟨#[]⟩, false)) (h8 : serverOfI (⟨#[64]⟩ ++ b ++ ⟨#[58]⟩ ++ c) = (t, al)) (h9 : al = true → t = lowerS c) :
    Calls Try.prog 5 #[.string a, .string b, .string c] w fun e w' => e = .returned (.bool true) ∧ Below w.heap.size w w' := by
  have ha' : ¬ (600 : Int) < (a.size : Int) := by omega
  have hb' : ¬ (600 : Int) < (b.size : Int) := by omega
  have hc' : ¬ (600 : Int) < (c.size : Int) := by omega
  have hz1 : (⟨#[64]⟩ ++ a ++ ⟨#[58]⟩ ++ c : ByteArray).size = a.size + c.size + 2 := by simp only [ByteArray.size_append]; show 1 + a.size + 1 + c.size = _; omega
  have hz2 : (⟨#[64]⟩ ++ b ++ ⟨#[58]⟩ ++ c : ByteArray).size = b.size + c.size + 2 := by simp only [ByteArray.size_append]; show 1 + b.size + 1 + c.size = _; omega
  have HZ1 := Lib.hid (show (⟨#[64]⟩ ++ a ++ ⟨#[58]⟩ ++ c : ByteArray).size ≤ 140737488351232 from by omega)
  have HZ2 := Lib.hid (show (⟨#[64]⟩ ++ b ++ ⟨#[58]⟩ ++ c : ByteArray).size ≤ 140737488351232 from by omega)
  rw [hz1] at h5
  clear hz1 hz2
  have H1 := Lib.hid h1
  have H2 := Lib.hid h2
  have H3 := Lib.hid h3
  have H4 := Lib.hid h4
  have H6 := Lib.hid h6
  have H8 := Lib.hid h8
  have H9 := Lib.hid h9
  clear h1 h2 h3 h4 h6 h8 h9
  cases is with
  | true =>
    rw [if_pos rfl] at h7
    have H7 := Lib.hid h7
    clear h7
    replace h5 := h5.symm
    rw [Bool.and_eq_true, Bool.and_eq_true, decide_eq_true_eq] at h5
    obtain ⟨rfl, rfl, hz⟩ := h5
    go_enter Try.func5, Try.ntmps5
    go_wp2_with fail
    refine (outlawlaw04_lives.calls true _ lives_f).mono ?_
    rintro e w1 ⟨rfl, hw1⟩
    go_wp2_with fail
    refine (outlawlaw04_colon.calls k _ false _ H1.out).mono ?_
    rintro e w2 ⟨rfl, hw2⟩
    go_wp2_with fail
    refine (outlawlaw04_colon.calls k _ false _ H2.out).mono ?_
    rintro e w3 ⟨rfl, hw3⟩
    go_wp2_with fail
    refine (outlawlaw04_small.calls k _ true _ H3.out).mono ?_
    rintro e w4 ⟨rfl, hw4⟩
    go_wp2_with fail
    refine (server_any _ _ (by omega)).mono ?_
    rintro e w5 ⟨rfl, hw5⟩
    rw [H4.out]
    go_wp2_with fail
    refine (serverOf_any _ _ HZ1.out).mono ?_
    rintro e w6 ⟨rfl, hw6⟩
    rw [H7.out]
    go_wp2_with fail
    refine (user_any _ _ HZ1.out).mono ?_
    rintro e w7 ⟨rfl, hw7⟩
    rw [H6.out]
    go_wp2_with fail
    refine (lower_any _ _ (by omega)).mono ?_
    rintro e w8 ⟨rfl, hw8⟩
    go_wp2_with fail
    refine (serverOf_any _ _ HZ2.out).mono ?_
    rintro e w9 ⟨rfl, hw9⟩
    rw [H8.out]
    have hall : Below w.heap.size w w9 := thenB (thenB (thenB (thenB (thenB (thenB (thenB (thenB hw1 hw2.below) hw3.below) hw4.below) hw5) hw6) hw7) hw8) hw9
    cases al with
    | true =>
      obtain rfl := H9.out rfl
      go_wp2
      go_ret
      exact ⟨by simp, hall⟩
    | false =>
      go_wp2
      go_ret
      exact ⟨by simp, hall⟩
  | false =>
    rw [if_neg (by simp)] at h7
    have H7 := Lib.hid h7
    clear h7
    have hcase : s = false ∨ (s = true ∧ v = false) ∨ (s = true ∧ v = true ∧ ¬ ((a.size + c.size + 2 : Nat) : Int) ≤ 255) := by
      rcases three_cases h5 with h | h | ⟨h, h', h2⟩
      · exact .inl h
      · exact .inr (.inl h)
      · exact .inr (.inr ⟨h, h', of_decide_eq_false h2⟩)
    clear h5
    rcases hcase with rfl | ⟨rfl, rfl⟩ | ⟨rfl, rfl, hz⟩
    case inl =>
      go_enter Try.func5, Try.ntmps5
      go_wp2_with fail
      refine (outlawlaw04_lives.calls true _ lives_f).mono ?_
      rintro e w1 ⟨rfl, hw1⟩
      go_wp2_with fail
      refine (outlawlaw04_colon.calls k _ false _ H1.out).mono ?_
      rintro e w2 ⟨rfl, hw2⟩
      go_wp2_with fail
      refine (outlawlaw04_colon.calls k _ false _ H2.out).mono ?_
      rintro e w3 ⟨rfl, hw3⟩
      go_wp2_with fail
      refine (outlawlaw04_small.calls k _ false _ H3.out).mono ?_
      rintro e w4 ⟨rfl, hw4⟩
      go_wp2_with fail
      refine (serverOf_any _ _ HZ1.out).mono ?_
      rintro e w6 ⟨rfl, hw6⟩
      rw [H7.out]
      go_wp2_with fail
      refine (user_any _ _ HZ1.out).mono ?_
      rintro e w7 ⟨rfl, hw7⟩
      rw [H6.out]
      go_wp2_with fail
      refine (serverOf_any _ _ HZ2.out).mono ?_
      rintro e w9 ⟨rfl, hw9⟩
      rw [H8.out]
      have hall : Below w.heap.size w w9 := thenB (thenB (thenB (thenB (thenB (thenB hw1 hw2.below) hw3.below) hw4.below) hw6) hw7) hw9
      go_wp2
      go_ret
      exact ⟨by simp, hall⟩
    all_goals
      go_enter Try.func5, Try.ntmps5
      go_wp2_with fail
      refine (outlawlaw04_lives.calls true _ lives_f).mono ?_
      rintro e w1 ⟨rfl, hw1⟩
      go_wp2_with fail
      refine (outlawlaw04_colon.calls k _ false _ H1.out).mono ?_
      rintro e w2 ⟨rfl, hw2⟩
      go_wp2_with fail
      refine (outlawlaw04_colon.calls k _ false _ H2.out).mono ?_
      rintro e w3 ⟨rfl, hw3⟩
      go_wp2_with fail
      refine (outlawlaw04_small.calls k _ true _ H3.out).mono ?_
      rintro e w4 ⟨rfl, hw4⟩
      go_wp2_with fail
      refine (server_any _ _ (by omega)).mono ?_
      rintro e w5 ⟨rfl, hw5⟩
      rw [H4.out]
      go_wp2_with fail
      refine (serverOf_any _ _ HZ1.out).mono ?_
      rintro e w6 ⟨rfl, hw6⟩
      rw [H7.out]
      go_wp2_with fail
      refine (user_any _ _ HZ1.out).mono ?_
      rintro e w7 ⟨rfl, hw7⟩
      rw [H6.out]
      go_wp2_with fail
      refine (serverOf_any _ _ HZ2.out).mono ?_
      rintro e w9 ⟨rfl, hw9⟩
      rw [H8.out]
      have hall : Below w.heap.size w w9 := thenB (thenB (thenB (thenB (thenB (thenB (thenB hw1 hw2.below) hw3.below) hw4.below) hw5) hw6) hw7) hw9
      go_wp2
      go_ret
      exact ⟨by simp, hall⟩
end Go.Proofs.YtppgoppkciakgaaQ
