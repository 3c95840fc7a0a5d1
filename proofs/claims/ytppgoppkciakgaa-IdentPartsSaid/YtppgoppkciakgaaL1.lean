/- Plain lemmas: what the reference's functions about identifiers answer, in the words of the program's contracts. -/
import Derived.Test.YtppgoppkciakgaaX1
import Derived.Test.YtppgoppkciakgaaPAx1
import Derived.Test.YtppgoppkciakgaaPAx2
import Derived.Test.YtppgoppkciakgaaPAx3
import Derived.Test.YtppgoppkciakgaaPAx4
set_option linter.unusedVariables false
set_option linter.unusedSimpArgs false
namespace Go.Proofs.YtppgoppkciakgaaL
open Go.RowKit Go.Proofs.Ytppgoppkciakgaa.PA Go.Proofs.YtppgoppkciakgaaW.PrintWords Go.Proofs.YtppgoppkciakgaaG Go.Proofs.YtppgoppkciakgaaX
def letterI (c : Int) : Bool := (decide (97 ≤ c) && decide (c ≤ 122)) || (decide (65 ≤ c) && decide (c ≤ 90))
theorem letter_f (c : Int) : outlawref04_letter.f c = some (letterI c) := by
  unfold outlawref04_letter.f letterI
  by_cases h1 : 97 ≤ c <;> by_cases h2 : c ≤ 122 <;> by_cases h3 : 65 ≤ c <;> by_cases h4 : c ≤ 90 <;> simp [h1, h2, h3, h4]
theorem digit_f (c : Int) : outlawref04_digit.f c = some (digitI c) := by
  unfold outlawref04_digit.f digitI
  by_cases h1 : 48 ≤ c <;> by_cases h2 : c ≤ 57 <;> simp [h1, h2]
/-- Is a byte one of a text's? -/
def inSet (more : ByteArray) (c : Int) : Bool := !allSeg (fun b => !(b == c)) more 0 more.size
theorem among_ev (c : Int) (more : ByteArray) (hn : more.size ≤ 140737488351232) : Ev (fun k => outlawref04_among.f k c more) (inSet more c) := by
  refine scanAny (g := fun k i => outlawref04_among.l0 k c more i) (P := fun b => b == c) (Nat.le_refl _) ?_ ?_ ?_ _ 0 rfl (Nat.zero_le _)
  · refine Ev.step (f := fun _ => some false) (fun k => ?_) (Ev.now _)
    simp only [outlawref04_among.l0]
    rw [if_neg (by omega)]
  · intro i hi hp
    refine Ev.step (f := fun _ => some true) (fun k => ?_) (Ev.now _)
    simp only [outlawref04_among.l0]
    rw [if_pos (by omega), if_pos (by omega), if_pos (beq_iff_eq.1 hp)]
  · intro i hi hp r hr
    refine Ev.step (f := fun k => outlawref04_among.l0 k c more ((i + 1 : Nat) : Int)) (fun k => ?_) hr
    simp only [outlawref04_among.l0]
    rw [if_pos (by omega), if_pos (by omega), if_neg (by simpa using hp), wrap_succ hi hn]
theorem colon_ev (s : ByteArray) (hn : s.size ≤ 140737488351232) : Ev (fun k => outlawref04_colon.f k s) (Lib.indexByte s.data.toList 58) := by
  refine find (g := fun k i => outlawref04_colon.l0 k s i) ?_ ?_ ?_ _ 0 rfl (Nat.zero_le _) (fun j hj => absurd hj (Nat.not_lt_zero _))
  · refine Ev.step (f := fun _ => some (-1)) (fun k => ?_) (Ev.now _)
    simp only [outlawref04_colon.l0]
    rw [if_neg (by omega)]
  · intro i hi hp
    refine Ev.step (f := fun _ => some (i : Int)) (fun k => ?_) (Ev.now _)
    simp only [outlawref04_colon.l0]
    rw [if_pos (by omega), if_pos (by omega), if_pos (show bt s i = 58 from hp)]
  · intro i hi hp r hr
    refine Ev.step (f := fun k => outlawref04_colon.l0 k s ((i + 1 : Nat) : Int)) (fun k => ?_) hr
    simp only [outlawref04_colon.l0]
    rw [if_pos (by omega), if_pos (by omega), if_neg (show ¬ bt s i = 58 from hp), wrap_succ hi hn]
/-- A letter, a digit, or one of some more. -/
def setR (more : ByteArray) (c : Int) : Bool := letterI c || (digitI c || inSet more c)
theorem host_ev (s : ByteArray) (hn : s.size ≤ 140737488351232) : Ev (fun k => outlawref04_host.f k s) (allSeg (setR ⟨#[46, 45]⟩) s 0 s.size && (s.toList != [])) := by
  have hm := fun c => among_ev c ⟨#[46, 45]⟩ (by decide)
  refine scan (g := fun k i => outlawref04_host.l0 k s i) (P := setR ⟨#[46, 45]⟩) (Nat.le_refl _) ?_ ?_ ?_ _ 0 rfl (Nat.zero_le _)
  · refine Ev.step (f := fun _ => some (s.toList != [])) (fun k => ?_) (Ev.now _)
    simp only [outlawref04_host.l0]
    rw [if_neg (by omega)]
  · intro i hi hp r hr
    apply Ev.step
    · intro k
      simp only [outlawref04_host.l0]
      rw [if_pos (by omega), if_pos (by omega), letter_f, digit_f, wrap_succ hi hn]
    · simp only [Option.bind_some]
      unfold setR at hp
      cases h1 : letterI (bt s i) with
      | true => simpa using hr
      | false =>
        cases h2 : digitI (bt s i) with
        | true => simpa using hr
        | false =>
          rw [h1, h2] at hp
          simp only [Bool.false_or] at hp
          simp only [Bool.false_eq_true, if_false]
          exact Ev.bind (hm _) (by rw [hp]; simpa using hr)
  · intro i hi hp
    apply Ev.step
    · intro k
      simp only [outlawref04_host.l0]
      rw [if_pos (by omega), if_pos (by omega), letter_f, digit_f, wrap_succ hi hn]
    · simp only [Option.bind_some]
      unfold setR at hp
      rw [Bool.or_eq_false_iff, Bool.or_eq_false_iff] at hp
      obtain ⟨h1, h2, h3⟩ := hp
      rw [h1, h2]
      simp only [Bool.false_eq_true, if_false]
      exact Ev.bind (hm _) (by rw [h3]; simpa using Ev.now false)
theorem port_ev (s : ByteArray) (hn : s.size ≤ 140737488351232) : Ev (fun k => outlawref04_port.f k s) (allSeg digitI s 0 s.size && (decide (1 ≤ s.size) && decide (s.size ≤ 5))) := by
  refine scan (g := fun k i => outlawref04_port.l0 k s i) (P := digitI) (Nat.le_refl _) ?_ ?_ ?_ _ 0 rfl (Nat.zero_le _)
  · refine Ev.step (f := fun _ => some (decide (1 ≤ s.size) && decide (s.size ≤ 5))) (fun k => ?_) (Ev.now _)
    simp only [outlawref04_port.l0]
    rw [if_neg (by omega)]
    by_cases h : 1 ≤ s.size
    · rw [if_pos (by omega)]
      congr 1
      rw [decide_eq_true h, Bool.true_and]
      exact decide_eq_decide.2 (by omega)
    · rw [if_neg (by omega), decide_eq_false h, Bool.false_and]
  · intro i hi hp r hr
    refine Ev.step (f := fun k => outlawref04_port.l0 k s ((i + 1 : Nat) : Int)) (fun k => ?_) hr
    simp only [outlawref04_port.l0]
    rw [if_pos (by omega), if_pos (by omega), digit_f, hp, wrap_succ hi hn]
    rfl
  · intro i hi hp
    refine Ev.step (f := fun _ => some false) (fun k => ?_) (Ev.now _)
    simp only [outlawref04_port.l0]
    rw [if_pos (by omega), if_pos (by omega), digit_f, hp]
    rfl
theorem host_set : ∀ n, n < 256 → setR ⟨#[46, 45]⟩ ((n : Nat) : Int) = orI greatI hostM ((n : Nat) : Int) := by decide +kernel
theorem room_set : ∀ n, n < 256 → setR roomM ((n : Nat) : Int) = orI greatI roomM ((n : Nat) : Int) := by decide +kernel
theorem event_set : ∀ n, n < 256 → setR eventM ((n : Nat) : Int) = orI greatI eventM ((n : Nat) : Int) := by decide +kernel
theorem allI_seg (P : Int → Bool) (s : ByteArray) (most : Int) : allI P s most = (allSeg P s 0 s.size && (!s.data.toList.isEmpty && decide ((s.size : Int) ≤ most))) := by
  unfold allI
  rw [allSeg_zero, Bool.and_assoc]
theorem host_is (s : ByteArray) : (allSeg (setR ⟨#[46, 45]⟩) s 0 s.size && (s.toList != [])) = allI (orI greatI hostM) s s.size := by
  rw [allI_seg, allSeg_congr host_set, decide_eq_true (Int.le_refl _), Bool.and_true, bneNil_, ByteArray.toList_eq]
theorem isEmpty_size (s : ByteArray) : (!s.data.toList.isEmpty) = decide (1 ≤ s.size) := by
  rw [← size_list]
  cases s.data.toList <;> simp
theorem port_is (s : ByteArray) : (allSeg digitI s 0 s.size && (decide (1 ≤ s.size) && decide (s.size ≤ 5))) = allI digitI s 5 := by
  rw [allI_seg, isEmpty_size]
  congr 2
  exact decide_eq_decide.2 (by omega)
theorem server_ev (s : ByteArray) (hn : s.size ≤ 140737488351232) : Ev (fun k => outlawref04_Server.f k s) (serverI s) := by
  unfold outlawref04_Server.f serverI
  by_cases h : 128 < s.size
  · simp only [if_pos h]
    exact Ev.congr (fun k => if_pos (by omega)) (Ev.now false)
  · simp only [if_neg h]
    refine Ev.congr (fun k => if_neg (by omega)) ?_
    refine Ev.bind (colon_ev s hn) ?_
    rcases index_cases s 58 with hix | ⟨i, hix, hi⟩
    · rw [cutS_miss hix, hix]
      simp only [Bool.false_eq_true, if_false]
      refine Ev.congr (fun k => if_pos (by decide)) ?_
      rw [← host_is]
      exact Ev.bind (host_ev s hn) (Ev.now _)
    · rw [cutS_hit hix, hix]
      simp only [if_true]
      have he : ((s.extract 0 i).size : Int) ≤ s.size := by rw [ByteArray.size_extract]; omega
      have he1 : (s.extract 0 i).size ≤ 140737488351232 := by omega
      have he2 : (s.extract (i + 1) s.size).size ≤ 140737488351232 := by rw [ByteArray.size_extract]; omega
      have hw := wrap_succ hi hn
      refine Ev.congr (fun k => by rw [if_neg (by omega), if_pos (by omega), if_pos (by omega), hw, Int.toNat_natCast, Int.toNat_natCast]) ?_
      have hhost : allI (orI greatI hostM) (s.extract 0 i) s.size = allI (orI greatI hostM) (s.extract 0 i) (s.extract 0 i).size := by
        unfold allI
        rw [decide_eq_true he, decide_eq_true (Int.le_refl _)]
      rw [hhost, ← host_is, ← port_is]
      refine Ev.bind (host_ev _ he1) ?_
      cases (allSeg (setR ⟨#[46, 45]⟩) (s.extract 0 i) 0 (s.extract 0 i).size && ((s.extract 0 i).toList != [])) with
      | false => exact Ev.congr (fun k => if_neg (by simp)) (Ev.now _)
      | true =>
        rw [Bool.true_and]
        refine Ev.congr (fun k => by rw [if_pos rfl, if_pos (by omega), if_pos (by omega)]) ?_
        exact Ev.bind (port_ev _ he2) (Ev.now _)
end Go.Proofs.YtppgoppkciakgaaL
