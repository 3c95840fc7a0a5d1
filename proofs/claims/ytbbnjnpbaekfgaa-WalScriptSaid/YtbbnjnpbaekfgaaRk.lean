/- What WalScript needs besides: both logs' Append, both Needs, both Frames; both disks made of an image. -/
import Derived.Test.YtbbnjnpbaekfgaaRj
import Derived.Test.YtbbnjnpbaekfgaaMe
set_option linter.unusedVariables false
set_option linter.unusedSimpArgs false
namespace Go.Proofs.YtbbnjnpbaekfgaaM
open Go.RowKit
/-- What appending does: the error, what is pending, the records, the end. -/
def appS (n e : Nat) (P : List (Nat × List UInt8)) (R : List (List UInt8)) (r : List UInt8) : Int × List (Nat × List UInt8) × List (List UInt8) × Nat :=
  if 4400 < r.length then (4, P, R, e) else if n < e + needN r.length then (13, P, R, e) else (0, P ++ fwL e r, R ++ [r], e + needN r.length)
theorem appS_len (n e : Nat) (P : List (Nat × List UInt8)) (R : List (List UInt8)) (r : List UInt8) : (appS n e P R r).2.1.length ≤ P.length + 9 ∧ (appS n e P R r).2.2.1.length ≤ R.length + 1 := by
  unfold appS
  split
  · exact ⟨by show P.length ≤ _; omega, by show R.length ≤ _; omega⟩
  · split
    · exact ⟨by show P.length ≤ _; omega, by show R.length ≤ _; omega⟩
    · refine ⟨?_, ?_⟩
      · show (P ++ fwL e r).length ≤ _
        rw [List.length_append, fwL_length]
        have := needN_le r.length (by omega)
        omega
      · show (R ++ [r]).length ≤ _
        simp
theorem lappend_any (B q p g n : Nat) (v vr : Value) (D : List UInt8) (P : List (Nat × List UInt8)) (R : List (List UInt8)) (s e : Nat) (w : World) (h : LogAt w B q p g n v vr D P R s e) (r : List UInt8) (hP : P.length ≤ 90000) (hR : R.length ≤ 90000) :
    Calls Try.prog 15 #[.pointer (some ⟨q, 0, none⟩), .string (bs r)] w fun e' w' => e' = .returned (.int .i64 (appS n e P R r).1) ∧ (∃ v' vr', LogAt w' B q p g n v' vr' D (appS n e P R r).2.1 (appS n e P R r).2.2.1 s (appS n e P R r).2.2.2 ∧ Fresh w v v' ∧ Fresh w vr vr') ∧ Elses (LOwn q p g v vr) w w' := by
  by_cases h1 : 4400 < r.length
  · rw [show appS n e P R r = (4, P, R, e) from if_pos h1]
    refine (lappend_long q p _ _ _ w h.l (bs r) (by rw [bs_size]; exact h1)).mono ?_
    rintro e' w' ⟨rfl, rfl⟩
    exact ⟨rfl, ⟨v, vr, h, Fresh.refl _ _, Fresh.refl _ _⟩, Elses.refl _ _⟩
  · by_cases h2 : n < e + needN r.length
    · rw [show appS n e P R r = (13, P, R, e) from (if_neg h1).trans (if_pos h2)]
      refine (lappend_full B q p g n v vr D P R s e w h r (by omega) h2).mono ?_
      rintro e' w' ⟨rfl, hb⟩
      exact ⟨rfl, ⟨v, vr, h.new hb, Fresh.refl _ _, Fresh.refl _ _⟩, .of_below' hb⟩
    · rw [show appS n e P R r = (0, P ++ fwL e r, R ++ [r], e + needN r.length) from (if_neg h1).trans (if_neg h2)]
      exact lappend_ok B q p g n v vr D P R s e w h r (by omega) (by omega) hP hR
theorem rlappend_any (B q p n : Nat) (v u vr : Value) (D : List UInt8) (P : List (Nat × List UInt8)) (R : List (List UInt8)) (s e : Nat) (w : World) (h : RLogAt w B q p n v u vr D P R s e) (r : List UInt8) (hP : P.length ≤ 90000) (hR : R.length ≤ 90000) :
    Calls Try.prog 38 #[.pointer (some ⟨q, 0, none⟩), .string (bs r)] w fun e' w' => e' = .returned (.int .i64 (appS n e P R r).1) ∧ (∃ u' vr', RLogAt w' B q p n v u' vr' D (appS n e P R r).2.1 (appS n e P R r).2.2.1 s (appS n e P R r).2.2.2 ∧ Fresh w vr vr') ∧ Elses (RLOwn q p v u vr) w w' := by
  by_cases h1 : 4400 < r.length
  · rw [show appS n e P R r = (4, P, R, e) from if_pos h1]
    refine (rlappend_long _ w (bs r) (by rw [bs_size]; exact h1)).mono ?_
    rintro e' w' ⟨rfl, rfl⟩
    exact ⟨rfl, ⟨u, vr, h, Fresh.refl _ _⟩, Elses.refl _ _⟩
  · by_cases h2 : n < e + needN r.length
    · rw [show appS n e P R r = (13, P, R, e) from (if_neg h1).trans (if_pos h2)]
      refine (rlappend_full B q p n v u vr D P R s e w h r (by omega) h2).mono ?_
      rintro e' w' ⟨rfl, hb⟩
      exact ⟨rfl, ⟨u, vr, h.new hb, Fresh.refl _ _⟩, .of_below' hb⟩
    · rw [show appS n e P R r = (0, P ++ fwL e r, R ++ [r], e + needN r.length) from (if_neg h1).trans (if_neg h2)]
      exact rlappend_ok B q p n v u vr D P R s e w h r (by omega) (by omega) hP hR
theorem need_any (x : Int) : ∃ m : Int, (∀ w, Calls Try.prog 23 #[.int .i64 x] w fun e w' => e = .returned (.int .i64 m) ∧ w = w') ∧ ∀ w, Calls Try.prog 33 #[.int .i64 x] w fun e w' => e = .returned (.int .i64 m) ∧ w = w' := by
  by_cases h : x < 0 ∨ 4400 < x
  · exact ⟨0, fun w => need_no x h w, fun w => rneed_no x h w⟩
  · obtain ⟨m, rfl⟩ : ∃ m : Nat, x = (m : Int) := ⟨x.toNat, by omega⟩
    exact ⟨_, fun w => need_ok m (by omega) w, fun w => rneed_ok m (by omega) w⟩
theorem gives_nil (w : World) : GivesStrs w [] (.returned (.slice none 0 0)) w := ⟨_, rfl, World.ownsRow_nil _ _ _ _, Below.refl _ _⟩
theorem frame_any (x : Int) (hx : x ≤ 9223372036854775807) (r : List UInt8) : ∃ L : List (List UInt8), L.length ≤ 1000 ∧ (∀ w, Calls Try.prog 22 #[.int .i64 x, .string (bs r)] w (GivesStrs w L)) ∧ ∀ w, Calls Try.prog 34 #[.int .i64 x, .string (bs r)] w (GivesStrs w L) := by
  by_cases h : x < 0 ∨ 4400 < r.length
  · have h' : x < 0 ∨ 4400 < (bs r).size := by rw [bs_size]; exact h
    refine ⟨[], by simp, fun w => (frame_no x _ h' w).mono ?_, fun w => (rframe_no x _ h' w).mono ?_⟩
    all_goals
      rintro e w' ⟨rfl, rfl⟩
      exact gives_nil _
  · have h1 : r.length ≤ 4400 := by omega
    refine ⟨frameS x.toNat r, ?_, fun w => frameG_ok x x.toNat (by omega) (by omega) r h1 w, fun w => rframe_ok x x.toNat (by omega) (by omega) r h1 w⟩
    rw [frameS_length]
    have := needN_le r.length h1
    omega
theorem fresh_far {w : World} {vr vr' u : Value} (h : Fresh w vr vr') (hu : ∀ b, u.ownBlock = some b → b < w.heap.size) (hf : ∀ b, vr.ownBlock = some b → u.ownBlock ≠ some b) : ∀ b, vr'.ownBlock = some b → u.ownBlock ≠ some b := by
  intro b hb e1
  rcases h with e | ⟨k, hk, e⟩
  · exact hf b (e ▸ hb) e1
  · rw [e] at hb
    cases hb
    have := hu b e1
    omega
end Go.Proofs.YtbbnjnpbaekfgaaM
