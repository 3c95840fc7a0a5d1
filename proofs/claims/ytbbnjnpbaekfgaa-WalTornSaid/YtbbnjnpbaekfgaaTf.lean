/- The plain theory of a log: when a record's sectors, partly written, are whole. -/
import Derived.Test.YtbbnjnpbaekfgaaLq
set_option linter.unusedVariables false
set_option linter.unusedSimpArgs false
namespace Go.Proofs.YtbbnjnpbaekfgaaM
/-- Is what stands from c on all noughts? -/
def tailZ (F : List UInt8) (c : Nat) : Bool := (F.drop c).all (· == 0)
theorem torn_iff {F : List UInt8} (hF : F.length = 512) (c : Nat) : torn F c = F ↔ tailZ F c = true := by
  unfold torn tailZ
  rw [List.all_eq_true]
  constructor
  · intro h x hx
    have h1 := congrArg (List.drop c) h
    by_cases hc : c ≤ 512
    · rw [List.drop_append_of_le_length (by rw [List.length_take]; omega), List.drop_take_self, List.nil_append] at h1
      rw [← h1] at hx
      unfold zeros at hx
      rw [(List.mem_replicate.1 hx).2]
      rfl
    · rw [List.drop_eq_nil_of_le (by omega)] at hx
      cases hx
  · intro h
    have h2 : F.drop c = zeros (512 - c) := by
      unfold zeros
      rw [List.eq_replicate_iff]
      exact ⟨by rw [List.length_drop, hF], fun x hx => by simpa using h x hx⟩
    rw [← h2, List.take_append_drop]
/-- Are the first j sectors of a record whole, cut so? -/
def wholeB (e : Nat) (r : List UInt8) (c : Nat → Nat) (j : Nat) : Bool := (List.range j).all fun i => tailZ (frameI e r i) (c i)
theorem wholeB_succ (e : Nat) (r : List UInt8) (c : Nat → Nat) (j : Nat) : wholeB e r c (j + 1) = (wholeB e r c j && tailZ (frameI e r j) (c j)) := by
  unfold wholeB
  rw [List.range_succ, List.all_append]
  simp
theorem torn_found {n : Nat} {D : List UInt8} {P : List (Nat × List UInt8)} {L : List (List UInt8)} {r : List UInt8} (h : Good n D P (L ++ [r]) L.length) (c : Nat → Nat) (hc : ∀ k, c k ≤ 512) :
    (found (crashK D P c P.length)).recs = (if wholeB (spanN L) r c (needN r.length) then L ++ [r] else L) ∧ (found (crashK D P c P.length)).fin = spanN (if wholeB (spanN L) r c (needN r.length) then L ++ [r] else L) := by
  have hat := h.crash_at c hc
  have htk : (L ++ [r]).take L.length = L := by simp
  have hsp : spanN (L ++ [r]) = spanN L + needN r.length := by rw [spanN_append]; simp [spanN]
  have hle := h.le
  rw [htk] at hat
  cases hw : wholeB (spanN L) r c (needN r.length) with
  | true =>
    simp only [if_true]
    have e : crashK D P c P.length = syncD D P := by
      refine sec_ext (n := n) (crashK_length P c h.len h.ok _ (Nat.le_refl _)) (syncD_length P h.len h.ok) fun i hi => ?_
      rw [hat i hi, h.sync_at i hi]
      by_cases h1 : i < spanN (L ++ [r])
      · rw [if_pos h1]
        by_cases h2 : i < spanN L
        · rw [if_pos h2]
        · rw [if_neg h2, torn_iff (tgt_length _ _)]
          unfold wholeB at hw
          rw [List.all_eq_true] at hw
          have h3 : i - spanN L < needN r.length := by omega
          have := hw (i - spanN L) (List.mem_range.2 h3)
          have h4 := tgt_new (R := L) h3
          rw [show spanN L + (i - spanN L) = i by omega] at h4
          rw [h4]
          exact this
      · rw [if_neg h1, tgt_ge (by omega)]
    rw [e]
    exact h.finds
  | false =>
    simp only [Bool.false_eq_true, if_false]
    obtain ⟨m, h1, h2, hr, hf, hg⟩ := h.crash c hc
    rw [List.length_append, List.length_singleton] at h2
    by_cases hm : m = L.length
    · subst hm
      rw [htk] at hr hf
      exact ⟨hr, hf⟩
    · exfalso
      have hm2 : m = L.length + 1 := by omega
      have hta : (L ++ [r]).take m = L ++ [r] := List.take_of_length_le (by rw [List.length_append, List.length_singleton]; omega)
      rw [hta] at hg
      have hall : wholeB (spanN L) r c (needN r.length) = true := by
        unfold wholeB
        rw [List.all_eq_true]
        intro j hj
        rw [List.mem_range] at hj
        have hd := hg.dur (spanN L + j) (by omega)
        rw [hta, openD_sec (crashK_length P c h.len h.ok _ (Nat.le_refl _)) hle (by omega), if_neg (by omega), hat _ (by omega), if_pos (by omega), if_neg (by omega), torn_iff (tgt_length _ _), tgt_new hj, Nat.add_sub_cancel_left] at hd
        exact hd
      rw [hall] at hw
      cases hw
end Go.Proofs.YtbbnjnpbaekfgaaM
