/- The law WalLong, walked: it says yes. -/
import Derived.Test.YtbbnjnpbaekfgaaLq
set_option linter.unusedVariables false
set_option linter.unusedSimpArgs false
namespace Go.Proofs.YtbbnjnpbaekfgaaM
open Go.RowKit Go.Proofs.YtbbnjnpbaekfgaaW.PrintMore
attribute [local go_sem] max2_int min2_int max_two min_two
theorem span_rep (r : List UInt8) : ∀ k, spanN (List.replicate k r) = k * needN r.length
  | 0 => by simp [spanN]
  | k + 1 => by
    rw [List.replicate_succ]
    simp only [spanN]
    rw [span_rep r k, Nat.succ_mul, Nat.add_comm]
theorem pick_1024 (a : Int) (w : World) : Calls Try.prog 11 #[.int .i64 a, .int .i64 1024] w fun e w' => e = .returned (.int .i64 (pickN a 1024 : Int)) ∧ Below w.heap.size w w' := pick_ok a 1024 (by decide) (by decide) w
theorem pick_4401 (a : Int) (w : World) : Calls Try.prog 11 #[.int .i64 a, .int .i64 4401] w fun e w' => e = .returned (.int .i64 (pickN a 4401 : Int)) ∧ Below w.heap.size w w' := pick_ok a 4401 (by decide) (by decide) w
theorem new_n (n : Nat) (h1 : 0 < n) (h2 : n ≤ 1024) (x : Int) (hx : x = (n : Int)) (w : World) : Calls Try.prog 13 #[.int .i64 x] w fun e w' => e = .returned (.tuple #[.pointer (some ⟨w.heap.size + 1, 0, none⟩), .int .i64 0]) ∧
      DiskAt w' w.heap.size (w.heap.size + 1) w.heap.size n (.slice none 0 0) (zeros (n * 512)) [] ∧ Below w.heap.size w w' := by
  subst hx
  exact new_ok n h1 h2 w
set_option maxRecDepth 100000 in
set_option maxHeartbeats 8000000 in
theorem walLong_walk (a0 a1 : Int) (w : World) : Calls Try.prog 3 #[.int .i64 a0, .int .i64 a1] w fun e w' => e = .returned (.bool true) ∧ Below w.heap.size w w' := by
  go_enter Try.func3, Try.ntmps3
  go_wp2_with fail
  refine (lives_ok _).mono ?_
  rintro e w1 ⟨rfl, hb1⟩
  have HB1 := Lib.hid hb1
  clear hb1
  go_wp2_with fail
  refine (pick_1024 a0 _).mono ?_
  rintro e w2 ⟨rfl, hb2⟩
  have HB2 := Lib.hid (HB1.out.trans (hb2.mono HB1.out.size))
  clear hb2
  obtain ⟨n, hn⟩ : ∃ n, n = 1 + pickN a0 1024 := ⟨_, rfl⟩
  have hpn := pickN_lt a0 (m := 1024) (by decide)
  have hn1 : 0 < n := by omega
  have hn2 : n ≤ 1024 := by omega
  have hne : (1 : Int) + (pickN a0 1024 : Int) = (n : Int) := by omega
  have hp0 : (pickN a0 1024 : Int) ≤ 1023 := by omega
  clear hn
  go_wp2_with fail
  refine (pick_4401 a1 _).mono ?_
  rintro e w3 ⟨rfl, hb3⟩
  have HB3 := Lib.hid (HB2.out.trans (hb3.mono HB2.out.size))
  clear hb3
  have hpm := pickN_lt a1 (m := 4401) (by decide)
  obtain ⟨z, hz⟩ : ∃ z, z = pickN a1 4401 := ⟨_, rfl⟩
  rw [← hz] at hpm ⊢
  clear hz
  have HZ := Lib.hid hpm
  go_wp2_with fail
  refine (times_x z (by have := HZ.out; omega) _).mono ?_
  rintro e w4 ⟨rfl, hb4⟩
  have HB4 := Lib.hid (HB3.out.trans (hb4.mono HB3.out.size))
  clear hb4
  obtain ⟨r, hr⟩ : ∃ r, r = rep 120 z := ⟨_, rfl⟩
  have hrl : r.length = z := by rw [hr, rep_length]
  rw [← hr]
  clear hr
  have hsz : (bs r).size = r.length := bs_size r
  have hr4 : r.length ≤ 4400 := by omega
  have hri : (r.length : Int) ≤ 4400 := by omega
  have hnp := needN_pos r.length
  have hnl := needN_le r.length hr4
  obtain ⟨m, hm⟩ : ∃ m, m = needN r.length := ⟨_, rfl⟩
  have hmx : (if (1 : Int) < ((r.length : Int) + 493 - 1) / 493 then ((r.length : Int) + 493 - 1) / 493 else 1) = (m : Int) := by
    rw [hm]
    unfold needN
    split <;> omega
  have HR := Lib.hid (And.intro hrl (And.intro hm hr4))
  rw [← hm] at hnp hnl
  clear hrl hm
  go_wp2_with fail
  refine (new_ok n hn1 hn2 _).mono ?_
  rintro e w5 ⟨rfl, hd5, hb5⟩
  have HB5 := Lib.hid (HB4.out.trans (hb5.mono HB4.out.size))
  have HD5 := Lib.hid hd5
  have hs4 := HB4.out.size
  clear hd5 hb5
  go_wp2_with fail
  refine (open_new _ _ _ _ _ _ HD5.out).mono ?_
  rintro e w6 ⟨rfl, ⟨vr6, v6, hl6, _, _⟩, he6⟩
  have HB6 := Lib.hid (HB5.out.trans ((HD5.out.step he6).mono hs4))
  have HL6 := Lib.hid hl6
  clear hl6 he6
  obtain ⟨t, ht⟩ : ∃ t, t = n / m := ⟨_, rfl⟩
  have hdiv : (n : Int) / (m : Int) = (t : Int) := by rw [ht]; exact (Int.natCast_ediv n m).symm
  have htm : t * m ≤ n := by rw [ht]; exact Nat.div_mul_le_self n m
  have htm2 : n < t * m + m := by
    have := Nat.lt_div_mul_add (a := n) (b := m) (by omega)
    rw [← ht] at this
    exact this
  have htn : t ≤ 1024 := by
    have : t ≤ n := by rw [ht]; exact Nat.div_le_self n m
    omega
  have hm0 : ¬ (m : Int) = 0 := by omega
  have HT := Lib.hid (And.intro htm htm2)
  clear ht hmx hne
  go_wp2_with fail
  go_loopw [11] (fun iv wr => ∃ (k : Nat) (v vr : Value) (P : List (Nat × List UInt8)), k ≤ t ∧ iv = .int .i64 (k : Int) ∧ Hid (LogGood wr w4.heap.size w5.heap.size (w4.heap.size + 1) w4.heap.size n v vr (zeros (n * 512)) P (List.replicate k r) 0) ∧ Hid (Below w.heap.size w wr)) (fun iv _ => t - (intOf iv).toNat)
  case atStart => exact ⟨0, v6, vr6, [], Nat.zero_le _, rfl, HL6.out, HB6.out⟩
  case round =>
    obtain ⟨k, v, vr, P, hk, rfl, HL, HW⟩ := hrel
    obtain ⟨wi, rfl⟩ : ∃ wi, wi = wr := ⟨wr, rfl⟩
    by_cases hlt : k < t
    · have hk' : (k : Int) < (t : Int) := by omega
      have hk0 : (0 : Int) ≤ (k : Int) := by omega
      have hkm : k * m + m ≤ n := by
        have : (k + 1) * m ≤ t * m := Nat.mul_le_mul_right m hlt
        rw [Nat.succ_mul] at this
        omega
      have HK := Lib.hid hkm
      have hsp := span_rep r k
      rw [← HR.out.2.1] at hsp
      have HSP := Lib.hid hsp
      clear hkm hsp htm htm2
      go_wp2_with fail
      refine (good_append _ _ _ _ _ _ _ _ _ _ _ _ HL.out r HR.out.2.2 (by rw [HSP.out, ← HR.out.2.1]; exact HK.out)).mono ?_
      rintro e w7 ⟨rfl, ⟨v7, vr7, hl7, _, _⟩, he7⟩
      have HB7 := Lib.hid (HW.out.trans ((HL.out.step he7).mono hs4))
      rw [← List.replicate_succ'] at hl7
      have HL7 := Lib.hid hl7
      have hend : ((spanN (List.replicate (k + 1) r) : Nat) : Int) = ((k : Int) + 1) * (m : Int) := by
        rw [span_rep, ← HR.out.2.1]
        simp
      have HE := Lib.hid hend
      clear hl7 he7 hend
      go_wp2_with fail
      have hlend := lend_ok _ _ _ _ _ _ HL7.out.blk
      rw [HE.out] at hlend
      refine hlend.mono ?_
      rintro e w' ⟨rfl, rfl⟩
      have hX0 : (0 : Int) ≤ ((k : Int) + 1) * (m : Int) := by
        rw [← HE.out]; omega
      have hX1 : ((k : Int) + 1) * (m : Int) ≤ 1024 := by
        rw [← HE.out, span_rep, ← HR.out.2.1, Nat.succ_mul]
        have := HK.out
        omega
      clear hlend
      go_wp2_with fail
      go_roundw
      case rel => exact ⟨k + 1, v7, vr7, _, by omega, by go_num, HL7.out, HB7.out⟩
      case measure => simp [intOf]; omega
    · have hk' : ¬ (k : Int) < (t : Int) := by omega
      obtain rfl : k = t := by omega
      have hsp := span_rep r k
      rw [← HR.out.2.1] at hsp
      have HSP := Lib.hid hsp
      have HQ1 := Lib.hid (show ∀ j, Calls Try.prog 15 #[.pointer (some ⟨w5.heap.size, 0, none⟩), .string (bs r)] (wi.drewN j) fun e w' => e = .returned (.int .i64 13) ∧ ∃ m, w' = (wi.drewN j).drewN m from fun j =>
        lappend_fq _ _ _ _ _ _ _ _ _ _ _ _ _ (HL.out.l.new (below_drewN (Below.refl _ _) j)) r HR.out.2.2 (by rw [HSP.out, ← HR.out.2.1]; exact HT.out.2))
      have hle : ((n - spanN (List.replicate k r) : Nat) : Int) = (n : Int) - (k : Int) * (m : Int) := by
        rw [hsp, Int.natCast_sub HT.out.1]
        simp
      have HQ2 := Lib.hid (show ∀ j, Calls Try.prog 17 #[.pointer (some ⟨w5.heap.size, 0, none⟩)] (wi.drewN j) fun e w' => e = .returned (.int .i64 ((n : Int) - (k : Int) * (m : Int))) ∧ ∃ m, w' = (wi.drewN j).drewN m from fun j => by
        have := lleft_q _ _ _ _ _ _ _ _ _ _ _ _ _ (HL.out.l.new (below_drewN (Below.refl _ _) j))
        rw [hle] at this
        exact this)
      have hY0 : (0 : Int) ≤ (k : Int) * (m : Int) := by
        have : ((k * m : Nat) : Int) = (k : Int) * (m : Int) := by simp
        omega
      have hY1 : (k : Int) * (m : Int) ≤ (n : Int) := by
        have : ((k * m : Nat) : Int) = (k : Int) * (m : Int) := by simp
        omega
      clear hsp hle htm htm2
      go_wp2_with fail
      go_quiet ((first | (go_at_call 15; exact Calls.quiet_of (HQ1.out _)) | (go_at_call 17; exact Calls.quiet_of (HQ2.out _))))
      go_wp2_with fail
      have HL1 := Lib.hid (HL.out.new (below_drewN (Below.refl _ _) nq))
      have HW1 := Lib.hid (below_drewN HW.out nq)
      obtain ⟨w7, rfl⟩ : ∃ w7, w7 = wi.drewN nq := ⟨_, rfl⟩
      obtain ⟨I, hI⟩ : ∃ I, I = syncD (zeros (n * 512)) P := ⟨_, rfl⟩
      have HFD := Lib.hid (show (found I).recs = List.replicate k r ∧ (found I).fin = k * m by rw [hI, HL1.out.g.finds.1, HL1.out.g.finds.2]; exact ⟨rfl, HSP.out⟩)
      have HIL := Lib.hid (show I.length = n * 512 by rw [hI]; exact syncD_length P HL1.out.l.d.len HL1.out.l.d.ok)
      refine (image_ok _ _ _ _ _ _ _ _ HL1.out.l.d).mono ?_
      rintro e w8 ⟨iv, rfl, hov, hb8⟩
      rw [← hI] at hov
      have HSC := Lib.hid (scan_own _ iv I w8 hov (by rw [HIL.out]; omega) (by rw [HIL.out]; omega))
      have HB8 := Lib.hid (HW1.out.trans (hb8.mono HW1.out.size))
      obtain ⟨gi, ci, rfl⟩ := ownsRow_pos hov (by rw [HIL.out]; omega)
      clear hov hb8 hI
      go_wp2_with fail
      refine HSC.out.mono ?_
      rintro e w9 ⟨rv, rfl, hrow, hb9⟩
      rw [HFD.out.1, List.length_replicate] at hrow
      rw [HFD.out.2]
      have HB9 := Lib.hid (HB8.out.trans (hb9.mono HB8.out.size))
      have HRW := Lib.hid hrow
      obtain ⟨xa, xc, rfl⟩ := len_of_own hrow
      have hkm : ((k * m : Nat) : Int) = (k : Int) * (m : Int) := by simp
      rw [hkm]
      clear hrow hb9 hkm
      go_wp2_with fail
      go_loopw [14] (fun iv wr => ∃ j : Nat, j ≤ k ∧ iv = .int .i64 (j : Int) ∧ wr = w9) (fun iv _ => k - (intOf iv).toNat)
      case atStart => exact ⟨0, Nat.zero_le _, rfl, rfl⟩
      case round =>
        obtain ⟨j, hj, rfl, rfl⟩ := hrel
        by_cases hjk : j < k
        · obtain ⟨gx, cx, e⟩ := ownsRow_pos HRW.out (by omega)
          cases e
          have hjk' : (j : Int) < (k : Int) := by omega
          have hj0 : (0 : Int) ≤ (j : Int) := by omega
          have hcj : wr.cell? ⟨gx, j, none⟩ = some (.string (bs r)) := by
            have := HRW.out.cells (g := gx) rfl j (.string (bs r)) (by rw [strs_get _ j (by rw [List.length_replicate]; exact hjk), List.getElem_replicate])
            rw [addr_add, Nat.zero_add] at this
            exact this
          go_wp2_with fail
          go_roundw
          case rel => exact ⟨j + 1, by omega, by go_num, trivial⟩
          case measure => simp [intOf]; omega
        · have hjk' : ¬ (j : Int) < (k : Int) := by omega
          obtain rfl : j = k := by omega
          go_wp2_with fail
          go_ret
          exact ⟨rfl, HB9.out⟩
theorem walLong_row (a0 a1 : Int) (w : World) (_ : (Lit.int .i64 a0).wf = true) (_ : (Lit.int .i64 a1).wf = true) : Calls Try.prog 3 #[.int .i64 a0, .int .i64 a1] w fun e w' => e = .returned (.bool true) ∧ Below w.heap.size w w' := walLong_walk a0 a1 w
end Go.Proofs.YtbbnjnpbaekfgaaM
