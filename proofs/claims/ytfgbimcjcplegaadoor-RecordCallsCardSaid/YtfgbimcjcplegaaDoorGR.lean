/- The contract of the reference's Line: the same line. -/
import Derived.Test.YtfgbimcjcplegaaDoorGD
import Derived.Deep.RegionHeld3
set_option linter.unusedVariables false
set_option linter.unusedSimpArgs false
namespace Go.Proofs.YtfgbimcjcplegaaDoorG
open Go.RowKit Go.Proofs.YtfgbimcjcplegaaDoorW.PrintWords Go.Proofs.YtfgbimcjcplegaaDoorX Go.Proofs.YtfgbimcjcplegaaDoorW.PrintMore
theorem lg2 (x : ByteArray) : (⟨#[108, 111, 110, 103, 32]⟩ : ByteArray) ++ x = ⟨#[108, 111, 110, 103]⟩ ++ (⟨#[32]⟩ ++ x) := by rw [← ByteArray.append_assoc]; rfl
theorem lg3 (x : ByteArray) : (⟨#[114, 101, 112, 108, 121, 32]⟩ : ByteArray) ++ x = ⟨#[114, 101, 112, 108, 121]⟩ ++ (⟨#[32]⟩ ++ x) := by rw [← ByteArray.append_assoc]; rfl
theorem lg4 (x : ByteArray) : (⟨#[116, 105, 99, 107, 32]⟩ : ByteArray) ++ x = ⟨#[116, 105, 99, 107]⟩ ++ (⟨#[32]⟩ ++ x) := by rw [← ByteArray.append_assoc]; rfl
set_option maxHeartbeats 4000000 in
theorem ref_1 (c n : Int) (ok : Bool) (t : ByteArray) (w : World) (hc0 : -9223372036854775808 ≤ c) (hc1 : c ≤ 9223372036854775807) (hn0 : -9223372036854775808 ≤ n) (hn1 : n ≤ 9223372036854775807) (ht : t.size ≤ 5000) :
    Calls Tryd.prog 18 #[.agg #[.int .i64 1, .int .i64 c, .int .i64 n, .bool ok, .string t]] w fun e w' => e = .returned (.string (lineS 1 c n ok t)) ∧ Below w.heap.size w w' := by
  have s1 := itoaS_size n hn0 hn1
  have s2 := itoaS_size c hc0 hc1
  have s3 := itoaS_size t.size (by omega) (by omega)
  have HI0 := Lib.hid (Blk.new w #[.int .i64 1, .int .i64 c, .int .i64 n, .bool ok, .string t] 24)
  have HW0 := Lib.hid ((Below.refl w.heap.size w).alloc (Nat.le_refl _) (.cells #[.int .i64 1, .int .i64 c, .int .i64 n, .bool ok, .string t] 24))
  have HC0 := Lib.hid hc0
  have HC1 := Lib.hid hc1
  have HN0 := Lib.hid hn0
  have HN1 := Lib.hid hn1
  clear hc0 hc1 hn0 hn1
  go_enter Tryd.func18, Tryd.ntmps18
  go_wp2_with fail
  refine (bigDigits_any (t.size : Int) _ (by omega) (by omega)).mono ?_
  rintro e w1 ⟨rfl, hb1⟩
  have HW1 := Lib.hid (HW0.out.trans (hb1.mono HW0.out.size))
  clear hb1
  go_wp2_with fail
  go_ret
  refine ⟨?_, HW1.out⟩
  first | rfl | (show Ending.returned (Value.string _) = _; first | rw [lg2] | rw [lg3] | rw [lg4]; rfl)
set_option maxHeartbeats 4000000 in
theorem ref_2 (c n : Int) (ok : Bool) (t : ByteArray) (w : World) (hc0 : -9223372036854775808 ≤ c) (hc1 : c ≤ 9223372036854775807) (hn0 : -9223372036854775808 ≤ n) (hn1 : n ≤ 9223372036854775807) (ht : t.size ≤ 5000) :
    Calls Tryd.prog 18 #[.agg #[.int .i64 2, .int .i64 c, .int .i64 n, .bool ok, .string t]] w fun e w' => e = .returned (.string (lineS 2 c n ok t)) ∧ Below w.heap.size w w' := by
  have s1 := itoaS_size n hn0 hn1
  have s2 := itoaS_size c hc0 hc1
  have s3 := itoaS_size t.size (by omega) (by omega)
  have HI0 := Lib.hid (Blk.new w #[.int .i64 2, .int .i64 c, .int .i64 n, .bool ok, .string t] 24)
  have HW0 := Lib.hid ((Below.refl w.heap.size w).alloc (Nat.le_refl _) (.cells #[.int .i64 2, .int .i64 c, .int .i64 n, .bool ok, .string t] 24))
  have HC0 := Lib.hid hc0
  have HC1 := Lib.hid hc1
  have HN0 := Lib.hid hn0
  have HN1 := Lib.hid hn1
  clear hc0 hc1 hn0 hn1
  go_enter Tryd.func18, Tryd.ntmps18
  go_wp2_with fail
  refine (bigDigits_any n _ HN0.out HN1.out).mono ?_
  rintro e w1 ⟨rfl, hb1⟩
  have HW1 := Lib.hid (HW0.out.trans (hb1.mono HW0.out.size))
  clear hb1
  go_wp2_with fail
  go_ret
  refine ⟨?_, HW1.out⟩
  first | rfl | (show Ending.returned (Value.string _) = _; first | rw [lg2] | rw [lg3] | rw [lg4]; rfl)
set_option maxHeartbeats 4000000 in
theorem ref_3t (c n : Int) (t : ByteArray) (w : World) (hc0 : -9223372036854775808 ≤ c) (hc1 : c ≤ 9223372036854775807) (hn0 : -9223372036854775808 ≤ n) (hn1 : n ≤ 9223372036854775807) (ht : t.size ≤ 5000) :
    Calls Tryd.prog 18 #[.agg #[.int .i64 3, .int .i64 c, .int .i64 n, .bool true, .string t]] w fun e w' => e = .returned (.string (lineS 3 c n true t)) ∧ Below w.heap.size w w' := by
  have s1 := itoaS_size n hn0 hn1
  have s2 := itoaS_size c hc0 hc1
  have s3 := itoaS_size t.size (by omega) (by omega)
  have HI0 := Lib.hid (Blk.new w #[.int .i64 3, .int .i64 c, .int .i64 n, .bool true, .string t] 24)
  have HW0 := Lib.hid ((Below.refl w.heap.size w).alloc (Nat.le_refl _) (.cells #[.int .i64 3, .int .i64 c, .int .i64 n, .bool true, .string t] 24))
  have HC0 := Lib.hid hc0
  have HC1 := Lib.hid hc1
  have HN0 := Lib.hid hn0
  have HN1 := Lib.hid hn1
  clear hc0 hc1 hn0 hn1
  go_enter Tryd.func18, Tryd.ntmps18
  go_wp2_with fail
  refine (bigDigits_any n _ HN0.out HN1.out).mono ?_
  rintro e w1 ⟨rfl, hb1⟩
  have HW1 := Lib.hid (HW0.out.trans (hb1.mono HW0.out.size))
  clear hb1
  go_wp2_with fail
  go_ret
  refine ⟨?_, HW1.out⟩
  first | rfl | (show Ending.returned (Value.string _) = _; first | rw [lg2] | rw [lg3] | rw [lg4]; rfl)
set_option maxHeartbeats 4000000 in
theorem ref_3f (c n : Int) (t : ByteArray) (w : World) (hc0 : -9223372036854775808 ≤ c) (hc1 : c ≤ 9223372036854775807) (hn0 : -9223372036854775808 ≤ n) (hn1 : n ≤ 9223372036854775807) (ht : t.size ≤ 5000) :
    Calls Tryd.prog 18 #[.agg #[.int .i64 3, .int .i64 c, .int .i64 n, .bool false, .string t]] w fun e w' => e = .returned (.string (lineS 3 c n false t)) ∧ Below w.heap.size w w' := by
  have s1 := itoaS_size n hn0 hn1
  have s2 := itoaS_size c hc0 hc1
  have s3 := itoaS_size t.size (by omega) (by omega)
  have HI0 := Lib.hid (Blk.new w #[.int .i64 3, .int .i64 c, .int .i64 n, .bool false, .string t] 24)
  have HW0 := Lib.hid ((Below.refl w.heap.size w).alloc (Nat.le_refl _) (.cells #[.int .i64 3, .int .i64 c, .int .i64 n, .bool false, .string t] 24))
  have HC0 := Lib.hid hc0
  have HC1 := Lib.hid hc1
  have HN0 := Lib.hid hn0
  have HN1 := Lib.hid hn1
  clear hc0 hc1 hn0 hn1
  go_enter Tryd.func18, Tryd.ntmps18
  go_wp2_with fail
  refine (bigDigits_any n _ HN0.out HN1.out).mono ?_
  rintro e w1 ⟨rfl, hb1⟩
  have HW1 := Lib.hid (HW0.out.trans (hb1.mono HW0.out.size))
  clear hb1
  go_wp2_with fail
  go_ret
  refine ⟨?_, HW1.out⟩
  first | rfl | (show Ending.returned (Value.string _) = _; first | rw [lg2] | rw [lg3] | rw [lg4]; rfl)
set_option maxHeartbeats 4000000 in
theorem ref_4 (c n : Int) (ok : Bool) (t : ByteArray) (w : World) (hc0 : -9223372036854775808 ≤ c) (hc1 : c ≤ 9223372036854775807) (hn0 : -9223372036854775808 ≤ n) (hn1 : n ≤ 9223372036854775807) (ht : t.size ≤ 5000) :
    Calls Tryd.prog 18 #[.agg #[.int .i64 4, .int .i64 c, .int .i64 n, .bool ok, .string t]] w fun e w' => e = .returned (.string (lineS 4 c n ok t)) ∧ Below w.heap.size w w' := by
  have s1 := itoaS_size n hn0 hn1
  have s2 := itoaS_size c hc0 hc1
  have s3 := itoaS_size t.size (by omega) (by omega)
  have HI0 := Lib.hid (Blk.new w #[.int .i64 4, .int .i64 c, .int .i64 n, .bool ok, .string t] 24)
  have HW0 := Lib.hid ((Below.refl w.heap.size w).alloc (Nat.le_refl _) (.cells #[.int .i64 4, .int .i64 c, .int .i64 n, .bool ok, .string t] 24))
  have HC0 := Lib.hid hc0
  have HC1 := Lib.hid hc1
  have HN0 := Lib.hid hn0
  have HN1 := Lib.hid hn1
  clear hc0 hc1 hn0 hn1
  go_enter Tryd.func18, Tryd.ntmps18
  go_wp2_with fail
  refine (bigDigits_any n _ HN0.out HN1.out).mono ?_
  rintro e w1 ⟨rfl, hb1⟩
  have HW1 := Lib.hid (HW0.out.trans (hb1.mono HW0.out.size))
  clear hb1
  go_wp2_with fail
  go_ret
  refine ⟨?_, HW1.out⟩
  first | rfl | (show Ending.returned (Value.string _) = _; first | rw [lg2] | rw [lg3] | rw [lg4]; rfl)
set_option maxHeartbeats 4000000 in
theorem ref_5 (c n : Int) (ok : Bool) (t : ByteArray) (w : World) (hc0 : -9223372036854775808 ≤ c) (hc1 : c ≤ 9223372036854775807) (hn0 : -9223372036854775808 ≤ n) (hn1 : n ≤ 9223372036854775807) (ht : t.size ≤ 5000) :
    Calls Tryd.prog 18 #[.agg #[.int .i64 5, .int .i64 c, .int .i64 n, .bool ok, .string t]] w fun e w' => e = .returned (.string (lineS 5 c n ok t)) ∧ Below w.heap.size w w' := by
  have s1 := itoaS_size n hn0 hn1
  have s2 := itoaS_size c hc0 hc1
  have s3 := itoaS_size t.size (by omega) (by omega)
  have HI0 := Lib.hid (Blk.new w #[.int .i64 5, .int .i64 c, .int .i64 n, .bool ok, .string t] 24)
  have HW0 := Lib.hid ((Below.refl w.heap.size w).alloc (Nat.le_refl _) (.cells #[.int .i64 5, .int .i64 c, .int .i64 n, .bool ok, .string t] 24))
  have HC0 := Lib.hid hc0
  have HC1 := Lib.hid hc1
  have HN0 := Lib.hid hn0
  have HN1 := Lib.hid hn1
  clear hc0 hc1 hn0 hn1
  go_enter Tryd.func18, Tryd.ntmps18
  go_wp2_with fail
  have q1 : (9223372036854775807 < 8 + (itoaS c).size) = False := eq_false (by omega)
  have q2 : (9223372036854775799 < (itoaS c).size) = False := eq_false (by omega)
  have q3 : (9223372036854775807 < 8 + (itoaS c).size + 1) = False := eq_false (by omega)
  have q4 : (9223372036854775806 < 8 + (itoaS c).size) = False := eq_false (by omega)
  have q5 : (9223372036854775798 < (itoaS c).size) = False := eq_false (by omega)
  have q6 : (9223372036854775807 < 8 + (itoaS c).size + 1 + t.size) = False := eq_false (by omega)
  have q7 : (9223372036854775807 < 8 + ((itoaS c).size + 1) + t.size) = False := eq_false (by omega)
  have q8 : (9223372036854775807 < 8 + ((itoaS c).size + (1 + t.size))) = False := eq_false (by omega)
  have q9 : (9223372036854775807 < 8 + (itoaS c).size + (1 + t.size)) = False := eq_false (by omega)
  obtain ⟨y0, y1, y2, y3, y4, z0, z1, z2, z3, z4⟩ := five HI0.out
  go_region_held3 (fun w' => w'.cell? ⟨w.heap.size, 1, none⟩ = some (.int .i64 c) ∧ w'.cell? ⟨w.heap.size, 4, none⟩ = some (.string t) ∧ Blk w' w.heap.size #[.int .i64 5, .int .i64 c, .int .i64 n, .bool ok, .string t] 24 ∧ Below w.heap.size w w') (first | assumption | exact ⟨y1, y4, HI0.out.drew, HW0.out.drew⟩ | exact S_step (by assumption) (by assumption))
    (first | (go_at_call 27; refine (bigDigits_any c _ HC0.out HC1.out).mono ?_; rintro e w2 ⟨rfl, hb2⟩))
  all_goals go_wp2
  all_goals (go_ret; exact ⟨rfl, S_b (by assumption)⟩)
set_option maxHeartbeats 4000000 in
theorem ref_6 (c n : Int) (ok : Bool) (t : ByteArray) (w : World) (hc0 : -9223372036854775808 ≤ c) (hc1 : c ≤ 9223372036854775807) (hn0 : -9223372036854775808 ≤ n) (hn1 : n ≤ 9223372036854775807) (ht : t.size ≤ 5000) :
    Calls Tryd.prog 18 #[.agg #[.int .i64 6, .int .i64 c, .int .i64 n, .bool ok, .string t]] w fun e w' => e = .returned (.string (lineS 6 c n ok t)) ∧ Below w.heap.size w w' := by
  have s1 := itoaS_size n hn0 hn1
  have s2 := itoaS_size c hc0 hc1
  have s3 := itoaS_size t.size (by omega) (by omega)
  have HI0 := Lib.hid (Blk.new w #[.int .i64 6, .int .i64 c, .int .i64 n, .bool ok, .string t] 24)
  have HW0 := Lib.hid ((Below.refl w.heap.size w).alloc (Nat.le_refl _) (.cells #[.int .i64 6, .int .i64 c, .int .i64 n, .bool ok, .string t] 24))
  have HC0 := Lib.hid hc0
  have HC1 := Lib.hid hc1
  have HN0 := Lib.hid hn0
  have HN1 := Lib.hid hn1
  clear hc0 hc1 hn0 hn1
  go_enter Tryd.func18, Tryd.ntmps18
  go_wp2_with fail
  go_ret
  refine ⟨?_, HW0.out⟩
  first | rfl | (show Ending.returned (Value.string _) = _; first | rw [lg2] | rw [lg3] | rw [lg4]; rfl)
set_option maxHeartbeats 4000000 in
theorem ref_9 (k c n : Int) (ok : Bool) (t : ByteArray) (w : World) (h1 : (k == 1) = false) (h2 : (k == 2) = false) (h3 : (k == 3) = false) (h4 : (k == 4) = false) (h5 : (k == 5) = false) (h6 : (k == 6) = false) :
    Calls Tryd.prog 18 #[.agg #[.int .i64 k, .int .i64 c, .int .i64 n, .bool ok, .string t]] w fun e w' => e = .returned (.string ⟨#[63]⟩) ∧ Below w.heap.size w w' := by
  have HW0 := Lib.hid ((Below.refl w.heap.size w).alloc (Nat.le_refl _) (.cells #[.int .i64 k, .int .i64 c, .int .i64 n, .bool ok, .string t] 24))
  go_enter Tryd.func18, Tryd.ntmps18
  go_wp2_with fail
  go_ret
  exact ⟨rfl, HW0.out⟩
theorem ref_any (k c n : Int) (ok : Bool) (t : ByteArray) (w : World) (hc0 : -9223372036854775808 ≤ c) (hc1 : c ≤ 9223372036854775807) (hn0 : -9223372036854775808 ≤ n) (hn1 : n ≤ 9223372036854775807) (ht : t.size ≤ 5000) :
    Calls Tryd.prog 18 #[.agg #[.int .i64 k, .int .i64 c, .int .i64 n, .bool ok, .string t]] w fun e w' => e = .returned (.string (lineS k c n ok t)) ∧ Below w.heap.size w w' := by
  by_cases h1 : k = 1
  · subst h1; exact ref_1 c n ok t w hc0 hc1 hn0 hn1 ht
  by_cases h2 : k = 2
  · subst h2; exact ref_2 c n ok t w hc0 hc1 hn0 hn1 ht
  by_cases h3 : k = 3
  · subst h3
    cases ok
    · exact ref_3f c n t w hc0 hc1 hn0 hn1 ht
    · exact ref_3t c n t w hc0 hc1 hn0 hn1 ht
  by_cases h4 : k = 4
  · subst h4; exact ref_4 c n ok t w hc0 hc1 hn0 hn1 ht
  by_cases h5 : k = 5
  · subst h5; exact ref_5 c n ok t w hc0 hc1 hn0 hn1 ht
  by_cases h6 : k = 6
  · subst h6; exact ref_6 c n ok t w hc0 hc1 hn0 hn1 ht
  have e : lineS k c n ok t = ⟨#[63]⟩ := by
    unfold lineS
    rw [if_neg h1, if_neg h2, if_neg h3, if_neg h4, if_neg h5, if_neg h6]
  rw [e]
  exact ref_9 k c n ok t w (beq_eq_false_iff_ne.2 h1) (beq_eq_false_iff_ne.2 h2) (beq_eq_false_iff_ne.2 h3) (beq_eq_false_iff_ne.2 h4) (beq_eq_false_iff_ne.2 h5) (beq_eq_false_iff_ne.2 h6)
end Go.Proofs.YtfgbimcjcplegaaDoorG
