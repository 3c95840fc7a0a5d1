/- The contract of record.Line, where strconv's table lies. -/
import Derived.Test.YtfgbimcjcplegaaDoorGL
import Derived.Deep.RegionHeld3
set_option linter.unusedVariables false
set_option linter.unusedSimpArgs false
namespace Go.Proofs.YtfgbimcjcplegaaDoorG
open Go.RowKit Go.Proofs.YtfgbimcjcplegaaDoorW.PrintWords Go.Proofs.YtfgbimcjcplegaaDoorX Go.Proofs.YtfgbimcjcplegaaDoorW.PrintMore
theorem S_b {w w1 : World} {I : Nat} {A : Array Value} {x y : Value} (h : w1.cell? ⟨I, 1, none⟩ = some x ∧ w1.cell? ⟨I, 4, none⟩ = some y ∧ Blk w1 I A 24 ∧ Below w.heap.size w w1) : Below w.heap.size w w1 := h.2.2.2
theorem S_step {w w1 w2 : World} {I : Nat} {A : Array Value} {x y : Value} (h : w1.cell? ⟨I, 1, none⟩ = some x ∧ w1.cell? ⟨I, 4, none⟩ = some y ∧ Blk w1 I A 24 ∧ Below w.heap.size w w1) (hb : Below w1.heap.size w1 w2) :
    w2.cell? ⟨I, 1, none⟩ = some x ∧ w2.cell? ⟨I, 4, none⟩ = some y ∧ Blk w2 I A 24 ∧ Below w.heap.size w w2 := by
  obtain ⟨h1, h2, h3, h4⟩ := h
  have h5 := h3.below hb h3.lt
  exact ⟨(hb.cell h3.lt).trans h1, (hb.cell h3.lt).trans h2, h5, h4.trans (hb.mono h4.size)⟩
set_option maxHeartbeats 4000000 in
theorem line_1 (c n : Int) (ok : Bool) (t : ByteArray) (w : World) (hc0 : -9223372036854775808 ≤ c) (hc1 : c ≤ 9223372036854775807) (hn0 : -9223372036854775808 ≤ n) (hn1 : n ≤ 9223372036854775807) (ht : t.size ≤ 5000) (hw : Tab w) :
    Calls Tryd.prog 10 #[.agg #[.int .i64 1, .int .i64 c, .int .i64 n, .bool ok, .string t]] w fun e w' => e = .returned (.string (lineS 1 c n ok t)) ∧ Below w.heap.size w w' := by
  have s1 := itoaS_size n hn0 hn1
  have s2 := itoaS_size c hc0 hc1
  have s3 := itoaS_size t.size (by omega) (by omega)
  have HI0 := Lib.hid (Blk.new w #[.int .i64 1, .int .i64 c, .int .i64 n, .bool ok, .string t] 24)
  have HW0 := Lib.hid ((Below.refl w.heap.size w).alloc (Nat.le_refl _) (.cells #[.int .i64 1, .int .i64 c, .int .i64 n, .bool ok, .string t] 24))
  have HW := Lib.hid hw
  have HC0 := Lib.hid hc0
  have HC1 := Lib.hid hc1
  have HN0 := Lib.hid hn0
  have HN1 := Lib.hid hn1
  clear hw hc0 hc1 hn0 hn1
  go_enter Tryd.func10, Tryd.ntmps10
  go_wp2_with fail
  refine (format_any n _ HN0.out HN1.out (HW.out.below HW0.out (Nat.le_refl _))).mono ?_
  rintro e w1 ⟨rfl, hb1⟩
  have hI1 := HI0.out.below hb1 HI0.out.lt
  have HW1 := Lib.hid (HW0.out.trans (hb1.mono HW0.out.size))
  obtain ⟨y0, y1, y2, y3, y4, z0, z1, z2, z3, z4⟩ := five hI1
  have HI1 := Lib.hid hI1
  clear hI1 hb1
  go_wp2_with fail
  refine (itoa_any (t.size : Int) _ (by omega) (by omega) (HW.out.below HW1.out (Nat.le_refl _))).mono ?_
  rintro e w2 ⟨rfl, hb2⟩
  have hI2 := HI1.out.below hb2 HI1.out.lt
  have HW2 := Lib.hid (HW1.out.trans (hb2.mono HW1.out.size))
  clear y0 y1 y2 y3 y4 z0 z1 z2 z3 z4
  obtain ⟨y0, y1, y2, y3, y4, z0, z1, z2, z3, z4⟩ := five hI2
  have HI2 := Lib.hid hI2
  clear hI2 hb2
  go_wp2_with fail
  go_ret
  exact ⟨rfl, HW2.out⟩
set_option maxHeartbeats 4000000 in
theorem line_2 (c n : Int) (ok : Bool) (t : ByteArray) (w : World) (hc0 : -9223372036854775808 ≤ c) (hc1 : c ≤ 9223372036854775807) (hn0 : -9223372036854775808 ≤ n) (hn1 : n ≤ 9223372036854775807) (ht : t.size ≤ 5000) (hw : Tab w) :
    Calls Tryd.prog 10 #[.agg #[.int .i64 2, .int .i64 c, .int .i64 n, .bool ok, .string t]] w fun e w' => e = .returned (.string (lineS 2 c n ok t)) ∧ Below w.heap.size w w' := by
  have s1 := itoaS_size n hn0 hn1
  have s2 := itoaS_size c hc0 hc1
  have s3 := itoaS_size t.size (by omega) (by omega)
  have HI0 := Lib.hid (Blk.new w #[.int .i64 2, .int .i64 c, .int .i64 n, .bool ok, .string t] 24)
  have HW0 := Lib.hid ((Below.refl w.heap.size w).alloc (Nat.le_refl _) (.cells #[.int .i64 2, .int .i64 c, .int .i64 n, .bool ok, .string t] 24))
  have HW := Lib.hid hw
  have HC0 := Lib.hid hc0
  have HC1 := Lib.hid hc1
  have HN0 := Lib.hid hn0
  have HN1 := Lib.hid hn1
  clear hw hc0 hc1 hn0 hn1
  go_enter Tryd.func10, Tryd.ntmps10
  go_wp2_with fail
  refine (format_any n _ HN0.out HN1.out (HW.out.below HW0.out (Nat.le_refl _))).mono ?_
  rintro e w1 ⟨rfl, hb1⟩
  have hI1 := HI0.out.below hb1 HI0.out.lt
  have HW1 := Lib.hid (HW0.out.trans (hb1.mono HW0.out.size))
  obtain ⟨y0, y1, y2, y3, y4, z0, z1, z2, z3, z4⟩ := five hI1
  have HI1 := Lib.hid hI1
  clear hI1 hb1
  go_wp2_with fail
  go_ret
  exact ⟨rfl, HW1.out⟩
set_option maxHeartbeats 4000000 in
theorem line_3t (c n : Int) (t : ByteArray) (w : World) (hc0 : -9223372036854775808 ≤ c) (hc1 : c ≤ 9223372036854775807) (hn0 : -9223372036854775808 ≤ n) (hn1 : n ≤ 9223372036854775807) (ht : t.size ≤ 5000) (hw : Tab w) :
    Calls Tryd.prog 10 #[.agg #[.int .i64 3, .int .i64 c, .int .i64 n, .bool true, .string t]] w fun e w' => e = .returned (.string (lineS 3 c n true t)) ∧ Below w.heap.size w w' := by
  have s1 := itoaS_size n hn0 hn1
  have s2 := itoaS_size c hc0 hc1
  have s3 := itoaS_size t.size (by omega) (by omega)
  have HI0 := Lib.hid (Blk.new w #[.int .i64 3, .int .i64 c, .int .i64 n, .bool true, .string t] 24)
  have HW0 := Lib.hid ((Below.refl w.heap.size w).alloc (Nat.le_refl _) (.cells #[.int .i64 3, .int .i64 c, .int .i64 n, .bool true, .string t] 24))
  have HW := Lib.hid hw
  have HC0 := Lib.hid hc0
  have HC1 := Lib.hid hc1
  have HN0 := Lib.hid hn0
  have HN1 := Lib.hid hn1
  clear hw hc0 hc1 hn0 hn1
  go_enter Tryd.func10, Tryd.ntmps10
  go_wp2_with fail
  refine (format_any n _ HN0.out HN1.out (HW.out.below HW0.out (Nat.le_refl _))).mono ?_
  rintro e w1 ⟨rfl, hb1⟩
  have hI1 := HI0.out.below hb1 HI0.out.lt
  have HW1 := Lib.hid (HW0.out.trans (hb1.mono HW0.out.size))
  obtain ⟨y0, y1, y2, y3, y4, z0, z1, z2, z3, z4⟩ := five hI1
  have HI1 := Lib.hid hI1
  clear hI1 hb1
  go_wp2_with fail
  go_ret
  exact ⟨rfl, HW1.out⟩
set_option maxHeartbeats 4000000 in
theorem line_3f (c n : Int) (t : ByteArray) (w : World) (hc0 : -9223372036854775808 ≤ c) (hc1 : c ≤ 9223372036854775807) (hn0 : -9223372036854775808 ≤ n) (hn1 : n ≤ 9223372036854775807) (ht : t.size ≤ 5000) (hw : Tab w) :
    Calls Tryd.prog 10 #[.agg #[.int .i64 3, .int .i64 c, .int .i64 n, .bool false, .string t]] w fun e w' => e = .returned (.string (lineS 3 c n false t)) ∧ Below w.heap.size w w' := by
  have s1 := itoaS_size n hn0 hn1
  have s2 := itoaS_size c hc0 hc1
  have s3 := itoaS_size t.size (by omega) (by omega)
  have HI0 := Lib.hid (Blk.new w #[.int .i64 3, .int .i64 c, .int .i64 n, .bool false, .string t] 24)
  have HW0 := Lib.hid ((Below.refl w.heap.size w).alloc (Nat.le_refl _) (.cells #[.int .i64 3, .int .i64 c, .int .i64 n, .bool false, .string t] 24))
  have HW := Lib.hid hw
  have HC0 := Lib.hid hc0
  have HC1 := Lib.hid hc1
  have HN0 := Lib.hid hn0
  have HN1 := Lib.hid hn1
  clear hw hc0 hc1 hn0 hn1
  go_enter Tryd.func10, Tryd.ntmps10
  go_wp2_with fail
  refine (format_any n _ HN0.out HN1.out (HW.out.below HW0.out (Nat.le_refl _))).mono ?_
  rintro e w1 ⟨rfl, hb1⟩
  have hI1 := HI0.out.below hb1 HI0.out.lt
  have HW1 := Lib.hid (HW0.out.trans (hb1.mono HW0.out.size))
  obtain ⟨y0, y1, y2, y3, y4, z0, z1, z2, z3, z4⟩ := five hI1
  have HI1 := Lib.hid hI1
  clear hI1 hb1
  go_wp2_with fail
  go_ret
  exact ⟨rfl, HW1.out⟩
set_option maxHeartbeats 4000000 in
theorem line_4 (c n : Int) (ok : Bool) (t : ByteArray) (w : World) (hc0 : -9223372036854775808 ≤ c) (hc1 : c ≤ 9223372036854775807) (hn0 : -9223372036854775808 ≤ n) (hn1 : n ≤ 9223372036854775807) (ht : t.size ≤ 5000) (hw : Tab w) :
    Calls Tryd.prog 10 #[.agg #[.int .i64 4, .int .i64 c, .int .i64 n, .bool ok, .string t]] w fun e w' => e = .returned (.string (lineS 4 c n ok t)) ∧ Below w.heap.size w w' := by
  have s1 := itoaS_size n hn0 hn1
  have s2 := itoaS_size c hc0 hc1
  have s3 := itoaS_size t.size (by omega) (by omega)
  have HI0 := Lib.hid (Blk.new w #[.int .i64 4, .int .i64 c, .int .i64 n, .bool ok, .string t] 24)
  have HW0 := Lib.hid ((Below.refl w.heap.size w).alloc (Nat.le_refl _) (.cells #[.int .i64 4, .int .i64 c, .int .i64 n, .bool ok, .string t] 24))
  have HW := Lib.hid hw
  have HC0 := Lib.hid hc0
  have HC1 := Lib.hid hc1
  have HN0 := Lib.hid hn0
  have HN1 := Lib.hid hn1
  clear hw hc0 hc1 hn0 hn1
  go_enter Tryd.func10, Tryd.ntmps10
  go_wp2_with fail
  refine (format_any n _ HN0.out HN1.out (HW.out.below HW0.out (Nat.le_refl _))).mono ?_
  rintro e w1 ⟨rfl, hb1⟩
  have hI1 := HI0.out.below hb1 HI0.out.lt
  have HW1 := Lib.hid (HW0.out.trans (hb1.mono HW0.out.size))
  obtain ⟨y0, y1, y2, y3, y4, z0, z1, z2, z3, z4⟩ := five hI1
  have HI1 := Lib.hid hI1
  clear hI1 hb1
  go_wp2_with fail
  go_ret
  exact ⟨rfl, HW1.out⟩
set_option maxHeartbeats 4000000 in
theorem line_5 (c n : Int) (ok : Bool) (t : ByteArray) (w : World) (hc0 : -9223372036854775808 ≤ c) (hc1 : c ≤ 9223372036854775807) (hn0 : -9223372036854775808 ≤ n) (hn1 : n ≤ 9223372036854775807) (ht : t.size ≤ 5000) (hw : Tab w) :
    Calls Tryd.prog 10 #[.agg #[.int .i64 5, .int .i64 c, .int .i64 n, .bool ok, .string t]] w fun e w' => e = .returned (.string (lineS 5 c n ok t)) ∧ Below w.heap.size w w' := by
  have s1 := itoaS_size n hn0 hn1
  have s2 := itoaS_size c hc0 hc1
  have s3 := itoaS_size t.size (by omega) (by omega)
  have HI0 := Lib.hid (Blk.new w #[.int .i64 5, .int .i64 c, .int .i64 n, .bool ok, .string t] 24)
  have HW0 := Lib.hid ((Below.refl w.heap.size w).alloc (Nat.le_refl _) (.cells #[.int .i64 5, .int .i64 c, .int .i64 n, .bool ok, .string t] 24))
  have HW := Lib.hid hw
  have HC0 := Lib.hid hc0
  have HC1 := Lib.hid hc1
  have HN0 := Lib.hid hn0
  have HN1 := Lib.hid hn1
  clear hw hc0 hc1 hn0 hn1
  go_enter Tryd.func10, Tryd.ntmps10
  go_wp2_with fail
  refine (format_any n _ HN0.out HN1.out (HW.out.below HW0.out (Nat.le_refl _))).mono ?_
  rintro e w1 ⟨rfl, hb1⟩
  have hI1 := HI0.out.below hb1 HI0.out.lt
  have HW1 := Lib.hid (HW0.out.trans (hb1.mono HW0.out.size))
  obtain ⟨y0, y1, y2, y3, y4, z0, z1, z2, z3, z4⟩ := five hI1
  have HI1 := Lib.hid hI1
  clear hI1 hb1
  go_wp2_with fail
  have q0 : (⟨#[99, 111, 109, 109, 97, 110, 100, 32]⟩ ++ itoaS c : ByteArray).size = 8 + (itoaS c).size := by rw [ByteArray.size_append]; rfl
  have q1 : (9223372036854775807 < 8 + (itoaS c).size) = False := eq_false (by omega)
  have q2 : (9223372036854775799 < (itoaS c).size) = False := eq_false (by omega)
  have q3 : (9223372036854775807 < 8 + (itoaS c).size + 1) = False := eq_false (by omega)
  have q4 : (9223372036854775806 < 8 + (itoaS c).size) = False := eq_false (by omega)
  have q5 : (9223372036854775798 < (itoaS c).size) = False := eq_false (by omega)
  have q6 : (9223372036854775807 < 8 + (itoaS c).size + 1 + t.size) = False := eq_false (by omega)
  have q7 : (9223372036854775807 < 8 + ((itoaS c).size + 1) + t.size) = False := eq_false (by omega)
  have q8 : (9223372036854775807 < 8 + ((itoaS c).size + (1 + t.size))) = False := eq_false (by omega)
  have q9 : (9223372036854775807 < 8 + (itoaS c).size + (1 + t.size)) = False := eq_false (by omega)
  clear q0
  go_region_held3 (fun w' => w'.cell? ⟨w.heap.size, 1, none⟩ = some (.int .i64 c) ∧ w'.cell? ⟨w.heap.size, 4, none⟩ = some (.string t) ∧ Blk w' w.heap.size #[.int .i64 5, .int .i64 c, .int .i64 n, .bool ok, .string t] 24 ∧ Below w.heap.size w w') (first | assumption | exact ⟨y1, y4, HI1.out.drew, HW1.out.drew⟩ | exact S_step (by assumption) (by assumption))
    (first | (go_at_call 22; refine (itoa_any c _ HC0.out HC1.out (HW.out.below (S_b (by assumption)) (Nat.le_refl _))).mono ?_; rintro e w2 ⟨rfl, hb2⟩))
  all_goals go_wp2
  all_goals (go_ret; exact ⟨rfl, S_b (by assumption)⟩)
set_option maxHeartbeats 4000000 in
theorem line_6 (c n : Int) (ok : Bool) (t : ByteArray) (w : World) (hc0 : -9223372036854775808 ≤ c) (hc1 : c ≤ 9223372036854775807) (hn0 : -9223372036854775808 ≤ n) (hn1 : n ≤ 9223372036854775807) (ht : t.size ≤ 5000) (hw : Tab w) :
    Calls Tryd.prog 10 #[.agg #[.int .i64 6, .int .i64 c, .int .i64 n, .bool ok, .string t]] w fun e w' => e = .returned (.string (lineS 6 c n ok t)) ∧ Below w.heap.size w w' := by
  have s1 := itoaS_size n hn0 hn1
  have s2 := itoaS_size c hc0 hc1
  have s3 := itoaS_size t.size (by omega) (by omega)
  have HI0 := Lib.hid (Blk.new w #[.int .i64 6, .int .i64 c, .int .i64 n, .bool ok, .string t] 24)
  have HW0 := Lib.hid ((Below.refl w.heap.size w).alloc (Nat.le_refl _) (.cells #[.int .i64 6, .int .i64 c, .int .i64 n, .bool ok, .string t] 24))
  have HW := Lib.hid hw
  have HC0 := Lib.hid hc0
  have HC1 := Lib.hid hc1
  have HN0 := Lib.hid hn0
  have HN1 := Lib.hid hn1
  clear hw hc0 hc1 hn0 hn1
  go_enter Tryd.func10, Tryd.ntmps10
  go_wp2_with fail
  refine (format_any n _ HN0.out HN1.out (HW.out.below HW0.out (Nat.le_refl _))).mono ?_
  rintro e w1 ⟨rfl, hb1⟩
  have hI1 := HI0.out.below hb1 HI0.out.lt
  have HW1 := Lib.hid (HW0.out.trans (hb1.mono HW0.out.size))
  obtain ⟨y0, y1, y2, y3, y4, z0, z1, z2, z3, z4⟩ := five hI1
  have HI1 := Lib.hid hI1
  clear hI1 hb1
  go_wp2_with fail
  go_ret
  exact ⟨rfl, HW1.out⟩
set_option maxHeartbeats 4000000 in
theorem line_9 (k c n : Int) (ok : Bool) (t : ByteArray) (w : World) (h1 : (k == 1) = false) (h2 : (k == 2) = false) (h3 : (k == 3) = false) (h4 : (k == 4) = false) (h5 : (k == 5) = false) (h6 : (k == 6) = false) (hn0 : -9223372036854775808 ≤ n) (hn1 : n ≤ 9223372036854775807) (hw : Tab w) :
    Calls Tryd.prog 10 #[.agg #[.int .i64 k, .int .i64 c, .int .i64 n, .bool ok, .string t]] w fun e w' => e = .returned (.string ⟨#[63]⟩) ∧ Below w.heap.size w w' := by
  have s1 := itoaS_size n hn0 hn1
  have HI0 := Lib.hid (Blk.new w #[.int .i64 k, .int .i64 c, .int .i64 n, .bool ok, .string t] 24)
  have HW0 := Lib.hid ((Below.refl w.heap.size w).alloc (Nat.le_refl _) (.cells #[.int .i64 k, .int .i64 c, .int .i64 n, .bool ok, .string t] 24))
  have HW := Lib.hid hw
  have HN0 := Lib.hid hn0
  have HN1 := Lib.hid hn1
  clear hw hn0 hn1
  go_enter Tryd.func10, Tryd.ntmps10
  go_wp2_with fail
  refine (format_any n _ HN0.out HN1.out (HW.out.below HW0.out (Nat.le_refl _))).mono ?_
  rintro e w1 ⟨rfl, hb1⟩
  have hI1 := HI0.out.below hb1 HI0.out.lt
  have HW1 := Lib.hid (HW0.out.trans (hb1.mono HW0.out.size))
  obtain ⟨y0, y1, y2, y3, y4, z0, z1, z2, z3, z4⟩ := five hI1
  clear hI1 hb1
  go_wp2_with fail
  go_ret
  exact ⟨rfl, HW1.out⟩
theorem line_any (k c n : Int) (ok : Bool) (t : ByteArray) (w : World) (hc0 : -9223372036854775808 ≤ c) (hc1 : c ≤ 9223372036854775807) (hn0 : -9223372036854775808 ≤ n) (hn1 : n ≤ 9223372036854775807) (ht : t.size ≤ 5000) (hw : Tab w) :
    Calls Tryd.prog 10 #[.agg #[.int .i64 k, .int .i64 c, .int .i64 n, .bool ok, .string t]] w fun e w' => e = .returned (.string (lineS k c n ok t)) ∧ Below w.heap.size w w' := by
  by_cases h1 : k = 1
  · subst h1; exact line_1 c n ok t w hc0 hc1 hn0 hn1 ht hw
  by_cases h2 : k = 2
  · subst h2; exact line_2 c n ok t w hc0 hc1 hn0 hn1 ht hw
  by_cases h3 : k = 3
  · subst h3
    cases ok
    · exact line_3f c n t w hc0 hc1 hn0 hn1 ht hw
    · exact line_3t c n t w hc0 hc1 hn0 hn1 ht hw
  by_cases h4 : k = 4
  · subst h4; exact line_4 c n ok t w hc0 hc1 hn0 hn1 ht hw
  by_cases h5 : k = 5
  · subst h5; exact line_5 c n ok t w hc0 hc1 hn0 hn1 ht hw
  by_cases h6 : k = 6
  · subst h6; exact line_6 c n ok t w hc0 hc1 hn0 hn1 ht hw
  have e : lineS k c n ok t = ⟨#[63]⟩ := by
    unfold lineS
    rw [if_neg h1, if_neg h2, if_neg h3, if_neg h4, if_neg h5, if_neg h6]
  rw [e]
  exact line_9 k c n ok t w (beq_eq_false_iff_ne.2 h1) (beq_eq_false_iff_ne.2 h2) (beq_eq_false_iff_ne.2 h3) (beq_eq_false_iff_ne.2 h4) (beq_eq_false_iff_ne.2 h5) (beq_eq_false_iff_ne.2 h6) hn0 hn1 hw
end Go.Proofs.YtfgbimcjcplegaaDoorG
