/- The walks of RecordApart: one for each way that it takes. -/
import Derived.Test.YtfgbimcjcplegaaPureRecordBack
set_option linter.unusedVariables false
set_option linter.unusedSimpArgs false
namespace Go.Proofs.YtfgbimcjcplegaaA
open Go.RowKit Go.Proofs.Ytfgbimcjcplegaa.PB Go.Proofs.YtfgbimcjcplegaaW.PrintWords Go.Proofs.YtfgbimcjcplegaaW.PrintLast Go.Proofs.YtfgbimcjcplegaaW.PrintMore Go.Proofs.YtfgbimcjcplegaaG Go.Proofs.YtfgbimcjcplegaaX Go.Proofs.YtfgbimcjcplegaaQ Go.Proofs.Ytfgbimcjcplegaa.PureB
attribute [local go_sem high] eqA26
def W0 (w : World) (a b : Array Value) : World := (w.alloc (.cells a 26)).alloc (.cells b 26)
theorem W0_I (w : World) (a b : Array Value) : Blk (W0 w a b) w.heap.size a 26 := (Blk.new w a 26).alloc _
theorem W0_J (w : World) (a b : Array Value) : Blk (W0 w a b) (w.heap.size + 1) b 26 := by
  have h := Blk.new (w.alloc (.cells a 26)) b 26
  have e : (w.alloc (.cells a 26)).heap.size = w.heap.size + 1 := by simp
  rw [e] at h
  exact h
theorem W0_below (w : World) (a b : Array Value) : Below w.heap.size w (W0 w a b) := ((Below.refl _ w).alloc (Nat.le_refl _) _).alloc (by simp) _
theorem below_of_drawn {w w' : World} (h : Drawn0 w w') : Below w.heap.size w w' := by
  obtain ⟨n, rfl⟩ := h.out
  exact ⟨rfl, rfl, rfl, Nat.le_refl _, fun _ _ => rfl⟩
theorem light_yes (k c n : Int) (ok : Bool) (t : ByteArray) (h : t.size ≤ 5000) : outlawlaw21_light.f k c n ok t = some true := by
  unfold outlawlaw21_light.f
  rw [decide_eq_true (by omega)]
theorem light_no (k c n : Int) (ok : Bool) (t : ByteArray) (h : 5000 < t.size) : outlawlaw21_light.f k c n ok t = some false := by
  unfold outlawlaw21_light.f
  rw [decide_eq_false (by omega)]

set_option maxHeartbeats 8000000 in
theorem w_l1 (k c n k' c' n' cut : Int) (ok ok' : Bool) (t t' : ByteArray) (h1 : 5000 < t.size) (w : World) :
    Calls Try.prog 5 #[.agg #[.int .i64 k, .int .i64 c, .int .i64 n, .bool ok, .string t], .agg #[.int .i64 k', .int .i64 c', .int .i64 n', .bool ok', .string t'], .int .i64 cut] w fun e w' => e = .returned (.bool true) ∧ Below w.heap.size w w' := by
  have HI0 := Lib.hid (W0_I w #[.int .i64 k, .int .i64 c, .int .i64 n, .bool ok, .string t] #[.int .i64 k', .int .i64 c', .int .i64 n', .bool ok', .string t'])
  have HJ0 := Lib.hid (W0_J w #[.int .i64 k, .int .i64 c, .int .i64 n, .bool ok, .string t] #[.int .i64 k', .int .i64 c', .int .i64 n', .bool ok', .string t'])
  have HW0 := Lib.hid (W0_below w #[.int .i64 k, .int .i64 c, .int .i64 n, .bool ok, .string t] #[.int .i64 k', .int .i64 c', .int .i64 n', .bool ok', .string t'])
  have H1 := Lib.hid h1
  clear h1
  go_enter Try.func5, Try.ntmps5
  go_wp2_with fail
  refine (outlawlaw21_lives.calls 3 true _ lives_3).mono ?_
  rintro e w1 ⟨rfl, hb1⟩
  have hI1 := HI0.out.below hb1 (HI0.out.lt)
  have hJ1 := HJ0.out.below hb1 (HJ0.out.lt)
  have HW1 := Lib.hid (HW0.out.trans (hb1.mono HW0.out.size))
  obtain ⟨y0, y1, y2, y3, y4, z0, z1, z2, z3, z4⟩ := five hI1
  obtain ⟨u0, u1, u2, u3, u4, v0, v1, v2, v3, v4⟩ := five hJ1
  have HI1 := Lib.hid hI1
  have HJ1 := Lib.hid hJ1
  clear hI1 hJ1 hb1
  go_wp2_with fail
  refine (outlawlaw21_light.calls k c n ok t false _ (light_no _ _ _ _ _ H1.out)).mono ?_
  rintro e w2 ⟨rfl, hb2⟩
  have hI2 := HI1.out.below hb2 (HI1.out.lt)
  have hJ2 := HJ1.out.below hb2 (HJ1.out.lt)
  have HW2 := Lib.hid (HW1.out.trans (hb2.mono HW1.out.size))
  clear y0 y1 y2 y3 y4 z0 z1 z2 z3 z4 u0 u1 u2 u3 u4 v0 v1 v2 v3 v4
  obtain ⟨y0, y1, y2, y3, y4, z0, z1, z2, z3, z4⟩ := five hI2
  obtain ⟨u0, u1, u2, u3, u4, v0, v1, v2, v3, v4⟩ := five hJ2
  have HI2 := Lib.hid hI2
  have HJ2 := Lib.hid hJ2
  clear hI2 hJ2 hb2
  go_wp2_with fail
  go_ret
  exact ⟨rfl, HW2.out⟩
set_option maxHeartbeats 8000000 in
theorem w_l2 (k c n k' c' n' cut : Int) (ok ok' : Bool) (t t' : ByteArray) (h1 : t.size ≤ 5000) (h2 : 5000 < t'.size) (w : World) :
    Calls Try.prog 5 #[.agg #[.int .i64 k, .int .i64 c, .int .i64 n, .bool ok, .string t], .agg #[.int .i64 k', .int .i64 c', .int .i64 n', .bool ok', .string t'], .int .i64 cut] w fun e w' => e = .returned (.bool true) ∧ Below w.heap.size w w' := by
  have HI0 := Lib.hid (W0_I w #[.int .i64 k, .int .i64 c, .int .i64 n, .bool ok, .string t] #[.int .i64 k', .int .i64 c', .int .i64 n', .bool ok', .string t'])
  have HJ0 := Lib.hid (W0_J w #[.int .i64 k, .int .i64 c, .int .i64 n, .bool ok, .string t] #[.int .i64 k', .int .i64 c', .int .i64 n', .bool ok', .string t'])
  have HW0 := Lib.hid (W0_below w #[.int .i64 k, .int .i64 c, .int .i64 n, .bool ok, .string t] #[.int .i64 k', .int .i64 c', .int .i64 n', .bool ok', .string t'])
  have H1 := Lib.hid h1
  have H2 := Lib.hid h2
  clear h1 h2
  go_enter Try.func5, Try.ntmps5
  go_wp2_with fail
  refine (outlawlaw21_lives.calls 3 true _ lives_3).mono ?_
  rintro e w1 ⟨rfl, hb1⟩
  have hI1 := HI0.out.below hb1 (HI0.out.lt)
  have hJ1 := HJ0.out.below hb1 (HJ0.out.lt)
  have HW1 := Lib.hid (HW0.out.trans (hb1.mono HW0.out.size))
  obtain ⟨y0, y1, y2, y3, y4, z0, z1, z2, z3, z4⟩ := five hI1
  obtain ⟨u0, u1, u2, u3, u4, v0, v1, v2, v3, v4⟩ := five hJ1
  have HI1 := Lib.hid hI1
  have HJ1 := Lib.hid hJ1
  clear hI1 hJ1 hb1
  go_wp2_with fail
  refine (outlawlaw21_light.calls k c n ok t true _ (light_yes _ _ _ _ _ H1.out)).mono ?_
  rintro e w2 ⟨rfl, hb2⟩
  have hI2 := HI1.out.below hb2 (HI1.out.lt)
  have hJ2 := HJ1.out.below hb2 (HJ1.out.lt)
  have HW2 := Lib.hid (HW1.out.trans (hb2.mono HW1.out.size))
  clear y0 y1 y2 y3 y4 z0 z1 z2 z3 z4 u0 u1 u2 u3 u4 v0 v1 v2 v3 v4
  obtain ⟨y0, y1, y2, y3, y4, z0, z1, z2, z3, z4⟩ := five hI2
  obtain ⟨u0, u1, u2, u3, u4, v0, v1, v2, v3, v4⟩ := five hJ2
  have HI2 := Lib.hid hI2
  have HJ2 := Lib.hid hJ2
  clear hI2 hJ2 hb2
  go_wp2_with fail
  refine (outlawlaw21_light.calls k' c' n' ok' t' false _ (light_no _ _ _ _ _ H2.out)).mono ?_
  rintro e w3 ⟨rfl, hb3⟩
  have hI3 := HI2.out.below hb3 (HI2.out.lt)
  have hJ3 := HJ2.out.below hb3 (HJ2.out.lt)
  have HW3 := Lib.hid (HW2.out.trans (hb3.mono HW2.out.size))
  clear y0 y1 y2 y3 y4 z0 z1 z2 z3 z4 u0 u1 u2 u3 u4 v0 v1 v2 v3 v4
  obtain ⟨y0, y1, y2, y3, y4, z0, z1, z2, z3, z4⟩ := five hI3
  obtain ⟨u0, u1, u2, u3, u4, v0, v1, v2, v3, v4⟩ := five hJ3
  have HI3 := Lib.hid hI3
  have HJ3 := Lib.hid hJ3
  clear hI3 hJ3 hb3
  go_wp2_with fail
  go_ret
  exact ⟨rfl, HW3.out⟩
set_option maxHeartbeats 8000000 in
theorem w_e (k c n k' c' n' cut : Int) (ok ok' : Bool) (t t' : ByteArray) (h1 : t.size ≤ 5000) (h2 : t'.size ≤ 5000) (A B : ByteArray) (e1 e2 : Int) (hA : record_Bytes.f 1 k c n ok t = some (A, e1)) (hB : record_Bytes.f 1 k' c' n' ok' t' = some (B, e2)) (he : (e1 == 0) = false) (w : World) :
    Calls Try.prog 5 #[.agg #[.int .i64 k, .int .i64 c, .int .i64 n, .bool ok, .string t], .agg #[.int .i64 k', .int .i64 c', .int .i64 n', .bool ok', .string t'], .int .i64 cut] w fun e w' => e = .returned (.bool true) ∧ Below w.heap.size w w' := by
  have HI0 := Lib.hid (W0_I w #[.int .i64 k, .int .i64 c, .int .i64 n, .bool ok, .string t] #[.int .i64 k', .int .i64 c', .int .i64 n', .bool ok', .string t'])
  have HJ0 := Lib.hid (W0_J w #[.int .i64 k, .int .i64 c, .int .i64 n, .bool ok, .string t] #[.int .i64 k', .int .i64 c', .int .i64 n', .bool ok', .string t'])
  have HW0 := Lib.hid (W0_below w #[.int .i64 k, .int .i64 c, .int .i64 n, .bool ok, .string t] #[.int .i64 k', .int .i64 c', .int .i64 n', .bool ok', .string t'])
  have H1 := Lib.hid h1
  have H2 := Lib.hid h2
  have HA := Lib.hid hA
  have HB := Lib.hid hB
  clear h1 h2 hA hB
  go_enter Try.func5, Try.ntmps5
  go_wp2_with fail
  refine (outlawlaw21_lives.calls 3 true _ lives_3).mono ?_
  rintro e w1 ⟨rfl, hb1⟩
  have hI1 := HI0.out.below hb1 (HI0.out.lt)
  have hJ1 := HJ0.out.below hb1 (HJ0.out.lt)
  have HW1 := Lib.hid (HW0.out.trans (hb1.mono HW0.out.size))
  obtain ⟨y0, y1, y2, y3, y4, z0, z1, z2, z3, z4⟩ := five hI1
  obtain ⟨u0, u1, u2, u3, u4, v0, v1, v2, v3, v4⟩ := five hJ1
  have HI1 := Lib.hid hI1
  have HJ1 := Lib.hid hJ1
  clear hI1 hJ1 hb1
  go_wp2_with fail
  refine (outlawlaw21_light.calls k c n ok t true _ (light_yes _ _ _ _ _ H1.out)).mono ?_
  rintro e w2 ⟨rfl, hb2⟩
  have hI2 := HI1.out.below hb2 (HI1.out.lt)
  have hJ2 := HJ1.out.below hb2 (HJ1.out.lt)
  have HW2 := Lib.hid (HW1.out.trans (hb2.mono HW1.out.size))
  clear y0 y1 y2 y3 y4 z0 z1 z2 z3 z4 u0 u1 u2 u3 u4 v0 v1 v2 v3 v4
  obtain ⟨y0, y1, y2, y3, y4, z0, z1, z2, z3, z4⟩ := five hI2
  obtain ⟨u0, u1, u2, u3, u4, v0, v1, v2, v3, v4⟩ := five hJ2
  have HI2 := Lib.hid hI2
  have HJ2 := Lib.hid hJ2
  clear hI2 hJ2 hb2
  go_wp2_with fail
  refine (outlawlaw21_light.calls k' c' n' ok' t' true _ (light_yes _ _ _ _ _ H2.out)).mono ?_
  rintro e w3 ⟨rfl, hb3⟩
  have hI3 := HI2.out.below hb3 (HI2.out.lt)
  have hJ3 := HJ2.out.below hb3 (HJ2.out.lt)
  have HW3 := Lib.hid (HW2.out.trans (hb3.mono HW2.out.size))
  clear y0 y1 y2 y3 y4 z0 z1 z2 z3 z4 u0 u1 u2 u3 u4 v0 v1 v2 v3 v4
  obtain ⟨y0, y1, y2, y3, y4, z0, z1, z2, z3, z4⟩ := five hI3
  obtain ⟨u0, u1, u2, u3, u4, v0, v1, v2, v3, v4⟩ := five hJ3
  have HI3 := Lib.hid hI3
  have HJ3 := Lib.hid hJ3
  clear hI3 hJ3 hb3
  go_wp2_with fail
  refine (record_Bytes.calls 1 k c n ok t A e1 _ HA.out).mono ?_
  rintro e w4 ⟨rfl, hb4⟩
  have hI4 := HI3.out.below hb4 (HI3.out.lt)
  have hJ4 := HJ3.out.below hb4 (HJ3.out.lt)
  have HW4 := Lib.hid (HW3.out.trans (hb4.mono HW3.out.size))
  clear y0 y1 y2 y3 y4 z0 z1 z2 z3 z4 u0 u1 u2 u3 u4 v0 v1 v2 v3 v4
  obtain ⟨y0, y1, y2, y3, y4, z0, z1, z2, z3, z4⟩ := five hI4
  obtain ⟨u0, u1, u2, u3, u4, v0, v1, v2, v3, v4⟩ := five hJ4
  have HI4 := Lib.hid hI4
  have HJ4 := Lib.hid hJ4
  clear hI4 hJ4 hb4
  go_wp2_with fail
  refine (record_Bytes.calls 1 k' c' n' ok' t' B e2 _ HB.out).mono ?_
  rintro e w5 ⟨rfl, hb5⟩
  have hI5 := HI4.out.below hb5 (HI4.out.lt)
  have hJ5 := HJ4.out.below hb5 (HJ4.out.lt)
  have HW5 := Lib.hid (HW4.out.trans (hb5.mono HW4.out.size))
  clear y0 y1 y2 y3 y4 z0 z1 z2 z3 z4 u0 u1 u2 u3 u4 v0 v1 v2 v3 v4
  obtain ⟨y0, y1, y2, y3, y4, z0, z1, z2, z3, z4⟩ := five hI5
  obtain ⟨u0, u1, u2, u3, u4, v0, v1, v2, v3, v4⟩ := five hJ5
  have HI5 := Lib.hid hI5
  have HJ5 := Lib.hid hJ5
  clear hI5 hJ5 hb5
  go_wp2_with fail
  go_ret
  exact ⟨rfl, HW5.out⟩
set_option maxHeartbeats 8000000 in
theorem w_f (k c n k' c' n' cut : Int) (ok ok' : Bool) (t t' : ByteArray) (h1 : t.size ≤ 5000) (h2 : t'.size ≤ 5000) (A B : ByteArray) (e2 : Int) (hA : record_Bytes.f 1 k c n ok t = some (A, 0)) (hB : record_Bytes.f 1 k' c' n' ok' t' = some (B, e2)) (he : (e2 == 0) = false) (w : World) :
    Calls Try.prog 5 #[.agg #[.int .i64 k, .int .i64 c, .int .i64 n, .bool ok, .string t], .agg #[.int .i64 k', .int .i64 c', .int .i64 n', .bool ok', .string t'], .int .i64 cut] w fun e w' => e = .returned (.bool true) ∧ Below w.heap.size w w' := by
  have HI0 := Lib.hid (W0_I w #[.int .i64 k, .int .i64 c, .int .i64 n, .bool ok, .string t] #[.int .i64 k', .int .i64 c', .int .i64 n', .bool ok', .string t'])
  have HJ0 := Lib.hid (W0_J w #[.int .i64 k, .int .i64 c, .int .i64 n, .bool ok, .string t] #[.int .i64 k', .int .i64 c', .int .i64 n', .bool ok', .string t'])
  have HW0 := Lib.hid (W0_below w #[.int .i64 k, .int .i64 c, .int .i64 n, .bool ok, .string t] #[.int .i64 k', .int .i64 c', .int .i64 n', .bool ok', .string t'])
  have H1 := Lib.hid h1
  have H2 := Lib.hid h2
  have HA := Lib.hid hA
  have HB := Lib.hid hB
  clear h1 h2 hA hB
  go_enter Try.func5, Try.ntmps5
  go_wp2_with fail
  refine (outlawlaw21_lives.calls 3 true _ lives_3).mono ?_
  rintro e w1 ⟨rfl, hb1⟩
  have hI1 := HI0.out.below hb1 (HI0.out.lt)
  have hJ1 := HJ0.out.below hb1 (HJ0.out.lt)
  have HW1 := Lib.hid (HW0.out.trans (hb1.mono HW0.out.size))
  obtain ⟨y0, y1, y2, y3, y4, z0, z1, z2, z3, z4⟩ := five hI1
  obtain ⟨u0, u1, u2, u3, u4, v0, v1, v2, v3, v4⟩ := five hJ1
  have HI1 := Lib.hid hI1
  have HJ1 := Lib.hid hJ1
  clear hI1 hJ1 hb1
  go_wp2_with fail
  refine (outlawlaw21_light.calls k c n ok t true _ (light_yes _ _ _ _ _ H1.out)).mono ?_
  rintro e w2 ⟨rfl, hb2⟩
  have hI2 := HI1.out.below hb2 (HI1.out.lt)
  have hJ2 := HJ1.out.below hb2 (HJ1.out.lt)
  have HW2 := Lib.hid (HW1.out.trans (hb2.mono HW1.out.size))
  clear y0 y1 y2 y3 y4 z0 z1 z2 z3 z4 u0 u1 u2 u3 u4 v0 v1 v2 v3 v4
  obtain ⟨y0, y1, y2, y3, y4, z0, z1, z2, z3, z4⟩ := five hI2
  obtain ⟨u0, u1, u2, u3, u4, v0, v1, v2, v3, v4⟩ := five hJ2
  have HI2 := Lib.hid hI2
  have HJ2 := Lib.hid hJ2
  clear hI2 hJ2 hb2
  go_wp2_with fail
  refine (outlawlaw21_light.calls k' c' n' ok' t' true _ (light_yes _ _ _ _ _ H2.out)).mono ?_
  rintro e w3 ⟨rfl, hb3⟩
  have hI3 := HI2.out.below hb3 (HI2.out.lt)
  have hJ3 := HJ2.out.below hb3 (HJ2.out.lt)
  have HW3 := Lib.hid (HW2.out.trans (hb3.mono HW2.out.size))
  clear y0 y1 y2 y3 y4 z0 z1 z2 z3 z4 u0 u1 u2 u3 u4 v0 v1 v2 v3 v4
  obtain ⟨y0, y1, y2, y3, y4, z0, z1, z2, z3, z4⟩ := five hI3
  obtain ⟨u0, u1, u2, u3, u4, v0, v1, v2, v3, v4⟩ := five hJ3
  have HI3 := Lib.hid hI3
  have HJ3 := Lib.hid hJ3
  clear hI3 hJ3 hb3
  go_wp2_with fail
  refine (record_Bytes.calls 1 k c n ok t A 0 _ HA.out).mono ?_
  rintro e w4 ⟨rfl, hb4⟩
  have hI4 := HI3.out.below hb4 (HI3.out.lt)
  have hJ4 := HJ3.out.below hb4 (HJ3.out.lt)
  have HW4 := Lib.hid (HW3.out.trans (hb4.mono HW3.out.size))
  clear y0 y1 y2 y3 y4 z0 z1 z2 z3 z4 u0 u1 u2 u3 u4 v0 v1 v2 v3 v4
  obtain ⟨y0, y1, y2, y3, y4, z0, z1, z2, z3, z4⟩ := five hI4
  obtain ⟨u0, u1, u2, u3, u4, v0, v1, v2, v3, v4⟩ := five hJ4
  have HI4 := Lib.hid hI4
  have HJ4 := Lib.hid hJ4
  clear hI4 hJ4 hb4
  go_wp2_with fail
  refine (record_Bytes.calls 1 k' c' n' ok' t' B e2 _ HB.out).mono ?_
  rintro e w5 ⟨rfl, hb5⟩
  have hI5 := HI4.out.below hb5 (HI4.out.lt)
  have hJ5 := HJ4.out.below hb5 (HJ4.out.lt)
  have HW5 := Lib.hid (HW4.out.trans (hb5.mono HW4.out.size))
  clear y0 y1 y2 y3 y4 z0 z1 z2 z3 z4 u0 u1 u2 u3 u4 v0 v1 v2 v3 v4
  obtain ⟨y0, y1, y2, y3, y4, z0, z1, z2, z3, z4⟩ := five hI5
  obtain ⟨u0, u1, u2, u3, u4, v0, v1, v2, v3, v4⟩ := five hJ5
  have HI5 := Lib.hid hI5
  have HJ5 := Lib.hid hJ5
  clear hI5 hJ5 hb5
  go_wp2_with fail
  go_ret
  exact ⟨rfl, HW5.out⟩
set_option maxHeartbeats 8000000 in
theorem w_short (k c n k' c' n' cut : Int) (ok ok' : Bool) (t t' : ByteArray) (h1 : t.size ≤ 5000) (h2 : t'.size ≤ 5000) (A B : ByteArray) (q : Bool) (p : Int) (hA : record_Bytes.f 1 k c n ok t = some (A, 0)) (hB : record_Bytes.f 1 k' c' n' ok' t' = some (B, 0)) (hAB : (A.toList == B.toList) = q) (hst : (k == k' && (c == c' && (n == n' && (ok == ok' && t.toList == t'.toList)))) = q) (hAe : A.toList.isEmpty = false) (hp : outlawkit_Pick.f cut (A.size : Int) = some p) (hp0 : 0 ≤ p) (hp1 : p ≤ (A.size : Int)) (hA6 : A.size ≤ 6000) (hr : record_Read.f (A.extract 0 p.toNat) = some (0, 0, 0, false, ByteArray.empty, 3)) (w : World) :
    Calls Try.prog 5 #[.agg #[.int .i64 k, .int .i64 c, .int .i64 n, .bool ok, .string t], .agg #[.int .i64 k', .int .i64 c', .int .i64 n', .bool ok', .string t'], .int .i64 cut] w fun e w' => e = .returned (.bool true) ∧ Below w.heap.size w w' := by
  have HI0 := Lib.hid (W0_I w #[.int .i64 k, .int .i64 c, .int .i64 n, .bool ok, .string t] #[.int .i64 k', .int .i64 c', .int .i64 n', .bool ok', .string t'])
  have HJ0 := Lib.hid (W0_J w #[.int .i64 k, .int .i64 c, .int .i64 n, .bool ok, .string t] #[.int .i64 k', .int .i64 c', .int .i64 n', .bool ok', .string t'])
  have HW0 := Lib.hid (W0_below w #[.int .i64 k, .int .i64 c, .int .i64 n, .bool ok, .string t] #[.int .i64 k', .int .i64 c', .int .i64 n', .bool ok', .string t'])
  have H1 := Lib.hid h1
  have H2 := Lib.hid h2
  have HA := Lib.hid hA
  have HB := Lib.hid hB
  have HP := Lib.hid hp
  have HR := Lib.hid hr
  clear h1 h2 hA hB hp hr
  go_enter Try.func5, Try.ntmps5
  go_wp2_with fail
  refine (outlawlaw21_lives.calls 3 true _ lives_3).mono ?_
  rintro e w1 ⟨rfl, hb1⟩
  have hI1 := HI0.out.below hb1 (HI0.out.lt)
  have hJ1 := HJ0.out.below hb1 (HJ0.out.lt)
  have HW1 := Lib.hid (HW0.out.trans (hb1.mono HW0.out.size))
  obtain ⟨y0, y1, y2, y3, y4, z0, z1, z2, z3, z4⟩ := five hI1
  obtain ⟨u0, u1, u2, u3, u4, v0, v1, v2, v3, v4⟩ := five hJ1
  have HI1 := Lib.hid hI1
  have HJ1 := Lib.hid hJ1
  clear hI1 hJ1 hb1
  go_wp2_with fail
  refine (outlawlaw21_light.calls k c n ok t true _ (light_yes _ _ _ _ _ H1.out)).mono ?_
  rintro e w2 ⟨rfl, hb2⟩
  have hI2 := HI1.out.below hb2 (HI1.out.lt)
  have hJ2 := HJ1.out.below hb2 (HJ1.out.lt)
  have HW2 := Lib.hid (HW1.out.trans (hb2.mono HW1.out.size))
  clear y0 y1 y2 y3 y4 z0 z1 z2 z3 z4 u0 u1 u2 u3 u4 v0 v1 v2 v3 v4
  obtain ⟨y0, y1, y2, y3, y4, z0, z1, z2, z3, z4⟩ := five hI2
  obtain ⟨u0, u1, u2, u3, u4, v0, v1, v2, v3, v4⟩ := five hJ2
  have HI2 := Lib.hid hI2
  have HJ2 := Lib.hid hJ2
  clear hI2 hJ2 hb2
  go_wp2_with fail
  refine (outlawlaw21_light.calls k' c' n' ok' t' true _ (light_yes _ _ _ _ _ H2.out)).mono ?_
  rintro e w3 ⟨rfl, hb3⟩
  have hI3 := HI2.out.below hb3 (HI2.out.lt)
  have hJ3 := HJ2.out.below hb3 (HJ2.out.lt)
  have HW3 := Lib.hid (HW2.out.trans (hb3.mono HW2.out.size))
  clear y0 y1 y2 y3 y4 z0 z1 z2 z3 z4 u0 u1 u2 u3 u4 v0 v1 v2 v3 v4
  obtain ⟨y0, y1, y2, y3, y4, z0, z1, z2, z3, z4⟩ := five hI3
  obtain ⟨u0, u1, u2, u3, u4, v0, v1, v2, v3, v4⟩ := five hJ3
  have HI3 := Lib.hid hI3
  have HJ3 := Lib.hid hJ3
  clear hI3 hJ3 hb3
  go_wp2_with fail
  refine (record_Bytes.calls 1 k c n ok t A 0 _ HA.out).mono ?_
  rintro e w4 ⟨rfl, hb4⟩
  have hI4 := HI3.out.below hb4 (HI3.out.lt)
  have hJ4 := HJ3.out.below hb4 (HJ3.out.lt)
  have HW4 := Lib.hid (HW3.out.trans (hb4.mono HW3.out.size))
  clear y0 y1 y2 y3 y4 z0 z1 z2 z3 z4 u0 u1 u2 u3 u4 v0 v1 v2 v3 v4
  obtain ⟨y0, y1, y2, y3, y4, z0, z1, z2, z3, z4⟩ := five hI4
  obtain ⟨u0, u1, u2, u3, u4, v0, v1, v2, v3, v4⟩ := five hJ4
  have HI4 := Lib.hid hI4
  have HJ4 := Lib.hid hJ4
  clear hI4 hJ4 hb4
  go_wp2_with fail
  refine (record_Bytes.calls 1 k' c' n' ok' t' B 0 _ HB.out).mono ?_
  rintro e w5 ⟨rfl, hb5⟩
  have hI5 := HI4.out.below hb5 (HI4.out.lt)
  have hJ5 := HJ4.out.below hb5 (HJ4.out.lt)
  have HW5 := Lib.hid (HW4.out.trans (hb5.mono HW4.out.size))
  clear y0 y1 y2 y3 y4 z0 z1 z2 z3 z4 u0 u1 u2 u3 u4 v0 v1 v2 v3 v4
  obtain ⟨y0, y1, y2, y3, y4, z0, z1, z2, z3, z4⟩ := five hI5
  obtain ⟨u0, u1, u2, u3, u4, v0, v1, v2, v3, v4⟩ := five hJ5
  have HI5 := Lib.hid hI5
  have HJ5 := Lib.hid hJ5
  clear hI5 hJ5 hb5
  go_wp2_with fail
  clear hAB hst
  refine (outlawkit_Pick.calls cut (A.size : Int) p _ HP.out).mono ?_
  rintro e w6 ⟨rfl, hb6⟩
  replace hb6 := below_of_drawn hb6
  have hI6 := HI5.out.below hb6 (HI5.out.lt)
  have hJ6 := HJ5.out.below hb6 (HJ5.out.lt)
  have HW6 := Lib.hid (HW5.out.trans (hb6.mono HW5.out.size))
  clear y0 y1 y2 y3 y4 z0 z1 z2 z3 z4 u0 u1 u2 u3 u4 v0 v1 v2 v3 v4
  obtain ⟨y0, y1, y2, y3, y4, z0, z1, z2, z3, z4⟩ := five hI6
  obtain ⟨u0, u1, u2, u3, u4, v0, v1, v2, v3, v4⟩ := five hJ6
  have HI6 := Lib.hid hI6
  have HJ6 := Lib.hid hJ6
  clear hI6 hJ6 hb6
  go_wp2_with fail
  refine (record_Read.calls (A.extract 0 p.toNat) 0 0 0 false ByteArray.empty 3 _ HR.out).mono ?_
  rintro e w7 ⟨rfl, hb7⟩
  have hI7 := HI6.out.below hb7 (HI6.out.lt)
  have hJ7 := HJ6.out.below hb7 (HJ6.out.lt)
  have HW7 := Lib.hid (HW6.out.trans (hb7.mono HW6.out.size))
  clear y0 y1 y2 y3 y4 z0 z1 z2 z3 z4 u0 u1 u2 u3 u4 v0 v1 v2 v3 v4
  obtain ⟨y0, y1, y2, y3, y4, z0, z1, z2, z3, z4⟩ := five hI7
  obtain ⟨u0, u1, u2, u3, u4, v0, v1, v2, v3, v4⟩ := five hJ7
  obtain ⟨ya, yb, yc, yd, ye, za, zb, zc, zd, ze⟩ := five (hI7.alloc (.cells #[.int .i64 0, .int .i64 0, .int .i64 0, .bool false, .string ByteArray.empty] 26))
  obtain ⟨ua, ub, uc, ud, ue, va, vb, vc, vd, ve⟩ := five (hJ7.alloc (.cells #[.int .i64 0, .int .i64 0, .int .i64 0, .bool false, .string ByteArray.empty] 26))
  have HX := Lib.hid (Below.alloc (HW7.out) (HW7.out.size) (.cells #[.int .i64 0, .int .i64 0, .int .i64 0, .bool false, .string ByteArray.empty] 26))
  have HI7 := Lib.hid hI7
  have HJ7 := Lib.hid hJ7
  clear hI7 hJ7 hb7
  go_wp2_with fail
  all_goals first | (go_ret; exact ⟨rfl, HX.out⟩) | (go_region; all_goals go_wp2; all_goals (go_ret; exact ⟨rfl, by first | exact HX.out | exact HX.out.drew⟩))
set_option maxHeartbeats 8000000 in
theorem w_long1 (c n k' c' n' cut : Int) (ok ok' : Bool) (t t' : ByteArray) (h1 : t.size ≤ 5000) (h2 : t'.size ≤ 5000) (A B : ByteArray) (q : Bool) (p : Int) (hA : record_Bytes.f 1 1 c n ok t = some (A, 0)) (hB : record_Bytes.f 1 k' c' n' ok' t' = some (B, 0)) (hAB : (A.toList == B.toList) = q) (hst : (1 == k' && (c == c' && (n == n' && (ok == ok' && t.toList == t'.toList)))) = q) (hAe : A.toList.isEmpty = false) (hp : outlawkit_Pick.f cut (A.size : Int) = some p) (hp0 : 0 ≤ p) (hp1 : p ≤ (A.size : Int)) (hA6 : A.size ≤ 6000) (T : ByteArray) (hT : (T.size : Int) ≤ (t.size : Int)) (hpre : t.extract 0 T.size = T) (hr : record_Read.f (A.extract 0 p.toNat) = some (1, c, 0, false, T, 0)) (w : World) :
    Calls Try.prog 5 #[.agg #[.int .i64 1, .int .i64 c, .int .i64 n, .bool ok, .string t], .agg #[.int .i64 k', .int .i64 c', .int .i64 n', .bool ok', .string t'], .int .i64 cut] w fun e w' => e = .returned (.bool true) ∧ Below w.heap.size w w' := by
  have HI0 := Lib.hid (W0_I w #[.int .i64 1, .int .i64 c, .int .i64 n, .bool ok, .string t] #[.int .i64 k', .int .i64 c', .int .i64 n', .bool ok', .string t'])
  have HJ0 := Lib.hid (W0_J w #[.int .i64 1, .int .i64 c, .int .i64 n, .bool ok, .string t] #[.int .i64 k', .int .i64 c', .int .i64 n', .bool ok', .string t'])
  have HW0 := Lib.hid (W0_below w #[.int .i64 1, .int .i64 c, .int .i64 n, .bool ok, .string t] #[.int .i64 k', .int .i64 c', .int .i64 n', .bool ok', .string t'])
  have H1 := Lib.hid h1
  have H2 := Lib.hid h2
  have HA := Lib.hid hA
  have HB := Lib.hid hB
  have HP := Lib.hid hp
  have HR := Lib.hid hr
  clear h1 h2 hA hB hp hr
  go_enter Try.func5, Try.ntmps5
  go_wp2_with fail
  refine (outlawlaw21_lives.calls 3 true _ lives_3).mono ?_
  rintro e w1 ⟨rfl, hb1⟩
  have hI1 := HI0.out.below hb1 (HI0.out.lt)
  have hJ1 := HJ0.out.below hb1 (HJ0.out.lt)
  have HW1 := Lib.hid (HW0.out.trans (hb1.mono HW0.out.size))
  obtain ⟨y0, y1, y2, y3, y4, z0, z1, z2, z3, z4⟩ := five hI1
  obtain ⟨u0, u1, u2, u3, u4, v0, v1, v2, v3, v4⟩ := five hJ1
  have HI1 := Lib.hid hI1
  have HJ1 := Lib.hid hJ1
  clear hI1 hJ1 hb1
  go_wp2_with fail
  refine (outlawlaw21_light.calls 1 c n ok t true _ (light_yes _ _ _ _ _ H1.out)).mono ?_
  rintro e w2 ⟨rfl, hb2⟩
  have hI2 := HI1.out.below hb2 (HI1.out.lt)
  have hJ2 := HJ1.out.below hb2 (HJ1.out.lt)
  have HW2 := Lib.hid (HW1.out.trans (hb2.mono HW1.out.size))
  clear y0 y1 y2 y3 y4 z0 z1 z2 z3 z4 u0 u1 u2 u3 u4 v0 v1 v2 v3 v4
  obtain ⟨y0, y1, y2, y3, y4, z0, z1, z2, z3, z4⟩ := five hI2
  obtain ⟨u0, u1, u2, u3, u4, v0, v1, v2, v3, v4⟩ := five hJ2
  have HI2 := Lib.hid hI2
  have HJ2 := Lib.hid hJ2
  clear hI2 hJ2 hb2
  go_wp2_with fail
  refine (outlawlaw21_light.calls k' c' n' ok' t' true _ (light_yes _ _ _ _ _ H2.out)).mono ?_
  rintro e w3 ⟨rfl, hb3⟩
  have hI3 := HI2.out.below hb3 (HI2.out.lt)
  have hJ3 := HJ2.out.below hb3 (HJ2.out.lt)
  have HW3 := Lib.hid (HW2.out.trans (hb3.mono HW2.out.size))
  clear y0 y1 y2 y3 y4 z0 z1 z2 z3 z4 u0 u1 u2 u3 u4 v0 v1 v2 v3 v4
  obtain ⟨y0, y1, y2, y3, y4, z0, z1, z2, z3, z4⟩ := five hI3
  obtain ⟨u0, u1, u2, u3, u4, v0, v1, v2, v3, v4⟩ := five hJ3
  have HI3 := Lib.hid hI3
  have HJ3 := Lib.hid hJ3
  clear hI3 hJ3 hb3
  go_wp2_with fail
  refine (record_Bytes.calls 1 1 c n ok t A 0 _ HA.out).mono ?_
  rintro e w4 ⟨rfl, hb4⟩
  have hI4 := HI3.out.below hb4 (HI3.out.lt)
  have hJ4 := HJ3.out.below hb4 (HJ3.out.lt)
  have HW4 := Lib.hid (HW3.out.trans (hb4.mono HW3.out.size))
  clear y0 y1 y2 y3 y4 z0 z1 z2 z3 z4 u0 u1 u2 u3 u4 v0 v1 v2 v3 v4
  obtain ⟨y0, y1, y2, y3, y4, z0, z1, z2, z3, z4⟩ := five hI4
  obtain ⟨u0, u1, u2, u3, u4, v0, v1, v2, v3, v4⟩ := five hJ4
  have HI4 := Lib.hid hI4
  have HJ4 := Lib.hid hJ4
  clear hI4 hJ4 hb4
  go_wp2_with fail
  refine (record_Bytes.calls 1 k' c' n' ok' t' B 0 _ HB.out).mono ?_
  rintro e w5 ⟨rfl, hb5⟩
  have hI5 := HI4.out.below hb5 (HI4.out.lt)
  have hJ5 := HJ4.out.below hb5 (HJ4.out.lt)
  have HW5 := Lib.hid (HW4.out.trans (hb5.mono HW4.out.size))
  clear y0 y1 y2 y3 y4 z0 z1 z2 z3 z4 u0 u1 u2 u3 u4 v0 v1 v2 v3 v4
  obtain ⟨y0, y1, y2, y3, y4, z0, z1, z2, z3, z4⟩ := five hI5
  obtain ⟨u0, u1, u2, u3, u4, v0, v1, v2, v3, v4⟩ := five hJ5
  have HI5 := Lib.hid hI5
  have HJ5 := Lib.hid hJ5
  clear hI5 hJ5 hb5
  go_wp2_with fail
  clear hAB hst
  refine (outlawkit_Pick.calls cut (A.size : Int) p _ HP.out).mono ?_
  rintro e w6 ⟨rfl, hb6⟩
  replace hb6 := below_of_drawn hb6
  have hI6 := HI5.out.below hb6 (HI5.out.lt)
  have hJ6 := HJ5.out.below hb6 (HJ5.out.lt)
  have HW6 := Lib.hid (HW5.out.trans (hb6.mono HW5.out.size))
  clear y0 y1 y2 y3 y4 z0 z1 z2 z3 z4 u0 u1 u2 u3 u4 v0 v1 v2 v3 v4
  obtain ⟨y0, y1, y2, y3, y4, z0, z1, z2, z3, z4⟩ := five hI6
  obtain ⟨u0, u1, u2, u3, u4, v0, v1, v2, v3, v4⟩ := five hJ6
  have HI6 := Lib.hid hI6
  have HJ6 := Lib.hid hJ6
  clear hI6 hJ6 hb6
  go_wp2_with fail
  refine (record_Read.calls (A.extract 0 p.toNat) 1 c 0 false T 0 _ HR.out).mono ?_
  rintro e w7 ⟨rfl, hb7⟩
  have hI7 := HI6.out.below hb7 (HI6.out.lt)
  have hJ7 := HJ6.out.below hb7 (HJ6.out.lt)
  have HW7 := Lib.hid (HW6.out.trans (hb7.mono HW6.out.size))
  clear y0 y1 y2 y3 y4 z0 z1 z2 z3 z4 u0 u1 u2 u3 u4 v0 v1 v2 v3 v4
  obtain ⟨y0, y1, y2, y3, y4, z0, z1, z2, z3, z4⟩ := five hI7
  obtain ⟨u0, u1, u2, u3, u4, v0, v1, v2, v3, v4⟩ := five hJ7
  obtain ⟨ya, yb, yc, yd, ye, za, zb, zc, zd, ze⟩ := five (hI7.alloc (.cells #[.int .i64 1, .int .i64 c, .int .i64 0, .bool false, .string T] 26))
  obtain ⟨ua, ub, uc, ud, ue, va, vb, vc, vd, ve⟩ := five (hJ7.alloc (.cells #[.int .i64 1, .int .i64 c, .int .i64 0, .bool false, .string T] 26))
  have HX := Lib.hid (Below.alloc (HW7.out) (HW7.out.size) (.cells #[.int .i64 1, .int .i64 c, .int .i64 0, .bool false, .string T] 26))
  have HI7 := Lib.hid hI7
  have HJ7 := Lib.hid hJ7
  clear hI7 hJ7 hb7
  go_wp2_with fail
  all_goals first | (go_ret; exact ⟨rfl, HX.out⟩) | (go_region; all_goals go_wp2; all_goals (go_ret; exact ⟨rfl, by first | exact HX.out | exact HX.out.drew⟩))
set_option maxHeartbeats 8000000 in
theorem w_long5 (c n k' c' n' cut : Int) (ok ok' : Bool) (t t' : ByteArray) (h1 : t.size ≤ 5000) (h2 : t'.size ≤ 5000) (A B : ByteArray) (q : Bool) (p : Int) (hA : record_Bytes.f 1 5 c n ok t = some (A, 0)) (hB : record_Bytes.f 1 k' c' n' ok' t' = some (B, 0)) (hAB : (A.toList == B.toList) = q) (hst : (5 == k' && (c == c' && (n == n' && (ok == ok' && t.toList == t'.toList)))) = q) (hAe : A.toList.isEmpty = false) (hp : outlawkit_Pick.f cut (A.size : Int) = some p) (hp0 : 0 ≤ p) (hp1 : p ≤ (A.size : Int)) (hA6 : A.size ≤ 6000) (T : ByteArray) (hT : (T.size : Int) ≤ (t.size : Int)) (hpre : t.extract 0 T.size = T) (hr : record_Read.f (A.extract 0 p.toNat) = some (5, c, 0, false, T, 0)) (w : World) :
    Calls Try.prog 5 #[.agg #[.int .i64 5, .int .i64 c, .int .i64 n, .bool ok, .string t], .agg #[.int .i64 k', .int .i64 c', .int .i64 n', .bool ok', .string t'], .int .i64 cut] w fun e w' => e = .returned (.bool true) ∧ Below w.heap.size w w' := by
  have HI0 := Lib.hid (W0_I w #[.int .i64 5, .int .i64 c, .int .i64 n, .bool ok, .string t] #[.int .i64 k', .int .i64 c', .int .i64 n', .bool ok', .string t'])
  have HJ0 := Lib.hid (W0_J w #[.int .i64 5, .int .i64 c, .int .i64 n, .bool ok, .string t] #[.int .i64 k', .int .i64 c', .int .i64 n', .bool ok', .string t'])
  have HW0 := Lib.hid (W0_below w #[.int .i64 5, .int .i64 c, .int .i64 n, .bool ok, .string t] #[.int .i64 k', .int .i64 c', .int .i64 n', .bool ok', .string t'])
  have H1 := Lib.hid h1
  have H2 := Lib.hid h2
  have HA := Lib.hid hA
  have HB := Lib.hid hB
  have HP := Lib.hid hp
  have HR := Lib.hid hr
  clear h1 h2 hA hB hp hr
  go_enter Try.func5, Try.ntmps5
  go_wp2_with fail
  refine (outlawlaw21_lives.calls 3 true _ lives_3).mono ?_
  rintro e w1 ⟨rfl, hb1⟩
  have hI1 := HI0.out.below hb1 (HI0.out.lt)
  have hJ1 := HJ0.out.below hb1 (HJ0.out.lt)
  have HW1 := Lib.hid (HW0.out.trans (hb1.mono HW0.out.size))
  obtain ⟨y0, y1, y2, y3, y4, z0, z1, z2, z3, z4⟩ := five hI1
  obtain ⟨u0, u1, u2, u3, u4, v0, v1, v2, v3, v4⟩ := five hJ1
  have HI1 := Lib.hid hI1
  have HJ1 := Lib.hid hJ1
  clear hI1 hJ1 hb1
  go_wp2_with fail
  refine (outlawlaw21_light.calls 5 c n ok t true _ (light_yes _ _ _ _ _ H1.out)).mono ?_
  rintro e w2 ⟨rfl, hb2⟩
  have hI2 := HI1.out.below hb2 (HI1.out.lt)
  have hJ2 := HJ1.out.below hb2 (HJ1.out.lt)
  have HW2 := Lib.hid (HW1.out.trans (hb2.mono HW1.out.size))
  clear y0 y1 y2 y3 y4 z0 z1 z2 z3 z4 u0 u1 u2 u3 u4 v0 v1 v2 v3 v4
  obtain ⟨y0, y1, y2, y3, y4, z0, z1, z2, z3, z4⟩ := five hI2
  obtain ⟨u0, u1, u2, u3, u4, v0, v1, v2, v3, v4⟩ := five hJ2
  have HI2 := Lib.hid hI2
  have HJ2 := Lib.hid hJ2
  clear hI2 hJ2 hb2
  go_wp2_with fail
  refine (outlawlaw21_light.calls k' c' n' ok' t' true _ (light_yes _ _ _ _ _ H2.out)).mono ?_
  rintro e w3 ⟨rfl, hb3⟩
  have hI3 := HI2.out.below hb3 (HI2.out.lt)
  have hJ3 := HJ2.out.below hb3 (HJ2.out.lt)
  have HW3 := Lib.hid (HW2.out.trans (hb3.mono HW2.out.size))
  clear y0 y1 y2 y3 y4 z0 z1 z2 z3 z4 u0 u1 u2 u3 u4 v0 v1 v2 v3 v4
  obtain ⟨y0, y1, y2, y3, y4, z0, z1, z2, z3, z4⟩ := five hI3
  obtain ⟨u0, u1, u2, u3, u4, v0, v1, v2, v3, v4⟩ := five hJ3
  have HI3 := Lib.hid hI3
  have HJ3 := Lib.hid hJ3
  clear hI3 hJ3 hb3
  go_wp2_with fail
  refine (record_Bytes.calls 1 5 c n ok t A 0 _ HA.out).mono ?_
  rintro e w4 ⟨rfl, hb4⟩
  have hI4 := HI3.out.below hb4 (HI3.out.lt)
  have hJ4 := HJ3.out.below hb4 (HJ3.out.lt)
  have HW4 := Lib.hid (HW3.out.trans (hb4.mono HW3.out.size))
  clear y0 y1 y2 y3 y4 z0 z1 z2 z3 z4 u0 u1 u2 u3 u4 v0 v1 v2 v3 v4
  obtain ⟨y0, y1, y2, y3, y4, z0, z1, z2, z3, z4⟩ := five hI4
  obtain ⟨u0, u1, u2, u3, u4, v0, v1, v2, v3, v4⟩ := five hJ4
  have HI4 := Lib.hid hI4
  have HJ4 := Lib.hid hJ4
  clear hI4 hJ4 hb4
  go_wp2_with fail
  refine (record_Bytes.calls 1 k' c' n' ok' t' B 0 _ HB.out).mono ?_
  rintro e w5 ⟨rfl, hb5⟩
  have hI5 := HI4.out.below hb5 (HI4.out.lt)
  have hJ5 := HJ4.out.below hb5 (HJ4.out.lt)
  have HW5 := Lib.hid (HW4.out.trans (hb5.mono HW4.out.size))
  clear y0 y1 y2 y3 y4 z0 z1 z2 z3 z4 u0 u1 u2 u3 u4 v0 v1 v2 v3 v4
  obtain ⟨y0, y1, y2, y3, y4, z0, z1, z2, z3, z4⟩ := five hI5
  obtain ⟨u0, u1, u2, u3, u4, v0, v1, v2, v3, v4⟩ := five hJ5
  have HI5 := Lib.hid hI5
  have HJ5 := Lib.hid hJ5
  clear hI5 hJ5 hb5
  go_wp2_with fail
  clear hAB hst
  refine (outlawkit_Pick.calls cut (A.size : Int) p _ HP.out).mono ?_
  rintro e w6 ⟨rfl, hb6⟩
  replace hb6 := below_of_drawn hb6
  have hI6 := HI5.out.below hb6 (HI5.out.lt)
  have hJ6 := HJ5.out.below hb6 (HJ5.out.lt)
  have HW6 := Lib.hid (HW5.out.trans (hb6.mono HW5.out.size))
  clear y0 y1 y2 y3 y4 z0 z1 z2 z3 z4 u0 u1 u2 u3 u4 v0 v1 v2 v3 v4
  obtain ⟨y0, y1, y2, y3, y4, z0, z1, z2, z3, z4⟩ := five hI6
  obtain ⟨u0, u1, u2, u3, u4, v0, v1, v2, v3, v4⟩ := five hJ6
  have HI6 := Lib.hid hI6
  have HJ6 := Lib.hid hJ6
  clear hI6 hJ6 hb6
  go_wp2_with fail
  refine (record_Read.calls (A.extract 0 p.toNat) 5 c 0 false T 0 _ HR.out).mono ?_
  rintro e w7 ⟨rfl, hb7⟩
  have hI7 := HI6.out.below hb7 (HI6.out.lt)
  have hJ7 := HJ6.out.below hb7 (HJ6.out.lt)
  have HW7 := Lib.hid (HW6.out.trans (hb7.mono HW6.out.size))
  clear y0 y1 y2 y3 y4 z0 z1 z2 z3 z4 u0 u1 u2 u3 u4 v0 v1 v2 v3 v4
  obtain ⟨y0, y1, y2, y3, y4, z0, z1, z2, z3, z4⟩ := five hI7
  obtain ⟨u0, u1, u2, u3, u4, v0, v1, v2, v3, v4⟩ := five hJ7
  obtain ⟨ya, yb, yc, yd, ye, za, zb, zc, zd, ze⟩ := five (hI7.alloc (.cells #[.int .i64 5, .int .i64 c, .int .i64 0, .bool false, .string T] 26))
  obtain ⟨ua, ub, uc, ud, ue, va, vb, vc, vd, ve⟩ := five (hJ7.alloc (.cells #[.int .i64 5, .int .i64 c, .int .i64 0, .bool false, .string T] 26))
  have HX := Lib.hid (Below.alloc (HW7.out) (HW7.out.size) (.cells #[.int .i64 5, .int .i64 c, .int .i64 0, .bool false, .string T] 26))
  have HI7 := Lib.hid hI7
  have HJ7 := Lib.hid hJ7
  clear hI7 hJ7 hb7
  go_wp2_with fail
  all_goals first | (go_ret; exact ⟨rfl, HX.out⟩) | (go_region; all_goals go_wp2; all_goals (go_ret; exact ⟨rfl, by first | exact HX.out | exact HX.out.drew⟩))
end Go.Proofs.YtfgbimcjcplegaaA
