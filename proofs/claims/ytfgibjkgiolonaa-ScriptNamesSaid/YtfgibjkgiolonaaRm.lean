import Derived.Test.YtfgibjkgiolonaaPRx
import Derived.Test.YtfgibjkgiolonaaG2
import Derived.Test.YtfgibjkgiolonaaQm
import Derived.RegionTactic
import Derived.ChangeAlike
import Derived.Test.YtfgibjkgiolonaaGm
set_option linter.unusedVariables false
set_option linter.unusedSimpArgs false
namespace Go.Proofs.YtfgibjkgiolonaaR
open Go.RowKit Go.Proofs.Ytfgibjkgiolonaa.PR Go.Proofs.YtfgibjkgiolonaaW.PrintWords Go.Proofs.YtfgibjkgiolonaaG Go.Proofs.YtfgibjkgiolonaaX
theorem nil_size {t : ByteArray} : (t.toList = []) = (t.size = 0) := propext size_nil
set_option maxHeartbeats 4000000 in
theorem check_val (m : Nat) (k c n : Int) (ok : Bool) (t : ByteArray) : outlawref21_Check.f (m + 6) k c n ok t = some (checkI k c n ok t) := by
 by_cases h1 : k < 1
 ·have : checkI k c n ok t = 9 := by unfold checkI; rw [if_neg (by omega), if_neg (by omega), if_neg (by omega), if_neg (by omega), if_neg (by omega), if_neg (by omega)]
  simp [outlawref21_Check.f, outlawref21_Check.j0, h1, this]
 by_cases h6 : 6 < k
 ·have : checkI k c n ok t = 9 := by unfold checkI; rw [if_neg (by omega), if_neg (by omega), if_neg (by omega), if_neg (by omega), if_neg (by omega), if_neg (by omega)]
  simp [outlawref21_Check.f, outlawref21_Check.j0, h1, h6, this]
 have hk : k = 1 ∨ k = 2 ∨ k = 3 ∨ k = 4 ∨ k = 5 ∨ k = 6 := by omega
 rcases hk with rfl | rfl | rfl | rfl | rfl | rfl <;> cases ok <;> simp [outlawref21_Check.f, outlawref21_Check.j0, outlawref21_Check.j1, outlawref21_Check.j2, outlawref21_Check.j3, outlawref21_Check.j4, outlawref21_Check.j5, checkI, errIf, nil_size] <;> (repeat' split) <;> simp_all <;> omega
theorem num_step (t : ByteArray) (h : t.size = 8) (i k : Nat) (hi : i < 8) : outlawref21_Number.l0 (k + 1) t (numP t i) (i : Int) = outlawref21_Number.l0 k t (numP t (i + 1)) ((i + 1 : Nat) : Int) := by
 simp only [outlawref21_Number.l0]
 have hr := numP_range t i
 have hp : (256 : Int) ^ i ≤ 72057594037927936 := by
  have : i = 0 ∨ i = 1 ∨ i = 2 ∨ i = 3 ∨ i = 4 ∨ i = 5 ∨ i = 6 ∨ i = 7 := by omega
  rcases this with rfl | rfl | rfl | rfl | rfl | rfl | rfl | rfl <;> decide
 have hb := bt_range t i
 rw [if_pos (by omega), if_pos (by omega), or_step _ _ hr.1 (by omega) hb.1 (by omega)]
 have hw : wrap64 ((i : Int) + 1) = ((i + 1 : Nat) : Int) := by unfold wrap64; omega
 rw [hw]
 rfl
theorem num_val (m : Nat) (t : ByteArray) (h : t.size = 8) : outlawref21_Number.f (m + 9) t = some (numP t 8) := by
 have h0 := num_step t h 0 (m + 8) (by decide)
 have h1 := num_step t h 1 (m + 7) (by decide)
 have h2 := num_step t h 2 (m + 6) (by decide)
 have h3 := num_step t h 3 (m + 5) (by decide)
 have h4 := num_step t h 4 (m + 4) (by decide)
 have h5 := num_step t h 5 (m + 3) (by decide)
 have h6 := num_step t h 6 (m + 2) (by decide)
 have h7 := num_step t h 7 (m + 1) (by decide)
 unfold outlawref21_Number.f
 refine (h0.trans (h1.trans (h2.trans (h3.trans (h4.trans (h5.trans (h6.trans (h7.trans ?_))))))))
 simp only [outlawref21_Number.l0]
 rw [if_neg (by rw [h]; decide)]
theorem check_call (k c n : Int) (ok : Bool) (t : ByteArray) (w : World) :
  Calls Try.prog 55 #[.agg #[.int .i64 k, .int .i64 c, .int .i64 n, .bool ok, .string t]] w fun e w' => e = .returned (.int .i64 (checkI k c n ok t)) ∧ Below w.heap.size w w' :=
 outlawref21_Check.calls 6 k c n ok t _ w (check_val 0 k c n ok t)
theorem num_call (t : ByteArray) (h : t.size = 8) (w : World) :
  Calls Try.prog 57 #[.string t] w fun e w' => e = .returned (.int .u64 (numP t 8)) ∧ Drawn0 w w' :=
 outlawref21_Number.calls 9 t _ w (num_val 0 t h)
end Go.Proofs.YtfgibjkgiolonaaR
set_option linter.unusedVariables false
set_option linter.unusedSimpArgs false
namespace Go.Proofs.YtfgibjkgiolonaaR
open Go.RowKit Go.Proofs.Ytfgibjkgiolonaa.PR Go.Proofs.YtfgibjkgiolonaaW.PrintWords Go.Proofs.YtfgibjkgiolonaaG Go.Proofs.YtfgibjkgiolonaaX
theorem two_blk (w : World) (P Q : Array Value) : Blk ((w.alloc (.cells P 42)).alloc (.cells Q 42)) w.heap.size P 42 ∧ Blk ((w.alloc (.cells P 42)).alloc (.cells Q 42)) (w.heap.size + 1) Q 42 ∧ Below w.heap.size w ((w.alloc (.cells P 42)).alloc (.cells Q 42)) := by
 refine ⟨(Blk.new w P 42).alloc _, ?_, ((Below.refl _ w).alloc (Nat.le_refl _) _).alloc (by simp) _⟩
 have h := Blk.new (w.alloc (.cells P 42)) Q 42
 have e : (w.alloc (.cells P 42)).heap.size = w.heap.size + 1 := by simp
 rw [e] at h
 exact h
def Has (w W : World) (P Q : Array Value) : Prop := Blk W w.heap.size P 42 ∧ Blk W (w.heap.size + 1) Q 42 ∧ Below w.heap.size w W
theorem Has.start {w w1 : World} {P Q : Array Value} (hd : Drawn0 ((w.alloc (.cells P 42)).alloc (.cells Q 42)) w1) : Has w w1 P Q := by
 obtain ⟨h1, h2, h3⟩ := two_blk w P Q
 have hb := hd.below
 exact ⟨h1.below hb h1.lt, h2.below hb h2.lt, h3.trans (hb.mono h3.size)⟩
theorem Has.below {w W w2 : World} {P Q : Array Value} (h : Has w W P Q) (hb : Below W.heap.size W w2) : Has w w2 P Q := ⟨h.1.below hb h.1.lt, h.2.1.below hb h.2.1.lt, h.2.2.trans (hb.mono h.2.2.size)⟩
theorem Has.set {w W : World} {P Q : Array Value} (h : Has w W P Q) (o : Nat) (v : Value) : Has w (W.setCell ⟨w.heap.size + 1, o, none⟩ v) P (Q.setIfInBounds o v) :=
 ⟨h.1.setElse (by omega) o v, h.2.1.set o v, h.2.2.setCell (by simp) _⟩
theorem Has.drew {w W : World} {P Q : Array Value} (h : Has w W P Q) : Has w W.drew P Q := ⟨h.1, h.2.1, h.2.2.drew⟩
theorem Has.resSet {w W : World} {p0 p1 p2 p3 p4 a b c d e : Value} {Q : Array Value} (h : Has w W #[p0, p1, p2, p3, p4] Q) : Has w (((((W.setCell ⟨w.heap.size, 0, none⟩ a).setCell ⟨w.heap.size, 1, none⟩ b).setCell ⟨w.heap.size, 2, none⟩ c).setCell ⟨w.heap.size, 3, none⟩ d).setCell ⟨w.heap.size, 4, none⟩ e) #[a, b, c, d, e] Q :=
 ⟨((((h.1.set 0 a).set 1 b).set 2 c).set 3 d).set 4 e, ((((h.2.1.setElse (by omega) 0 a).setElse (by omega) 1 b).setElse (by omega) 2 c).setElse (by omega) 3 d).setElse (by omega) 4 e,
  ((((h.2.2.setCell (by simp) _).setCell (by simp) _).setCell (by simp) _).setCell (by simp) _).setCell (by simp) _⟩
theorem resRR {w : World} {I : Nat} {a b c d e x : Value} {tmps : Array Value} (h : Blk w I #[a, b, c, d, e] 42) (ht : tmps.getD 2 undef = .pointer (some ⟨I, 0, none⟩)) (hx : tmps.getD 3 undef = x) :
  (results Try.f58 tmps).run Try.prog w = .ok (.tuple #[.agg #[a, b, c, d, e], x]) w := by
 obtain ⟨c0, c1, c2, c3, c4, z0, z1, z2, z3, z4⟩ := five h
 simp at ht hx
 simp [results, Try.results58, go_sem, ht, hx, c0, c1, c2, c3, c4, Result.andThen]
def z5 : Array Value := #[.int .i64 0, .int .i64 0, .int .i64 0, .bool false, .string ⟨#[]⟩]
set_option maxHeartbeats 4000000 in
theorem rr_none (w : World) : Calls Try.prog 58 #[.string ⟨#[]⟩] w fun e w' => e = .returned (.tuple #[.agg z5, .int .i64 3]) ∧ Below w.heap.size w w' := by
 go_enter Try.func58, Try.ntmps58
 go_wp2_with fail
 exact bodyPost_ret (resRR (Blk.new _ _ _) rfl rfl) rfl ⟨rfl, (Below.refl _ w).alloc (Nat.le_refl _) _⟩
set_option maxHeartbeats 4000000 in
theorem rr_kind (s : ByteArray) (w : World) (h0 : 0 < s.size) (hs : s.size ≤ 100000) (hne : s.toList.isEmpty = false) (k : Int) (hk : ((s[0]'h0).toNat : Int) = k) (hw : wrap64 k = k) (h1 : k < 1 ∨ ¬ k < 1 ∧ 6 < k) : Calls Try.prog 58 #[.string s] w fun e w' => e = .returned (.tuple #[.agg z5, .int .i64 9]) ∧ Below w.heap.size w w' := by
 rcases h1 with h1 | ⟨h1, h6⟩
 all_goals
  go_enter Try.func58, Try.ntmps58
  go_wp2_with fail
  exact bodyPost_ret (resRR (two_blk w _ _).1 rfl rfl) rfl ⟨rfl, (two_blk w _ _).2.2⟩
set_option maxHeartbeats 4000000 in
theorem rr_1_ok (s : ByteArray) (w : World) (h0 : 0 < s.size) (hs : s.size ≤ 100000) (hne : s.toList.isEmpty = false) (hk : (s[0]'h0).toNat = 1) (b : ByteArray) (hb : b = s.extract 1 s.size)  (c : Int) (hc : c = checkI 1 0 0 false b) (hc0 : (c == 0) = true) :
  Calls Try.prog 58 #[.string s] w fun e w' => e = .returned (.tuple #[.agg #[.int .i64 1, .int .i64 0, .int .i64 0, .bool false, .string b], .int .i64 0]) ∧ Below w.heap.size w w' := by
 have HBB := Lib.hid hb
 clear hb
 have HC := Lib.hid hc
 clear hc
 go_enter Try.func58, Try.ntmps58
 go_wp2_with fail
 refine (outlawref21_fixed.calls 2 1 0 false _ rfl).mono ?_
 rintro e w1 ⟨rfl, hd⟩
 have HH := Lib.hid (Has.start hd)
 clear hd
 rw [← HBB.out]
 obtain ⟨y0, y1, y2, y3, y4, q0, q1, q2, q3, q4⟩ := five HH.out.2.1
 obtain ⟨x0, x1, x2, x3, x4, p0, p1, p2, p3, p4⟩ := five HH.out.1
 go_wp2_with fail
 refine (check_call 1 0 0 false b _).mono ?_
 rintro e w9 ⟨rfl, hb2⟩
 rw [← HC.out]
 replace HH := Lib.hid (Has.below (HH.out.set 4 (.string b)) hb2)
 clear hb2 y0 y1 y2 y3 y4 q0 q1 q2 q3 q4 x0 x1 x2 x3 x4 p0 p1 p2 p3 p4
 obtain ⟨y0, y1, y2, y3, y4, q0, q1, q2, q3, q4⟩ := five HH.out.2.1
 obtain ⟨x0, x1, x2, x3, x4, p0, p1, p2, p3, p4⟩ := five HH.out.1
 go_wp2_with fail
 exact bodyPost_ret (resRR (Has.resSet HH.out).1 rfl rfl) rfl ⟨rfl, (Has.resSet HH.out).2.2⟩
set_option maxHeartbeats 4000000 in
theorem rr_1_err (s : ByteArray) (w : World) (h0 : 0 < s.size) (hs : s.size ≤ 100000) (hne : s.toList.isEmpty = false) (hk : (s[0]'h0).toNat = 1) (b : ByteArray) (hb : b = s.extract 1 s.size)  (c : Int) (hc : c = checkI 1 0 0 false b) (hc0 : (c == 0) = false) :
  Calls Try.prog 58 #[.string s] w fun e w' => e = .returned (.tuple #[.agg z5, .int .i64 c]) ∧ Below w.heap.size w w' := by
 have HBB := Lib.hid hb
 clear hb
 have HC := Lib.hid hc
 clear hc
 go_enter Try.func58, Try.ntmps58
 go_wp2_with fail
 refine (outlawref21_fixed.calls 2 1 0 false _ rfl).mono ?_
 rintro e w1 ⟨rfl, hd⟩
 have HH := Lib.hid (Has.start hd)
 clear hd
 rw [← HBB.out]
 obtain ⟨y0, y1, y2, y3, y4, q0, q1, q2, q3, q4⟩ := five HH.out.2.1
 obtain ⟨x0, x1, x2, x3, x4, p0, p1, p2, p3, p4⟩ := five HH.out.1
 go_wp2_with fail
 refine (check_call 1 0 0 false b _).mono ?_
 rintro e w9 ⟨rfl, hb2⟩
 rw [← HC.out]
 replace HH := Lib.hid (Has.below (HH.out.set 4 (.string b)) hb2)
 clear hb2 y0 y1 y2 y3 y4 q0 q1 q2 q3 q4 x0 x1 x2 x3 x4 p0 p1 p2 p3 p4
 obtain ⟨y0, y1, y2, y3, y4, q0, q1, q2, q3, q4⟩ := five HH.out.2.1
 obtain ⟨x0, x1, x2, x3, x4, p0, p1, p2, p3, p4⟩ := five HH.out.1
 go_wp2_with fail
 exact bodyPost_ret (resRR (Has.resSet HH.out).1 rfl rfl) rfl ⟨rfl, (Has.resSet HH.out).2.2⟩
set_option maxHeartbeats 4000000 in
theorem rr_6_bad (s : ByteArray) (w : World) (h0 : 0 < s.size) (hs : s.size ≤ 100000) (hne : s.toList.isEmpty = false) (hk : (s[0]'h0).toNat = 6) (b : ByteArray) (hb : b = s.extract 1 s.size) (hz : 0 < b.size) :
  Calls Try.prog 58 #[.string s] w fun e w' => e = .returned (.tuple #[.agg z5, .int .i64 5]) ∧ Below w.heap.size w w' := by
 have HBB := Lib.hid hb
 clear hb
 go_enter Try.func58, Try.ntmps58
 go_wp2_with fail
 refine (outlawref21_fixed.calls 2 6 0 true _ rfl).mono ?_
 rintro e w1 ⟨rfl, hd⟩
 have HH := Lib.hid (Has.start hd)
 clear hd
 rw [← HBB.out]
 obtain ⟨y0, y1, y2, y3, y4, q0, q1, q2, q3, q4⟩ := five HH.out.2.1
 obtain ⟨x0, x1, x2, x3, x4, p0, p1, p2, p3, p4⟩ := five HH.out.1
 go_wp2_with fail
 exact bodyPost_ret (resRR (Has.resSet HH.out).1 rfl rfl) rfl ⟨rfl, (Has.resSet HH.out).2.2⟩
set_option maxHeartbeats 4000000 in
theorem rr_6_ok (s : ByteArray) (w : World) (h0 : 0 < s.size) (hs : s.size ≤ 100000) (hne : s.toList.isEmpty = false) (hk : (s[0]'h0).toNat = 6) (b : ByteArray) (hb : b = s.extract 1 s.size) (hz : ¬ 0 < b.size) (c : Int) (hc : c = checkI 6 0 0 false ⟨#[]⟩) (hc0 : (c == 0) = true) :
  Calls Try.prog 58 #[.string s] w fun e w' => e = .returned (.tuple #[.agg #[.int .i64 6, .int .i64 0, .int .i64 0, .bool false, .string ⟨#[]⟩], .int .i64 0]) ∧ Below w.heap.size w w' := by
 have HBB := Lib.hid hb
 clear hb
 have HC := Lib.hid hc
 clear hc
 go_enter Try.func58, Try.ntmps58
 go_wp2_with fail
 refine (outlawref21_fixed.calls 2 6 0 true _ rfl).mono ?_
 rintro e w1 ⟨rfl, hd⟩
 have HH := Lib.hid (Has.start hd)
 clear hd
 rw [← HBB.out]
 obtain ⟨y0, y1, y2, y3, y4, q0, q1, q2, q3, q4⟩ := five HH.out.2.1
 obtain ⟨x0, x1, x2, x3, x4, p0, p1, p2, p3, p4⟩ := five HH.out.1
 go_wp2_with fail
 refine (check_call 6 0 0 false ⟨#[]⟩ _).mono ?_
 rintro e w9 ⟨rfl, hb2⟩
 rw [← HC.out]
 replace HH := Lib.hid (Has.below (HH.out) hb2)
 clear hb2 y0 y1 y2 y3 y4 q0 q1 q2 q3 q4 x0 x1 x2 x3 x4 p0 p1 p2 p3 p4
 obtain ⟨y0, y1, y2, y3, y4, q0, q1, q2, q3, q4⟩ := five HH.out.2.1
 obtain ⟨x0, x1, x2, x3, x4, p0, p1, p2, p3, p4⟩ := five HH.out.1
 go_wp2_with fail
 exact bodyPost_ret (resRR (Has.resSet HH.out).1 rfl rfl) rfl ⟨rfl, (Has.resSet HH.out).2.2⟩
set_option maxHeartbeats 4000000 in
theorem rr_6_err (s : ByteArray) (w : World) (h0 : 0 < s.size) (hs : s.size ≤ 100000) (hne : s.toList.isEmpty = false) (hk : (s[0]'h0).toNat = 6) (b : ByteArray) (hb : b = s.extract 1 s.size) (hz : ¬ 0 < b.size) (c : Int) (hc : c = checkI 6 0 0 false ⟨#[]⟩) (hc0 : (c == 0) = false) :
  Calls Try.prog 58 #[.string s] w fun e w' => e = .returned (.tuple #[.agg z5, .int .i64 c]) ∧ Below w.heap.size w w' := by
 have HBB := Lib.hid hb
 clear hb
 have HC := Lib.hid hc
 clear hc
 go_enter Try.func58, Try.ntmps58
 go_wp2_with fail
 refine (outlawref21_fixed.calls 2 6 0 true _ rfl).mono ?_
 rintro e w1 ⟨rfl, hd⟩
 have HH := Lib.hid (Has.start hd)
 clear hd
 rw [← HBB.out]
 obtain ⟨y0, y1, y2, y3, y4, q0, q1, q2, q3, q4⟩ := five HH.out.2.1
 obtain ⟨x0, x1, x2, x3, x4, p0, p1, p2, p3, p4⟩ := five HH.out.1
 go_wp2_with fail
 refine (check_call 6 0 0 false ⟨#[]⟩ _).mono ?_
 rintro e w9 ⟨rfl, hb2⟩
 rw [← HC.out]
 replace HH := Lib.hid (Has.below (HH.out) hb2)
 clear hb2 y0 y1 y2 y3 y4 q0 q1 q2 q3 q4 x0 x1 x2 x3 x4 p0 p1 p2 p3 p4
 obtain ⟨y0, y1, y2, y3, y4, q0, q1, q2, q3, q4⟩ := five HH.out.2.1
 obtain ⟨x0, x1, x2, x3, x4, p0, p1, p2, p3, p4⟩ := five HH.out.1
 go_wp2_with fail
 exact bodyPost_ret (resRR (Has.resSet HH.out).1 rfl rfl) rfl ⟨rfl, (Has.resSet HH.out).2.2⟩
set_option maxHeartbeats 4000000 in
theorem rr_5_short (s : ByteArray) (w : World) (h0 : 0 < s.size) (hs : s.size ≤ 100000) (hne : s.toList.isEmpty = false) (hk : (s[0]'h0).toNat = 5) (b : ByteArray) (hb : b = s.extract 1 s.size) (hz : b.size < 1) :
  Calls Try.prog 58 #[.string s] w fun e w' => e = .returned (.tuple #[.agg z5, .int .i64 3]) ∧ Below w.heap.size w w' := by
 have HBB := Lib.hid hb
 clear hb
 go_enter Try.func58, Try.ntmps58
 go_wp2_with fail
 refine (outlawref21_fixed.calls 2 5 1 false _ rfl).mono ?_
 rintro e w1 ⟨rfl, hd⟩
 have HH := Lib.hid (Has.start hd)
 clear hd
 rw [← HBB.out]
 obtain ⟨y0, y1, y2, y3, y4, q0, q1, q2, q3, q4⟩ := five HH.out.2.1
 obtain ⟨x0, x1, x2, x3, x4, p0, p1, p2, p3, p4⟩ := five HH.out.1
 go_wp2_with fail
 exact bodyPost_ret (resRR (Has.resSet HH.out).1 rfl rfl) rfl ⟨rfl, (Has.resSet HH.out).2.2⟩
set_option maxHeartbeats 4000000 in
theorem rr_2_short (s : ByteArray) (w : World) (h0 : 0 < s.size) (hs : s.size ≤ 100000) (hne : s.toList.isEmpty = false) (hk : (s[0]'h0).toNat = 2) (b : ByteArray) (hb : b = s.extract 1 s.size) (hz : b.size < 8) :
  Calls Try.prog 58 #[.string s] w fun e w' => e = .returned (.tuple #[.agg z5, .int .i64 3]) ∧ Below w.heap.size w w' := by
 have HBB := Lib.hid hb
 clear hb
 go_enter Try.func58, Try.ntmps58
 go_wp2_with fail
 refine (outlawref21_fixed.calls 2 2 8 true _ rfl).mono ?_
 rintro e w1 ⟨rfl, hd⟩
 have HH := Lib.hid (Has.start hd)
 clear hd
 rw [← HBB.out]
 obtain ⟨y0, y1, y2, y3, y4, q0, q1, q2, q3, q4⟩ := five HH.out.2.1
 obtain ⟨x0, x1, x2, x3, x4, p0, p1, p2, p3, p4⟩ := five HH.out.1
 go_wp2_with fail
 exact bodyPost_ret (resRR (Has.resSet HH.out).1 rfl rfl) rfl ⟨rfl, (Has.resSet HH.out).2.2⟩
set_option maxHeartbeats 4000000 in
theorem rr_2_bad (s : ByteArray) (w : World) (h0 : 0 < s.size) (hs : s.size ≤ 100000) (hne : s.toList.isEmpty = false) (hk : (s[0]'h0).toNat = 2) (b : ByteArray) (hb : b = s.extract 1 s.size) (hz : ¬ b.size < 8) (hz2 : 8 < b.size) :
  Calls Try.prog 58 #[.string s] w fun e w' => e = .returned (.tuple #[.agg z5, .int .i64 5]) ∧ Below w.heap.size w w' := by
 have HBB := Lib.hid hb
 clear hb
 go_enter Try.func58, Try.ntmps58
 go_wp2_with fail
 refine (outlawref21_fixed.calls 2 2 8 true _ rfl).mono ?_
 rintro e w1 ⟨rfl, hd⟩
 have HH := Lib.hid (Has.start hd)
 clear hd
 rw [← HBB.out]
 obtain ⟨y0, y1, y2, y3, y4, q0, q1, q2, q3, q4⟩ := five HH.out.2.1
 obtain ⟨x0, x1, x2, x3, x4, p0, p1, p2, p3, p4⟩ := five HH.out.1
 go_wp2_with fail
 exact bodyPost_ret (resRR (Has.resSet HH.out).1 rfl rfl) rfl ⟨rfl, (Has.resSet HH.out).2.2⟩
set_option maxHeartbeats 4000000 in
theorem rr_2_arg (s : ByteArray) (w : World) (h0 : 0 < s.size) (hs : s.size ≤ 100000) (hne : s.toList.isEmpty = false) (hk : (s[0]'h0).toNat = 2) (b : ByteArray) (hb : b = s.extract 1 s.size) (hz : ¬ b.size < 8) (hz2 : ¬ 8 < b.size) (n : Int) (hn : n = numP (b.extract 0 8) 8) (hn3 : (1152921504606846976 < n) = True) :
  Calls Try.prog 58 #[.string s] w fun e w' => e = .returned (.tuple #[.agg z5, .int .i64 2]) ∧ Below w.heap.size w w' := by
 have HBB := Lib.hid hb
 clear hb
 have HN := Lib.hid hn
 clear hn
 go_enter Try.func58, Try.ntmps58
 go_wp2_with fail
 refine (outlawref21_fixed.calls 2 2 8 true _ rfl).mono ?_
 rintro e w1 ⟨rfl, hd⟩
 have HH := Lib.hid (Has.start hd)
 clear hd
 rw [← HBB.out]
 obtain ⟨y0, y1, y2, y3, y4, q0, q1, q2, q3, q4⟩ := five HH.out.2.1
 obtain ⟨x0, x1, x2, x3, x4, p0, p1, p2, p3, p4⟩ := five HH.out.1
 go_wp2_with fail
 refine (num_call (b.extract 0 8) (by rw [ByteArray.size_extract]; omega) _).mono ?_
 rintro e w8 ⟨rfl, hd8⟩
 rw [← HN.out]
 replace HH := Lib.hid (Has.below (HH.out) hd8.below)
 clear hd8 y0 y1 y2 y3 y4 q0 q1 q2 q3 q4 x0 x1 x2 x3 x4 p0 p1 p2 p3 p4
 obtain ⟨y0, y1, y2, y3, y4, q0, q1, q2, q3, q4⟩ := five HH.out.2.1
 obtain ⟨x0, x1, x2, x3, x4, p0, p1, p2, p3, p4⟩ := five HH.out.1
 go_wp2_with fail
 exact bodyPost_ret (resRR (Has.resSet HH.out).1 rfl rfl) rfl ⟨rfl, (Has.resSet HH.out).2.2⟩
set_option maxHeartbeats 4000000 in
theorem rr_2_ok (s : ByteArray) (w : World) (h0 : 0 < s.size) (hs : s.size ≤ 100000) (hne : s.toList.isEmpty = false) (hk : (s[0]'h0).toNat = 2) (b : ByteArray) (hb : b = s.extract 1 s.size) (hz : ¬ b.size < 8) (hz2 : ¬ 8 < b.size) (n : Int) (hn : n = numP (b.extract 0 8) 8) (hn2 : wrap64 n = n) (hn3 : (1152921504606846976 < n) = False) (c : Int) (hc : c = checkI 2 0 n false ⟨#[]⟩) (hc0 : (c == 0) = true) :
  Calls Try.prog 58 #[.string s] w fun e w' => e = .returned (.tuple #[.agg #[.int .i64 2, .int .i64 0, .int .i64 n, .bool false, .string ⟨#[]⟩], .int .i64 0]) ∧ Below w.heap.size w w' := by
 have HBB := Lib.hid hb
 clear hb
 have HC := Lib.hid hc
 clear hc
 have HN := Lib.hid hn
 clear hn
 go_enter Try.func58, Try.ntmps58
 go_wp2_with fail
 refine (outlawref21_fixed.calls 2 2 8 true _ rfl).mono ?_
 rintro e w1 ⟨rfl, hd⟩
 have HH := Lib.hid (Has.start hd)
 clear hd
 rw [← HBB.out]
 obtain ⟨y0, y1, y2, y3, y4, q0, q1, q2, q3, q4⟩ := five HH.out.2.1
 obtain ⟨x0, x1, x2, x3, x4, p0, p1, p2, p3, p4⟩ := five HH.out.1
 go_wp2_with fail
 refine (num_call (b.extract 0 8) (by rw [ByteArray.size_extract]; omega) _).mono ?_
 rintro e w8 ⟨rfl, hd8⟩
 rw [← HN.out]
 replace HH := Lib.hid (Has.below (HH.out) hd8.below)
 clear hd8 y0 y1 y2 y3 y4 q0 q1 q2 q3 q4 x0 x1 x2 x3 x4 p0 p1 p2 p3 p4
 obtain ⟨y0, y1, y2, y3, y4, q0, q1, q2, q3, q4⟩ := five HH.out.2.1
 obtain ⟨x0, x1, x2, x3, x4, p0, p1, p2, p3, p4⟩ := five HH.out.1
 go_wp2_with fail
 refine (check_call 2 0 n false ⟨#[]⟩ _).mono ?_
 rintro e w9 ⟨rfl, hb2⟩
 rw [← HC.out]
 replace HH := Lib.hid (Has.below (HH.out.set 2 (.int .i64 n)) hb2)
 clear hb2 y0 y1 y2 y3 y4 q0 q1 q2 q3 q4 x0 x1 x2 x3 x4 p0 p1 p2 p3 p4
 obtain ⟨y0, y1, y2, y3, y4, q0, q1, q2, q3, q4⟩ := five HH.out.2.1
 obtain ⟨x0, x1, x2, x3, x4, p0, p1, p2, p3, p4⟩ := five HH.out.1
 go_wp2_with fail
 exact bodyPost_ret (resRR (Has.resSet HH.out).1 rfl rfl) rfl ⟨rfl, (Has.resSet HH.out).2.2⟩
set_option maxHeartbeats 4000000 in
theorem rr_2_err (s : ByteArray) (w : World) (h0 : 0 < s.size) (hs : s.size ≤ 100000) (hne : s.toList.isEmpty = false) (hk : (s[0]'h0).toNat = 2) (b : ByteArray) (hb : b = s.extract 1 s.size) (hz : ¬ b.size < 8) (hz2 : ¬ 8 < b.size) (n : Int) (hn : n = numP (b.extract 0 8) 8) (hn2 : wrap64 n = n) (hn3 : (1152921504606846976 < n) = False) (c : Int) (hc : c = checkI 2 0 n false ⟨#[]⟩) (hc0 : (c == 0) = false) :
  Calls Try.prog 58 #[.string s] w fun e w' => e = .returned (.tuple #[.agg z5, .int .i64 c]) ∧ Below w.heap.size w w' := by
 have HBB := Lib.hid hb
 clear hb
 have HC := Lib.hid hc
 clear hc
 have HN := Lib.hid hn
 clear hn
 go_enter Try.func58, Try.ntmps58
 go_wp2_with fail
 refine (outlawref21_fixed.calls 2 2 8 true _ rfl).mono ?_
 rintro e w1 ⟨rfl, hd⟩
 have HH := Lib.hid (Has.start hd)
 clear hd
 rw [← HBB.out]
 obtain ⟨y0, y1, y2, y3, y4, q0, q1, q2, q3, q4⟩ := five HH.out.2.1
 obtain ⟨x0, x1, x2, x3, x4, p0, p1, p2, p3, p4⟩ := five HH.out.1
 go_wp2_with fail
 refine (num_call (b.extract 0 8) (by rw [ByteArray.size_extract]; omega) _).mono ?_
 rintro e w8 ⟨rfl, hd8⟩
 rw [← HN.out]
 replace HH := Lib.hid (Has.below (HH.out) hd8.below)
 clear hd8 y0 y1 y2 y3 y4 q0 q1 q2 q3 q4 x0 x1 x2 x3 x4 p0 p1 p2 p3 p4
 obtain ⟨y0, y1, y2, y3, y4, q0, q1, q2, q3, q4⟩ := five HH.out.2.1
 obtain ⟨x0, x1, x2, x3, x4, p0, p1, p2, p3, p4⟩ := five HH.out.1
 go_wp2_with fail
 refine (check_call 2 0 n false ⟨#[]⟩ _).mono ?_
 rintro e w9 ⟨rfl, hb2⟩
 rw [← HC.out]
 replace HH := Lib.hid (Has.below (HH.out.set 2 (.int .i64 n)) hb2)
 clear hb2 y0 y1 y2 y3 y4 q0 q1 q2 q3 q4 x0 x1 x2 x3 x4 p0 p1 p2 p3 p4
 obtain ⟨y0, y1, y2, y3, y4, q0, q1, q2, q3, q4⟩ := five HH.out.2.1
 obtain ⟨x0, x1, x2, x3, x4, p0, p1, p2, p3, p4⟩ := five HH.out.1
 go_wp2_with fail
 exact bodyPost_ret (resRR (Has.resSet HH.out).1 rfl rfl) rfl ⟨rfl, (Has.resSet HH.out).2.2⟩
set_option maxHeartbeats 4000000 in
theorem rr_4_short (s : ByteArray) (w : World) (h0 : 0 < s.size) (hs : s.size ≤ 100000) (hne : s.toList.isEmpty = false) (hk : (s[0]'h0).toNat = 4) (b : ByteArray) (hb : b = s.extract 1 s.size) (hz : b.size < 8) :
  Calls Try.prog 58 #[.string s] w fun e w' => e = .returned (.tuple #[.agg z5, .int .i64 3]) ∧ Below w.heap.size w w' := by
 have HBB := Lib.hid hb
 clear hb
 go_enter Try.func58, Try.ntmps58
 go_wp2_with fail
 refine (outlawref21_fixed.calls 2 4 8 true _ rfl).mono ?_
 rintro e w1 ⟨rfl, hd⟩
 have HH := Lib.hid (Has.start hd)
 clear hd
 rw [← HBB.out]
 obtain ⟨y0, y1, y2, y3, y4, q0, q1, q2, q3, q4⟩ := five HH.out.2.1
 obtain ⟨x0, x1, x2, x3, x4, p0, p1, p2, p3, p4⟩ := five HH.out.1
 go_wp2_with fail
 exact bodyPost_ret (resRR (Has.resSet HH.out).1 rfl rfl) rfl ⟨rfl, (Has.resSet HH.out).2.2⟩
set_option maxHeartbeats 4000000 in
theorem rr_4_bad (s : ByteArray) (w : World) (h0 : 0 < s.size) (hs : s.size ≤ 100000) (hne : s.toList.isEmpty = false) (hk : (s[0]'h0).toNat = 4) (b : ByteArray) (hb : b = s.extract 1 s.size) (hz : ¬ b.size < 8) (hz2 : 8 < b.size) :
  Calls Try.prog 58 #[.string s] w fun e w' => e = .returned (.tuple #[.agg z5, .int .i64 5]) ∧ Below w.heap.size w w' := by
 have HBB := Lib.hid hb
 clear hb
 go_enter Try.func58, Try.ntmps58
 go_wp2_with fail
 refine (outlawref21_fixed.calls 2 4 8 true _ rfl).mono ?_
 rintro e w1 ⟨rfl, hd⟩
 have HH := Lib.hid (Has.start hd)
 clear hd
 rw [← HBB.out]
 obtain ⟨y0, y1, y2, y3, y4, q0, q1, q2, q3, q4⟩ := five HH.out.2.1
 obtain ⟨x0, x1, x2, x3, x4, p0, p1, p2, p3, p4⟩ := five HH.out.1
 go_wp2_with fail
 exact bodyPost_ret (resRR (Has.resSet HH.out).1 rfl rfl) rfl ⟨rfl, (Has.resSet HH.out).2.2⟩
set_option maxHeartbeats 4000000 in
theorem rr_4_arg (s : ByteArray) (w : World) (h0 : 0 < s.size) (hs : s.size ≤ 100000) (hne : s.toList.isEmpty = false) (hk : (s[0]'h0).toNat = 4) (b : ByteArray) (hb : b = s.extract 1 s.size) (hz : ¬ b.size < 8) (hz2 : ¬ 8 < b.size) (n : Int) (hn : n = numP (b.extract 0 8) 8) (hn3 : (1152921504606846976 < n) = True) :
  Calls Try.prog 58 #[.string s] w fun e w' => e = .returned (.tuple #[.agg z5, .int .i64 2]) ∧ Below w.heap.size w w' := by
 have HBB := Lib.hid hb
 clear hb
 have HN := Lib.hid hn
 clear hn
 go_enter Try.func58, Try.ntmps58
 go_wp2_with fail
 refine (outlawref21_fixed.calls 2 4 8 true _ rfl).mono ?_
 rintro e w1 ⟨rfl, hd⟩
 have HH := Lib.hid (Has.start hd)
 clear hd
 rw [← HBB.out]
 obtain ⟨y0, y1, y2, y3, y4, q0, q1, q2, q3, q4⟩ := five HH.out.2.1
 obtain ⟨x0, x1, x2, x3, x4, p0, p1, p2, p3, p4⟩ := five HH.out.1
 go_wp2_with fail
 refine (num_call (b.extract 0 8) (by rw [ByteArray.size_extract]; omega) _).mono ?_
 rintro e w8 ⟨rfl, hd8⟩
 rw [← HN.out]
 replace HH := Lib.hid (Has.below (HH.out) hd8.below)
 clear hd8 y0 y1 y2 y3 y4 q0 q1 q2 q3 q4 x0 x1 x2 x3 x4 p0 p1 p2 p3 p4
 obtain ⟨y0, y1, y2, y3, y4, q0, q1, q2, q3, q4⟩ := five HH.out.2.1
 obtain ⟨x0, x1, x2, x3, x4, p0, p1, p2, p3, p4⟩ := five HH.out.1
 go_wp2_with fail
 exact bodyPost_ret (resRR (Has.resSet HH.out).1 rfl rfl) rfl ⟨rfl, (Has.resSet HH.out).2.2⟩
set_option maxHeartbeats 4000000 in
theorem rr_4_ok (s : ByteArray) (w : World) (h0 : 0 < s.size) (hs : s.size ≤ 100000) (hne : s.toList.isEmpty = false) (hk : (s[0]'h0).toNat = 4) (b : ByteArray) (hb : b = s.extract 1 s.size) (hz : ¬ b.size < 8) (hz2 : ¬ 8 < b.size) (n : Int) (hn : n = numP (b.extract 0 8) 8) (hn2 : wrap64 n = n) (hn3 : (1152921504606846976 < n) = False) (c : Int) (hc : c = checkI 4 0 n false ⟨#[]⟩) (hc0 : (c == 0) = true) :
  Calls Try.prog 58 #[.string s] w fun e w' => e = .returned (.tuple #[.agg #[.int .i64 4, .int .i64 0, .int .i64 n, .bool false, .string ⟨#[]⟩], .int .i64 0]) ∧ Below w.heap.size w w' := by
 have HBB := Lib.hid hb
 clear hb
 have HC := Lib.hid hc
 clear hc
 have HN := Lib.hid hn
 clear hn
 go_enter Try.func58, Try.ntmps58
 go_wp2_with fail
 refine (outlawref21_fixed.calls 2 4 8 true _ rfl).mono ?_
 rintro e w1 ⟨rfl, hd⟩
 have HH := Lib.hid (Has.start hd)
 clear hd
 rw [← HBB.out]
 obtain ⟨y0, y1, y2, y3, y4, q0, q1, q2, q3, q4⟩ := five HH.out.2.1
 obtain ⟨x0, x1, x2, x3, x4, p0, p1, p2, p3, p4⟩ := five HH.out.1
 go_wp2_with fail
 refine (num_call (b.extract 0 8) (by rw [ByteArray.size_extract]; omega) _).mono ?_
 rintro e w8 ⟨rfl, hd8⟩
 rw [← HN.out]
 replace HH := Lib.hid (Has.below (HH.out) hd8.below)
 clear hd8 y0 y1 y2 y3 y4 q0 q1 q2 q3 q4 x0 x1 x2 x3 x4 p0 p1 p2 p3 p4
 obtain ⟨y0, y1, y2, y3, y4, q0, q1, q2, q3, q4⟩ := five HH.out.2.1
 obtain ⟨x0, x1, x2, x3, x4, p0, p1, p2, p3, p4⟩ := five HH.out.1
 go_wp2_with fail
 refine (check_call 4 0 n false ⟨#[]⟩ _).mono ?_
 rintro e w9 ⟨rfl, hb2⟩
 rw [← HC.out]
 replace HH := Lib.hid (Has.below (HH.out.set 2 (.int .i64 n)) hb2)
 clear hb2 y0 y1 y2 y3 y4 q0 q1 q2 q3 q4 x0 x1 x2 x3 x4 p0 p1 p2 p3 p4
 obtain ⟨y0, y1, y2, y3, y4, q0, q1, q2, q3, q4⟩ := five HH.out.2.1
 obtain ⟨x0, x1, x2, x3, x4, p0, p1, p2, p3, p4⟩ := five HH.out.1
 go_wp2_with fail
 exact bodyPost_ret (resRR (Has.resSet HH.out).1 rfl rfl) rfl ⟨rfl, (Has.resSet HH.out).2.2⟩
set_option maxHeartbeats 4000000 in
theorem rr_4_err (s : ByteArray) (w : World) (h0 : 0 < s.size) (hs : s.size ≤ 100000) (hne : s.toList.isEmpty = false) (hk : (s[0]'h0).toNat = 4) (b : ByteArray) (hb : b = s.extract 1 s.size) (hz : ¬ b.size < 8) (hz2 : ¬ 8 < b.size) (n : Int) (hn : n = numP (b.extract 0 8) 8) (hn2 : wrap64 n = n) (hn3 : (1152921504606846976 < n) = False) (c : Int) (hc : c = checkI 4 0 n false ⟨#[]⟩) (hc0 : (c == 0) = false) :
  Calls Try.prog 58 #[.string s] w fun e w' => e = .returned (.tuple #[.agg z5, .int .i64 c]) ∧ Below w.heap.size w w' := by
 have HBB := Lib.hid hb
 clear hb
 have HC := Lib.hid hc
 clear hc
 have HN := Lib.hid hn
 clear hn
 go_enter Try.func58, Try.ntmps58
 go_wp2_with fail
 refine (outlawref21_fixed.calls 2 4 8 true _ rfl).mono ?_
 rintro e w1 ⟨rfl, hd⟩
 have HH := Lib.hid (Has.start hd)
 clear hd
 rw [← HBB.out]
 obtain ⟨y0, y1, y2, y3, y4, q0, q1, q2, q3, q4⟩ := five HH.out.2.1
 obtain ⟨x0, x1, x2, x3, x4, p0, p1, p2, p3, p4⟩ := five HH.out.1
 go_wp2_with fail
 refine (num_call (b.extract 0 8) (by rw [ByteArray.size_extract]; omega) _).mono ?_
 rintro e w8 ⟨rfl, hd8⟩
 rw [← HN.out]
 replace HH := Lib.hid (Has.below (HH.out) hd8.below)
 clear hd8 y0 y1 y2 y3 y4 q0 q1 q2 q3 q4 x0 x1 x2 x3 x4 p0 p1 p2 p3 p4
 obtain ⟨y0, y1, y2, y3, y4, q0, q1, q2, q3, q4⟩ := five HH.out.2.1
 obtain ⟨x0, x1, x2, x3, x4, p0, p1, p2, p3, p4⟩ := five HH.out.1
 go_wp2_with fail
 refine (check_call 4 0 n false ⟨#[]⟩ _).mono ?_
 rintro e w9 ⟨rfl, hb2⟩
 rw [← HC.out]
 replace HH := Lib.hid (Has.below (HH.out.set 2 (.int .i64 n)) hb2)
 clear hb2 y0 y1 y2 y3 y4 q0 q1 q2 q3 q4 x0 x1 x2 x3 x4 p0 p1 p2 p3 p4
 obtain ⟨y0, y1, y2, y3, y4, q0, q1, q2, q3, q4⟩ := five HH.out.2.1
 obtain ⟨x0, x1, x2, x3, x4, p0, p1, p2, p3, p4⟩ := five HH.out.1
 go_wp2_with fail
 exact bodyPost_ret (resRR (Has.resSet HH.out).1 rfl rfl) rfl ⟨rfl, (Has.resSet HH.out).2.2⟩
set_option maxHeartbeats 4000000 in
theorem rr_3_short (s : ByteArray) (w : World) (h0 : 0 < s.size) (hs : s.size ≤ 100000) (hne : s.toList.isEmpty = false) (hk : (s[0]'h0).toNat = 3) (b : ByteArray) (hb : b = s.extract 1 s.size) (hz : b.size < 9) :
  Calls Try.prog 58 #[.string s] w fun e w' => e = .returned (.tuple #[.agg z5, .int .i64 3]) ∧ Below w.heap.size w w' := by
 have HBB := Lib.hid hb
 clear hb
 go_enter Try.func58, Try.ntmps58
 go_wp2_with fail
 refine (outlawref21_fixed.calls 2 3 9 true _ rfl).mono ?_
 rintro e w1 ⟨rfl, hd⟩
 have HH := Lib.hid (Has.start hd)
 clear hd
 rw [← HBB.out]
 obtain ⟨y0, y1, y2, y3, y4, q0, q1, q2, q3, q4⟩ := five HH.out.2.1
 obtain ⟨x0, x1, x2, x3, x4, p0, p1, p2, p3, p4⟩ := five HH.out.1
 go_wp2_with fail
 exact bodyPost_ret (resRR (Has.resSet HH.out).1 rfl rfl) rfl ⟨rfl, (Has.resSet HH.out).2.2⟩
set_option maxHeartbeats 4000000 in
theorem rr_3_bad1 (s : ByteArray) (w : World) (h0 : 0 < s.size) (hs : s.size ≤ 100000) (hne : s.toList.isEmpty = false) (hk : (s[0]'h0).toNat = 3) (b : ByteArray) (hb : b = s.extract 1 s.size) (hz : 8 < b.size) (hz2 : ¬ b.size < 9) (y : Int) (hy : ((b[8]'hz).toNat : Int) = y) (hy2 : 1 < y) :
  Calls Try.prog 58 #[.string s] w fun e w' => e = .returned (.tuple #[.agg z5, .int .i64 5]) ∧ Below w.heap.size w w' := by
 have HBB := Lib.hid hb
 clear hb
 go_enter Try.func58, Try.ntmps58
 go_wp2_with fail
 refine (outlawref21_fixed.calls 2 3 9 true _ rfl).mono ?_
 rintro e w1 ⟨rfl, hd⟩
 have HH := Lib.hid (Has.start hd)
 clear hd
 rw [← HBB.out]
 obtain ⟨y0, y1, y2, y3, y4, q0, q1, q2, q3, q4⟩ := five HH.out.2.1
 obtain ⟨x0, x1, x2, x3, x4, p0, p1, p2, p3, p4⟩ := five HH.out.1
 go_wp2_with fail
 exact bodyPost_ret (resRR (Has.resSet HH.out).1 rfl rfl) rfl ⟨rfl, (Has.resSet HH.out).2.2⟩
set_option maxHeartbeats 4000000 in
theorem rr_3_bad2 (s : ByteArray) (w : World) (h0 : 0 < s.size) (hs : s.size ≤ 100000) (hne : s.toList.isEmpty = false) (hk : (s[0]'h0).toNat = 3) (b : ByteArray) (hb : b = s.extract 1 s.size) (hz : 8 < b.size) (hz2 : ¬ b.size < 9) (y : Int) (hy : ((b[8]'hz).toNat : Int) = y) (hy2 : ¬ 1 < y) (hz3 : 9 < b.size) :
  Calls Try.prog 58 #[.string s] w fun e w' => e = .returned (.tuple #[.agg z5, .int .i64 5]) ∧ Below w.heap.size w w' := by
 have HBB := Lib.hid hb
 clear hb
 go_enter Try.func58, Try.ntmps58
 go_wp2_with fail
 refine (outlawref21_fixed.calls 2 3 9 true _ rfl).mono ?_
 rintro e w1 ⟨rfl, hd⟩
 have HH := Lib.hid (Has.start hd)
 clear hd
 rw [← HBB.out]
 obtain ⟨y0, y1, y2, y3, y4, q0, q1, q2, q3, q4⟩ := five HH.out.2.1
 obtain ⟨x0, x1, x2, x3, x4, p0, p1, p2, p3, p4⟩ := five HH.out.1
 go_wp2_with fail
 exact bodyPost_ret (resRR (Has.resSet HH.out).1 rfl rfl) rfl ⟨rfl, (Has.resSet HH.out).2.2⟩
set_option maxHeartbeats 4000000 in
theorem rr_3_arg (s : ByteArray) (w : World) (h0 : 0 < s.size) (hs : s.size ≤ 100000) (hne : s.toList.isEmpty = false) (hk : (s[0]'h0).toNat = 3) (b : ByteArray) (hb : b = s.extract 1 s.size) (hz : 8 < b.size) (hz2 : ¬ b.size < 9) (y : Int) (hy : ((b[8]'hz).toNat : Int) = y) (hy2 : ¬ 1 < y) (hz3 : ¬ 9 < b.size) (n : Int) (hn : n = numP (b.extract 0 8) 8) (hn3 : (1152921504606846976 < n) = True) :
  Calls Try.prog 58 #[.string s] w fun e w' => e = .returned (.tuple #[.agg z5, .int .i64 2]) ∧ Below w.heap.size w w' := by
 have HBB := Lib.hid hb
 clear hb
 have HN := Lib.hid hn
 clear hn
 go_enter Try.func58, Try.ntmps58
 go_wp2_with fail
 refine (outlawref21_fixed.calls 2 3 9 true _ rfl).mono ?_
 rintro e w1 ⟨rfl, hd⟩
 have HH := Lib.hid (Has.start hd)
 clear hd
 rw [← HBB.out]
 obtain ⟨y0, y1, y2, y3, y4, q0, q1, q2, q3, q4⟩ := five HH.out.2.1
 obtain ⟨x0, x1, x2, x3, x4, p0, p1, p2, p3, p4⟩ := five HH.out.1
 go_wp2_with fail
 refine (num_call (b.extract 0 8) (by rw [ByteArray.size_extract]; omega) _).mono ?_
 rintro e w8 ⟨rfl, hd8⟩
 rw [← HN.out]
 replace HH := Lib.hid (Has.below (HH.out.set 3 (.bool (y == 1))) hd8.below)
 clear hd8 y0 y1 y2 y3 y4 q0 q1 q2 q3 q4 x0 x1 x2 x3 x4 p0 p1 p2 p3 p4
 obtain ⟨y0, y1, y2, y3, y4, q0, q1, q2, q3, q4⟩ := five HH.out.2.1
 obtain ⟨x0, x1, x2, x3, x4, p0, p1, p2, p3, p4⟩ := five HH.out.1
 go_wp2_with fail
 exact bodyPost_ret (resRR (Has.resSet HH.out).1 rfl rfl) rfl ⟨rfl, (Has.resSet HH.out).2.2⟩
set_option maxHeartbeats 4000000 in
theorem rr_3_ok (s : ByteArray) (w : World) (h0 : 0 < s.size) (hs : s.size ≤ 100000) (hne : s.toList.isEmpty = false) (hk : (s[0]'h0).toNat = 3) (b : ByteArray) (hb : b = s.extract 1 s.size) (hz : 8 < b.size) (hz2 : ¬ b.size < 9) (y : Int) (hy : ((b[8]'hz).toNat : Int) = y) (hy2 : ¬ 1 < y) (hz3 : ¬ 9 < b.size) (n : Int) (hn : n = numP (b.extract 0 8) 8) (hn2 : wrap64 n = n) (hn3 : (1152921504606846976 < n) = False) (c : Int) (hc : c = checkI 3 0 n (y == 1) ⟨#[]⟩) (hc0 : (c == 0) = true) :
  Calls Try.prog 58 #[.string s] w fun e w' => e = .returned (.tuple #[.agg #[.int .i64 3, .int .i64 0, .int .i64 n, .bool (y == 1), .string ⟨#[]⟩], .int .i64 0]) ∧ Below w.heap.size w w' := by
 have HBB := Lib.hid hb
 clear hb
 have HC := Lib.hid hc
 clear hc
 have HN := Lib.hid hn
 clear hn
 go_enter Try.func58, Try.ntmps58
 go_wp2_with fail
 refine (outlawref21_fixed.calls 2 3 9 true _ rfl).mono ?_
 rintro e w1 ⟨rfl, hd⟩
 have HH := Lib.hid (Has.start hd)
 clear hd
 rw [← HBB.out]
 obtain ⟨y0, y1, y2, y3, y4, q0, q1, q2, q3, q4⟩ := five HH.out.2.1
 obtain ⟨x0, x1, x2, x3, x4, p0, p1, p2, p3, p4⟩ := five HH.out.1
 go_wp2_with fail
 refine (num_call (b.extract 0 8) (by rw [ByteArray.size_extract]; omega) _).mono ?_
 rintro e w8 ⟨rfl, hd8⟩
 rw [← HN.out]
 replace HH := Lib.hid (Has.below (HH.out.set 3 (.bool (y == 1))) hd8.below)
 clear hd8 y0 y1 y2 y3 y4 q0 q1 q2 q3 q4 x0 x1 x2 x3 x4 p0 p1 p2 p3 p4
 obtain ⟨y0, y1, y2, y3, y4, q0, q1, q2, q3, q4⟩ := five HH.out.2.1
 obtain ⟨x0, x1, x2, x3, x4, p0, p1, p2, p3, p4⟩ := five HH.out.1
 go_wp2_with fail
 refine (check_call 3 0 n (y == 1) ⟨#[]⟩ _).mono ?_
 rintro e w9 ⟨rfl, hb2⟩
 rw [← HC.out]
 replace HH := Lib.hid (Has.below (HH.out.set 2 (.int .i64 n)) hb2)
 clear hb2 y0 y1 y2 y3 y4 q0 q1 q2 q3 q4 x0 x1 x2 x3 x4 p0 p1 p2 p3 p4
 obtain ⟨y0, y1, y2, y3, y4, q0, q1, q2, q3, q4⟩ := five HH.out.2.1
 obtain ⟨x0, x1, x2, x3, x4, p0, p1, p2, p3, p4⟩ := five HH.out.1
 go_wp2_with fail
 exact bodyPost_ret (resRR (Has.resSet HH.out).1 rfl rfl) rfl ⟨rfl, (Has.resSet HH.out).2.2⟩
set_option maxHeartbeats 4000000 in
theorem rr_3_err (s : ByteArray) (w : World) (h0 : 0 < s.size) (hs : s.size ≤ 100000) (hne : s.toList.isEmpty = false) (hk : (s[0]'h0).toNat = 3) (b : ByteArray) (hb : b = s.extract 1 s.size) (hz : 8 < b.size) (hz2 : ¬ b.size < 9) (y : Int) (hy : ((b[8]'hz).toNat : Int) = y) (hy2 : ¬ 1 < y) (hz3 : ¬ 9 < b.size) (n : Int) (hn : n = numP (b.extract 0 8) 8) (hn2 : wrap64 n = n) (hn3 : (1152921504606846976 < n) = False) (c : Int) (hc : c = checkI 3 0 n (y == 1) ⟨#[]⟩) (hc0 : (c == 0) = false) :
  Calls Try.prog 58 #[.string s] w fun e w' => e = .returned (.tuple #[.agg z5, .int .i64 c]) ∧ Below w.heap.size w w' := by
 have HBB := Lib.hid hb
 clear hb
 have HC := Lib.hid hc
 clear hc
 have HN := Lib.hid hn
 clear hn
 go_enter Try.func58, Try.ntmps58
 go_wp2_with fail
 refine (outlawref21_fixed.calls 2 3 9 true _ rfl).mono ?_
 rintro e w1 ⟨rfl, hd⟩
 have HH := Lib.hid (Has.start hd)
 clear hd
 rw [← HBB.out]
 obtain ⟨y0, y1, y2, y3, y4, q0, q1, q2, q3, q4⟩ := five HH.out.2.1
 obtain ⟨x0, x1, x2, x3, x4, p0, p1, p2, p3, p4⟩ := five HH.out.1
 go_wp2_with fail
 refine (num_call (b.extract 0 8) (by rw [ByteArray.size_extract]; omega) _).mono ?_
 rintro e w8 ⟨rfl, hd8⟩
 rw [← HN.out]
 replace HH := Lib.hid (Has.below (HH.out.set 3 (.bool (y == 1))) hd8.below)
 clear hd8 y0 y1 y2 y3 y4 q0 q1 q2 q3 q4 x0 x1 x2 x3 x4 p0 p1 p2 p3 p4
 obtain ⟨y0, y1, y2, y3, y4, q0, q1, q2, q3, q4⟩ := five HH.out.2.1
 obtain ⟨x0, x1, x2, x3, x4, p0, p1, p2, p3, p4⟩ := five HH.out.1
 go_wp2_with fail
 refine (check_call 3 0 n (y == 1) ⟨#[]⟩ _).mono ?_
 rintro e w9 ⟨rfl, hb2⟩
 rw [← HC.out]
 replace HH := Lib.hid (Has.below (HH.out.set 2 (.int .i64 n)) hb2)
 clear hb2 y0 y1 y2 y3 y4 q0 q1 q2 q3 q4 x0 x1 x2 x3 x4 p0 p1 p2 p3 p4
 obtain ⟨y0, y1, y2, y3, y4, q0, q1, q2, q3, q4⟩ := five HH.out.2.1
 obtain ⟨x0, x1, x2, x3, x4, p0, p1, p2, p3, p4⟩ := five HH.out.1
 go_wp2_with fail
 exact bodyPost_ret (resRR (Has.resSet HH.out).1 rfl rfl) rfl ⟨rfl, (Has.resSet HH.out).2.2⟩
set_option maxHeartbeats 4000000 in
theorem rr_5_ok (s : ByteArray) (w : World) (h0 : 0 < s.size) (hs : s.size ≤ 100000) (hne : s.toList.isEmpty = false) (hk : (s[0]'h0).toNat = 5) (b : ByteArray) (hb : b = s.extract 1 s.size) (hz : 0 < b.size) (y : Int) (hy : ((b[0]'hz).toNat : Int) = y) (hw : wrap64 y = y) (c : Int) (hc : c = checkI 5 y 0 false (b.extract 1 b.size)) (hc0 : (c == 0) = true) :
  Calls Try.prog 58 #[.string s] w fun e w' => e = .returned (.tuple #[.agg #[.int .i64 5, .int .i64 y, .int .i64 0, .bool false, .string (b.extract 1 b.size)], .int .i64 0]) ∧ Below w.heap.size w w' := by
 have HBB := Lib.hid hb
 clear hb
 have HC := Lib.hid hc
 clear hc
 go_enter Try.func58, Try.ntmps58
 go_wp2_with fail
 refine (outlawref21_fixed.calls 2 5 1 false _ rfl).mono ?_
 rintro e w1 ⟨rfl, hd⟩
 have HH := Lib.hid (Has.start hd)
 clear hd
 rw [← HBB.out]
 obtain ⟨y0, y1, y2, y3, y4, q0, q1, q2, q3, q4⟩ := five HH.out.2.1
 obtain ⟨x0, x1, x2, x3, x4, p0, p1, p2, p3, p4⟩ := five HH.out.1
 go_wp2_with fail
 go_region
 go_wp2_with fail
 refine (check_call 5 y 0 false (b.extract 1 b.size) _).mono ?_
 rintro e w9 ⟨rfl, hb2⟩
 rw [← HC.out]
 replace HH := Lib.hid (Has.below (((HH.out.set 1 (.int .i64 y)).set 4 (.string (b.extract 1 b.size))).drew) hb2)
 clear hb2 y0 y1 y2 y3 y4 q0 q1 q2 q3 q4 x0 x1 x2 x3 x4 p0 p1 p2 p3 p4
 obtain ⟨y0, y1, y2, y3, y4, q0, q1, q2, q3, q4⟩ := five HH.out.2.1
 obtain ⟨x0, x1, x2, x3, x4, p0, p1, p2, p3, p4⟩ := five HH.out.1
 go_wp2_with fail
 exact bodyPost_ret (resRR (Has.resSet HH.out).1 rfl rfl) rfl ⟨rfl, (Has.resSet HH.out).2.2⟩
set_option maxHeartbeats 4000000 in
theorem rr_5_err (s : ByteArray) (w : World) (h0 : 0 < s.size) (hs : s.size ≤ 100000) (hne : s.toList.isEmpty = false) (hk : (s[0]'h0).toNat = 5) (b : ByteArray) (hb : b = s.extract 1 s.size) (hz : 0 < b.size) (y : Int) (hy : ((b[0]'hz).toNat : Int) = y) (hw : wrap64 y = y) (c : Int) (hc : c = checkI 5 y 0 false (b.extract 1 b.size)) (hc0 : (c == 0) = false) :
  Calls Try.prog 58 #[.string s] w fun e w' => e = .returned (.tuple #[.agg z5, .int .i64 c]) ∧ Below w.heap.size w w' := by
 have HBB := Lib.hid hb
 clear hb
 have HC := Lib.hid hc
 clear hc
 go_enter Try.func58, Try.ntmps58
 go_wp2_with fail
 refine (outlawref21_fixed.calls 2 5 1 false _ rfl).mono ?_
 rintro e w1 ⟨rfl, hd⟩
 have HH := Lib.hid (Has.start hd)
 clear hd
 rw [← HBB.out]
 obtain ⟨y0, y1, y2, y3, y4, q0, q1, q2, q3, q4⟩ := five HH.out.2.1
 obtain ⟨x0, x1, x2, x3, x4, p0, p1, p2, p3, p4⟩ := five HH.out.1
 go_wp2_with fail
 go_region
 go_wp2_with fail
 refine (check_call 5 y 0 false (b.extract 1 b.size) _).mono ?_
 rintro e w9 ⟨rfl, hb2⟩
 rw [← HC.out]
 replace HH := Lib.hid (Has.below (((HH.out.set 1 (.int .i64 y)).set 4 (.string (b.extract 1 b.size))).drew) hb2)
 clear hb2 y0 y1 y2 y3 y4 q0 q1 q2 q3 q4 x0 x1 x2 x3 x4 p0 p1 p2 p3 p4
 obtain ⟨y0, y1, y2, y3, y4, q0, q1, q2, q3, q4⟩ := five HH.out.2.1
 obtain ⟨x0, x1, x2, x3, x4, p0, p1, p2, p3, p4⟩ := five HH.out.1
 go_wp2_with fail
 exact bodyPost_ret (resRR (Has.resSet HH.out).1 rfl rfl) rfl ⟨rfl, (Has.resSet HH.out).2.2⟩
end Go.Proofs.YtfgibjkgiolonaaR
set_option linter.unusedVariables false
set_option linter.unusedSimpArgs false
namespace Go.Proofs.YtfgibjkgiolonaaR
open Go.RowKit Go.Proofs.YtfgibjkgiolonaaW.PrintWords Go.Proofs.YtfgibjkgiolonaaG Go.Proofs.YtfgibjkgiolonaaX
def Ans (s : ByteArray) (w : World) (r : Int × Int × Int × Bool × ByteArray × Int) : Prop :=
 Calls Try.prog 58 #[.string s] w fun e w' => e = .returned (.tuple #[.agg #[.int .i64 r.1, .int .i64 r.2.1, .int .i64 r.2.2.1, .bool r.2.2.2.1, .string r.2.2.2.2.1], .int .i64 r.2.2.2.2.2]) ∧ Below w.heap.size w w'
theorem ans_bad {s : ByteArray} {w : World} {x : Int} (hg : gotOf s = .bad x)
  (H : Calls Try.prog 58 #[.string s] w fun e w' => e = .returned (.tuple #[.agg z5, .int .i64 x]) ∧ Below w.heap.size w w') : Ans s w (readG s) := by
 have : readG s = (0, 0, 0, false, ByteArray.empty, x) := by unfold readG; rw [hg]
 rw [this]
 exact H
theorem ans_got {s : ByteArray} {w : World} {k c n : Int} {ok : Bool} {t : ByteArray} (hg : gotOf s = .got k c n ok t)
  (Hok : (checkI k c n ok t == 0) = true → Calls Try.prog 58 #[.string s] w fun e w' => e = .returned (.tuple #[.agg #[.int .i64 k, .int .i64 c, .int .i64 n, .bool ok, .string t], .int .i64 0]) ∧ Below w.heap.size w w')
  (Herr : (checkI k c n ok t == 0) = false → Calls Try.prog 58 #[.string s] w fun e w' => e = .returned (.tuple #[.agg z5, .int .i64 (checkI k c n ok t)]) ∧ Below w.heap.size w w') : Ans s w (readG s) := by
 by_cases h : checkI k c n ok t = 0
 ·have : readG s = (k, c, n, ok, t, 0) := by unfold readG; rw [hg]; simp only; rw [if_pos h]
  rw [this]
  exact Hok (by simp [h])
 ·have : readG s = (0, 0, 0, false, ByteArray.empty, checkI k c n ok t) := by unfold readG; rw [hg]; simp only; rw [if_neg h]
  rw [this]
  exact Herr (by simp [h])
theorem rr_any (s : ByteArray) (w : World) (hs : s.size ≤ 100000) : Ans s w (readG s) := by
 by_cases h0 : s.size = 0
 ·obtain rfl := empty_of h0
  exact ans_bad (x := 3) (by unfold gotOf; exact if_pos rfl) (rr_none w)
 have hp : 0 < s.size := by omega
 have hne : s.toList.isEmpty = false := by
  rw [List.isEmpty_eq_false_iff]
  intro h
  exact h0 (size_nil.1 h)
 have hb0 : bt s 0 = ((s[0]'hp).toNat : Int) := bt_nat (s := s) (i := 0) hp
 obtain ⟨b, hb⟩ : ∃ b, b = s.extract 1 s.size := ⟨_, rfl⟩
 obtain ⟨k, hk⟩ : ∃ k : Nat, (s[0]'hp).toNat = k := ⟨_, rfl⟩
 have hk255 : k < 256 := by rw [← hk]; exact UInt8.toNat_lt _
 have hG : gotOf s = gotK k b := by
  unfold gotOf
  rw [if_neg h0, hb0, hk, hb]
 by_cases hkk : (k : Int) < 1 ∨ ¬ (k : Int) < 1 ∧ 6 < (k : Int)
 ·refine ans_bad (x := 9) ?_ (rr_kind s w hp hs hne k (by rw [hk]) (by unfold wrap64; omega) hkk)
  rw [hG]
  unfold gotK
  rw [if_neg (by omega), if_neg (by omega), if_neg (by omega), if_neg (by omega), if_neg (by omega)]
 have hk6 : k = 1 ∨ k = 2 ∨ k = 3 ∨ k = 4 ∨ k = 5 ∨ k = 6 := by omega
 rcases hk6 with rfl | rfl | rfl | rfl | rfl | rfl
 ·exact ans_got (hG.trans (by simp [gotK])) (rr_1_ok s w hp hs hne hk b hb _ rfl) (rr_1_err s w hp hs hne hk b hb _ rfl)
 ·by_cases h8 : b.size < 8
  ·exact ans_bad (hG.trans (by simp [gotK, h8])) (rr_2_short s w hp hs hne hk b hb h8)
  by_cases h9 : 8 < b.size
  ·exact ans_bad (hG.trans (by simp [gotK, h8, Nat.ne_of_gt h9])) (rr_2_bad s w hp hs hne hk b hb h8 h9)
  have he : b.size = 8 := by omega
  by_cases hn : 1152921504606846976 < numP (b.extract 0 8) 8
  ·exact ans_bad (hG.trans (by simp [gotK, gotNum, he, hn])) (rr_2_arg s w hp hs hne hk b hb h8 h9 _ rfl (eq_true hn))
  have hw : wrap64 (numP (b.extract 0 8) 8) = numP (b.extract 0 8) 8 := wrapN (numP_range _ _).1 (Int.not_lt.1 hn)
  exact ans_got (hG.trans (by simp [gotK, gotNum, he, hn]; rfl)) (rr_2_ok s w hp hs hne hk b hb h8 h9 _ rfl hw (eq_false hn) _ rfl) (rr_2_err s w hp hs hne hk b hb h8 h9 _ rfl hw (eq_false hn) _ rfl)
 ·by_cases h9 : b.size < 9
  ·exact ans_bad (hG.trans (by simp [gotK, h9])) (rr_3_short s w hp hs hne hk b hb h9)
  have h8 : 8 < b.size := by omega
  have hb8 : bt b 8 = ((b[8]'h8).toNat : Int) := bt_nat (s := b) (i := 8) h8
  by_cases hy : 1 < bt b 8
  ·exact ans_bad (hG.trans (by simp [gotK, h9, hy])) (rr_3_bad1 s w hp hs hne hk b hb h8 h9 _ hb8.symm hy)
  by_cases h10 : 9 < b.size
  ·exact ans_bad (hG.trans (by simp [gotK, h9, hy, Nat.ne_of_gt h10])) (rr_3_bad2 s w hp hs hne hk b hb h8 h9 _ hb8.symm hy h10)
  have he : b.size = 9 := by omega
  by_cases hn : 1152921504606846976 < numP (b.extract 0 8) 8
  ·exact ans_bad (hG.trans (by simp [gotK, gotNum, he, hy, hn])) (rr_3_arg s w hp hs hne hk b hb h8 h9 _ hb8.symm hy h10 _ rfl (eq_true hn))
  have hw : wrap64 (numP (b.extract 0 8) 8) = numP (b.extract 0 8) 8 := wrapN (numP_range _ _).1 (Int.not_lt.1 hn)
  exact ans_got (hG.trans (by simp [gotK, gotNum, he, hy, hn]; rfl)) (rr_3_ok s w hp hs hne hk b hb h8 h9 _ hb8.symm hy h10 _ rfl hw (eq_false hn) _ rfl) (rr_3_err s w hp hs hne hk b hb h8 h9 _ hb8.symm hy h10 _ rfl hw (eq_false hn) _ rfl)
 ·by_cases h8 : b.size < 8
  ·exact ans_bad (hG.trans (by simp [gotK, h8])) (rr_4_short s w hp hs hne hk b hb h8)
  by_cases h9 : 8 < b.size
  ·exact ans_bad (hG.trans (by simp [gotK, h8, Nat.ne_of_gt h9])) (rr_4_bad s w hp hs hne hk b hb h8 h9)
  have he : b.size = 8 := by omega
  by_cases hn : 1152921504606846976 < numP (b.extract 0 8) 8
  ·exact ans_bad (hG.trans (by simp [gotK, gotNum, he, hn])) (rr_4_arg s w hp hs hne hk b hb h8 h9 _ rfl (eq_true hn))
  have hw : wrap64 (numP (b.extract 0 8) 8) = numP (b.extract 0 8) 8 := wrapN (numP_range _ _).1 (Int.not_lt.1 hn)
  exact ans_got (hG.trans (by simp [gotK, gotNum, he, hn]; rfl)) (rr_4_ok s w hp hs hne hk b hb h8 h9 _ rfl hw (eq_false hn) _ rfl) (rr_4_err s w hp hs hne hk b hb h8 h9 _ rfl hw (eq_false hn) _ rfl)
 ·by_cases h1 : b.size < 1
  ·exact ans_bad (hG.trans (by simp [gotK, Nat.lt_one_iff.1 h1])) (rr_5_short s w hp hs hne hk b hb h1)
  have h1p : 0 < b.size := by omega
  have hb0 : bt b 0 = ((b[0]'h1p).toNat : Int) := bt_nat (s := b) (i := 0) h1p
  have hr := bt_range b 0
  have hw : wrap64 (bt b 0) = bt b 0 := wrapN hr.1 (by omega)
  exact ans_got (hG.trans (by simp [gotK, Nat.ne_of_gt h1p])) (rr_5_ok s w hp hs hne hk b hb h1p _ hb0.symm hw _ rfl) (rr_5_err s w hp hs hne hk b hb h1p _ hb0.symm hw _ rfl)
 ·by_cases h1 : 0 < b.size
  ·exact ans_bad (hG.trans (by simp [gotK, Nat.ne_of_gt h1])) (rr_6_bad s w hp hs hne hk b hb h1)
  have he : b.size = 0 := by omega
  exact ans_got (hG.trans (by simp [gotK, he]; rfl)) (rr_6_ok s w hp hs hne hk b hb h1 _ rfl) (rr_6_err s w hp hs hne hk b hb h1 _ rfl)
end Go.Proofs.YtfgibjkgiolonaaR
namespace Go.Proofs.YtfgibjkgiolonaaG
open Go.RowKit
def outlawref21_Read.f (s : ByteArray) : Option (Int × Int × Int × Bool × ByteArray × Int) := if s.size ≤ 100000 then some (readG s) else none
theorem outlawref21_Read.calls (s : ByteArray) (r1 r2 r3 : Int) (r4 : Bool) (r5 : ByteArray) (r6 : Int) (w : World) (h : outlawref21_Read.f s = some (r1, r2, r3, r4, r5, r6)) :
  Calls Try.prog 58 #[.string s] w fun e w' => e = .returned (.tuple #[.agg #[.int .i64 r1, .int .i64 r2, .int .i64 r3, .bool r4, .string r5], .int .i64 r6]) ∧ Below w.heap.size w w' := by
 unfold outlawref21_Read.f at h
 by_cases hs : s.size ≤ 100000
 ·rw [if_pos hs] at h
  have h2 := Option.some.inj h
  have h3 := Go.Proofs.YtfgibjkgiolonaaR.rr_any s w hs
  rw [h2] at h3
  exact h3
 ·rw [if_neg hs] at h
  simp at h
end Go.Proofs.YtfgibjkgiolonaaG
