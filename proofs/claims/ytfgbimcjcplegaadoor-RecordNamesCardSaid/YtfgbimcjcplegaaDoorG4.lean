/- The contract of record's reader.input: what it reads, and with what it gives up. -/
import Derived.Test.YtfgbimcjcplegaaDoorG3
set_option linter.unusedVariables false
set_option linter.unusedSimpArgs false
namespace Go.Proofs.YtfgbimcjcplegaaDoorG
open Go.RowKit Go.Proofs.YtfgbimcjcplegaaDoorW.PrintWords Go.Proofs.YtfgbimcjcplegaaDoorX Go.Proofs.YtfgbimcjcplegaaDoorW.PrintMore
/-- An input, or what it was given up with. -/
inductive Got where
  | bad (e : Int)
  | got (k c n : Int) (ok : Bool) (t : ByteArray)
def Got.ending : Got → Ending
  | .bad e => gives e
  | .got k c n ok t => .returned (.agg #[.int .i64 k, .int .i64 c, .int .i64 n, .bool ok, .string t])
theorem ext_at (s : ByteArray) (i : Nat) (h : i < s.size) : ∃ x : UInt8, s.extract i (i + 1) = ⟨#[x]⟩ ∧ bt s i = (x.toNat : Int) := by
  refine ⟨s[i], ?_, ?_⟩
  · apply ByteArray.ext
    apply Array.ext
    · simp
      have : i < s.data.size := h
      omega
    · intro j h1 h2
      have : j = 0 := by simpa using h2
      subst this
      simp
      rfl
  · exact bt_nat (i := i) h
theorem first (B : Nat) (s : ByteArray) (w : World) (hB : Blk w B #[.string s] 42) (h : 0 < s.size) (x : UInt8) (hx : s.extract 0 1 = ⟨#[x]⟩) :
    Calls Tryd.prog 28 #[.pointer (some ⟨B, 0, none⟩), .int .i64 1] w fun e w' => e = .returned (.string ⟨#[x]⟩) ∧ Else B w w' ∧ Blk w' B #[.string (s.extract 1 s.size)] 42 := by
  have := take_ok B s 1 w hB (by omega) (by omega)
  rw [show (1 : Int).toNat = 1 from rfl, hx] at this
  exact this
theorem number_N (B : Nat) (s : ByteArray) (w : World) (N : Int) (hN : numP (s.extract 0 8) 8 = N) (hB : Blk w B #[.string s] 42) (hs : 8 ≤ s.size) (hs2 : s.size ≤ 6000) :
    Calls Tryd.prog 30 #[.pointer (some ⟨B, 0, none⟩)] w fun e w' => e = .returned (.int .u64 N) ∧ Else B w w' ∧ Blk w' B #[.string (s.extract 8 s.size)] 42 := by
  rw [← hN]
  exact number_ok B s w hB hs hs2
theorem wrapN {N : Int} (h0 : 0 ≤ N) (hn : N ≤ 1152921504606846976) : wrap64 N = N := by
  unfold wrap64
  omega
theorem five {w : World} {I : Nat} {a b c d e : Value} {t : TypeId} (h : Blk w I #[a, b, c, d, e] t) :
    w.cell? ⟨I, 0, none⟩ = some a ∧ w.cell? ⟨I, 1, none⟩ = some b ∧ w.cell? ⟨I, 2, none⟩ = some c ∧ w.cell? ⟨I, 3, none⟩ = some d ∧ w.cell? ⟨I, 4, none⟩ = some e ∧
    w.frozen? ⟨I, 0, none⟩ = false ∧ w.frozen? ⟨I, 1, none⟩ = false ∧ w.frozen? ⟨I, 2, none⟩ = false ∧ w.frozen? ⟨I, 3, none⟩ = false ∧ w.frozen? ⟨I, 4, none⟩ = false :=
  ⟨h.cell 0, h.cell 1, h.cell 2, h.cell 3, h.cell 4, h.frozen 0, h.frozen 1, h.frozen 2, h.frozen 3, h.frozen 4⟩
theorem res16 {w : World} {I : Nat} {a b c d e : Value} {tmps : Array Value} (h : Blk w I #[a, b, c, d, e] 24) (ht : tmps.getD 2 undef = .pointer (some ⟨I, 0, none⟩)) :
    (results Tryd.f20 tmps).run Tryd.prog w = .ok (.agg #[a, b, c, d, e]) w := by
  obtain ⟨c0, c1, c2, c3, c4, z0, z1, z2, z3, z4⟩ := five h
  simp at ht
  simp [results, Tryd.results20, go_sem, ht, c0, c1, c2, c3, c4, Result.andThen]
set_option maxHeartbeats 4000000 in
theorem input_6 (B : Nat) (s : ByteArray) (w : World) (hB : Blk w B #[.string s] 42) (x : UInt8) (h0 : 0 < s.size) (hx : s.extract 0 1 = ⟨#[x]⟩) (hs2 : s.size ≤ 6000) (hk : x.toNat = 6) (hr : (s.extract 1 s.size) = ByteArray.empty) :
    Calls Tryd.prog 20 #[.pointer (some ⟨B, 0, none⟩)] w fun e w' => e = (Got.got 6 0 0 false ByteArray.empty).ending ∧ Else B w w' := by
  have HI0 := Lib.hid (Blk.new w #[.int .i64 0, .int .i64 0, .int .i64 0, .bool false, .string ByteArray.empty] 24)
  have HB0 := Lib.hid (hB.alloc (.cells #[.int .i64 0, .int .i64 0, .int .i64 0, .bool false, .string ByteArray.empty] 24))
  have HN := Lib.hid (Nat.ne_of_gt hB.lt)
  clear hB
  have HX := Lib.hid hx
  clear hx
  have g0 : ∀ h, (⟨#[x]⟩ : ByteArray)[0]'h = x := fun _ => rfl
  go_enter Tryd.func20, Tryd.ntmps20
  go_wp2_with fail
  refine (first B s _ HB0.out h0 x HX.out).mono ?_
  rintro e w1 ⟨rfl, hE1, hB1⟩
  have hI1 : Blk w1 w.heap.size #[.int .i64 0, .int .i64 0, .int .i64 0, .bool false, .string ByteArray.empty] 24 := by simpa using HI0.out.kept hE1 HN.out
  skip
  obtain ⟨c0, c1, c2, c3, c4, z0, z1, z2, z3, z4⟩ := five hI1
  have HI1 := Lib.hid hI1
  have HE1 := Lib.hid hE1
  have HB1 := Lib.hid hB1
  clear hI1 hE1 hB1
  go_wp2_with fail
  refine (end_ok B _ _ (HB1.out.setElse HN.out.symm 0 _) hr).mono ?_
  rintro e w9 ⟨rfl, rfl⟩
  go_wp2_with fail
  refine bodyPost_ret (v := .agg #[.int .i64 6, .int .i64 0, .int .i64 0, .bool false, .string ByteArray.empty]) (res16 (I := w.heap.size) ?_ rfl) rfl ⟨rfl, ((((((((((Else.refl B w).alloc _).trans HE1.out).setNew (Nat.le_refl _) 0 _).setNew (Nat.le_refl _) 2 _).setNew (Nat.le_refl _) 0 _).setNew (Nat.le_refl _) 1 _).setNew (Nat.le_refl _) 2 _).setNew (Nat.le_refl _) 3 _).setNew (Nat.le_refl _) 4 _)⟩
  simpa using (((((((HI1.out.set 0 (.int .i64 6)).set 2 (.int .i64 0)).set 0 (.int .i64 6)).set 1 (.int .i64 0)).set 2 (.int .i64 0)).set 3 (.bool false)).set 4 (.string ByteArray.empty))
set_option maxHeartbeats 4000000 in
theorem input_6_bad (B : Nat) (s : ByteArray) (w : World) (hB : Blk w B #[.string s] 42) (x : UInt8) (h0 : 0 < s.size) (hx : s.extract 0 1 = ⟨#[x]⟩) (hs2 : s.size ≤ 6000) (hk : x.toNat = 6) (hr : (s.extract 1 s.size) ≠ ByteArray.empty) :
    Calls Tryd.prog 20 #[.pointer (some ⟨B, 0, none⟩)] w fun e w' => e = (Got.bad 5).ending ∧ Else B w w' := by
  have HI0 := Lib.hid (Blk.new w #[.int .i64 0, .int .i64 0, .int .i64 0, .bool false, .string ByteArray.empty] 24)
  have HB0 := Lib.hid (hB.alloc (.cells #[.int .i64 0, .int .i64 0, .int .i64 0, .bool false, .string ByteArray.empty] 24))
  have HN := Lib.hid (Nat.ne_of_gt hB.lt)
  clear hB
  have HX := Lib.hid hx
  clear hx
  have g0 : ∀ h, (⟨#[x]⟩ : ByteArray)[0]'h = x := fun _ => rfl
  go_enter Tryd.func20, Tryd.ntmps20
  go_wp2_with fail
  refine (first B s _ HB0.out h0 x HX.out).mono ?_
  rintro e w1 ⟨rfl, hE1, hB1⟩
  have hI1 : Blk w1 w.heap.size #[.int .i64 0, .int .i64 0, .int .i64 0, .bool false, .string ByteArray.empty] 24 := by simpa using HI0.out.kept hE1 HN.out
  skip
  obtain ⟨c0, c1, c2, c3, c4, z0, z1, z2, z3, z4⟩ := five hI1
  have HI1 := Lib.hid hI1
  have HE1 := Lib.hid hE1
  have HB1 := Lib.hid hB1
  clear hI1 hE1 hB1
  go_wp2_with fail
  refine (end_bad B _ _ (HB1.out.setElse HN.out.symm 0 _) hr).mono ?_
  rintro e w9 ⟨he, rfl⟩
  rw [gives] at he
  subst he
  go_wp2_with fail
  exact ⟨rfl, rfl, ((((Else.refl B w).alloc _).trans HE1.out).setNew (Nat.le_refl _) 0 _)⟩
set_option maxHeartbeats 4000000 in
theorem input_1 (B : Nat) (s : ByteArray) (w : World) (hB : Blk w B #[.string s] 42) (x : UInt8) (h0 : 0 < s.size) (hx : s.extract 0 1 = ⟨#[x]⟩) (hs2 : s.size ≤ 6000) (hk : x.toNat = 1) :
    Calls Tryd.prog 20 #[.pointer (some ⟨B, 0, none⟩)] w fun e w' => e = (Got.got 1 0 0 false (s.extract 1 s.size)).ending ∧ Else B w w' := by
  have HI0 := Lib.hid (Blk.new w #[.int .i64 0, .int .i64 0, .int .i64 0, .bool false, .string ByteArray.empty] 24)
  have HB0 := Lib.hid (hB.alloc (.cells #[.int .i64 0, .int .i64 0, .int .i64 0, .bool false, .string ByteArray.empty] 24))
  have HN := Lib.hid (Nat.ne_of_gt hB.lt)
  clear hB
  have HX := Lib.hid hx
  clear hx
  have g0 : ∀ h, (⟨#[x]⟩ : ByteArray)[0]'h = x := fun _ => rfl
  go_enter Tryd.func20, Tryd.ntmps20
  go_wp2_with fail
  refine (first B s _ HB0.out h0 x HX.out).mono ?_
  rintro e w1 ⟨rfl, hE1, hB1⟩
  have hI1 : Blk w1 w.heap.size #[.int .i64 0, .int .i64 0, .int .i64 0, .bool false, .string ByteArray.empty] 24 := by simpa using HI0.out.kept hE1 HN.out
  skip
  obtain ⟨c0, c1, c2, c3, c4, z0, z1, z2, z3, z4⟩ := five hI1
  have HI1 := Lib.hid hI1
  have HE1 := Lib.hid hE1
  have HB1 := Lib.hid hB1
  clear hI1 hE1 hB1
  go_wp2_with fail
  refine (rest_any B _ _ (HB1.out.setElse HN.out.symm 0 _) (by simp; omega)).mono ?_
  rintro e w2 ⟨rfl, hE2, hB2⟩
  have hI2 : Blk w2 w.heap.size #[.int .i64 1, .int .i64 0, .int .i64 0, .bool false, .string ByteArray.empty] 24 := by simpa using (HI1.out.set 0 (.int .i64 1)).kept hE2 HN.out
  clear c0 c1 c2 c3 c4 z0 z1 z2 z3 z4
  obtain ⟨c0, c1, c2, c3, c4, z0, z1, z2, z3, z4⟩ := five hI2
  have HI2 := Lib.hid hI2
  have HE2 := Lib.hid hE2
  have HB2 := Lib.hid hB2
  clear hI2 hE2 hB2
  go_wp2_with fail
  have hr : ByteArray.empty = ByteArray.empty := rfl
  refine (end_ok B _ _ (HB2.out.setElse HN.out.symm 4 _) hr).mono ?_
  rintro e w9 ⟨rfl, rfl⟩
  go_wp2_with fail
  refine bodyPost_ret (v := .agg #[.int .i64 1, .int .i64 0, .int .i64 0, .bool false, .string (s.extract 1 s.size)]) (res16 (I := w.heap.size) ?_ rfl) rfl ⟨rfl, ((((((((((((Else.refl B w).alloc _).trans HE1.out).setNew (Nat.le_refl _) 0 _).trans HE2.out).setNew (Nat.le_refl _) 4 _).setNew (Nat.le_refl _) 2 _).setNew (Nat.le_refl _) 0 _).setNew (Nat.le_refl _) 1 _).setNew (Nat.le_refl _) 2 _).setNew (Nat.le_refl _) 3 _).setNew (Nat.le_refl _) 4 _)⟩
  simpa using (((((((HI2.out.set 4 (.string (s.extract 1 s.size))).set 2 (.int .i64 0)).set 0 (.int .i64 1)).set 1 (.int .i64 0)).set 2 (.int .i64 0)).set 3 (.bool false)).set 4 (.string (s.extract 1 s.size)))
set_option maxHeartbeats 4000000 in
theorem input_5_short (B : Nat) (s : ByteArray) (w : World) (hB : Blk w B #[.string s] 42) (x : UInt8) (h0 : 0 < s.size) (hx : s.extract 0 1 = ⟨#[x]⟩) (hs2 : s.size ≤ 6000) (hk : x.toNat = 5) (h1 : (s.extract 1 s.size).size < 1) :
    Calls Tryd.prog 20 #[.pointer (some ⟨B, 0, none⟩)] w fun e w' => e = (Got.bad 3).ending ∧ Else B w w' := by
  have HI0 := Lib.hid (Blk.new w #[.int .i64 0, .int .i64 0, .int .i64 0, .bool false, .string ByteArray.empty] 24)
  have HB0 := Lib.hid (hB.alloc (.cells #[.int .i64 0, .int .i64 0, .int .i64 0, .bool false, .string ByteArray.empty] 24))
  have HN := Lib.hid (Nat.ne_of_gt hB.lt)
  clear hB
  have HX := Lib.hid hx
  clear hx
  have g0 : ∀ h, (⟨#[x]⟩ : ByteArray)[0]'h = x := fun _ => rfl
  go_enter Tryd.func20, Tryd.ntmps20
  go_wp2_with fail
  refine (first B s _ HB0.out h0 x HX.out).mono ?_
  rintro e w1 ⟨rfl, hE1, hB1⟩
  have hI1 : Blk w1 w.heap.size #[.int .i64 0, .int .i64 0, .int .i64 0, .bool false, .string ByteArray.empty] 24 := by simpa using HI0.out.kept hE1 HN.out
  skip
  obtain ⟨c0, c1, c2, c3, c4, z0, z1, z2, z3, z4⟩ := five hI1
  have HI1 := Lib.hid hI1
  have HE1 := Lib.hid hE1
  have HB1 := Lib.hid hB1
  clear hI1 hE1 hB1
  go_wp2_with fail
  refine (take_short B _ 1 _ (HB1.out.setElse HN.out.symm 0 _) (by omega)).mono ?_
  rintro e w9 ⟨he, rfl⟩
  rw [gives] at he
  subst he
  go_wp2_with fail
  exact ⟨rfl, rfl, ((((Else.refl B w).alloc _).trans HE1.out).setNew (Nat.le_refl _) 0 _)⟩
set_option maxHeartbeats 4000000 in
theorem input_5 (B : Nat) (s : ByteArray) (w : World) (hB : Blk w B #[.string s] 42) (x : UInt8) (h0 : 0 < s.size) (hx : s.extract 0 1 = ⟨#[x]⟩) (hs2 : s.size ≤ 6000) (hk : x.toNat = 5) (h1 : 0 < (s.extract 1 s.size).size) (y : UInt8) (hy : (s.extract 1 s.size).extract 0 1 = ⟨#[y]⟩) :
    Calls Tryd.prog 20 #[.pointer (some ⟨B, 0, none⟩)] w fun e w' => e = (Got.got 5 y.toNat 0 false ((s.extract 1 s.size).extract 1 (s.extract 1 s.size).size)).ending ∧ Else B w w' := by
  have HI0 := Lib.hid (Blk.new w #[.int .i64 0, .int .i64 0, .int .i64 0, .bool false, .string ByteArray.empty] 24)
  have HB0 := Lib.hid (hB.alloc (.cells #[.int .i64 0, .int .i64 0, .int .i64 0, .bool false, .string ByteArray.empty] 24))
  have HN := Lib.hid (Nat.ne_of_gt hB.lt)
  clear hB
  have HX := Lib.hid hx
  clear hx
  have g0 : ∀ h, (⟨#[x]⟩ : ByteArray)[0]'h = x := fun _ => rfl
  have g1 : ∀ h, (⟨#[y]⟩ : ByteArray)[0]'h = y := fun _ => rfl
  have wy : wrap64 (y.toNat : Int) = y.toNat := by
    have := y.toNat_lt
    unfold wrap64; omega
  have HY := Lib.hid hy
  clear hy
  go_enter Tryd.func20, Tryd.ntmps20
  go_wp2_with fail
  refine (first B s _ HB0.out h0 x HX.out).mono ?_
  rintro e w1 ⟨rfl, hE1, hB1⟩
  have hI1 : Blk w1 w.heap.size #[.int .i64 0, .int .i64 0, .int .i64 0, .bool false, .string ByteArray.empty] 24 := by simpa using HI0.out.kept hE1 HN.out
  skip
  obtain ⟨c0, c1, c2, c3, c4, z0, z1, z2, z3, z4⟩ := five hI1
  have HI1 := Lib.hid hI1
  have HE1 := Lib.hid hE1
  have HB1 := Lib.hid hB1
  clear hI1 hE1 hB1
  go_wp2_with fail
  refine (first B _ _ (HB1.out.setElse HN.out.symm 0 _) h1 y HY.out).mono ?_
  rintro e w2 ⟨rfl, hE2, hB2⟩
  have hI2 : Blk w2 w.heap.size #[.int .i64 5, .int .i64 0, .int .i64 0, .bool false, .string ByteArray.empty] 24 := by simpa using (HI1.out.set 0 (.int .i64 5)).kept hE2 HN.out
  clear c0 c1 c2 c3 c4 z0 z1 z2 z3 z4
  obtain ⟨c0, c1, c2, c3, c4, z0, z1, z2, z3, z4⟩ := five hI2
  have HI2 := Lib.hid hI2
  have HE2 := Lib.hid hE2
  have HB2 := Lib.hid hB2
  clear hI2 hE2 hB2
  go_wp2_with fail
  refine (rest_any B _ _ (HB2.out.setElse HN.out.symm 1 _) (by simp; omega)).mono ?_
  rintro e w3 ⟨rfl, hE3, hB3⟩
  have hI3 : Blk w3 w.heap.size #[.int .i64 5, .int .i64 y.toNat, .int .i64 0, .bool false, .string ByteArray.empty] 24 := by simpa using (HI2.out.set 1 (.int .i64 y.toNat)).kept hE3 HN.out
  clear c0 c1 c2 c3 c4 z0 z1 z2 z3 z4
  obtain ⟨c0, c1, c2, c3, c4, z0, z1, z2, z3, z4⟩ := five hI3
  have HI3 := Lib.hid hI3
  have HE3 := Lib.hid hE3
  have HB3 := Lib.hid hB3
  clear hI3 hE3 hB3
  go_wp2_with fail
  have hr : ByteArray.empty = ByteArray.empty := rfl
  refine (end_ok B _ _ (HB3.out.setElse HN.out.symm 4 _) hr).mono ?_
  rintro e w9 ⟨rfl, rfl⟩
  go_wp2_with fail
  refine bodyPost_ret (v := .agg #[.int .i64 5, .int .i64 y.toNat, .int .i64 0, .bool false, .string ((s.extract 1 s.size).extract 1 (s.extract 1 s.size).size)]) (res16 (I := w.heap.size) ?_ rfl) rfl ⟨rfl, ((((((((((((((Else.refl B w).alloc _).trans HE1.out).setNew (Nat.le_refl _) 0 _).trans HE2.out).setNew (Nat.le_refl _) 1 _).trans HE3.out).setNew (Nat.le_refl _) 4 _).setNew (Nat.le_refl _) 2 _).setNew (Nat.le_refl _) 0 _).setNew (Nat.le_refl _) 1 _).setNew (Nat.le_refl _) 2 _).setNew (Nat.le_refl _) 3 _).setNew (Nat.le_refl _) 4 _)⟩
  simpa using (((((((HI3.out.set 4 (.string ((s.extract 1 s.size).extract 1 (s.extract 1 s.size).size))).set 2 (.int .i64 0)).set 0 (.int .i64 5)).set 1 (.int .i64 y.toNat)).set 2 (.int .i64 0)).set 3 (.bool false)).set 4 (.string ((s.extract 1 s.size).extract 1 (s.extract 1 s.size).size)))
set_option maxHeartbeats 4000000 in
theorem input_2_short (B : Nat) (s : ByteArray) (w : World) (hB : Blk w B #[.string s] 42) (x : UInt8) (h0 : 0 < s.size) (hx : s.extract 0 1 = ⟨#[x]⟩) (hs2 : s.size ≤ 6000) (hk : x.toNat = 2) (h8 : (s.extract 1 s.size).size < 8) :
    Calls Tryd.prog 20 #[.pointer (some ⟨B, 0, none⟩)] w fun e w' => e = (Got.bad 3).ending ∧ Else B w w' := by
  have HI0 := Lib.hid (Blk.new w #[.int .i64 0, .int .i64 0, .int .i64 0, .bool false, .string ByteArray.empty] 24)
  have HB0 := Lib.hid (hB.alloc (.cells #[.int .i64 0, .int .i64 0, .int .i64 0, .bool false, .string ByteArray.empty] 24))
  have HN := Lib.hid (Nat.ne_of_gt hB.lt)
  clear hB
  have HX := Lib.hid hx
  clear hx
  have g0 : ∀ h, (⟨#[x]⟩ : ByteArray)[0]'h = x := fun _ => rfl
  go_enter Tryd.func20, Tryd.ntmps20
  go_wp2_with fail
  refine (first B s _ HB0.out h0 x HX.out).mono ?_
  rintro e w1 ⟨rfl, hE1, hB1⟩
  have hI1 : Blk w1 w.heap.size #[.int .i64 0, .int .i64 0, .int .i64 0, .bool false, .string ByteArray.empty] 24 := by simpa using HI0.out.kept hE1 HN.out
  skip
  obtain ⟨c0, c1, c2, c3, c4, z0, z1, z2, z3, z4⟩ := five hI1
  have HI1 := Lib.hid hI1
  have HE1 := Lib.hid hE1
  have HB1 := Lib.hid hB1
  clear hI1 hE1 hB1
  go_wp2_with fail
  refine (number_short B _ _ (HB1.out.setElse HN.out.symm 0 _) h8).mono ?_
  rintro e w9 ⟨he, rfl⟩
  rw [gives] at he
  subst he
  go_wp2_with fail
  exact ⟨rfl, rfl, ((((Else.refl B w).alloc _).trans HE1.out).setNew (Nat.le_refl _) 0 _)⟩
set_option maxHeartbeats 4000000 in
theorem input_2_bad (B : Nat) (s : ByteArray) (w : World) (hB : Blk w B #[.string s] 42) (x : UInt8) (h0 : 0 < s.size) (hx : s.extract 0 1 = ⟨#[x]⟩) (hs2 : s.size ≤ 6000) (N : Int) (hN : numP ((s.extract 1 s.size).extract 0 8) 8 = N) (wn0 : 0 ≤ N) (hk : x.toNat = 2) (h8 : 8 ≤ (s.extract 1 s.size).size) (hr : (s.extract 1 s.size).extract 8 (s.extract 1 s.size).size ≠ ByteArray.empty) :
    Calls Tryd.prog 20 #[.pointer (some ⟨B, 0, none⟩)] w fun e w' => e = (Got.bad 5).ending ∧ Else B w w' := by
  have HI0 := Lib.hid (Blk.new w #[.int .i64 0, .int .i64 0, .int .i64 0, .bool false, .string ByteArray.empty] 24)
  have HB0 := Lib.hid (hB.alloc (.cells #[.int .i64 0, .int .i64 0, .int .i64 0, .bool false, .string ByteArray.empty] 24))
  have HN := Lib.hid (Nat.ne_of_gt hB.lt)
  clear hB
  have HX := Lib.hid hx
  clear hx
  have g0 : ∀ h, (⟨#[x]⟩ : ByteArray)[0]'h = x := fun _ => rfl
  have HNN := Lib.hid hN
  clear hN
  go_enter Tryd.func20, Tryd.ntmps20
  go_wp2_with fail
  refine (first B s _ HB0.out h0 x HX.out).mono ?_
  rintro e w1 ⟨rfl, hE1, hB1⟩
  have hI1 : Blk w1 w.heap.size #[.int .i64 0, .int .i64 0, .int .i64 0, .bool false, .string ByteArray.empty] 24 := by simpa using HI0.out.kept hE1 HN.out
  skip
  obtain ⟨c0, c1, c2, c3, c4, z0, z1, z2, z3, z4⟩ := five hI1
  have HI1 := Lib.hid hI1
  have HE1 := Lib.hid hE1
  have HB1 := Lib.hid hB1
  clear hI1 hE1 hB1
  go_wp2_with fail
  refine (number_N B _ _ N HNN.out (HB1.out.setElse HN.out.symm 0 _) h8 (by simp; omega)).mono ?_
  rintro e w2 ⟨rfl, hE2, hB2⟩
  have hI2 : Blk w2 w.heap.size #[.int .i64 2, .int .i64 0, .int .i64 0, .bool false, .string ByteArray.empty] 24 := by simpa using (HI1.out.set 0 (.int .i64 2)).kept hE2 HN.out
  clear c0 c1 c2 c3 c4 z0 z1 z2 z3 z4
  obtain ⟨c0, c1, c2, c3, c4, z0, z1, z2, z3, z4⟩ := five hI2
  have HI2 := Lib.hid hI2
  have HE2 := Lib.hid hE2
  have HB2 := Lib.hid hB2
  clear hI2 hE2 hB2
  go_wp2_with fail
  refine (end_bad B _ _ HB2.out hr).mono ?_
  rintro e w9 ⟨he, rfl⟩
  rw [gives] at he
  subst he
  go_wp2_with fail
  exact ⟨rfl, rfl, (((((Else.refl B w).alloc _).trans HE1.out).setNew (Nat.le_refl _) 0 _).trans HE2.out)⟩
set_option maxHeartbeats 4000000 in
theorem input_2_arg (B : Nat) (s : ByteArray) (w : World) (hB : Blk w B #[.string s] 42) (x : UInt8) (h0 : 0 < s.size) (hx : s.extract 0 1 = ⟨#[x]⟩) (hs2 : s.size ≤ 6000) (N : Int) (hN : numP ((s.extract 1 s.size).extract 0 8) 8 = N) (wn0 : 0 ≤ N) (hk : x.toNat = 2) (h8 : 8 ≤ (s.extract 1 s.size).size) (hr : (s.extract 1 s.size).extract 8 (s.extract 1 s.size).size = ByteArray.empty) (hn : 1152921504606846976 < N) :
    Calls Tryd.prog 20 #[.pointer (some ⟨B, 0, none⟩)] w fun e w' => e = (Got.bad 2).ending ∧ Else B w w' := by
  have HI0 := Lib.hid (Blk.new w #[.int .i64 0, .int .i64 0, .int .i64 0, .bool false, .string ByteArray.empty] 24)
  have HB0 := Lib.hid (hB.alloc (.cells #[.int .i64 0, .int .i64 0, .int .i64 0, .bool false, .string ByteArray.empty] 24))
  have HN := Lib.hid (Nat.ne_of_gt hB.lt)
  clear hB
  have HX := Lib.hid hx
  clear hx
  have g0 : ∀ h, (⟨#[x]⟩ : ByteArray)[0]'h = x := fun _ => rfl
  have HNN := Lib.hid hN
  clear hN
  go_enter Tryd.func20, Tryd.ntmps20
  go_wp2_with fail
  refine (first B s _ HB0.out h0 x HX.out).mono ?_
  rintro e w1 ⟨rfl, hE1, hB1⟩
  have hI1 : Blk w1 w.heap.size #[.int .i64 0, .int .i64 0, .int .i64 0, .bool false, .string ByteArray.empty] 24 := by simpa using HI0.out.kept hE1 HN.out
  skip
  obtain ⟨c0, c1, c2, c3, c4, z0, z1, z2, z3, z4⟩ := five hI1
  have HI1 := Lib.hid hI1
  have HE1 := Lib.hid hE1
  have HB1 := Lib.hid hB1
  clear hI1 hE1 hB1
  go_wp2_with fail
  refine (number_N B _ _ N HNN.out (HB1.out.setElse HN.out.symm 0 _) h8 (by simp; omega)).mono ?_
  rintro e w2 ⟨rfl, hE2, hB2⟩
  have hI2 : Blk w2 w.heap.size #[.int .i64 2, .int .i64 0, .int .i64 0, .bool false, .string ByteArray.empty] 24 := by simpa using (HI1.out.set 0 (.int .i64 2)).kept hE2 HN.out
  clear c0 c1 c2 c3 c4 z0 z1 z2 z3 z4
  obtain ⟨c0, c1, c2, c3, c4, z0, z1, z2, z3, z4⟩ := five hI2
  have HI2 := Lib.hid hI2
  have HE2 := Lib.hid hE2
  have HB2 := Lib.hid hB2
  clear hI2 hE2 hB2
  go_wp2_with fail
  refine (end_ok B _ _ HB2.out hr).mono ?_
  rintro e w9 ⟨rfl, rfl⟩
  go_wp2_with fail
  exact ⟨rfl, rfl, (((((Else.refl B w).alloc _).trans HE1.out).setNew (Nat.le_refl _) 0 _).trans HE2.out)⟩
set_option maxHeartbeats 4000000 in
theorem input_2 (B : Nat) (s : ByteArray) (w : World) (hB : Blk w B #[.string s] 42) (x : UInt8) (h0 : 0 < s.size) (hx : s.extract 0 1 = ⟨#[x]⟩) (hs2 : s.size ≤ 6000) (N : Int) (hN : numP ((s.extract 1 s.size).extract 0 8) 8 = N) (wn0 : 0 ≤ N) (hk : x.toNat = 2) (h8 : 8 ≤ (s.extract 1 s.size).size) (hr : (s.extract 1 s.size).extract 8 (s.extract 1 s.size).size = ByteArray.empty) (hn : N ≤ 1152921504606846976) :
    Calls Tryd.prog 20 #[.pointer (some ⟨B, 0, none⟩)] w fun e w' => e = (Got.got 2 0 N false ByteArray.empty).ending ∧ Else B w w' := by
  have HI0 := Lib.hid (Blk.new w #[.int .i64 0, .int .i64 0, .int .i64 0, .bool false, .string ByteArray.empty] 24)
  have HB0 := Lib.hid (hB.alloc (.cells #[.int .i64 0, .int .i64 0, .int .i64 0, .bool false, .string ByteArray.empty] 24))
  have HN := Lib.hid (Nat.ne_of_gt hB.lt)
  clear hB
  have HX := Lib.hid hx
  clear hx
  have g0 : ∀ h, (⟨#[x]⟩ : ByteArray)[0]'h = x := fun _ => rfl
  have HNN := Lib.hid hN
  clear hN
  go_enter Tryd.func20, Tryd.ntmps20
  go_wp2_with fail
  refine (first B s _ HB0.out h0 x HX.out).mono ?_
  rintro e w1 ⟨rfl, hE1, hB1⟩
  have hI1 : Blk w1 w.heap.size #[.int .i64 0, .int .i64 0, .int .i64 0, .bool false, .string ByteArray.empty] 24 := by simpa using HI0.out.kept hE1 HN.out
  skip
  obtain ⟨c0, c1, c2, c3, c4, z0, z1, z2, z3, z4⟩ := five hI1
  have HI1 := Lib.hid hI1
  have HE1 := Lib.hid hE1
  have HB1 := Lib.hid hB1
  clear hI1 hE1 hB1
  go_wp2_with fail
  refine (number_N B _ _ N HNN.out (HB1.out.setElse HN.out.symm 0 _) h8 (by simp; omega)).mono ?_
  rintro e w2 ⟨rfl, hE2, hB2⟩
  have hI2 : Blk w2 w.heap.size #[.int .i64 2, .int .i64 0, .int .i64 0, .bool false, .string ByteArray.empty] 24 := by simpa using (HI1.out.set 0 (.int .i64 2)).kept hE2 HN.out
  clear c0 c1 c2 c3 c4 z0 z1 z2 z3 z4
  obtain ⟨c0, c1, c2, c3, c4, z0, z1, z2, z3, z4⟩ := five hI2
  have HI2 := Lib.hid hI2
  have HE2 := Lib.hid hE2
  have HB2 := Lib.hid hB2
  clear hI2 hE2 hB2
  go_wp2_with fail
  have hgt : (1152921504606846976 < N) = False := eq_false (by omega)
  have wn : wrap64 N = N := wrapN wn0 hn
  clear hn wn0
  refine (end_ok B _ _ HB2.out hr).mono ?_
  rintro e w9 ⟨rfl, rfl⟩
  go_wp2_with fail
  refine bodyPost_ret (v := .agg #[.int .i64 2, .int .i64 0, .int .i64 N, .bool false, .string ByteArray.empty]) (res16 (I := w.heap.size) ?_ rfl) rfl ⟨rfl, (((((((((((Else.refl B w).alloc _).trans HE1.out).setNew (Nat.le_refl _) 0 _).trans HE2.out).setNew (Nat.le_refl _) 2 _).setNew (Nat.le_refl _) 0 _).setNew (Nat.le_refl _) 1 _).setNew (Nat.le_refl _) 2 _).setNew (Nat.le_refl _) 3 _).setNew (Nat.le_refl _) 4 _)⟩
  simpa using ((((((HI2.out.set 2 (.int .i64 N)).set 0 (.int .i64 2)).set 1 (.int .i64 0)).set 2 (.int .i64 N)).set 3 (.bool false)).set 4 (.string ByteArray.empty))
set_option maxHeartbeats 4000000 in
theorem input_4_short (B : Nat) (s : ByteArray) (w : World) (hB : Blk w B #[.string s] 42) (x : UInt8) (h0 : 0 < s.size) (hx : s.extract 0 1 = ⟨#[x]⟩) (hs2 : s.size ≤ 6000) (hk : x.toNat = 4) (h8 : (s.extract 1 s.size).size < 8) :
    Calls Tryd.prog 20 #[.pointer (some ⟨B, 0, none⟩)] w fun e w' => e = (Got.bad 3).ending ∧ Else B w w' := by
  have HI0 := Lib.hid (Blk.new w #[.int .i64 0, .int .i64 0, .int .i64 0, .bool false, .string ByteArray.empty] 24)
  have HB0 := Lib.hid (hB.alloc (.cells #[.int .i64 0, .int .i64 0, .int .i64 0, .bool false, .string ByteArray.empty] 24))
  have HN := Lib.hid (Nat.ne_of_gt hB.lt)
  clear hB
  have HX := Lib.hid hx
  clear hx
  have g0 : ∀ h, (⟨#[x]⟩ : ByteArray)[0]'h = x := fun _ => rfl
  go_enter Tryd.func20, Tryd.ntmps20
  go_wp2_with fail
  refine (first B s _ HB0.out h0 x HX.out).mono ?_
  rintro e w1 ⟨rfl, hE1, hB1⟩
  have hI1 : Blk w1 w.heap.size #[.int .i64 0, .int .i64 0, .int .i64 0, .bool false, .string ByteArray.empty] 24 := by simpa using HI0.out.kept hE1 HN.out
  skip
  obtain ⟨c0, c1, c2, c3, c4, z0, z1, z2, z3, z4⟩ := five hI1
  have HI1 := Lib.hid hI1
  have HE1 := Lib.hid hE1
  have HB1 := Lib.hid hB1
  clear hI1 hE1 hB1
  go_wp2_with fail
  refine (number_short B _ _ (HB1.out.setElse HN.out.symm 0 _) h8).mono ?_
  rintro e w9 ⟨he, rfl⟩
  rw [gives] at he
  subst he
  go_wp2_with fail
  exact ⟨rfl, rfl, ((((Else.refl B w).alloc _).trans HE1.out).setNew (Nat.le_refl _) 0 _)⟩
set_option maxHeartbeats 4000000 in
theorem input_4_bad (B : Nat) (s : ByteArray) (w : World) (hB : Blk w B #[.string s] 42) (x : UInt8) (h0 : 0 < s.size) (hx : s.extract 0 1 = ⟨#[x]⟩) (hs2 : s.size ≤ 6000) (N : Int) (hN : numP ((s.extract 1 s.size).extract 0 8) 8 = N) (wn0 : 0 ≤ N) (hk : x.toNat = 4) (h8 : 8 ≤ (s.extract 1 s.size).size) (hr : (s.extract 1 s.size).extract 8 (s.extract 1 s.size).size ≠ ByteArray.empty) :
    Calls Tryd.prog 20 #[.pointer (some ⟨B, 0, none⟩)] w fun e w' => e = (Got.bad 5).ending ∧ Else B w w' := by
  have HI0 := Lib.hid (Blk.new w #[.int .i64 0, .int .i64 0, .int .i64 0, .bool false, .string ByteArray.empty] 24)
  have HB0 := Lib.hid (hB.alloc (.cells #[.int .i64 0, .int .i64 0, .int .i64 0, .bool false, .string ByteArray.empty] 24))
  have HN := Lib.hid (Nat.ne_of_gt hB.lt)
  clear hB
  have HX := Lib.hid hx
  clear hx
  have g0 : ∀ h, (⟨#[x]⟩ : ByteArray)[0]'h = x := fun _ => rfl
  have HNN := Lib.hid hN
  clear hN
  go_enter Tryd.func20, Tryd.ntmps20
  go_wp2_with fail
  refine (first B s _ HB0.out h0 x HX.out).mono ?_
  rintro e w1 ⟨rfl, hE1, hB1⟩
  have hI1 : Blk w1 w.heap.size #[.int .i64 0, .int .i64 0, .int .i64 0, .bool false, .string ByteArray.empty] 24 := by simpa using HI0.out.kept hE1 HN.out
  skip
  obtain ⟨c0, c1, c2, c3, c4, z0, z1, z2, z3, z4⟩ := five hI1
  have HI1 := Lib.hid hI1
  have HE1 := Lib.hid hE1
  have HB1 := Lib.hid hB1
  clear hI1 hE1 hB1
  go_wp2_with fail
  refine (number_N B _ _ N HNN.out (HB1.out.setElse HN.out.symm 0 _) h8 (by simp; omega)).mono ?_
  rintro e w2 ⟨rfl, hE2, hB2⟩
  have hI2 : Blk w2 w.heap.size #[.int .i64 4, .int .i64 0, .int .i64 0, .bool false, .string ByteArray.empty] 24 := by simpa using (HI1.out.set 0 (.int .i64 4)).kept hE2 HN.out
  clear c0 c1 c2 c3 c4 z0 z1 z2 z3 z4
  obtain ⟨c0, c1, c2, c3, c4, z0, z1, z2, z3, z4⟩ := five hI2
  have HI2 := Lib.hid hI2
  have HE2 := Lib.hid hE2
  have HB2 := Lib.hid hB2
  clear hI2 hE2 hB2
  go_wp2_with fail
  refine (end_bad B _ _ HB2.out hr).mono ?_
  rintro e w9 ⟨he, rfl⟩
  rw [gives] at he
  subst he
  go_wp2_with fail
  exact ⟨rfl, rfl, (((((Else.refl B w).alloc _).trans HE1.out).setNew (Nat.le_refl _) 0 _).trans HE2.out)⟩
set_option maxHeartbeats 4000000 in
theorem input_4_arg (B : Nat) (s : ByteArray) (w : World) (hB : Blk w B #[.string s] 42) (x : UInt8) (h0 : 0 < s.size) (hx : s.extract 0 1 = ⟨#[x]⟩) (hs2 : s.size ≤ 6000) (N : Int) (hN : numP ((s.extract 1 s.size).extract 0 8) 8 = N) (wn0 : 0 ≤ N) (hk : x.toNat = 4) (h8 : 8 ≤ (s.extract 1 s.size).size) (hr : (s.extract 1 s.size).extract 8 (s.extract 1 s.size).size = ByteArray.empty) (hn : 1152921504606846976 < N) :
    Calls Tryd.prog 20 #[.pointer (some ⟨B, 0, none⟩)] w fun e w' => e = (Got.bad 2).ending ∧ Else B w w' := by
  have HI0 := Lib.hid (Blk.new w #[.int .i64 0, .int .i64 0, .int .i64 0, .bool false, .string ByteArray.empty] 24)
  have HB0 := Lib.hid (hB.alloc (.cells #[.int .i64 0, .int .i64 0, .int .i64 0, .bool false, .string ByteArray.empty] 24))
  have HN := Lib.hid (Nat.ne_of_gt hB.lt)
  clear hB
  have HX := Lib.hid hx
  clear hx
  have g0 : ∀ h, (⟨#[x]⟩ : ByteArray)[0]'h = x := fun _ => rfl
  have HNN := Lib.hid hN
  clear hN
  go_enter Tryd.func20, Tryd.ntmps20
  go_wp2_with fail
  refine (first B s _ HB0.out h0 x HX.out).mono ?_
  rintro e w1 ⟨rfl, hE1, hB1⟩
  have hI1 : Blk w1 w.heap.size #[.int .i64 0, .int .i64 0, .int .i64 0, .bool false, .string ByteArray.empty] 24 := by simpa using HI0.out.kept hE1 HN.out
  skip
  obtain ⟨c0, c1, c2, c3, c4, z0, z1, z2, z3, z4⟩ := five hI1
  have HI1 := Lib.hid hI1
  have HE1 := Lib.hid hE1
  have HB1 := Lib.hid hB1
  clear hI1 hE1 hB1
  go_wp2_with fail
  refine (number_N B _ _ N HNN.out (HB1.out.setElse HN.out.symm 0 _) h8 (by simp; omega)).mono ?_
  rintro e w2 ⟨rfl, hE2, hB2⟩
  have hI2 : Blk w2 w.heap.size #[.int .i64 4, .int .i64 0, .int .i64 0, .bool false, .string ByteArray.empty] 24 := by simpa using (HI1.out.set 0 (.int .i64 4)).kept hE2 HN.out
  clear c0 c1 c2 c3 c4 z0 z1 z2 z3 z4
  obtain ⟨c0, c1, c2, c3, c4, z0, z1, z2, z3, z4⟩ := five hI2
  have HI2 := Lib.hid hI2
  have HE2 := Lib.hid hE2
  have HB2 := Lib.hid hB2
  clear hI2 hE2 hB2
  go_wp2_with fail
  refine (end_ok B _ _ HB2.out hr).mono ?_
  rintro e w9 ⟨rfl, rfl⟩
  go_wp2_with fail
  exact ⟨rfl, rfl, (((((Else.refl B w).alloc _).trans HE1.out).setNew (Nat.le_refl _) 0 _).trans HE2.out)⟩
set_option maxHeartbeats 4000000 in
theorem input_4 (B : Nat) (s : ByteArray) (w : World) (hB : Blk w B #[.string s] 42) (x : UInt8) (h0 : 0 < s.size) (hx : s.extract 0 1 = ⟨#[x]⟩) (hs2 : s.size ≤ 6000) (N : Int) (hN : numP ((s.extract 1 s.size).extract 0 8) 8 = N) (wn0 : 0 ≤ N) (hk : x.toNat = 4) (h8 : 8 ≤ (s.extract 1 s.size).size) (hr : (s.extract 1 s.size).extract 8 (s.extract 1 s.size).size = ByteArray.empty) (hn : N ≤ 1152921504606846976) :
    Calls Tryd.prog 20 #[.pointer (some ⟨B, 0, none⟩)] w fun e w' => e = (Got.got 4 0 N false ByteArray.empty).ending ∧ Else B w w' := by
  have HI0 := Lib.hid (Blk.new w #[.int .i64 0, .int .i64 0, .int .i64 0, .bool false, .string ByteArray.empty] 24)
  have HB0 := Lib.hid (hB.alloc (.cells #[.int .i64 0, .int .i64 0, .int .i64 0, .bool false, .string ByteArray.empty] 24))
  have HN := Lib.hid (Nat.ne_of_gt hB.lt)
  clear hB
  have HX := Lib.hid hx
  clear hx
  have g0 : ∀ h, (⟨#[x]⟩ : ByteArray)[0]'h = x := fun _ => rfl
  have HNN := Lib.hid hN
  clear hN
  go_enter Tryd.func20, Tryd.ntmps20
  go_wp2_with fail
  refine (first B s _ HB0.out h0 x HX.out).mono ?_
  rintro e w1 ⟨rfl, hE1, hB1⟩
  have hI1 : Blk w1 w.heap.size #[.int .i64 0, .int .i64 0, .int .i64 0, .bool false, .string ByteArray.empty] 24 := by simpa using HI0.out.kept hE1 HN.out
  skip
  obtain ⟨c0, c1, c2, c3, c4, z0, z1, z2, z3, z4⟩ := five hI1
  have HI1 := Lib.hid hI1
  have HE1 := Lib.hid hE1
  have HB1 := Lib.hid hB1
  clear hI1 hE1 hB1
  go_wp2_with fail
  refine (number_N B _ _ N HNN.out (HB1.out.setElse HN.out.symm 0 _) h8 (by simp; omega)).mono ?_
  rintro e w2 ⟨rfl, hE2, hB2⟩
  have hI2 : Blk w2 w.heap.size #[.int .i64 4, .int .i64 0, .int .i64 0, .bool false, .string ByteArray.empty] 24 := by simpa using (HI1.out.set 0 (.int .i64 4)).kept hE2 HN.out
  clear c0 c1 c2 c3 c4 z0 z1 z2 z3 z4
  obtain ⟨c0, c1, c2, c3, c4, z0, z1, z2, z3, z4⟩ := five hI2
  have HI2 := Lib.hid hI2
  have HE2 := Lib.hid hE2
  have HB2 := Lib.hid hB2
  clear hI2 hE2 hB2
  go_wp2_with fail
  have hgt : (1152921504606846976 < N) = False := eq_false (by omega)
  have wn : wrap64 N = N := wrapN wn0 hn
  clear hn wn0
  refine (end_ok B _ _ HB2.out hr).mono ?_
  rintro e w9 ⟨rfl, rfl⟩
  go_wp2_with fail
  refine bodyPost_ret (v := .agg #[.int .i64 4, .int .i64 0, .int .i64 N, .bool false, .string ByteArray.empty]) (res16 (I := w.heap.size) ?_ rfl) rfl ⟨rfl, (((((((((((Else.refl B w).alloc _).trans HE1.out).setNew (Nat.le_refl _) 0 _).trans HE2.out).setNew (Nat.le_refl _) 2 _).setNew (Nat.le_refl _) 0 _).setNew (Nat.le_refl _) 1 _).setNew (Nat.le_refl _) 2 _).setNew (Nat.le_refl _) 3 _).setNew (Nat.le_refl _) 4 _)⟩
  simpa using ((((((HI2.out.set 2 (.int .i64 N)).set 0 (.int .i64 4)).set 1 (.int .i64 0)).set 2 (.int .i64 N)).set 3 (.bool false)).set 4 (.string ByteArray.empty))
set_option maxHeartbeats 4000000 in
theorem input_3_short (B : Nat) (s : ByteArray) (w : World) (hB : Blk w B #[.string s] 42) (x : UInt8) (h0 : 0 < s.size) (hx : s.extract 0 1 = ⟨#[x]⟩) (hs2 : s.size ≤ 6000) (hk : x.toNat = 3) (h8 : (s.extract 1 s.size).size < 8) :
    Calls Tryd.prog 20 #[.pointer (some ⟨B, 0, none⟩)] w fun e w' => e = (Got.bad 3).ending ∧ Else B w w' := by
  have HI0 := Lib.hid (Blk.new w #[.int .i64 0, .int .i64 0, .int .i64 0, .bool false, .string ByteArray.empty] 24)
  have HB0 := Lib.hid (hB.alloc (.cells #[.int .i64 0, .int .i64 0, .int .i64 0, .bool false, .string ByteArray.empty] 24))
  have HN := Lib.hid (Nat.ne_of_gt hB.lt)
  clear hB
  have HX := Lib.hid hx
  clear hx
  have g0 : ∀ h, (⟨#[x]⟩ : ByteArray)[0]'h = x := fun _ => rfl
  go_enter Tryd.func20, Tryd.ntmps20
  go_wp2_with fail
  refine (first B s _ HB0.out h0 x HX.out).mono ?_
  rintro e w1 ⟨rfl, hE1, hB1⟩
  have hI1 : Blk w1 w.heap.size #[.int .i64 0, .int .i64 0, .int .i64 0, .bool false, .string ByteArray.empty] 24 := by simpa using HI0.out.kept hE1 HN.out
  skip
  obtain ⟨c0, c1, c2, c3, c4, z0, z1, z2, z3, z4⟩ := five hI1
  have HI1 := Lib.hid hI1
  have HE1 := Lib.hid hE1
  have HB1 := Lib.hid hB1
  clear hI1 hE1 hB1
  go_wp2_with fail
  refine (number_short B _ _ (HB1.out.setElse HN.out.symm 0 _) h8).mono ?_
  rintro e w9 ⟨he, rfl⟩
  rw [gives] at he
  subst he
  go_wp2_with fail
  exact ⟨rfl, rfl, ((((Else.refl B w).alloc _).trans HE1.out).setNew (Nat.le_refl _) 0 _)⟩
set_option maxHeartbeats 4000000 in
theorem input_3_short2 (B : Nat) (s : ByteArray) (w : World) (hB : Blk w B #[.string s] 42) (x : UInt8) (h0 : 0 < s.size) (hx : s.extract 0 1 = ⟨#[x]⟩) (hs2 : s.size ≤ 6000) (N : Int) (hN : numP ((s.extract 1 s.size).extract 0 8) 8 = N) (wn0 : 0 ≤ N) (hk : x.toNat = 3) (h8 : 8 ≤ (s.extract 1 s.size).size) (h9 : ((s.extract 1 s.size).extract 8 (s.extract 1 s.size).size).size < 1) :
    Calls Tryd.prog 20 #[.pointer (some ⟨B, 0, none⟩)] w fun e w' => e = (Got.bad 3).ending ∧ Else B w w' := by
  have HI0 := Lib.hid (Blk.new w #[.int .i64 0, .int .i64 0, .int .i64 0, .bool false, .string ByteArray.empty] 24)
  have HB0 := Lib.hid (hB.alloc (.cells #[.int .i64 0, .int .i64 0, .int .i64 0, .bool false, .string ByteArray.empty] 24))
  have HN := Lib.hid (Nat.ne_of_gt hB.lt)
  clear hB
  have HX := Lib.hid hx
  clear hx
  have g0 : ∀ h, (⟨#[x]⟩ : ByteArray)[0]'h = x := fun _ => rfl
  have HNN := Lib.hid hN
  clear hN
  go_enter Tryd.func20, Tryd.ntmps20
  go_wp2_with fail
  refine (first B s _ HB0.out h0 x HX.out).mono ?_
  rintro e w1 ⟨rfl, hE1, hB1⟩
  have hI1 : Blk w1 w.heap.size #[.int .i64 0, .int .i64 0, .int .i64 0, .bool false, .string ByteArray.empty] 24 := by simpa using HI0.out.kept hE1 HN.out
  skip
  obtain ⟨c0, c1, c2, c3, c4, z0, z1, z2, z3, z4⟩ := five hI1
  have HI1 := Lib.hid hI1
  have HE1 := Lib.hid hE1
  have HB1 := Lib.hid hB1
  clear hI1 hE1 hB1
  go_wp2_with fail
  refine (number_N B _ _ N HNN.out (HB1.out.setElse HN.out.symm 0 _) h8 (by simp; omega)).mono ?_
  rintro e w2 ⟨rfl, hE2, hB2⟩
  have hI2 : Blk w2 w.heap.size #[.int .i64 3, .int .i64 0, .int .i64 0, .bool false, .string ByteArray.empty] 24 := by simpa using (HI1.out.set 0 (.int .i64 3)).kept hE2 HN.out
  clear c0 c1 c2 c3 c4 z0 z1 z2 z3 z4
  obtain ⟨c0, c1, c2, c3, c4, z0, z1, z2, z3, z4⟩ := five hI2
  have HI2 := Lib.hid hI2
  have HE2 := Lib.hid hE2
  have HB2 := Lib.hid hB2
  clear hI2 hE2 hB2
  go_wp2_with fail
  refine (take_short B _ 1 _ HB2.out (by omega)).mono ?_
  rintro e w9 ⟨he, rfl⟩
  rw [gives] at he
  subst he
  go_wp2_with fail
  exact ⟨rfl, rfl, (((((Else.refl B w).alloc _).trans HE1.out).setNew (Nat.le_refl _) 0 _).trans HE2.out)⟩
set_option maxHeartbeats 4000000 in
theorem input_3_flag (B : Nat) (s : ByteArray) (w : World) (hB : Blk w B #[.string s] 42) (x : UInt8) (h0 : 0 < s.size) (hx : s.extract 0 1 = ⟨#[x]⟩) (hs2 : s.size ≤ 6000) (N : Int) (hN : numP ((s.extract 1 s.size).extract 0 8) 8 = N) (wn0 : 0 ≤ N) (hk : x.toNat = 3) (h8 : 8 ≤ (s.extract 1 s.size).size) (h9 : 0 < ((s.extract 1 s.size).extract 8 (s.extract 1 s.size).size).size) (y : UInt8) (hy : ((s.extract 1 s.size).extract 8 (s.extract 1 s.size).size).extract 0 1 = ⟨#[y]⟩) (hf : 1 < (y.toNat : Int)) :
    Calls Tryd.prog 20 #[.pointer (some ⟨B, 0, none⟩)] w fun e w' => e = (Got.bad 5).ending ∧ Else B w w' := by
  have HI0 := Lib.hid (Blk.new w #[.int .i64 0, .int .i64 0, .int .i64 0, .bool false, .string ByteArray.empty] 24)
  have HB0 := Lib.hid (hB.alloc (.cells #[.int .i64 0, .int .i64 0, .int .i64 0, .bool false, .string ByteArray.empty] 24))
  have HN := Lib.hid (Nat.ne_of_gt hB.lt)
  clear hB
  have HX := Lib.hid hx
  clear hx
  have g0 : ∀ h, (⟨#[x]⟩ : ByteArray)[0]'h = x := fun _ => rfl
  have HNN := Lib.hid hN
  clear hN
  have g1 : ∀ h, (⟨#[y]⟩ : ByteArray)[0]'h = y := fun _ => rfl
  have HY := Lib.hid hy
  clear hy
  go_enter Tryd.func20, Tryd.ntmps20
  go_wp2_with fail
  refine (first B s _ HB0.out h0 x HX.out).mono ?_
  rintro e w1 ⟨rfl, hE1, hB1⟩
  have hI1 : Blk w1 w.heap.size #[.int .i64 0, .int .i64 0, .int .i64 0, .bool false, .string ByteArray.empty] 24 := by simpa using HI0.out.kept hE1 HN.out
  skip
  obtain ⟨c0, c1, c2, c3, c4, z0, z1, z2, z3, z4⟩ := five hI1
  have HI1 := Lib.hid hI1
  have HE1 := Lib.hid hE1
  have HB1 := Lib.hid hB1
  clear hI1 hE1 hB1
  go_wp2_with fail
  refine (number_N B _ _ N HNN.out (HB1.out.setElse HN.out.symm 0 _) h8 (by simp; omega)).mono ?_
  rintro e w2 ⟨rfl, hE2, hB2⟩
  have hI2 : Blk w2 w.heap.size #[.int .i64 3, .int .i64 0, .int .i64 0, .bool false, .string ByteArray.empty] 24 := by simpa using (HI1.out.set 0 (.int .i64 3)).kept hE2 HN.out
  clear c0 c1 c2 c3 c4 z0 z1 z2 z3 z4
  obtain ⟨c0, c1, c2, c3, c4, z0, z1, z2, z3, z4⟩ := five hI2
  have HI2 := Lib.hid hI2
  have HE2 := Lib.hid hE2
  have HB2 := Lib.hid hB2
  clear hI2 hE2 hB2
  go_wp2_with fail
  refine (first B _ _ HB2.out h9 y HY.out).mono ?_
  rintro e w3 ⟨rfl, hE3, hB3⟩
  have hI3 : Blk w3 w.heap.size #[.int .i64 3, .int .i64 0, .int .i64 0, .bool false, .string ByteArray.empty] 24 := by simpa using HI2.out.kept hE3 HN.out
  clear c0 c1 c2 c3 c4 z0 z1 z2 z3 z4
  obtain ⟨c0, c1, c2, c3, c4, z0, z1, z2, z3, z4⟩ := five hI3
  have HI3 := Lib.hid hI3
  have HE3 := Lib.hid hE3
  have HB3 := Lib.hid hB3
  clear hI3 hE3 hB3
  go_wp2_with fail
  exact ⟨rfl, rfl, ((((((Else.refl B w).alloc _).trans HE1.out).setNew (Nat.le_refl _) 0 _).trans HE2.out).trans HE3.out)⟩
set_option maxHeartbeats 4000000 in
theorem input_3_0_bad (B : Nat) (s : ByteArray) (w : World) (hB : Blk w B #[.string s] 42) (x : UInt8) (h0 : 0 < s.size) (hx : s.extract 0 1 = ⟨#[x]⟩) (hs2 : s.size ≤ 6000) (N : Int) (hN : numP ((s.extract 1 s.size).extract 0 8) 8 = N) (wn0 : 0 ≤ N) (hk : x.toNat = 3) (h8 : 8 ≤ (s.extract 1 s.size).size) (h9 : 0 < ((s.extract 1 s.size).extract 8 (s.extract 1 s.size).size).size) (y : UInt8) (hy : ((s.extract 1 s.size).extract 8 (s.extract 1 s.size).size).extract 0 1 = ⟨#[y]⟩) (hf : y.toNat = 0) (hr : (((s.extract 1 s.size).extract 8 (s.extract 1 s.size).size).extract 1 ((s.extract 1 s.size).extract 8 (s.extract 1 s.size).size).size) ≠ ByteArray.empty) :
    Calls Tryd.prog 20 #[.pointer (some ⟨B, 0, none⟩)] w fun e w' => e = (Got.bad 5).ending ∧ Else B w w' := by
  have HI0 := Lib.hid (Blk.new w #[.int .i64 0, .int .i64 0, .int .i64 0, .bool false, .string ByteArray.empty] 24)
  have HB0 := Lib.hid (hB.alloc (.cells #[.int .i64 0, .int .i64 0, .int .i64 0, .bool false, .string ByteArray.empty] 24))
  have HN := Lib.hid (Nat.ne_of_gt hB.lt)
  clear hB
  have HX := Lib.hid hx
  clear hx
  have g0 : ∀ h, (⟨#[x]⟩ : ByteArray)[0]'h = x := fun _ => rfl
  have HNN := Lib.hid hN
  clear hN
  have g1 : ∀ h, (⟨#[y]⟩ : ByteArray)[0]'h = y := fun _ => rfl
  have HY := Lib.hid hy
  clear hy
  go_enter Tryd.func20, Tryd.ntmps20
  go_wp2_with fail
  refine (first B s _ HB0.out h0 x HX.out).mono ?_
  rintro e w1 ⟨rfl, hE1, hB1⟩
  have hI1 : Blk w1 w.heap.size #[.int .i64 0, .int .i64 0, .int .i64 0, .bool false, .string ByteArray.empty] 24 := by simpa using HI0.out.kept hE1 HN.out
  skip
  obtain ⟨c0, c1, c2, c3, c4, z0, z1, z2, z3, z4⟩ := five hI1
  have HI1 := Lib.hid hI1
  have HE1 := Lib.hid hE1
  have HB1 := Lib.hid hB1
  clear hI1 hE1 hB1
  go_wp2_with fail
  refine (number_N B _ _ N HNN.out (HB1.out.setElse HN.out.symm 0 _) h8 (by simp; omega)).mono ?_
  rintro e w2 ⟨rfl, hE2, hB2⟩
  have hI2 : Blk w2 w.heap.size #[.int .i64 3, .int .i64 0, .int .i64 0, .bool false, .string ByteArray.empty] 24 := by simpa using (HI1.out.set 0 (.int .i64 3)).kept hE2 HN.out
  clear c0 c1 c2 c3 c4 z0 z1 z2 z3 z4
  obtain ⟨c0, c1, c2, c3, c4, z0, z1, z2, z3, z4⟩ := five hI2
  have HI2 := Lib.hid hI2
  have HE2 := Lib.hid hE2
  have HB2 := Lib.hid hB2
  clear hI2 hE2 hB2
  go_wp2_with fail
  refine (first B _ _ HB2.out h9 y HY.out).mono ?_
  rintro e w3 ⟨rfl, hE3, hB3⟩
  have hI3 : Blk w3 w.heap.size #[.int .i64 3, .int .i64 0, .int .i64 0, .bool false, .string ByteArray.empty] 24 := by simpa using HI2.out.kept hE3 HN.out
  clear c0 c1 c2 c3 c4 z0 z1 z2 z3 z4
  obtain ⟨c0, c1, c2, c3, c4, z0, z1, z2, z3, z4⟩ := five hI3
  have HI3 := Lib.hid hI3
  have HE3 := Lib.hid hE3
  have HB3 := Lib.hid hB3
  clear hI3 hE3 hB3
  go_wp2_with fail
  refine (end_bad B _ _ (HB3.out.setElse HN.out.symm 3 _) hr).mono ?_
  rintro e w9 ⟨he, rfl⟩
  rw [gives] at he
  subst he
  go_wp2_with fail
  exact ⟨rfl, rfl, (((((((Else.refl B w).alloc _).trans HE1.out).setNew (Nat.le_refl _) 0 _).trans HE2.out).trans HE3.out).setNew (Nat.le_refl _) 3 _)⟩
set_option maxHeartbeats 4000000 in
theorem input_3_0_arg (B : Nat) (s : ByteArray) (w : World) (hB : Blk w B #[.string s] 42) (x : UInt8) (h0 : 0 < s.size) (hx : s.extract 0 1 = ⟨#[x]⟩) (hs2 : s.size ≤ 6000) (N : Int) (hN : numP ((s.extract 1 s.size).extract 0 8) 8 = N) (wn0 : 0 ≤ N) (hk : x.toNat = 3) (h8 : 8 ≤ (s.extract 1 s.size).size) (h9 : 0 < ((s.extract 1 s.size).extract 8 (s.extract 1 s.size).size).size) (y : UInt8) (hy : ((s.extract 1 s.size).extract 8 (s.extract 1 s.size).size).extract 0 1 = ⟨#[y]⟩) (hf : y.toNat = 0) (hr : (((s.extract 1 s.size).extract 8 (s.extract 1 s.size).size).extract 1 ((s.extract 1 s.size).extract 8 (s.extract 1 s.size).size).size) = ByteArray.empty) (hn : 1152921504606846976 < N) :
    Calls Tryd.prog 20 #[.pointer (some ⟨B, 0, none⟩)] w fun e w' => e = (Got.bad 2).ending ∧ Else B w w' := by
  have HI0 := Lib.hid (Blk.new w #[.int .i64 0, .int .i64 0, .int .i64 0, .bool false, .string ByteArray.empty] 24)
  have HB0 := Lib.hid (hB.alloc (.cells #[.int .i64 0, .int .i64 0, .int .i64 0, .bool false, .string ByteArray.empty] 24))
  have HN := Lib.hid (Nat.ne_of_gt hB.lt)
  clear hB
  have HX := Lib.hid hx
  clear hx
  have g0 : ∀ h, (⟨#[x]⟩ : ByteArray)[0]'h = x := fun _ => rfl
  have HNN := Lib.hid hN
  clear hN
  have g1 : ∀ h, (⟨#[y]⟩ : ByteArray)[0]'h = y := fun _ => rfl
  have HY := Lib.hid hy
  clear hy
  go_enter Tryd.func20, Tryd.ntmps20
  go_wp2_with fail
  refine (first B s _ HB0.out h0 x HX.out).mono ?_
  rintro e w1 ⟨rfl, hE1, hB1⟩
  have hI1 : Blk w1 w.heap.size #[.int .i64 0, .int .i64 0, .int .i64 0, .bool false, .string ByteArray.empty] 24 := by simpa using HI0.out.kept hE1 HN.out
  skip
  obtain ⟨c0, c1, c2, c3, c4, z0, z1, z2, z3, z4⟩ := five hI1
  have HI1 := Lib.hid hI1
  have HE1 := Lib.hid hE1
  have HB1 := Lib.hid hB1
  clear hI1 hE1 hB1
  go_wp2_with fail
  refine (number_N B _ _ N HNN.out (HB1.out.setElse HN.out.symm 0 _) h8 (by simp; omega)).mono ?_
  rintro e w2 ⟨rfl, hE2, hB2⟩
  have hI2 : Blk w2 w.heap.size #[.int .i64 3, .int .i64 0, .int .i64 0, .bool false, .string ByteArray.empty] 24 := by simpa using (HI1.out.set 0 (.int .i64 3)).kept hE2 HN.out
  clear c0 c1 c2 c3 c4 z0 z1 z2 z3 z4
  obtain ⟨c0, c1, c2, c3, c4, z0, z1, z2, z3, z4⟩ := five hI2
  have HI2 := Lib.hid hI2
  have HE2 := Lib.hid hE2
  have HB2 := Lib.hid hB2
  clear hI2 hE2 hB2
  go_wp2_with fail
  refine (first B _ _ HB2.out h9 y HY.out).mono ?_
  rintro e w3 ⟨rfl, hE3, hB3⟩
  have hI3 : Blk w3 w.heap.size #[.int .i64 3, .int .i64 0, .int .i64 0, .bool false, .string ByteArray.empty] 24 := by simpa using HI2.out.kept hE3 HN.out
  clear c0 c1 c2 c3 c4 z0 z1 z2 z3 z4
  obtain ⟨c0, c1, c2, c3, c4, z0, z1, z2, z3, z4⟩ := five hI3
  have HI3 := Lib.hid hI3
  have HE3 := Lib.hid hE3
  have HB3 := Lib.hid hB3
  clear hI3 hE3 hB3
  go_wp2_with fail
  refine (end_ok B _ _ (HB3.out.setElse HN.out.symm 3 _) hr).mono ?_
  rintro e w9 ⟨rfl, rfl⟩
  go_wp2_with fail
  exact ⟨rfl, rfl, (((((((Else.refl B w).alloc _).trans HE1.out).setNew (Nat.le_refl _) 0 _).trans HE2.out).trans HE3.out).setNew (Nat.le_refl _) 3 _)⟩
set_option maxHeartbeats 4000000 in
theorem input_3_0 (B : Nat) (s : ByteArray) (w : World) (hB : Blk w B #[.string s] 42) (x : UInt8) (h0 : 0 < s.size) (hx : s.extract 0 1 = ⟨#[x]⟩) (hs2 : s.size ≤ 6000) (N : Int) (hN : numP ((s.extract 1 s.size).extract 0 8) 8 = N) (wn0 : 0 ≤ N) (hk : x.toNat = 3) (h8 : 8 ≤ (s.extract 1 s.size).size) (h9 : 0 < ((s.extract 1 s.size).extract 8 (s.extract 1 s.size).size).size) (y : UInt8) (hy : ((s.extract 1 s.size).extract 8 (s.extract 1 s.size).size).extract 0 1 = ⟨#[y]⟩) (hf : y.toNat = 0) (hr : (((s.extract 1 s.size).extract 8 (s.extract 1 s.size).size).extract 1 ((s.extract 1 s.size).extract 8 (s.extract 1 s.size).size).size) = ByteArray.empty) (hn : N ≤ 1152921504606846976) :
    Calls Tryd.prog 20 #[.pointer (some ⟨B, 0, none⟩)] w fun e w' => e = (Got.got 3 0 N false ByteArray.empty).ending ∧ Else B w w' := by
  have HI0 := Lib.hid (Blk.new w #[.int .i64 0, .int .i64 0, .int .i64 0, .bool false, .string ByteArray.empty] 24)
  have HB0 := Lib.hid (hB.alloc (.cells #[.int .i64 0, .int .i64 0, .int .i64 0, .bool false, .string ByteArray.empty] 24))
  have HN := Lib.hid (Nat.ne_of_gt hB.lt)
  clear hB
  have HX := Lib.hid hx
  clear hx
  have g0 : ∀ h, (⟨#[x]⟩ : ByteArray)[0]'h = x := fun _ => rfl
  have HNN := Lib.hid hN
  clear hN
  have g1 : ∀ h, (⟨#[y]⟩ : ByteArray)[0]'h = y := fun _ => rfl
  have HY := Lib.hid hy
  clear hy
  go_enter Tryd.func20, Tryd.ntmps20
  go_wp2_with fail
  refine (first B s _ HB0.out h0 x HX.out).mono ?_
  rintro e w1 ⟨rfl, hE1, hB1⟩
  have hI1 : Blk w1 w.heap.size #[.int .i64 0, .int .i64 0, .int .i64 0, .bool false, .string ByteArray.empty] 24 := by simpa using HI0.out.kept hE1 HN.out
  skip
  obtain ⟨c0, c1, c2, c3, c4, z0, z1, z2, z3, z4⟩ := five hI1
  have HI1 := Lib.hid hI1
  have HE1 := Lib.hid hE1
  have HB1 := Lib.hid hB1
  clear hI1 hE1 hB1
  go_wp2_with fail
  skip
  refine (number_N B _ _ N HNN.out (HB1.out.setElse HN.out.symm 0 _) h8 (by simp; omega)).mono ?_
  rintro e w2 ⟨rfl, hE2, hB2⟩
  have hI2 : Blk w2 w.heap.size #[.int .i64 3, .int .i64 0, .int .i64 0, .bool false, .string ByteArray.empty] 24 := by simpa using (HI1.out.set 0 (.int .i64 3)).kept hE2 HN.out
  clear c0 c1 c2 c3 c4 z0 z1 z2 z3 z4
  obtain ⟨c0, c1, c2, c3, c4, z0, z1, z2, z3, z4⟩ := five hI2
  have HI2 := Lib.hid hI2
  have HE2 := Lib.hid hE2
  have HB2 := Lib.hid hB2
  clear hI2 hE2 hB2
  go_wp2_with fail
  refine (first B _ _ HB2.out h9 y HY.out).mono ?_
  rintro e w3 ⟨rfl, hE3, hB3⟩
  have hI3 : Blk w3 w.heap.size #[.int .i64 3, .int .i64 0, .int .i64 0, .bool false, .string ByteArray.empty] 24 := by simpa using HI2.out.kept hE3 HN.out
  clear c0 c1 c2 c3 c4 z0 z1 z2 z3 z4
  obtain ⟨c0, c1, c2, c3, c4, z0, z1, z2, z3, z4⟩ := five hI3
  have HI3 := Lib.hid hI3
  have HE3 := Lib.hid hE3
  have HB3 := Lib.hid hB3
  clear hI3 hE3 hB3
  go_wp2_with fail
  have hgt : (1152921504606846976 < N) = False := eq_false (by omega)
  have wn : wrap64 N = N := wrapN wn0 hn
  clear hn wn0
  refine (end_ok B _ _ (HB3.out.setElse HN.out.symm 3 _) hr).mono ?_
  rintro e w9 ⟨rfl, rfl⟩
  go_wp2_with fail
  refine bodyPost_ret (v := .agg #[.int .i64 3, .int .i64 0, .int .i64 N, .bool false, .string ByteArray.empty]) (res16 (I := w.heap.size) ?_ rfl) rfl ⟨rfl, (((((((((((((Else.refl B w).alloc _).trans HE1.out).setNew (Nat.le_refl _) 0 _).trans HE2.out).trans HE3.out).setNew (Nat.le_refl _) 3 _).setNew (Nat.le_refl _) 2 _).setNew (Nat.le_refl _) 0 _).setNew (Nat.le_refl _) 1 _).setNew (Nat.le_refl _) 2 _).setNew (Nat.le_refl _) 3 _).setNew (Nat.le_refl _) 4 _)⟩
  simpa using (((((((HI3.out.set 3 (.bool false)).set 2 (.int .i64 N)).set 0 (.int .i64 3)).set 1 (.int .i64 0)).set 2 (.int .i64 N)).set 3 (.bool false)).set 4 (.string ByteArray.empty))
set_option maxHeartbeats 4000000 in
theorem input_3_1_bad (B : Nat) (s : ByteArray) (w : World) (hB : Blk w B #[.string s] 42) (x : UInt8) (h0 : 0 < s.size) (hx : s.extract 0 1 = ⟨#[x]⟩) (hs2 : s.size ≤ 6000) (N : Int) (hN : numP ((s.extract 1 s.size).extract 0 8) 8 = N) (wn0 : 0 ≤ N) (hk : x.toNat = 3) (h8 : 8 ≤ (s.extract 1 s.size).size) (h9 : 0 < ((s.extract 1 s.size).extract 8 (s.extract 1 s.size).size).size) (y : UInt8) (hy : ((s.extract 1 s.size).extract 8 (s.extract 1 s.size).size).extract 0 1 = ⟨#[y]⟩) (hf : y.toNat = 1) (hr : (((s.extract 1 s.size).extract 8 (s.extract 1 s.size).size).extract 1 ((s.extract 1 s.size).extract 8 (s.extract 1 s.size).size).size) ≠ ByteArray.empty) :
    Calls Tryd.prog 20 #[.pointer (some ⟨B, 0, none⟩)] w fun e w' => e = (Got.bad 5).ending ∧ Else B w w' := by
  have HI0 := Lib.hid (Blk.new w #[.int .i64 0, .int .i64 0, .int .i64 0, .bool false, .string ByteArray.empty] 24)
  have HB0 := Lib.hid (hB.alloc (.cells #[.int .i64 0, .int .i64 0, .int .i64 0, .bool false, .string ByteArray.empty] 24))
  have HN := Lib.hid (Nat.ne_of_gt hB.lt)
  clear hB
  have HX := Lib.hid hx
  clear hx
  have g0 : ∀ h, (⟨#[x]⟩ : ByteArray)[0]'h = x := fun _ => rfl
  have HNN := Lib.hid hN
  clear hN
  have g1 : ∀ h, (⟨#[y]⟩ : ByteArray)[0]'h = y := fun _ => rfl
  have HY := Lib.hid hy
  clear hy
  go_enter Tryd.func20, Tryd.ntmps20
  go_wp2_with fail
  refine (first B s _ HB0.out h0 x HX.out).mono ?_
  rintro e w1 ⟨rfl, hE1, hB1⟩
  have hI1 : Blk w1 w.heap.size #[.int .i64 0, .int .i64 0, .int .i64 0, .bool false, .string ByteArray.empty] 24 := by simpa using HI0.out.kept hE1 HN.out
  skip
  obtain ⟨c0, c1, c2, c3, c4, z0, z1, z2, z3, z4⟩ := five hI1
  have HI1 := Lib.hid hI1
  have HE1 := Lib.hid hE1
  have HB1 := Lib.hid hB1
  clear hI1 hE1 hB1
  go_wp2_with fail
  refine (number_N B _ _ N HNN.out (HB1.out.setElse HN.out.symm 0 _) h8 (by simp; omega)).mono ?_
  rintro e w2 ⟨rfl, hE2, hB2⟩
  have hI2 : Blk w2 w.heap.size #[.int .i64 3, .int .i64 0, .int .i64 0, .bool false, .string ByteArray.empty] 24 := by simpa using (HI1.out.set 0 (.int .i64 3)).kept hE2 HN.out
  clear c0 c1 c2 c3 c4 z0 z1 z2 z3 z4
  obtain ⟨c0, c1, c2, c3, c4, z0, z1, z2, z3, z4⟩ := five hI2
  have HI2 := Lib.hid hI2
  have HE2 := Lib.hid hE2
  have HB2 := Lib.hid hB2
  clear hI2 hE2 hB2
  go_wp2_with fail
  refine (first B _ _ HB2.out h9 y HY.out).mono ?_
  rintro e w3 ⟨rfl, hE3, hB3⟩
  have hI3 : Blk w3 w.heap.size #[.int .i64 3, .int .i64 0, .int .i64 0, .bool false, .string ByteArray.empty] 24 := by simpa using HI2.out.kept hE3 HN.out
  clear c0 c1 c2 c3 c4 z0 z1 z2 z3 z4
  obtain ⟨c0, c1, c2, c3, c4, z0, z1, z2, z3, z4⟩ := five hI3
  have HI3 := Lib.hid hI3
  have HE3 := Lib.hid hE3
  have HB3 := Lib.hid hB3
  clear hI3 hE3 hB3
  go_wp2_with fail
  refine (end_bad B _ _ (HB3.out.setElse HN.out.symm 3 _) hr).mono ?_
  rintro e w9 ⟨he, rfl⟩
  rw [gives] at he
  subst he
  go_wp2_with fail
  exact ⟨rfl, rfl, (((((((Else.refl B w).alloc _).trans HE1.out).setNew (Nat.le_refl _) 0 _).trans HE2.out).trans HE3.out).setNew (Nat.le_refl _) 3 _)⟩
set_option maxHeartbeats 4000000 in
theorem input_3_1_arg (B : Nat) (s : ByteArray) (w : World) (hB : Blk w B #[.string s] 42) (x : UInt8) (h0 : 0 < s.size) (hx : s.extract 0 1 = ⟨#[x]⟩) (hs2 : s.size ≤ 6000) (N : Int) (hN : numP ((s.extract 1 s.size).extract 0 8) 8 = N) (wn0 : 0 ≤ N) (hk : x.toNat = 3) (h8 : 8 ≤ (s.extract 1 s.size).size) (h9 : 0 < ((s.extract 1 s.size).extract 8 (s.extract 1 s.size).size).size) (y : UInt8) (hy : ((s.extract 1 s.size).extract 8 (s.extract 1 s.size).size).extract 0 1 = ⟨#[y]⟩) (hf : y.toNat = 1) (hr : (((s.extract 1 s.size).extract 8 (s.extract 1 s.size).size).extract 1 ((s.extract 1 s.size).extract 8 (s.extract 1 s.size).size).size) = ByteArray.empty) (hn : 1152921504606846976 < N) :
    Calls Tryd.prog 20 #[.pointer (some ⟨B, 0, none⟩)] w fun e w' => e = (Got.bad 2).ending ∧ Else B w w' := by
  have HI0 := Lib.hid (Blk.new w #[.int .i64 0, .int .i64 0, .int .i64 0, .bool false, .string ByteArray.empty] 24)
  have HB0 := Lib.hid (hB.alloc (.cells #[.int .i64 0, .int .i64 0, .int .i64 0, .bool false, .string ByteArray.empty] 24))
  have HN := Lib.hid (Nat.ne_of_gt hB.lt)
  clear hB
  have HX := Lib.hid hx
  clear hx
  have g0 : ∀ h, (⟨#[x]⟩ : ByteArray)[0]'h = x := fun _ => rfl
  have HNN := Lib.hid hN
  clear hN
  have g1 : ∀ h, (⟨#[y]⟩ : ByteArray)[0]'h = y := fun _ => rfl
  have HY := Lib.hid hy
  clear hy
  go_enter Tryd.func20, Tryd.ntmps20
  go_wp2_with fail
  refine (first B s _ HB0.out h0 x HX.out).mono ?_
  rintro e w1 ⟨rfl, hE1, hB1⟩
  have hI1 : Blk w1 w.heap.size #[.int .i64 0, .int .i64 0, .int .i64 0, .bool false, .string ByteArray.empty] 24 := by simpa using HI0.out.kept hE1 HN.out
  skip
  obtain ⟨c0, c1, c2, c3, c4, z0, z1, z2, z3, z4⟩ := five hI1
  have HI1 := Lib.hid hI1
  have HE1 := Lib.hid hE1
  have HB1 := Lib.hid hB1
  clear hI1 hE1 hB1
  go_wp2_with fail
  refine (number_N B _ _ N HNN.out (HB1.out.setElse HN.out.symm 0 _) h8 (by simp; omega)).mono ?_
  rintro e w2 ⟨rfl, hE2, hB2⟩
  have hI2 : Blk w2 w.heap.size #[.int .i64 3, .int .i64 0, .int .i64 0, .bool false, .string ByteArray.empty] 24 := by simpa using (HI1.out.set 0 (.int .i64 3)).kept hE2 HN.out
  clear c0 c1 c2 c3 c4 z0 z1 z2 z3 z4
  obtain ⟨c0, c1, c2, c3, c4, z0, z1, z2, z3, z4⟩ := five hI2
  have HI2 := Lib.hid hI2
  have HE2 := Lib.hid hE2
  have HB2 := Lib.hid hB2
  clear hI2 hE2 hB2
  go_wp2_with fail
  refine (first B _ _ HB2.out h9 y HY.out).mono ?_
  rintro e w3 ⟨rfl, hE3, hB3⟩
  have hI3 : Blk w3 w.heap.size #[.int .i64 3, .int .i64 0, .int .i64 0, .bool false, .string ByteArray.empty] 24 := by simpa using HI2.out.kept hE3 HN.out
  clear c0 c1 c2 c3 c4 z0 z1 z2 z3 z4
  obtain ⟨c0, c1, c2, c3, c4, z0, z1, z2, z3, z4⟩ := five hI3
  have HI3 := Lib.hid hI3
  have HE3 := Lib.hid hE3
  have HB3 := Lib.hid hB3
  clear hI3 hE3 hB3
  go_wp2_with fail
  refine (end_ok B _ _ (HB3.out.setElse HN.out.symm 3 _) hr).mono ?_
  rintro e w9 ⟨rfl, rfl⟩
  go_wp2_with fail
  exact ⟨rfl, rfl, (((((((Else.refl B w).alloc _).trans HE1.out).setNew (Nat.le_refl _) 0 _).trans HE2.out).trans HE3.out).setNew (Nat.le_refl _) 3 _)⟩
set_option maxHeartbeats 4000000 in
theorem input_3_1 (B : Nat) (s : ByteArray) (w : World) (hB : Blk w B #[.string s] 42) (x : UInt8) (h0 : 0 < s.size) (hx : s.extract 0 1 = ⟨#[x]⟩) (hs2 : s.size ≤ 6000) (N : Int) (hN : numP ((s.extract 1 s.size).extract 0 8) 8 = N) (wn0 : 0 ≤ N) (hk : x.toNat = 3) (h8 : 8 ≤ (s.extract 1 s.size).size) (h9 : 0 < ((s.extract 1 s.size).extract 8 (s.extract 1 s.size).size).size) (y : UInt8) (hy : ((s.extract 1 s.size).extract 8 (s.extract 1 s.size).size).extract 0 1 = ⟨#[y]⟩) (hf : y.toNat = 1) (hr : (((s.extract 1 s.size).extract 8 (s.extract 1 s.size).size).extract 1 ((s.extract 1 s.size).extract 8 (s.extract 1 s.size).size).size) = ByteArray.empty) (hn : N ≤ 1152921504606846976) :
    Calls Tryd.prog 20 #[.pointer (some ⟨B, 0, none⟩)] w fun e w' => e = (Got.got 3 0 N true ByteArray.empty).ending ∧ Else B w w' := by
  have HI0 := Lib.hid (Blk.new w #[.int .i64 0, .int .i64 0, .int .i64 0, .bool false, .string ByteArray.empty] 24)
  have HB0 := Lib.hid (hB.alloc (.cells #[.int .i64 0, .int .i64 0, .int .i64 0, .bool false, .string ByteArray.empty] 24))
  have HN := Lib.hid (Nat.ne_of_gt hB.lt)
  clear hB
  have HX := Lib.hid hx
  clear hx
  have g0 : ∀ h, (⟨#[x]⟩ : ByteArray)[0]'h = x := fun _ => rfl
  have HNN := Lib.hid hN
  clear hN
  have g1 : ∀ h, (⟨#[y]⟩ : ByteArray)[0]'h = y := fun _ => rfl
  have HY := Lib.hid hy
  clear hy
  go_enter Tryd.func20, Tryd.ntmps20
  go_wp2_with fail
  refine (first B s _ HB0.out h0 x HX.out).mono ?_
  rintro e w1 ⟨rfl, hE1, hB1⟩
  have hI1 : Blk w1 w.heap.size #[.int .i64 0, .int .i64 0, .int .i64 0, .bool false, .string ByteArray.empty] 24 := by simpa using HI0.out.kept hE1 HN.out
  skip
  obtain ⟨c0, c1, c2, c3, c4, z0, z1, z2, z3, z4⟩ := five hI1
  have HI1 := Lib.hid hI1
  have HE1 := Lib.hid hE1
  have HB1 := Lib.hid hB1
  clear hI1 hE1 hB1
  go_wp2_with fail
  skip
  refine (number_N B _ _ N HNN.out (HB1.out.setElse HN.out.symm 0 _) h8 (by simp; omega)).mono ?_
  rintro e w2 ⟨rfl, hE2, hB2⟩
  have hI2 : Blk w2 w.heap.size #[.int .i64 3, .int .i64 0, .int .i64 0, .bool false, .string ByteArray.empty] 24 := by simpa using (HI1.out.set 0 (.int .i64 3)).kept hE2 HN.out
  clear c0 c1 c2 c3 c4 z0 z1 z2 z3 z4
  obtain ⟨c0, c1, c2, c3, c4, z0, z1, z2, z3, z4⟩ := five hI2
  have HI2 := Lib.hid hI2
  have HE2 := Lib.hid hE2
  have HB2 := Lib.hid hB2
  clear hI2 hE2 hB2
  go_wp2_with fail
  refine (first B _ _ HB2.out h9 y HY.out).mono ?_
  rintro e w3 ⟨rfl, hE3, hB3⟩
  have hI3 : Blk w3 w.heap.size #[.int .i64 3, .int .i64 0, .int .i64 0, .bool false, .string ByteArray.empty] 24 := by simpa using HI2.out.kept hE3 HN.out
  clear c0 c1 c2 c3 c4 z0 z1 z2 z3 z4
  obtain ⟨c0, c1, c2, c3, c4, z0, z1, z2, z3, z4⟩ := five hI3
  have HI3 := Lib.hid hI3
  have HE3 := Lib.hid hE3
  have HB3 := Lib.hid hB3
  clear hI3 hE3 hB3
  go_wp2_with fail
  have hgt : (1152921504606846976 < N) = False := eq_false (by omega)
  have wn : wrap64 N = N := wrapN wn0 hn
  clear hn wn0
  refine (end_ok B _ _ (HB3.out.setElse HN.out.symm 3 _) hr).mono ?_
  rintro e w9 ⟨rfl, rfl⟩
  go_wp2_with fail
  refine bodyPost_ret (v := .agg #[.int .i64 3, .int .i64 0, .int .i64 N, .bool true, .string ByteArray.empty]) (res16 (I := w.heap.size) ?_ rfl) rfl ⟨rfl, (((((((((((((Else.refl B w).alloc _).trans HE1.out).setNew (Nat.le_refl _) 0 _).trans HE2.out).trans HE3.out).setNew (Nat.le_refl _) 3 _).setNew (Nat.le_refl _) 2 _).setNew (Nat.le_refl _) 0 _).setNew (Nat.le_refl _) 1 _).setNew (Nat.le_refl _) 2 _).setNew (Nat.le_refl _) 3 _).setNew (Nat.le_refl _) 4 _)⟩
  simpa using (((((((HI3.out.set 3 (.bool true)).set 2 (.int .i64 N)).set 0 (.int .i64 3)).set 1 (.int .i64 0)).set 2 (.int .i64 N)).set 3 (.bool true)).set 4 (.string ByteArray.empty))
set_option maxHeartbeats 4000000 in
theorem input_9 (B : Nat) (s : ByteArray) (w : World) (hB : Blk w B #[.string s] 42) (x : UInt8) (h0 : 0 < s.size) (hx : s.extract 0 1 = ⟨#[x]⟩) (hs2 : s.size ≤ 6000) (k1 : ((x.toNat : Int) == 1) = false) (k2 : ((x.toNat : Int) == 2) = false) (k3 : ((x.toNat : Int) == 3) = false) (k4 : ((x.toNat : Int) == 4) = false) (k5 : ((x.toNat : Int) == 5) = false) (k6 : ((x.toNat : Int) == 6) = false) :
    Calls Tryd.prog 20 #[.pointer (some ⟨B, 0, none⟩)] w fun e w' => e = (Got.bad 9).ending ∧ Else B w w' := by
  have wx : wrap64 (x.toNat : Int) = x.toNat := by
    have := x.toNat_lt
    unfold wrap64; omega
  have HI0 := Lib.hid (Blk.new w #[.int .i64 0, .int .i64 0, .int .i64 0, .bool false, .string ByteArray.empty] 24)
  have HB0 := Lib.hid (hB.alloc (.cells #[.int .i64 0, .int .i64 0, .int .i64 0, .bool false, .string ByteArray.empty] 24))
  have HN := Lib.hid (Nat.ne_of_gt hB.lt)
  clear hB
  have HX := Lib.hid hx
  clear hx
  have g0 : ∀ h, (⟨#[x]⟩ : ByteArray)[0]'h = x := fun _ => rfl
  go_enter Tryd.func20, Tryd.ntmps20
  go_wp2_with fail
  refine (first B s _ HB0.out h0 x HX.out).mono ?_
  rintro e w1 ⟨rfl, hE1, hB1⟩
  obtain ⟨c0, c1, c2, c3, c4, z0, z1, z2, z3, z4⟩ := five (HI0.out.kept hE1 HN.out)
  have HE1 := Lib.hid hE1
  clear hE1 hB1
  go_wp2_with fail
  exact ⟨rfl, rfl, ((((Else.refl B w).alloc _).trans HE1.out).setNew (Nat.le_refl _) 0 _)⟩
theorem input_nil (B : Nat) (s : ByteArray) (w : World) (hB : Blk w B #[.string s] 42) (h0 : s.size = 0) :
    Calls Tryd.prog 20 #[.pointer (some ⟨B, 0, none⟩)] w fun e w' => e = (Got.bad 3).ending ∧ Else B w w' := by
  have HB0 := Lib.hid (hB.alloc (.cells #[.int .i64 0, .int .i64 0, .int .i64 0, .bool false, .string ByteArray.empty] 24))
  clear hB
  go_enter Tryd.func20, Tryd.ntmps20
  go_wp2_with fail
  refine (take_short B _ 1 _ HB0.out (by omega)).mono ?_
  rintro e w9 ⟨he, rfl⟩
  rw [gives] at he
  subst he
  go_wp2_with fail
  exact ⟨rfl, rfl, (Else.refl B w).alloc _⟩
end Go.Proofs.YtfgbimcjcplegaaDoorG
