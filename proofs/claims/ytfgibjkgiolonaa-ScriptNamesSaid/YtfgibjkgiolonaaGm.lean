import Derived.Test.YtfgibjkgiolonaaGa
import Derived.Test.YtfgibjkgiolonaaX2
import Derived.Defers
import Derived.Recover
import Derived.Laws.BitsAllLaws
set_option linter.unusedVariables false
set_option linter.unusedSimpArgs false
namespace Go.Proofs.YtfgibjkgiolonaaG
open Go.RowKit Go.Proofs.YtfgibjkgiolonaaW.PrintWords Go.Proofs.YtfgibjkgiolonaaX Go.Proofs.YtfgibjkgiolonaaW.PrintMore
def gives (e : Int) : Ending := .panicked [{ v := .iface 102 (.agg #[.int .i64 e]), recovered := false }]
theorem take_ok (B : Nat) (s : ByteArray) (n : Int) (w : World) (hB : Blk w B #[.string s] 106) (h0 : 0 ≤ n) (hn : n ≤ s.size) :
  Calls Try.prog 88 #[.pointer (some ⟨B, 0, none⟩), .int .i64 n] w fun e w' => e = .returned (.string (s.extract 0 n.toNat)) ∧ Else B w w' ∧ Blk w' B #[.string (s.extract n.toNat s.size)] 106 := by
 have hc := hB.cell 0
 have hz := hB.frozen 0
 have hE := (Else.refl B w).set 0 (.string (s.extract n.toNat s.size))
 have hA := hB.set 0 (.string (s.extract n.toNat s.size))
 have HE := Lib.hid hE
 have HA := Lib.hid hA
 clear hE hA
 go_enter Try.func88, Try.ntmps88
 go_wp2
 go_ret
 exact ⟨rfl, HE.out, HA.out⟩
theorem take_short (B : Nat) (s : ByteArray) (n : Int) (w : World) (hB : Blk w B #[.string s] 106) (hn : (s.size : Int) < n) :
  Calls Try.prog 88 #[.pointer (some ⟨B, 0, none⟩), .int .i64 n] w fun e w' => e = gives 3 ∧ w' = w := by
 have hc := hB.cell 0
 go_enter Try.func88, Try.ntmps88
 go_wp2
 exact ⟨rfl, rfl, rfl⟩
theorem rest_any (B : Nat) (s : ByteArray) (w : World) (hB : Blk w B #[.string s] 106) (hs : s.size ≤ 100000) :
  Calls Try.prog 89 #[.pointer (some ⟨B, 0, none⟩)] w fun e w' => e = .returned (.string s) ∧ Else B w w' ∧ Blk w' B #[.string ByteArray.empty] 106 := by
 have hc := hB.cell 0
 have HB := Lib.hid hB
 clear hB
 go_enter Try.func89, Try.ntmps89
 go_wp2_with fail
 refine (take_ok B s s.size w HB.out (by omega) (by omega)).mono ?_
 rintro e w' ⟨rfl, hE, hA⟩
 have h1 : s.extract 0 (s.size : Int).toNat = s := by simp
 have h2 : s.extract (s.size : Int).toNat s.size = ByteArray.empty := by simp
 rw [h1]
 rw [h2] at hA
 have HE := Lib.hid hE
 have HA := Lib.hid hA
 clear hE hA
 go_wp2_with fail
 go_ret
 exact ⟨rfl, HE.out, HA.out⟩
theorem end_ok (B : Nat) (s : ByteArray) (w : World) (hB : Blk w B #[.string s] 106) (hs : s = ByteArray.empty) :
  Calls Try.prog 91 #[.pointer (some ⟨B, 0, none⟩)] w fun e w' => e = .returned (.tuple #[]) ∧ w' = w := by
 subst hs
 have hc := hB.cell 0
 go_enter Try.func91, Try.ntmps91
 go_wp2
 go_end0
 exact ⟨rfl, rfl⟩
theorem end_bad (B : Nat) (s : ByteArray) (w : World) (hB : Blk w B #[.string s] 106) (hs : s ≠ ByteArray.empty) :
  Calls Try.prog 91 #[.pointer (some ⟨B, 0, none⟩)] w fun e w' => e = gives 5 ∧ w' = w := by
 have hc := hB.cell 0
 have he : s.toList.isEmpty = false := by
  rw [ByteArray.toList_eq, Bool.eq_false_iff]
  intro h
  apply hs
  have h2 : s.data.toList = [] := List.isEmpty_iff.1 h
  have h3 : s.data = #[] := by
   rw [← Array.toArray_toList (xs := s.data), h2]
  cases s
  simp only at h3
  subst h3
  rfl
 have HS := Lib.hid hs
 clear hs
 go_enter Try.func91, Try.ntmps91
 go_wp2
 exact ⟨rfl, rfl, rfl⟩
theorem bytesCell (W : World) (t : ByteArray) (cap : Nat) (m : Nat × Nat) (hm : t.size ≤ m.1 ∨ m.2 = 0) (i : Nat) (hi : i < t.size) : (W.alloc (.cells (bytesRow t cap) 5 m)).cell? ⟨W.heap.size, i, none⟩ = some (.int .u8 (bt t i)) := by
 have h := RowI.of_string W t cap 5 m hm
 have h2 := h.cell (j := i) (by rw [bytesOf_length]; exact hi)
 rw [h2, ← rd_bytesOf]
 unfold rd
 simp
def numP (t : ByteArray) : Nat → Int
 | 0 => 0
 | k + 1 => numP t k * 256 + bt t k
theorem numP_range (t : ByteArray) : ∀ k, 0 ≤ numP t k ∧ numP t k < 256 ^ k
 | 0 => by simp [numP]
 | k + 1 => by
  obtain ⟨h1, h2⟩ := numP_range t k
  have h3 := bt_range t k
  have h4 : (256 : Int) ^ (k + 1) = 256 ^ k * 256 := by rw [Int.pow_succ]
  unfold numP
  rw [h4]
  omega
theorem or_step (x b : Int) (hx : 0 ≤ x) (hx2 : x < 72057594037927936) (hb0 : 0 ≤ b) (hb : b ≤ 255) : bits BinOp.or IntKind.u64 (IntKind.u64.wrap (x * 256)) (IntKind.u64.wrap b) = x * 256 + b := by
 have h1 : IntKind.u64.wrap (x * 256) = x * 256 := by simp [IntKind.wrap_u64]; omega
 have h2 : IntKind.u64.wrap b = b := by simp [IntKind.wrap_u64]; omega
 rw [h1, h2]
 obtain ⟨a, rfl⟩ := Int.eq_ofNat_of_zero_le hx
 obtain ⟨c, rfl⟩ := Int.eq_ofNat_of_zero_le hb0
 have h3 := u64_or_nat (a * 256) c (by omega) (by omega)
 have h4 : a * 256 ||| c = a * 256 + c := by
  have := Nat.two_pow_add_eq_or_of_lt (i := 8) (b := c) (by omega) a
  rw [Nat.mul_comm]
  exact this.symm
 rw [h4] at h3
 rw [show ((a : Int) * 256) = ((a * 256 : Nat) : Int) by omega, h3]
 omega
theorem numP_step (t : ByteArray) (k : Nat) (hk : k < 8) : bits BinOp.or IntKind.u64 (IntKind.u64.wrap (numP t k * 256)) (IntKind.u64.wrap (bt t k)) = numP t (k + 1) := by
 obtain ⟨h1, h2⟩ := numP_range t k
 obtain ⟨h3, h4⟩ := bt_range t k
 have h5 : (256 : Int) ^ k ≤ 72057594037927936 := by
  have : (256 : Nat) ^ k ≤ 256 ^ 7 := Nat.pow_le_pow_right (by decide) (by omega)
  have h6 : ((256 ^ k : Nat) : Int) = (256 : Int) ^ k := by simp
  omega
 rw [or_step _ _ h1 (by omega) h3 h4]
 rfl
set_option maxHeartbeats 2000000 in
theorem number_ok (B : Nat) (s : ByteArray) (w : World) (hB : Blk w B #[.string s] 106) (hs : 8 ≤ s.size) (hs2 : s.size ≤ 100000) :
  Calls Try.prog 90 #[.pointer (some ⟨B, 0, none⟩)] w fun e w' => e = .returned (.int .u64 (numP (s.extract 0 8) 8)) ∧ Else B w w' ∧ Blk w' B #[.string (s.extract 8 s.size)] 106 := by
 have HB := Lib.hid hB
 clear hB
 go_enter Try.func90, Try.ntmps90
 go_wp2_with fail
 refine (take_ok B s 8 w HB.out (by omega) (by omega)).mono ?_
 rintro e w' ⟨rfl, hE, hA⟩
 have HE := Lib.hid hE
 have HA := Lib.hid hA
 clear hE hA
 have hcv := fun (W : World) => run_bytes_of_string (P := Try.prog) W 9 37 5 (s.extract 0 8) Try.underlying9 Try.underlying37 Try.underlying5
 have hts : (s.extract 0 8).size = 8 := by simp; omega
 have b0 := bytesCell w' (s.extract 0 8) (grownCap w' (s.extract 0 8).size 0 5) ((bytesRow (s.extract 0 8) (grownCap w' (s.extract 0 8).size 0 5)).size, (bytesRow (s.extract 0 8) (grownCap w' (s.extract 0 8).size 0 5)).size + 1) (Or.inl (bytesRow_size _ _))
 simp only [hts] at b0
 have HB0 := Lib.hid b0
 have HT := Lib.hid hts
 clear b0
 go_wp2_with fail
 go_loop [3, 10] (fun n i => ∃ k : Nat, k ≤ 8 ∧ i = .int .i64 k ∧ n = .int .u64 (numP (s.extract 0 8) k)) (fun n i => 8 - (intOf i).toNat)
 case atStart => exact ⟨0, Nat.zero_le _, rfl, rfl⟩
 case round =>
  obtain ⟨k, hk, rfl, rfl⟩ := hrel
  by_cases hlt : k < 8
  ·have hc := HB0.out k hlt
   go_wp2
   refine ⟨⟨k + 1, by omega, by go_num, ?_⟩, by simp [intOf]; omega⟩
   rw [numP_step _ _ hlt]
  ·have hk8 : k = 8 := by omega
   subst hk8
   go_wp2
   go_ret
   exact ⟨rfl, (HE.out.alloc _).drew, (HA.out.alloc _).drew⟩
theorem number_short (B : Nat) (s : ByteArray) (w : World) (hB : Blk w B #[.string s] 106) (hs : s.size < 8) :
  Calls Try.prog 90 #[.pointer (some ⟨B, 0, none⟩)] w fun e w' => e = gives 3 ∧ w' = w := by
 have HB := Lib.hid hB
 clear hB
 go_enter Try.func90, Try.ntmps90
 go_wp2_with fail
 refine (take_short B s 8 w HB.out (by omega)).mono ?_
 rintro e w' ⟨he, rfl⟩
 rw [gives] at he
 subst he
 go_wp2_with fail
 exact ⟨rfl, rfl, rfl⟩
end Go.Proofs.YtfgibjkgiolonaaG
set_option linter.unusedVariables false
set_option linter.unusedSimpArgs false
namespace Go.Proofs.YtfgibjkgiolonaaG
open Go.RowKit Go.Proofs.YtfgibjkgiolonaaW.PrintWords Go.Proofs.YtfgibjkgiolonaaX Go.Proofs.YtfgibjkgiolonaaW.PrintMore
inductive Got where
 | bad (e : Int)
 | got (k c n : Int) (ok : Bool) (t : ByteArray)
def Got.ending : Got → Ending
 | .bad e => gives e
 | .got k c n ok t => .returned (.agg #[.int .i64 k, .int .i64 c, .int .i64 n, .bool ok, .string t])
theorem ext_at (s : ByteArray) (i : Nat) (h : i < s.size) : ∃ x : UInt8, s.extract i (i + 1) = ⟨#[x]⟩ ∧ bt s i = (x.toNat : Int) := by
 refine ⟨s[i], ?_, ?_⟩
 ·apply ByteArray.ext
  apply Array.ext
  ·simp
   have : i < s.data.size := h
   omega
  ·intro j h1 h2
   have : j = 0 := by simpa using h2
   subst this
   simp
   rfl
 ·exact bt_nat (i := i) h
theorem first (B : Nat) (s : ByteArray) (w : World) (hB : Blk w B #[.string s] 106) (h : 0 < s.size) (x : UInt8) (hx : s.extract 0 1 = ⟨#[x]⟩) :
  Calls Try.prog 88 #[.pointer (some ⟨B, 0, none⟩), .int .i64 1] w fun e w' => e = .returned (.string ⟨#[x]⟩) ∧ Else B w w' ∧ Blk w' B #[.string (s.extract 1 s.size)] 106 := by
 have := take_ok B s 1 w hB (by omega) (by omega)
 rw [show (1 : Int).toNat = 1 from rfl, hx] at this
 exact this
theorem number_N (B : Nat) (s : ByteArray) (w : World) (N : Int) (hN : numP (s.extract 0 8) 8 = N) (hB : Blk w B #[.string s] 106) (hs : 8 ≤ s.size) (hs2 : s.size ≤ 100000) :
  Calls Try.prog 90 #[.pointer (some ⟨B, 0, none⟩)] w fun e w' => e = .returned (.int .u64 N) ∧ Else B w w' ∧ Blk w' B #[.string (s.extract 8 s.size)] 106 := by
 rw [← hN]
 exact number_ok B s w hB hs hs2
theorem wrapN {N : Int} (h0 : 0 ≤ N) (hn : N ≤ 1152921504606846976) : wrap64 N = N := by
 unfold wrap64
 omega
theorem five {w : World} {I : Nat} {a b c d e : Value} {t : TypeId} (h : Blk w I #[a, b, c, d, e] t) :
  w.cell? ⟨I, 0, none⟩ = some a ∧ w.cell? ⟨I, 1, none⟩ = some b ∧ w.cell? ⟨I, 2, none⟩ = some c ∧ w.cell? ⟨I, 3, none⟩ = some d ∧ w.cell? ⟨I, 4, none⟩ = some e ∧
  w.frozen? ⟨I, 0, none⟩ = false ∧ w.frozen? ⟨I, 1, none⟩ = false ∧ w.frozen? ⟨I, 2, none⟩ = false ∧ w.frozen? ⟨I, 3, none⟩ = false ∧ w.frozen? ⟨I, 4, none⟩ = false :=
 ⟨h.cell 0, h.cell 1, h.cell 2, h.cell 3, h.cell 4, h.frozen 0, h.frozen 1, h.frozen 2, h.frozen 3, h.frozen 4⟩
theorem res16 {w : World} {I : Nat} {a b c d e : Value} {tmps : Array Value} (h : Blk w I #[a, b, c, d, e] 42) (ht : tmps.getD 2 undef = .pointer (some ⟨I, 0, none⟩)) :
  (results Try.f82 tmps).run Try.prog w = .ok (.agg #[a, b, c, d, e]) w := by
 obtain ⟨c0, c1, c2, c3, c4, z0, z1, z2, z3, z4⟩ := five h
 simp at ht
 simp [results, Try.results82, go_sem, ht, c0, c1, c2, c3, c4, Result.andThen]
set_option maxHeartbeats 4000000 in
theorem input_6 (B : Nat) (s : ByteArray) (w : World) (hB : Blk w B #[.string s] 106) (x : UInt8) (h0 : 0 < s.size) (hx : s.extract 0 1 = ⟨#[x]⟩) (hs2 : s.size ≤ 100000) (hk : x.toNat = 6) (hr : (s.extract 1 s.size) = ByteArray.empty) :
  Calls Try.prog 82 #[.pointer (some ⟨B, 0, none⟩)] w fun e w' => e = (Got.got 6 0 0 false ByteArray.empty).ending ∧ Else B w w' := by
 have HI0 := Lib.hid (Blk.new w #[.int .i64 0, .int .i64 0, .int .i64 0, .bool false, .string ByteArray.empty] 42)
 have HB0 := Lib.hid (hB.alloc (.cells #[.int .i64 0, .int .i64 0, .int .i64 0, .bool false, .string ByteArray.empty] 42))
 have HN := Lib.hid (Nat.ne_of_gt hB.lt)
 clear hB
 have HX := Lib.hid hx
 clear hx
 have g0 : ∀ h, (⟨#[x]⟩ : ByteArray)[0]'h = x := fun _ => rfl
 go_enter Try.func82, Try.ntmps82
 go_wp2_with fail
 refine (first B s _ HB0.out h0 x HX.out).mono ?_
 rintro e w1 ⟨rfl, hE1, hB1⟩
 have hI1 : Blk w1 w.heap.size #[.int .i64 0, .int .i64 0, .int .i64 0, .bool false, .string ByteArray.empty] 42 := by simpa using HI0.out.kept hE1 HN.out
 skip
 obtain ⟨c0, c1, c2, c3, c4, z0, z1, z2, z3, z4⟩ := five hI1
 have HI1 := Lib.hid hI1
 have HE1 := Lib.hid hE1
 have HB1 := Lib.hid hB1
 clear hI1 hE1 hB1
 go_wp2_with fail
 refine (end_ok B _ _ (HB1.out.setElse HN.out.symm 0 _) hr).mono ?_
 rintro e w9 ⟨rfl, rfl⟩
 go_wp2_with fail
 refine bodyPost_ret (v := .agg #[.int .i64 6, .int .i64 0, .int .i64 0, .bool false, .string ByteArray.empty]) (res16 (I := w.heap.size) ?_ rfl) rfl ⟨rfl, ((((((((((Else.refl B w).alloc _).trans HE1.out).setNew (Nat.le_refl _) 0 _).setNew (Nat.le_refl _) 2 _).setNew (Nat.le_refl _) 0 _).setNew (Nat.le_refl _) 1 _).setNew (Nat.le_refl _) 2 _).setNew (Nat.le_refl _) 3 _).setNew (Nat.le_refl _) 4 _)⟩
 simpa using (((((((HI1.out.set 0 (.int .i64 6)).set 2 (.int .i64 0)).set 0 (.int .i64 6)).set 1 (.int .i64 0)).set 2 (.int .i64 0)).set 3 (.bool false)).set 4 (.string ByteArray.empty))
set_option maxHeartbeats 4000000 in
theorem input_6_bad (B : Nat) (s : ByteArray) (w : World) (hB : Blk w B #[.string s] 106) (x : UInt8) (h0 : 0 < s.size) (hx : s.extract 0 1 = ⟨#[x]⟩) (hs2 : s.size ≤ 100000) (hk : x.toNat = 6) (hr : (s.extract 1 s.size) ≠ ByteArray.empty) :
  Calls Try.prog 82 #[.pointer (some ⟨B, 0, none⟩)] w fun e w' => e = (Got.bad 5).ending ∧ Else B w w' := by
 have HI0 := Lib.hid (Blk.new w #[.int .i64 0, .int .i64 0, .int .i64 0, .bool false, .string ByteArray.empty] 42)
 have HB0 := Lib.hid (hB.alloc (.cells #[.int .i64 0, .int .i64 0, .int .i64 0, .bool false, .string ByteArray.empty] 42))
 have HN := Lib.hid (Nat.ne_of_gt hB.lt)
 clear hB
 have HX := Lib.hid hx
 clear hx
 have g0 : ∀ h, (⟨#[x]⟩ : ByteArray)[0]'h = x := fun _ => rfl
 go_enter Try.func82, Try.ntmps82
 go_wp2_with fail
 refine (first B s _ HB0.out h0 x HX.out).mono ?_
 rintro e w1 ⟨rfl, hE1, hB1⟩
 have hI1 : Blk w1 w.heap.size #[.int .i64 0, .int .i64 0, .int .i64 0, .bool false, .string ByteArray.empty] 42 := by simpa using HI0.out.kept hE1 HN.out
 skip
 obtain ⟨c0, c1, c2, c3, c4, z0, z1, z2, z3, z4⟩ := five hI1
 have HI1 := Lib.hid hI1
 have HE1 := Lib.hid hE1
 have HB1 := Lib.hid hB1
 clear hI1 hE1 hB1
 go_wp2_with fail
 refine (end_bad B _ _ (HB1.out.setElse HN.out.symm 0 _) hr).mono ?_
 rintro e w9 ⟨he, rfl⟩
 rw [gives] at he
 subst he
 go_wp2_with fail
 exact ⟨rfl, rfl, ((((Else.refl B w).alloc _).trans HE1.out).setNew (Nat.le_refl _) 0 _)⟩
set_option maxHeartbeats 4000000 in
theorem input_1 (B : Nat) (s : ByteArray) (w : World) (hB : Blk w B #[.string s] 106) (x : UInt8) (h0 : 0 < s.size) (hx : s.extract 0 1 = ⟨#[x]⟩) (hs2 : s.size ≤ 100000) (hk : x.toNat = 1) :
  Calls Try.prog 82 #[.pointer (some ⟨B, 0, none⟩)] w fun e w' => e = (Got.got 1 0 0 false (s.extract 1 s.size)).ending ∧ Else B w w' := by
 have HI0 := Lib.hid (Blk.new w #[.int .i64 0, .int .i64 0, .int .i64 0, .bool false, .string ByteArray.empty] 42)
 have HB0 := Lib.hid (hB.alloc (.cells #[.int .i64 0, .int .i64 0, .int .i64 0, .bool false, .string ByteArray.empty] 42))
 have HN := Lib.hid (Nat.ne_of_gt hB.lt)
 clear hB
 have HX := Lib.hid hx
 clear hx
 have g0 : ∀ h, (⟨#[x]⟩ : ByteArray)[0]'h = x := fun _ => rfl
 go_enter Try.func82, Try.ntmps82
 go_wp2_with fail
 refine (first B s _ HB0.out h0 x HX.out).mono ?_
 rintro e w1 ⟨rfl, hE1, hB1⟩
 have hI1 : Blk w1 w.heap.size #[.int .i64 0, .int .i64 0, .int .i64 0, .bool false, .string ByteArray.empty] 42 := by simpa using HI0.out.kept hE1 HN.out
 skip
 obtain ⟨c0, c1, c2, c3, c4, z0, z1, z2, z3, z4⟩ := five hI1
 have HI1 := Lib.hid hI1
 have HE1 := Lib.hid hE1
 have HB1 := Lib.hid hB1
 clear hI1 hE1 hB1
 go_wp2_with fail
 refine (rest_any B _ _ (HB1.out.setElse HN.out.symm 0 _) (by simp; omega)).mono ?_
 rintro e w2 ⟨rfl, hE2, hB2⟩
 have hI2 : Blk w2 w.heap.size #[.int .i64 1, .int .i64 0, .int .i64 0, .bool false, .string ByteArray.empty] 42 := by simpa using (HI1.out.set 0 (.int .i64 1)).kept hE2 HN.out
 clear c0 c1 c2 c3 c4 z0 z1 z2 z3 z4
 obtain ⟨c0, c1, c2, c3, c4, z0, z1, z2, z3, z4⟩ := five hI2
 have HI2 := Lib.hid hI2
 have HE2 := Lib.hid hE2
 have HB2 := Lib.hid hB2
 clear hI2 hE2 hB2
 go_wp2_with fail
 have hr : ByteArray.empty = ByteArray.empty := rfl
 refine (end_ok B _ _ (HB2.out.setElse HN.out.symm 4 _) hr).mono ?_
 rintro e w9 ⟨rfl, rfl⟩
 go_wp2_with fail
 refine bodyPost_ret (v := .agg #[.int .i64 1, .int .i64 0, .int .i64 0, .bool false, .string (s.extract 1 s.size)]) (res16 (I := w.heap.size) ?_ rfl) rfl ⟨rfl, ((((((((((((Else.refl B w).alloc _).trans HE1.out).setNew (Nat.le_refl _) 0 _).trans HE2.out).setNew (Nat.le_refl _) 4 _).setNew (Nat.le_refl _) 2 _).setNew (Nat.le_refl _) 0 _).setNew (Nat.le_refl _) 1 _).setNew (Nat.le_refl _) 2 _).setNew (Nat.le_refl _) 3 _).setNew (Nat.le_refl _) 4 _)⟩
 simpa using (((((((HI2.out.set 4 (.string (s.extract 1 s.size))).set 2 (.int .i64 0)).set 0 (.int .i64 1)).set 1 (.int .i64 0)).set 2 (.int .i64 0)).set 3 (.bool false)).set 4 (.string (s.extract 1 s.size)))
set_option maxHeartbeats 4000000 in
theorem input_5_short (B : Nat) (s : ByteArray) (w : World) (hB : Blk w B #[.string s] 106) (x : UInt8) (h0 : 0 < s.size) (hx : s.extract 0 1 = ⟨#[x]⟩) (hs2 : s.size ≤ 100000) (hk : x.toNat = 5) (h1 : (s.extract 1 s.size).size < 1) :
  Calls Try.prog 82 #[.pointer (some ⟨B, 0, none⟩)] w fun e w' => e = (Got.bad 3).ending ∧ Else B w w' := by
 have HI0 := Lib.hid (Blk.new w #[.int .i64 0, .int .i64 0, .int .i64 0, .bool false, .string ByteArray.empty] 42)
 have HB0 := Lib.hid (hB.alloc (.cells #[.int .i64 0, .int .i64 0, .int .i64 0, .bool false, .string ByteArray.empty] 42))
 have HN := Lib.hid (Nat.ne_of_gt hB.lt)
 clear hB
 have HX := Lib.hid hx
 clear hx
 have g0 : ∀ h, (⟨#[x]⟩ : ByteArray)[0]'h = x := fun _ => rfl
 go_enter Try.func82, Try.ntmps82
 go_wp2_with fail
 refine (first B s _ HB0.out h0 x HX.out).mono ?_
 rintro e w1 ⟨rfl, hE1, hB1⟩
 have hI1 : Blk w1 w.heap.size #[.int .i64 0, .int .i64 0, .int .i64 0, .bool false, .string ByteArray.empty] 42 := by simpa using HI0.out.kept hE1 HN.out
 skip
 obtain ⟨c0, c1, c2, c3, c4, z0, z1, z2, z3, z4⟩ := five hI1
 have HI1 := Lib.hid hI1
 have HE1 := Lib.hid hE1
 have HB1 := Lib.hid hB1
 clear hI1 hE1 hB1
 go_wp2_with fail
 refine (take_short B _ 1 _ (HB1.out.setElse HN.out.symm 0 _) (by omega)).mono ?_
 rintro e w9 ⟨he, rfl⟩
 rw [gives] at he
 subst he
 go_wp2_with fail
 exact ⟨rfl, rfl, ((((Else.refl B w).alloc _).trans HE1.out).setNew (Nat.le_refl _) 0 _)⟩
set_option maxHeartbeats 4000000 in
theorem input_5 (B : Nat) (s : ByteArray) (w : World) (hB : Blk w B #[.string s] 106) (x : UInt8) (h0 : 0 < s.size) (hx : s.extract 0 1 = ⟨#[x]⟩) (hs2 : s.size ≤ 100000) (hk : x.toNat = 5) (h1 : 0 < (s.extract 1 s.size).size) (y : UInt8) (hy : (s.extract 1 s.size).extract 0 1 = ⟨#[y]⟩) :
  Calls Try.prog 82 #[.pointer (some ⟨B, 0, none⟩)] w fun e w' => e = (Got.got 5 y.toNat 0 false ((s.extract 1 s.size).extract 1 (s.extract 1 s.size).size)).ending ∧ Else B w w' := by
 have HI0 := Lib.hid (Blk.new w #[.int .i64 0, .int .i64 0, .int .i64 0, .bool false, .string ByteArray.empty] 42)
 have HB0 := Lib.hid (hB.alloc (.cells #[.int .i64 0, .int .i64 0, .int .i64 0, .bool false, .string ByteArray.empty] 42))
 have HN := Lib.hid (Nat.ne_of_gt hB.lt)
 clear hB
 have HX := Lib.hid hx
 clear hx
 have g0 : ∀ h, (⟨#[x]⟩ : ByteArray)[0]'h = x := fun _ => rfl
 have g1 : ∀ h, (⟨#[y]⟩ : ByteArray)[0]'h = y := fun _ => rfl
 have wy : wrap64 (y.toNat : Int) = y.toNat := by
  have := y.toNat_lt
  unfold wrap64; omega
 have HY := Lib.hid hy
 clear hy
 go_enter Try.func82, Try.ntmps82
 go_wp2_with fail
 refine (first B s _ HB0.out h0 x HX.out).mono ?_
 rintro e w1 ⟨rfl, hE1, hB1⟩
 have hI1 : Blk w1 w.heap.size #[.int .i64 0, .int .i64 0, .int .i64 0, .bool false, .string ByteArray.empty] 42 := by simpa using HI0.out.kept hE1 HN.out
 skip
 obtain ⟨c0, c1, c2, c3, c4, z0, z1, z2, z3, z4⟩ := five hI1
 have HI1 := Lib.hid hI1
 have HE1 := Lib.hid hE1
 have HB1 := Lib.hid hB1
 clear hI1 hE1 hB1
 go_wp2_with fail
 refine (first B _ _ (HB1.out.setElse HN.out.symm 0 _) h1 y HY.out).mono ?_
 rintro e w2 ⟨rfl, hE2, hB2⟩
 have hI2 : Blk w2 w.heap.size #[.int .i64 5, .int .i64 0, .int .i64 0, .bool false, .string ByteArray.empty] 42 := by simpa using (HI1.out.set 0 (.int .i64 5)).kept hE2 HN.out
 clear c0 c1 c2 c3 c4 z0 z1 z2 z3 z4
 obtain ⟨c0, c1, c2, c3, c4, z0, z1, z2, z3, z4⟩ := five hI2
 have HI2 := Lib.hid hI2
 have HE2 := Lib.hid hE2
 have HB2 := Lib.hid hB2
 clear hI2 hE2 hB2
 go_wp2_with fail
 refine (rest_any B _ _ (HB2.out.setElse HN.out.symm 1 _) (by simp; omega)).mono ?_
 rintro e w3 ⟨rfl, hE3, hB3⟩
 have hI3 : Blk w3 w.heap.size #[.int .i64 5, .int .i64 y.toNat, .int .i64 0, .bool false, .string ByteArray.empty] 42 := by simpa using (HI2.out.set 1 (.int .i64 y.toNat)).kept hE3 HN.out
 clear c0 c1 c2 c3 c4 z0 z1 z2 z3 z4
 obtain ⟨c0, c1, c2, c3, c4, z0, z1, z2, z3, z4⟩ := five hI3
 have HI3 := Lib.hid hI3
 have HE3 := Lib.hid hE3
 have HB3 := Lib.hid hB3
 clear hI3 hE3 hB3
 go_wp2_with fail
 have hr : ByteArray.empty = ByteArray.empty := rfl
 refine (end_ok B _ _ (HB3.out.setElse HN.out.symm 4 _) hr).mono ?_
 rintro e w9 ⟨rfl, rfl⟩
 go_wp2_with fail
 refine bodyPost_ret (v := .agg #[.int .i64 5, .int .i64 y.toNat, .int .i64 0, .bool false, .string ((s.extract 1 s.size).extract 1 (s.extract 1 s.size).size)]) (res16 (I := w.heap.size) ?_ rfl) rfl ⟨rfl, ((((((((((((((Else.refl B w).alloc _).trans HE1.out).setNew (Nat.le_refl _) 0 _).trans HE2.out).setNew (Nat.le_refl _) 1 _).trans HE3.out).setNew (Nat.le_refl _) 4 _).setNew (Nat.le_refl _) 2 _).setNew (Nat.le_refl _) 0 _).setNew (Nat.le_refl _) 1 _).setNew (Nat.le_refl _) 2 _).setNew (Nat.le_refl _) 3 _).setNew (Nat.le_refl _) 4 _)⟩
 simpa using (((((((HI3.out.set 4 (.string ((s.extract 1 s.size).extract 1 (s.extract 1 s.size).size))).set 2 (.int .i64 0)).set 0 (.int .i64 5)).set 1 (.int .i64 y.toNat)).set 2 (.int .i64 0)).set 3 (.bool false)).set 4 (.string ((s.extract 1 s.size).extract 1 (s.extract 1 s.size).size)))
set_option maxHeartbeats 4000000 in
theorem input_2_short (B : Nat) (s : ByteArray) (w : World) (hB : Blk w B #[.string s] 106) (x : UInt8) (h0 : 0 < s.size) (hx : s.extract 0 1 = ⟨#[x]⟩) (hs2 : s.size ≤ 100000) (hk : x.toNat = 2) (h8 : (s.extract 1 s.size).size < 8) :
  Calls Try.prog 82 #[.pointer (some ⟨B, 0, none⟩)] w fun e w' => e = (Got.bad 3).ending ∧ Else B w w' := by
 have HI0 := Lib.hid (Blk.new w #[.int .i64 0, .int .i64 0, .int .i64 0, .bool false, .string ByteArray.empty] 42)
 have HB0 := Lib.hid (hB.alloc (.cells #[.int .i64 0, .int .i64 0, .int .i64 0, .bool false, .string ByteArray.empty] 42))
 have HN := Lib.hid (Nat.ne_of_gt hB.lt)
 clear hB
 have HX := Lib.hid hx
 clear hx
 have g0 : ∀ h, (⟨#[x]⟩ : ByteArray)[0]'h = x := fun _ => rfl
 go_enter Try.func82, Try.ntmps82
 go_wp2_with fail
 refine (first B s _ HB0.out h0 x HX.out).mono ?_
 rintro e w1 ⟨rfl, hE1, hB1⟩
 have hI1 : Blk w1 w.heap.size #[.int .i64 0, .int .i64 0, .int .i64 0, .bool false, .string ByteArray.empty] 42 := by simpa using HI0.out.kept hE1 HN.out
 skip
 obtain ⟨c0, c1, c2, c3, c4, z0, z1, z2, z3, z4⟩ := five hI1
 have HI1 := Lib.hid hI1
 have HE1 := Lib.hid hE1
 have HB1 := Lib.hid hB1
 clear hI1 hE1 hB1
 go_wp2_with fail
 refine (number_short B _ _ (HB1.out.setElse HN.out.symm 0 _) h8).mono ?_
 rintro e w9 ⟨he, rfl⟩
 rw [gives] at he
 subst he
 go_wp2_with fail
 exact ⟨rfl, rfl, ((((Else.refl B w).alloc _).trans HE1.out).setNew (Nat.le_refl _) 0 _)⟩
set_option maxHeartbeats 4000000 in
theorem input_2_bad (B : Nat) (s : ByteArray) (w : World) (hB : Blk w B #[.string s] 106) (x : UInt8) (h0 : 0 < s.size) (hx : s.extract 0 1 = ⟨#[x]⟩) (hs2 : s.size ≤ 100000) (N : Int) (hN : numP ((s.extract 1 s.size).extract 0 8) 8 = N) (wn0 : 0 ≤ N) (hk : x.toNat = 2) (h8 : 8 ≤ (s.extract 1 s.size).size) (hr : (s.extract 1 s.size).extract 8 (s.extract 1 s.size).size ≠ ByteArray.empty) :
  Calls Try.prog 82 #[.pointer (some ⟨B, 0, none⟩)] w fun e w' => e = (Got.bad 5).ending ∧ Else B w w' := by
 have HI0 := Lib.hid (Blk.new w #[.int .i64 0, .int .i64 0, .int .i64 0, .bool false, .string ByteArray.empty] 42)
 have HB0 := Lib.hid (hB.alloc (.cells #[.int .i64 0, .int .i64 0, .int .i64 0, .bool false, .string ByteArray.empty] 42))
 have HN := Lib.hid (Nat.ne_of_gt hB.lt)
 clear hB
 have HX := Lib.hid hx
 clear hx
 have g0 : ∀ h, (⟨#[x]⟩ : ByteArray)[0]'h = x := fun _ => rfl
 have HNN := Lib.hid hN
 clear hN
 go_enter Try.func82, Try.ntmps82
 go_wp2_with fail
 refine (first B s _ HB0.out h0 x HX.out).mono ?_
 rintro e w1 ⟨rfl, hE1, hB1⟩
 have hI1 : Blk w1 w.heap.size #[.int .i64 0, .int .i64 0, .int .i64 0, .bool false, .string ByteArray.empty] 42 := by simpa using HI0.out.kept hE1 HN.out
 skip
 obtain ⟨c0, c1, c2, c3, c4, z0, z1, z2, z3, z4⟩ := five hI1
 have HI1 := Lib.hid hI1
 have HE1 := Lib.hid hE1
 have HB1 := Lib.hid hB1
 clear hI1 hE1 hB1
 go_wp2_with fail
 refine (number_N B _ _ N HNN.out (HB1.out.setElse HN.out.symm 0 _) h8 (by simp; omega)).mono ?_
 rintro e w2 ⟨rfl, hE2, hB2⟩
 have hI2 : Blk w2 w.heap.size #[.int .i64 2, .int .i64 0, .int .i64 0, .bool false, .string ByteArray.empty] 42 := by simpa using (HI1.out.set 0 (.int .i64 2)).kept hE2 HN.out
 clear c0 c1 c2 c3 c4 z0 z1 z2 z3 z4
 obtain ⟨c0, c1, c2, c3, c4, z0, z1, z2, z3, z4⟩ := five hI2
 have HI2 := Lib.hid hI2
 have HE2 := Lib.hid hE2
 have HB2 := Lib.hid hB2
 clear hI2 hE2 hB2
 go_wp2_with fail
 refine (end_bad B _ _ HB2.out hr).mono ?_
 rintro e w9 ⟨he, rfl⟩
 rw [gives] at he
 subst he
 go_wp2_with fail
 exact ⟨rfl, rfl, (((((Else.refl B w).alloc _).trans HE1.out).setNew (Nat.le_refl _) 0 _).trans HE2.out)⟩
set_option maxHeartbeats 4000000 in
theorem input_2_arg (B : Nat) (s : ByteArray) (w : World) (hB : Blk w B #[.string s] 106) (x : UInt8) (h0 : 0 < s.size) (hx : s.extract 0 1 = ⟨#[x]⟩) (hs2 : s.size ≤ 100000) (N : Int) (hN : numP ((s.extract 1 s.size).extract 0 8) 8 = N) (wn0 : 0 ≤ N) (hk : x.toNat = 2) (h8 : 8 ≤ (s.extract 1 s.size).size) (hr : (s.extract 1 s.size).extract 8 (s.extract 1 s.size).size = ByteArray.empty) (hn : 1152921504606846976 < N) :
  Calls Try.prog 82 #[.pointer (some ⟨B, 0, none⟩)] w fun e w' => e = (Got.bad 2).ending ∧ Else B w w' := by
 have HI0 := Lib.hid (Blk.new w #[.int .i64 0, .int .i64 0, .int .i64 0, .bool false, .string ByteArray.empty] 42)
 have HB0 := Lib.hid (hB.alloc (.cells #[.int .i64 0, .int .i64 0, .int .i64 0, .bool false, .string ByteArray.empty] 42))
 have HN := Lib.hid (Nat.ne_of_gt hB.lt)
 clear hB
 have HX := Lib.hid hx
 clear hx
 have g0 : ∀ h, (⟨#[x]⟩ : ByteArray)[0]'h = x := fun _ => rfl
 have HNN := Lib.hid hN
 clear hN
 go_enter Try.func82, Try.ntmps82
 go_wp2_with fail
 refine (first B s _ HB0.out h0 x HX.out).mono ?_
 rintro e w1 ⟨rfl, hE1, hB1⟩
 have hI1 : Blk w1 w.heap.size #[.int .i64 0, .int .i64 0, .int .i64 0, .bool false, .string ByteArray.empty] 42 := by simpa using HI0.out.kept hE1 HN.out
 skip
 obtain ⟨c0, c1, c2, c3, c4, z0, z1, z2, z3, z4⟩ := five hI1
 have HI1 := Lib.hid hI1
 have HE1 := Lib.hid hE1
 have HB1 := Lib.hid hB1
 clear hI1 hE1 hB1
 go_wp2_with fail
 refine (number_N B _ _ N HNN.out (HB1.out.setElse HN.out.symm 0 _) h8 (by simp; omega)).mono ?_
 rintro e w2 ⟨rfl, hE2, hB2⟩
 have hI2 : Blk w2 w.heap.size #[.int .i64 2, .int .i64 0, .int .i64 0, .bool false, .string ByteArray.empty] 42 := by simpa using (HI1.out.set 0 (.int .i64 2)).kept hE2 HN.out
 clear c0 c1 c2 c3 c4 z0 z1 z2 z3 z4
 obtain ⟨c0, c1, c2, c3, c4, z0, z1, z2, z3, z4⟩ := five hI2
 have HI2 := Lib.hid hI2
 have HE2 := Lib.hid hE2
 have HB2 := Lib.hid hB2
 clear hI2 hE2 hB2
 go_wp2_with fail
 refine (end_ok B _ _ HB2.out hr).mono ?_
 rintro e w9 ⟨rfl, rfl⟩
 go_wp2_with fail
 exact ⟨rfl, rfl, (((((Else.refl B w).alloc _).trans HE1.out).setNew (Nat.le_refl _) 0 _).trans HE2.out)⟩
set_option maxHeartbeats 4000000 in
theorem input_2 (B : Nat) (s : ByteArray) (w : World) (hB : Blk w B #[.string s] 106) (x : UInt8) (h0 : 0 < s.size) (hx : s.extract 0 1 = ⟨#[x]⟩) (hs2 : s.size ≤ 100000) (N : Int) (hN : numP ((s.extract 1 s.size).extract 0 8) 8 = N) (wn0 : 0 ≤ N) (hk : x.toNat = 2) (h8 : 8 ≤ (s.extract 1 s.size).size) (hr : (s.extract 1 s.size).extract 8 (s.extract 1 s.size).size = ByteArray.empty) (hn : N ≤ 1152921504606846976) :
  Calls Try.prog 82 #[.pointer (some ⟨B, 0, none⟩)] w fun e w' => e = (Got.got 2 0 N false ByteArray.empty).ending ∧ Else B w w' := by
 have HI0 := Lib.hid (Blk.new w #[.int .i64 0, .int .i64 0, .int .i64 0, .bool false, .string ByteArray.empty] 42)
 have HB0 := Lib.hid (hB.alloc (.cells #[.int .i64 0, .int .i64 0, .int .i64 0, .bool false, .string ByteArray.empty] 42))
 have HN := Lib.hid (Nat.ne_of_gt hB.lt)
 clear hB
 have HX := Lib.hid hx
 clear hx
 have g0 : ∀ h, (⟨#[x]⟩ : ByteArray)[0]'h = x := fun _ => rfl
 have HNN := Lib.hid hN
 clear hN
 go_enter Try.func82, Try.ntmps82
 go_wp2_with fail
 refine (first B s _ HB0.out h0 x HX.out).mono ?_
 rintro e w1 ⟨rfl, hE1, hB1⟩
 have hI1 : Blk w1 w.heap.size #[.int .i64 0, .int .i64 0, .int .i64 0, .bool false, .string ByteArray.empty] 42 := by simpa using HI0.out.kept hE1 HN.out
 skip
 obtain ⟨c0, c1, c2, c3, c4, z0, z1, z2, z3, z4⟩ := five hI1
 have HI1 := Lib.hid hI1
 have HE1 := Lib.hid hE1
 have HB1 := Lib.hid hB1
 clear hI1 hE1 hB1
 go_wp2_with fail
 refine (number_N B _ _ N HNN.out (HB1.out.setElse HN.out.symm 0 _) h8 (by simp; omega)).mono ?_
 rintro e w2 ⟨rfl, hE2, hB2⟩
 have hI2 : Blk w2 w.heap.size #[.int .i64 2, .int .i64 0, .int .i64 0, .bool false, .string ByteArray.empty] 42 := by simpa using (HI1.out.set 0 (.int .i64 2)).kept hE2 HN.out
 clear c0 c1 c2 c3 c4 z0 z1 z2 z3 z4
 obtain ⟨c0, c1, c2, c3, c4, z0, z1, z2, z3, z4⟩ := five hI2
 have HI2 := Lib.hid hI2
 have HE2 := Lib.hid hE2
 have HB2 := Lib.hid hB2
 clear hI2 hE2 hB2
 go_wp2_with fail
 have hgt : (1152921504606846976 < N) = False := eq_false (by omega)
 have wn : wrap64 N = N := wrapN wn0 hn
 clear hn wn0
 refine (end_ok B _ _ HB2.out hr).mono ?_
 rintro e w9 ⟨rfl, rfl⟩
 go_wp2_with fail
 refine bodyPost_ret (v := .agg #[.int .i64 2, .int .i64 0, .int .i64 N, .bool false, .string ByteArray.empty]) (res16 (I := w.heap.size) ?_ rfl) rfl ⟨rfl, (((((((((((Else.refl B w).alloc _).trans HE1.out).setNew (Nat.le_refl _) 0 _).trans HE2.out).setNew (Nat.le_refl _) 2 _).setNew (Nat.le_refl _) 0 _).setNew (Nat.le_refl _) 1 _).setNew (Nat.le_refl _) 2 _).setNew (Nat.le_refl _) 3 _).setNew (Nat.le_refl _) 4 _)⟩
 simpa using ((((((HI2.out.set 2 (.int .i64 N)).set 0 (.int .i64 2)).set 1 (.int .i64 0)).set 2 (.int .i64 N)).set 3 (.bool false)).set 4 (.string ByteArray.empty))
set_option maxHeartbeats 4000000 in
theorem input_4_short (B : Nat) (s : ByteArray) (w : World) (hB : Blk w B #[.string s] 106) (x : UInt8) (h0 : 0 < s.size) (hx : s.extract 0 1 = ⟨#[x]⟩) (hs2 : s.size ≤ 100000) (hk : x.toNat = 4) (h8 : (s.extract 1 s.size).size < 8) :
  Calls Try.prog 82 #[.pointer (some ⟨B, 0, none⟩)] w fun e w' => e = (Got.bad 3).ending ∧ Else B w w' := by
 have HI0 := Lib.hid (Blk.new w #[.int .i64 0, .int .i64 0, .int .i64 0, .bool false, .string ByteArray.empty] 42)
 have HB0 := Lib.hid (hB.alloc (.cells #[.int .i64 0, .int .i64 0, .int .i64 0, .bool false, .string ByteArray.empty] 42))
 have HN := Lib.hid (Nat.ne_of_gt hB.lt)
 clear hB
 have HX := Lib.hid hx
 clear hx
 have g0 : ∀ h, (⟨#[x]⟩ : ByteArray)[0]'h = x := fun _ => rfl
 go_enter Try.func82, Try.ntmps82
 go_wp2_with fail
 refine (first B s _ HB0.out h0 x HX.out).mono ?_
 rintro e w1 ⟨rfl, hE1, hB1⟩
 have hI1 : Blk w1 w.heap.size #[.int .i64 0, .int .i64 0, .int .i64 0, .bool false, .string ByteArray.empty] 42 := by simpa using HI0.out.kept hE1 HN.out
 skip
 obtain ⟨c0, c1, c2, c3, c4, z0, z1, z2, z3, z4⟩ := five hI1
 have HI1 := Lib.hid hI1
 have HE1 := Lib.hid hE1
 have HB1 := Lib.hid hB1
 clear hI1 hE1 hB1
 go_wp2_with fail
 refine (number_short B _ _ (HB1.out.setElse HN.out.symm 0 _) h8).mono ?_
 rintro e w9 ⟨he, rfl⟩
 rw [gives] at he
 subst he
 go_wp2_with fail
 exact ⟨rfl, rfl, ((((Else.refl B w).alloc _).trans HE1.out).setNew (Nat.le_refl _) 0 _)⟩
set_option maxHeartbeats 4000000 in
theorem input_4_bad (B : Nat) (s : ByteArray) (w : World) (hB : Blk w B #[.string s] 106) (x : UInt8) (h0 : 0 < s.size) (hx : s.extract 0 1 = ⟨#[x]⟩) (hs2 : s.size ≤ 100000) (N : Int) (hN : numP ((s.extract 1 s.size).extract 0 8) 8 = N) (wn0 : 0 ≤ N) (hk : x.toNat = 4) (h8 : 8 ≤ (s.extract 1 s.size).size) (hr : (s.extract 1 s.size).extract 8 (s.extract 1 s.size).size ≠ ByteArray.empty) :
  Calls Try.prog 82 #[.pointer (some ⟨B, 0, none⟩)] w fun e w' => e = (Got.bad 5).ending ∧ Else B w w' := by
 have HI0 := Lib.hid (Blk.new w #[.int .i64 0, .int .i64 0, .int .i64 0, .bool false, .string ByteArray.empty] 42)
 have HB0 := Lib.hid (hB.alloc (.cells #[.int .i64 0, .int .i64 0, .int .i64 0, .bool false, .string ByteArray.empty] 42))
 have HN := Lib.hid (Nat.ne_of_gt hB.lt)
 clear hB
 have HX := Lib.hid hx
 clear hx
 have g0 : ∀ h, (⟨#[x]⟩ : ByteArray)[0]'h = x := fun _ => rfl
 have HNN := Lib.hid hN
 clear hN
 go_enter Try.func82, Try.ntmps82
 go_wp2_with fail
 refine (first B s _ HB0.out h0 x HX.out).mono ?_
 rintro e w1 ⟨rfl, hE1, hB1⟩
 have hI1 : Blk w1 w.heap.size #[.int .i64 0, .int .i64 0, .int .i64 0, .bool false, .string ByteArray.empty] 42 := by simpa using HI0.out.kept hE1 HN.out
 skip
 obtain ⟨c0, c1, c2, c3, c4, z0, z1, z2, z3, z4⟩ := five hI1
 have HI1 := Lib.hid hI1
 have HE1 := Lib.hid hE1
 have HB1 := Lib.hid hB1
 clear hI1 hE1 hB1
 go_wp2_with fail
 refine (number_N B _ _ N HNN.out (HB1.out.setElse HN.out.symm 0 _) h8 (by simp; omega)).mono ?_
 rintro e w2 ⟨rfl, hE2, hB2⟩
 have hI2 : Blk w2 w.heap.size #[.int .i64 4, .int .i64 0, .int .i64 0, .bool false, .string ByteArray.empty] 42 := by simpa using (HI1.out.set 0 (.int .i64 4)).kept hE2 HN.out
 clear c0 c1 c2 c3 c4 z0 z1 z2 z3 z4
 obtain ⟨c0, c1, c2, c3, c4, z0, z1, z2, z3, z4⟩ := five hI2
 have HI2 := Lib.hid hI2
 have HE2 := Lib.hid hE2
 have HB2 := Lib.hid hB2
 clear hI2 hE2 hB2
 go_wp2_with fail
 refine (end_bad B _ _ HB2.out hr).mono ?_
 rintro e w9 ⟨he, rfl⟩
 rw [gives] at he
 subst he
 go_wp2_with fail
 exact ⟨rfl, rfl, (((((Else.refl B w).alloc _).trans HE1.out).setNew (Nat.le_refl _) 0 _).trans HE2.out)⟩
set_option maxHeartbeats 4000000 in
theorem input_4_arg (B : Nat) (s : ByteArray) (w : World) (hB : Blk w B #[.string s] 106) (x : UInt8) (h0 : 0 < s.size) (hx : s.extract 0 1 = ⟨#[x]⟩) (hs2 : s.size ≤ 100000) (N : Int) (hN : numP ((s.extract 1 s.size).extract 0 8) 8 = N) (wn0 : 0 ≤ N) (hk : x.toNat = 4) (h8 : 8 ≤ (s.extract 1 s.size).size) (hr : (s.extract 1 s.size).extract 8 (s.extract 1 s.size).size = ByteArray.empty) (hn : 1152921504606846976 < N) :
  Calls Try.prog 82 #[.pointer (some ⟨B, 0, none⟩)] w fun e w' => e = (Got.bad 2).ending ∧ Else B w w' := by
 have HI0 := Lib.hid (Blk.new w #[.int .i64 0, .int .i64 0, .int .i64 0, .bool false, .string ByteArray.empty] 42)
 have HB0 := Lib.hid (hB.alloc (.cells #[.int .i64 0, .int .i64 0, .int .i64 0, .bool false, .string ByteArray.empty] 42))
 have HN := Lib.hid (Nat.ne_of_gt hB.lt)
 clear hB
 have HX := Lib.hid hx
 clear hx
 have g0 : ∀ h, (⟨#[x]⟩ : ByteArray)[0]'h = x := fun _ => rfl
 have HNN := Lib.hid hN
 clear hN
 go_enter Try.func82, Try.ntmps82
 go_wp2_with fail
 refine (first B s _ HB0.out h0 x HX.out).mono ?_
 rintro e w1 ⟨rfl, hE1, hB1⟩
 have hI1 : Blk w1 w.heap.size #[.int .i64 0, .int .i64 0, .int .i64 0, .bool false, .string ByteArray.empty] 42 := by simpa using HI0.out.kept hE1 HN.out
 skip
 obtain ⟨c0, c1, c2, c3, c4, z0, z1, z2, z3, z4⟩ := five hI1
 have HI1 := Lib.hid hI1
 have HE1 := Lib.hid hE1
 have HB1 := Lib.hid hB1
 clear hI1 hE1 hB1
 go_wp2_with fail
 refine (number_N B _ _ N HNN.out (HB1.out.setElse HN.out.symm 0 _) h8 (by simp; omega)).mono ?_
 rintro e w2 ⟨rfl, hE2, hB2⟩
 have hI2 : Blk w2 w.heap.size #[.int .i64 4, .int .i64 0, .int .i64 0, .bool false, .string ByteArray.empty] 42 := by simpa using (HI1.out.set 0 (.int .i64 4)).kept hE2 HN.out
 clear c0 c1 c2 c3 c4 z0 z1 z2 z3 z4
 obtain ⟨c0, c1, c2, c3, c4, z0, z1, z2, z3, z4⟩ := five hI2
 have HI2 := Lib.hid hI2
 have HE2 := Lib.hid hE2
 have HB2 := Lib.hid hB2
 clear hI2 hE2 hB2
 go_wp2_with fail
 refine (end_ok B _ _ HB2.out hr).mono ?_
 rintro e w9 ⟨rfl, rfl⟩
 go_wp2_with fail
 exact ⟨rfl, rfl, (((((Else.refl B w).alloc _).trans HE1.out).setNew (Nat.le_refl _) 0 _).trans HE2.out)⟩
set_option maxHeartbeats 4000000 in
theorem input_4 (B : Nat) (s : ByteArray) (w : World) (hB : Blk w B #[.string s] 106) (x : UInt8) (h0 : 0 < s.size) (hx : s.extract 0 1 = ⟨#[x]⟩) (hs2 : s.size ≤ 100000) (N : Int) (hN : numP ((s.extract 1 s.size).extract 0 8) 8 = N) (wn0 : 0 ≤ N) (hk : x.toNat = 4) (h8 : 8 ≤ (s.extract 1 s.size).size) (hr : (s.extract 1 s.size).extract 8 (s.extract 1 s.size).size = ByteArray.empty) (hn : N ≤ 1152921504606846976) :
  Calls Try.prog 82 #[.pointer (some ⟨B, 0, none⟩)] w fun e w' => e = (Got.got 4 0 N false ByteArray.empty).ending ∧ Else B w w' := by
 have HI0 := Lib.hid (Blk.new w #[.int .i64 0, .int .i64 0, .int .i64 0, .bool false, .string ByteArray.empty] 42)
 have HB0 := Lib.hid (hB.alloc (.cells #[.int .i64 0, .int .i64 0, .int .i64 0, .bool false, .string ByteArray.empty] 42))
 have HN := Lib.hid (Nat.ne_of_gt hB.lt)
 clear hB
 have HX := Lib.hid hx
 clear hx
 have g0 : ∀ h, (⟨#[x]⟩ : ByteArray)[0]'h = x := fun _ => rfl
 have HNN := Lib.hid hN
 clear hN
 go_enter Try.func82, Try.ntmps82
 go_wp2_with fail
 refine (first B s _ HB0.out h0 x HX.out).mono ?_
 rintro e w1 ⟨rfl, hE1, hB1⟩
 have hI1 : Blk w1 w.heap.size #[.int .i64 0, .int .i64 0, .int .i64 0, .bool false, .string ByteArray.empty] 42 := by simpa using HI0.out.kept hE1 HN.out
 skip
 obtain ⟨c0, c1, c2, c3, c4, z0, z1, z2, z3, z4⟩ := five hI1
 have HI1 := Lib.hid hI1
 have HE1 := Lib.hid hE1
 have HB1 := Lib.hid hB1
 clear hI1 hE1 hB1
 go_wp2_with fail
 refine (number_N B _ _ N HNN.out (HB1.out.setElse HN.out.symm 0 _) h8 (by simp; omega)).mono ?_
 rintro e w2 ⟨rfl, hE2, hB2⟩
 have hI2 : Blk w2 w.heap.size #[.int .i64 4, .int .i64 0, .int .i64 0, .bool false, .string ByteArray.empty] 42 := by simpa using (HI1.out.set 0 (.int .i64 4)).kept hE2 HN.out
 clear c0 c1 c2 c3 c4 z0 z1 z2 z3 z4
 obtain ⟨c0, c1, c2, c3, c4, z0, z1, z2, z3, z4⟩ := five hI2
 have HI2 := Lib.hid hI2
 have HE2 := Lib.hid hE2
 have HB2 := Lib.hid hB2
 clear hI2 hE2 hB2
 go_wp2_with fail
 have hgt : (1152921504606846976 < N) = False := eq_false (by omega)
 have wn : wrap64 N = N := wrapN wn0 hn
 clear hn wn0
 refine (end_ok B _ _ HB2.out hr).mono ?_
 rintro e w9 ⟨rfl, rfl⟩
 go_wp2_with fail
 refine bodyPost_ret (v := .agg #[.int .i64 4, .int .i64 0, .int .i64 N, .bool false, .string ByteArray.empty]) (res16 (I := w.heap.size) ?_ rfl) rfl ⟨rfl, (((((((((((Else.refl B w).alloc _).trans HE1.out).setNew (Nat.le_refl _) 0 _).trans HE2.out).setNew (Nat.le_refl _) 2 _).setNew (Nat.le_refl _) 0 _).setNew (Nat.le_refl _) 1 _).setNew (Nat.le_refl _) 2 _).setNew (Nat.le_refl _) 3 _).setNew (Nat.le_refl _) 4 _)⟩
 simpa using ((((((HI2.out.set 2 (.int .i64 N)).set 0 (.int .i64 4)).set 1 (.int .i64 0)).set 2 (.int .i64 N)).set 3 (.bool false)).set 4 (.string ByteArray.empty))
set_option maxHeartbeats 4000000 in
theorem input_3_short (B : Nat) (s : ByteArray) (w : World) (hB : Blk w B #[.string s] 106) (x : UInt8) (h0 : 0 < s.size) (hx : s.extract 0 1 = ⟨#[x]⟩) (hs2 : s.size ≤ 100000) (hk : x.toNat = 3) (h8 : (s.extract 1 s.size).size < 8) :
  Calls Try.prog 82 #[.pointer (some ⟨B, 0, none⟩)] w fun e w' => e = (Got.bad 3).ending ∧ Else B w w' := by
 have HI0 := Lib.hid (Blk.new w #[.int .i64 0, .int .i64 0, .int .i64 0, .bool false, .string ByteArray.empty] 42)
 have HB0 := Lib.hid (hB.alloc (.cells #[.int .i64 0, .int .i64 0, .int .i64 0, .bool false, .string ByteArray.empty] 42))
 have HN := Lib.hid (Nat.ne_of_gt hB.lt)
 clear hB
 have HX := Lib.hid hx
 clear hx
 have g0 : ∀ h, (⟨#[x]⟩ : ByteArray)[0]'h = x := fun _ => rfl
 go_enter Try.func82, Try.ntmps82
 go_wp2_with fail
 refine (first B s _ HB0.out h0 x HX.out).mono ?_
 rintro e w1 ⟨rfl, hE1, hB1⟩
 have hI1 : Blk w1 w.heap.size #[.int .i64 0, .int .i64 0, .int .i64 0, .bool false, .string ByteArray.empty] 42 := by simpa using HI0.out.kept hE1 HN.out
 skip
 obtain ⟨c0, c1, c2, c3, c4, z0, z1, z2, z3, z4⟩ := five hI1
 have HI1 := Lib.hid hI1
 have HE1 := Lib.hid hE1
 have HB1 := Lib.hid hB1
 clear hI1 hE1 hB1
 go_wp2_with fail
 refine (number_short B _ _ (HB1.out.setElse HN.out.symm 0 _) h8).mono ?_
 rintro e w9 ⟨he, rfl⟩
 rw [gives] at he
 subst he
 go_wp2_with fail
 exact ⟨rfl, rfl, ((((Else.refl B w).alloc _).trans HE1.out).setNew (Nat.le_refl _) 0 _)⟩
set_option maxHeartbeats 4000000 in
theorem input_3_short2 (B : Nat) (s : ByteArray) (w : World) (hB : Blk w B #[.string s] 106) (x : UInt8) (h0 : 0 < s.size) (hx : s.extract 0 1 = ⟨#[x]⟩) (hs2 : s.size ≤ 100000) (N : Int) (hN : numP ((s.extract 1 s.size).extract 0 8) 8 = N) (wn0 : 0 ≤ N) (hk : x.toNat = 3) (h8 : 8 ≤ (s.extract 1 s.size).size) (h9 : ((s.extract 1 s.size).extract 8 (s.extract 1 s.size).size).size < 1) :
  Calls Try.prog 82 #[.pointer (some ⟨B, 0, none⟩)] w fun e w' => e = (Got.bad 3).ending ∧ Else B w w' := by
 have HI0 := Lib.hid (Blk.new w #[.int .i64 0, .int .i64 0, .int .i64 0, .bool false, .string ByteArray.empty] 42)
 have HB0 := Lib.hid (hB.alloc (.cells #[.int .i64 0, .int .i64 0, .int .i64 0, .bool false, .string ByteArray.empty] 42))
 have HN := Lib.hid (Nat.ne_of_gt hB.lt)
 clear hB
 have HX := Lib.hid hx
 clear hx
 have g0 : ∀ h, (⟨#[x]⟩ : ByteArray)[0]'h = x := fun _ => rfl
 have HNN := Lib.hid hN
 clear hN
 go_enter Try.func82, Try.ntmps82
 go_wp2_with fail
 refine (first B s _ HB0.out h0 x HX.out).mono ?_
 rintro e w1 ⟨rfl, hE1, hB1⟩
 have hI1 : Blk w1 w.heap.size #[.int .i64 0, .int .i64 0, .int .i64 0, .bool false, .string ByteArray.empty] 42 := by simpa using HI0.out.kept hE1 HN.out
 skip
 obtain ⟨c0, c1, c2, c3, c4, z0, z1, z2, z3, z4⟩ := five hI1
 have HI1 := Lib.hid hI1
 have HE1 := Lib.hid hE1
 have HB1 := Lib.hid hB1
 clear hI1 hE1 hB1
 go_wp2_with fail
 refine (number_N B _ _ N HNN.out (HB1.out.setElse HN.out.symm 0 _) h8 (by simp; omega)).mono ?_
 rintro e w2 ⟨rfl, hE2, hB2⟩
 have hI2 : Blk w2 w.heap.size #[.int .i64 3, .int .i64 0, .int .i64 0, .bool false, .string ByteArray.empty] 42 := by simpa using (HI1.out.set 0 (.int .i64 3)).kept hE2 HN.out
 clear c0 c1 c2 c3 c4 z0 z1 z2 z3 z4
 obtain ⟨c0, c1, c2, c3, c4, z0, z1, z2, z3, z4⟩ := five hI2
 have HI2 := Lib.hid hI2
 have HE2 := Lib.hid hE2
 have HB2 := Lib.hid hB2
 clear hI2 hE2 hB2
 go_wp2_with fail
 refine (take_short B _ 1 _ HB2.out (by omega)).mono ?_
 rintro e w9 ⟨he, rfl⟩
 rw [gives] at he
 subst he
 go_wp2_with fail
 exact ⟨rfl, rfl, (((((Else.refl B w).alloc _).trans HE1.out).setNew (Nat.le_refl _) 0 _).trans HE2.out)⟩
set_option maxHeartbeats 4000000 in
theorem input_3_flag (B : Nat) (s : ByteArray) (w : World) (hB : Blk w B #[.string s] 106) (x : UInt8) (h0 : 0 < s.size) (hx : s.extract 0 1 = ⟨#[x]⟩) (hs2 : s.size ≤ 100000) (N : Int) (hN : numP ((s.extract 1 s.size).extract 0 8) 8 = N) (wn0 : 0 ≤ N) (hk : x.toNat = 3) (h8 : 8 ≤ (s.extract 1 s.size).size) (h9 : 0 < ((s.extract 1 s.size).extract 8 (s.extract 1 s.size).size).size) (y : UInt8) (hy : ((s.extract 1 s.size).extract 8 (s.extract 1 s.size).size).extract 0 1 = ⟨#[y]⟩) (hf : 1 < (y.toNat : Int)) :
  Calls Try.prog 82 #[.pointer (some ⟨B, 0, none⟩)] w fun e w' => e = (Got.bad 5).ending ∧ Else B w w' := by
 have HI0 := Lib.hid (Blk.new w #[.int .i64 0, .int .i64 0, .int .i64 0, .bool false, .string ByteArray.empty] 42)
 have HB0 := Lib.hid (hB.alloc (.cells #[.int .i64 0, .int .i64 0, .int .i64 0, .bool false, .string ByteArray.empty] 42))
 have HN := Lib.hid (Nat.ne_of_gt hB.lt)
 clear hB
 have HX := Lib.hid hx
 clear hx
 have g0 : ∀ h, (⟨#[x]⟩ : ByteArray)[0]'h = x := fun _ => rfl
 have HNN := Lib.hid hN
 clear hN
 have g1 : ∀ h, (⟨#[y]⟩ : ByteArray)[0]'h = y := fun _ => rfl
 have HY := Lib.hid hy
 clear hy
 go_enter Try.func82, Try.ntmps82
 go_wp2_with fail
 refine (first B s _ HB0.out h0 x HX.out).mono ?_
 rintro e w1 ⟨rfl, hE1, hB1⟩
 have hI1 : Blk w1 w.heap.size #[.int .i64 0, .int .i64 0, .int .i64 0, .bool false, .string ByteArray.empty] 42 := by simpa using HI0.out.kept hE1 HN.out
 skip
 obtain ⟨c0, c1, c2, c3, c4, z0, z1, z2, z3, z4⟩ := five hI1
 have HI1 := Lib.hid hI1
 have HE1 := Lib.hid hE1
 have HB1 := Lib.hid hB1
 clear hI1 hE1 hB1
 go_wp2_with fail
 refine (number_N B _ _ N HNN.out (HB1.out.setElse HN.out.symm 0 _) h8 (by simp; omega)).mono ?_
 rintro e w2 ⟨rfl, hE2, hB2⟩
 have hI2 : Blk w2 w.heap.size #[.int .i64 3, .int .i64 0, .int .i64 0, .bool false, .string ByteArray.empty] 42 := by simpa using (HI1.out.set 0 (.int .i64 3)).kept hE2 HN.out
 clear c0 c1 c2 c3 c4 z0 z1 z2 z3 z4
 obtain ⟨c0, c1, c2, c3, c4, z0, z1, z2, z3, z4⟩ := five hI2
 have HI2 := Lib.hid hI2
 have HE2 := Lib.hid hE2
 have HB2 := Lib.hid hB2
 clear hI2 hE2 hB2
 go_wp2_with fail
 refine (first B _ _ HB2.out h9 y HY.out).mono ?_
 rintro e w3 ⟨rfl, hE3, hB3⟩
 have hI3 : Blk w3 w.heap.size #[.int .i64 3, .int .i64 0, .int .i64 0, .bool false, .string ByteArray.empty] 42 := by simpa using HI2.out.kept hE3 HN.out
 clear c0 c1 c2 c3 c4 z0 z1 z2 z3 z4
 obtain ⟨c0, c1, c2, c3, c4, z0, z1, z2, z3, z4⟩ := five hI3
 have HI3 := Lib.hid hI3
 have HE3 := Lib.hid hE3
 have HB3 := Lib.hid hB3
 clear hI3 hE3 hB3
 go_wp2_with fail
 exact ⟨rfl, rfl, ((((((Else.refl B w).alloc _).trans HE1.out).setNew (Nat.le_refl _) 0 _).trans HE2.out).trans HE3.out)⟩
set_option maxHeartbeats 4000000 in
theorem input_3_0_bad (B : Nat) (s : ByteArray) (w : World) (hB : Blk w B #[.string s] 106) (x : UInt8) (h0 : 0 < s.size) (hx : s.extract 0 1 = ⟨#[x]⟩) (hs2 : s.size ≤ 100000) (N : Int) (hN : numP ((s.extract 1 s.size).extract 0 8) 8 = N) (wn0 : 0 ≤ N) (hk : x.toNat = 3) (h8 : 8 ≤ (s.extract 1 s.size).size) (h9 : 0 < ((s.extract 1 s.size).extract 8 (s.extract 1 s.size).size).size) (y : UInt8) (hy : ((s.extract 1 s.size).extract 8 (s.extract 1 s.size).size).extract 0 1 = ⟨#[y]⟩) (hf : y.toNat = 0) (hr : (((s.extract 1 s.size).extract 8 (s.extract 1 s.size).size).extract 1 ((s.extract 1 s.size).extract 8 (s.extract 1 s.size).size).size) ≠ ByteArray.empty) :
  Calls Try.prog 82 #[.pointer (some ⟨B, 0, none⟩)] w fun e w' => e = (Got.bad 5).ending ∧ Else B w w' := by
 have HI0 := Lib.hid (Blk.new w #[.int .i64 0, .int .i64 0, .int .i64 0, .bool false, .string ByteArray.empty] 42)
 have HB0 := Lib.hid (hB.alloc (.cells #[.int .i64 0, .int .i64 0, .int .i64 0, .bool false, .string ByteArray.empty] 42))
 have HN := Lib.hid (Nat.ne_of_gt hB.lt)
 clear hB
 have HX := Lib.hid hx
 clear hx
 have g0 : ∀ h, (⟨#[x]⟩ : ByteArray)[0]'h = x := fun _ => rfl
 have HNN := Lib.hid hN
 clear hN
 have g1 : ∀ h, (⟨#[y]⟩ : ByteArray)[0]'h = y := fun _ => rfl
 have HY := Lib.hid hy
 clear hy
 go_enter Try.func82, Try.ntmps82
 go_wp2_with fail
 refine (first B s _ HB0.out h0 x HX.out).mono ?_
 rintro e w1 ⟨rfl, hE1, hB1⟩
 have hI1 : Blk w1 w.heap.size #[.int .i64 0, .int .i64 0, .int .i64 0, .bool false, .string ByteArray.empty] 42 := by simpa using HI0.out.kept hE1 HN.out
 skip
 obtain ⟨c0, c1, c2, c3, c4, z0, z1, z2, z3, z4⟩ := five hI1
 have HI1 := Lib.hid hI1
 have HE1 := Lib.hid hE1
 have HB1 := Lib.hid hB1
 clear hI1 hE1 hB1
 go_wp2_with fail
 refine (number_N B _ _ N HNN.out (HB1.out.setElse HN.out.symm 0 _) h8 (by simp; omega)).mono ?_
 rintro e w2 ⟨rfl, hE2, hB2⟩
 have hI2 : Blk w2 w.heap.size #[.int .i64 3, .int .i64 0, .int .i64 0, .bool false, .string ByteArray.empty] 42 := by simpa using (HI1.out.set 0 (.int .i64 3)).kept hE2 HN.out
 clear c0 c1 c2 c3 c4 z0 z1 z2 z3 z4
 obtain ⟨c0, c1, c2, c3, c4, z0, z1, z2, z3, z4⟩ := five hI2
 have HI2 := Lib.hid hI2
 have HE2 := Lib.hid hE2
 have HB2 := Lib.hid hB2
 clear hI2 hE2 hB2
 go_wp2_with fail
 refine (first B _ _ HB2.out h9 y HY.out).mono ?_
 rintro e w3 ⟨rfl, hE3, hB3⟩
 have hI3 : Blk w3 w.heap.size #[.int .i64 3, .int .i64 0, .int .i64 0, .bool false, .string ByteArray.empty] 42 := by simpa using HI2.out.kept hE3 HN.out
 clear c0 c1 c2 c3 c4 z0 z1 z2 z3 z4
 obtain ⟨c0, c1, c2, c3, c4, z0, z1, z2, z3, z4⟩ := five hI3
 have HI3 := Lib.hid hI3
 have HE3 := Lib.hid hE3
 have HB3 := Lib.hid hB3
 clear hI3 hE3 hB3
 go_wp2_with fail
 refine (end_bad B _ _ (HB3.out.setElse HN.out.symm 3 _) hr).mono ?_
 rintro e w9 ⟨he, rfl⟩
 rw [gives] at he
 subst he
 go_wp2_with fail
 exact ⟨rfl, rfl, (((((((Else.refl B w).alloc _).trans HE1.out).setNew (Nat.le_refl _) 0 _).trans HE2.out).trans HE3.out).setNew (Nat.le_refl _) 3 _)⟩
set_option maxHeartbeats 4000000 in
theorem input_3_0_arg (B : Nat) (s : ByteArray) (w : World) (hB : Blk w B #[.string s] 106) (x : UInt8) (h0 : 0 < s.size) (hx : s.extract 0 1 = ⟨#[x]⟩) (hs2 : s.size ≤ 100000) (N : Int) (hN : numP ((s.extract 1 s.size).extract 0 8) 8 = N) (wn0 : 0 ≤ N) (hk : x.toNat = 3) (h8 : 8 ≤ (s.extract 1 s.size).size) (h9 : 0 < ((s.extract 1 s.size).extract 8 (s.extract 1 s.size).size).size) (y : UInt8) (hy : ((s.extract 1 s.size).extract 8 (s.extract 1 s.size).size).extract 0 1 = ⟨#[y]⟩) (hf : y.toNat = 0) (hr : (((s.extract 1 s.size).extract 8 (s.extract 1 s.size).size).extract 1 ((s.extract 1 s.size).extract 8 (s.extract 1 s.size).size).size) = ByteArray.empty) (hn : 1152921504606846976 < N) :
  Calls Try.prog 82 #[.pointer (some ⟨B, 0, none⟩)] w fun e w' => e = (Got.bad 2).ending ∧ Else B w w' := by
 have HI0 := Lib.hid (Blk.new w #[.int .i64 0, .int .i64 0, .int .i64 0, .bool false, .string ByteArray.empty] 42)
 have HB0 := Lib.hid (hB.alloc (.cells #[.int .i64 0, .int .i64 0, .int .i64 0, .bool false, .string ByteArray.empty] 42))
 have HN := Lib.hid (Nat.ne_of_gt hB.lt)
 clear hB
 have HX := Lib.hid hx
 clear hx
 have g0 : ∀ h, (⟨#[x]⟩ : ByteArray)[0]'h = x := fun _ => rfl
 have HNN := Lib.hid hN
 clear hN
 have g1 : ∀ h, (⟨#[y]⟩ : ByteArray)[0]'h = y := fun _ => rfl
 have HY := Lib.hid hy
 clear hy
 go_enter Try.func82, Try.ntmps82
 go_wp2_with fail
 refine (first B s _ HB0.out h0 x HX.out).mono ?_
 rintro e w1 ⟨rfl, hE1, hB1⟩
 have hI1 : Blk w1 w.heap.size #[.int .i64 0, .int .i64 0, .int .i64 0, .bool false, .string ByteArray.empty] 42 := by simpa using HI0.out.kept hE1 HN.out
 skip
 obtain ⟨c0, c1, c2, c3, c4, z0, z1, z2, z3, z4⟩ := five hI1
 have HI1 := Lib.hid hI1
 have HE1 := Lib.hid hE1
 have HB1 := Lib.hid hB1
 clear hI1 hE1 hB1
 go_wp2_with fail
 refine (number_N B _ _ N HNN.out (HB1.out.setElse HN.out.symm 0 _) h8 (by simp; omega)).mono ?_
 rintro e w2 ⟨rfl, hE2, hB2⟩
 have hI2 : Blk w2 w.heap.size #[.int .i64 3, .int .i64 0, .int .i64 0, .bool false, .string ByteArray.empty] 42 := by simpa using (HI1.out.set 0 (.int .i64 3)).kept hE2 HN.out
 clear c0 c1 c2 c3 c4 z0 z1 z2 z3 z4
 obtain ⟨c0, c1, c2, c3, c4, z0, z1, z2, z3, z4⟩ := five hI2
 have HI2 := Lib.hid hI2
 have HE2 := Lib.hid hE2
 have HB2 := Lib.hid hB2
 clear hI2 hE2 hB2
 go_wp2_with fail
 refine (first B _ _ HB2.out h9 y HY.out).mono ?_
 rintro e w3 ⟨rfl, hE3, hB3⟩
 have hI3 : Blk w3 w.heap.size #[.int .i64 3, .int .i64 0, .int .i64 0, .bool false, .string ByteArray.empty] 42 := by simpa using HI2.out.kept hE3 HN.out
 clear c0 c1 c2 c3 c4 z0 z1 z2 z3 z4
 obtain ⟨c0, c1, c2, c3, c4, z0, z1, z2, z3, z4⟩ := five hI3
 have HI3 := Lib.hid hI3
 have HE3 := Lib.hid hE3
 have HB3 := Lib.hid hB3
 clear hI3 hE3 hB3
 go_wp2_with fail
 refine (end_ok B _ _ (HB3.out.setElse HN.out.symm 3 _) hr).mono ?_
 rintro e w9 ⟨rfl, rfl⟩
 go_wp2_with fail
 exact ⟨rfl, rfl, (((((((Else.refl B w).alloc _).trans HE1.out).setNew (Nat.le_refl _) 0 _).trans HE2.out).trans HE3.out).setNew (Nat.le_refl _) 3 _)⟩
set_option maxHeartbeats 4000000 in
theorem input_3_0 (B : Nat) (s : ByteArray) (w : World) (hB : Blk w B #[.string s] 106) (x : UInt8) (h0 : 0 < s.size) (hx : s.extract 0 1 = ⟨#[x]⟩) (hs2 : s.size ≤ 100000) (N : Int) (hN : numP ((s.extract 1 s.size).extract 0 8) 8 = N) (wn0 : 0 ≤ N) (hk : x.toNat = 3) (h8 : 8 ≤ (s.extract 1 s.size).size) (h9 : 0 < ((s.extract 1 s.size).extract 8 (s.extract 1 s.size).size).size) (y : UInt8) (hy : ((s.extract 1 s.size).extract 8 (s.extract 1 s.size).size).extract 0 1 = ⟨#[y]⟩) (hf : y.toNat = 0) (hr : (((s.extract 1 s.size).extract 8 (s.extract 1 s.size).size).extract 1 ((s.extract 1 s.size).extract 8 (s.extract 1 s.size).size).size) = ByteArray.empty) (hn : N ≤ 1152921504606846976) :
  Calls Try.prog 82 #[.pointer (some ⟨B, 0, none⟩)] w fun e w' => e = (Got.got 3 0 N false ByteArray.empty).ending ∧ Else B w w' := by
 have HI0 := Lib.hid (Blk.new w #[.int .i64 0, .int .i64 0, .int .i64 0, .bool false, .string ByteArray.empty] 42)
 have HB0 := Lib.hid (hB.alloc (.cells #[.int .i64 0, .int .i64 0, .int .i64 0, .bool false, .string ByteArray.empty] 42))
 have HN := Lib.hid (Nat.ne_of_gt hB.lt)
 clear hB
 have HX := Lib.hid hx
 clear hx
 have g0 : ∀ h, (⟨#[x]⟩ : ByteArray)[0]'h = x := fun _ => rfl
 have HNN := Lib.hid hN
 clear hN
 have g1 : ∀ h, (⟨#[y]⟩ : ByteArray)[0]'h = y := fun _ => rfl
 have HY := Lib.hid hy
 clear hy
 go_enter Try.func82, Try.ntmps82
 go_wp2_with fail
 refine (first B s _ HB0.out h0 x HX.out).mono ?_
 rintro e w1 ⟨rfl, hE1, hB1⟩
 have hI1 : Blk w1 w.heap.size #[.int .i64 0, .int .i64 0, .int .i64 0, .bool false, .string ByteArray.empty] 42 := by simpa using HI0.out.kept hE1 HN.out
 skip
 obtain ⟨c0, c1, c2, c3, c4, z0, z1, z2, z3, z4⟩ := five hI1
 have HI1 := Lib.hid hI1
 have HE1 := Lib.hid hE1
 have HB1 := Lib.hid hB1
 clear hI1 hE1 hB1
 go_wp2_with fail
 skip
 refine (number_N B _ _ N HNN.out (HB1.out.setElse HN.out.symm 0 _) h8 (by simp; omega)).mono ?_
 rintro e w2 ⟨rfl, hE2, hB2⟩
 have hI2 : Blk w2 w.heap.size #[.int .i64 3, .int .i64 0, .int .i64 0, .bool false, .string ByteArray.empty] 42 := by simpa using (HI1.out.set 0 (.int .i64 3)).kept hE2 HN.out
 clear c0 c1 c2 c3 c4 z0 z1 z2 z3 z4
 obtain ⟨c0, c1, c2, c3, c4, z0, z1, z2, z3, z4⟩ := five hI2
 have HI2 := Lib.hid hI2
 have HE2 := Lib.hid hE2
 have HB2 := Lib.hid hB2
 clear hI2 hE2 hB2
 go_wp2_with fail
 refine (first B _ _ HB2.out h9 y HY.out).mono ?_
 rintro e w3 ⟨rfl, hE3, hB3⟩
 have hI3 : Blk w3 w.heap.size #[.int .i64 3, .int .i64 0, .int .i64 0, .bool false, .string ByteArray.empty] 42 := by simpa using HI2.out.kept hE3 HN.out
 clear c0 c1 c2 c3 c4 z0 z1 z2 z3 z4
 obtain ⟨c0, c1, c2, c3, c4, z0, z1, z2, z3, z4⟩ := five hI3
 have HI3 := Lib.hid hI3
 have HE3 := Lib.hid hE3
 have HB3 := Lib.hid hB3
 clear hI3 hE3 hB3
 go_wp2_with fail
 have hgt : (1152921504606846976 < N) = False := eq_false (by omega)
 have wn : wrap64 N = N := wrapN wn0 hn
 clear hn wn0
 refine (end_ok B _ _ (HB3.out.setElse HN.out.symm 3 _) hr).mono ?_
 rintro e w9 ⟨rfl, rfl⟩
 go_wp2_with fail
 refine bodyPost_ret (v := .agg #[.int .i64 3, .int .i64 0, .int .i64 N, .bool false, .string ByteArray.empty]) (res16 (I := w.heap.size) ?_ rfl) rfl ⟨rfl, (((((((((((((Else.refl B w).alloc _).trans HE1.out).setNew (Nat.le_refl _) 0 _).trans HE2.out).trans HE3.out).setNew (Nat.le_refl _) 3 _).setNew (Nat.le_refl _) 2 _).setNew (Nat.le_refl _) 0 _).setNew (Nat.le_refl _) 1 _).setNew (Nat.le_refl _) 2 _).setNew (Nat.le_refl _) 3 _).setNew (Nat.le_refl _) 4 _)⟩
 simpa using (((((((HI3.out.set 3 (.bool false)).set 2 (.int .i64 N)).set 0 (.int .i64 3)).set 1 (.int .i64 0)).set 2 (.int .i64 N)).set 3 (.bool false)).set 4 (.string ByteArray.empty))
set_option maxHeartbeats 4000000 in
theorem input_3_1_bad (B : Nat) (s : ByteArray) (w : World) (hB : Blk w B #[.string s] 106) (x : UInt8) (h0 : 0 < s.size) (hx : s.extract 0 1 = ⟨#[x]⟩) (hs2 : s.size ≤ 100000) (N : Int) (hN : numP ((s.extract 1 s.size).extract 0 8) 8 = N) (wn0 : 0 ≤ N) (hk : x.toNat = 3) (h8 : 8 ≤ (s.extract 1 s.size).size) (h9 : 0 < ((s.extract 1 s.size).extract 8 (s.extract 1 s.size).size).size) (y : UInt8) (hy : ((s.extract 1 s.size).extract 8 (s.extract 1 s.size).size).extract 0 1 = ⟨#[y]⟩) (hf : y.toNat = 1) (hr : (((s.extract 1 s.size).extract 8 (s.extract 1 s.size).size).extract 1 ((s.extract 1 s.size).extract 8 (s.extract 1 s.size).size).size) ≠ ByteArray.empty) :
  Calls Try.prog 82 #[.pointer (some ⟨B, 0, none⟩)] w fun e w' => e = (Got.bad 5).ending ∧ Else B w w' := by
 have HI0 := Lib.hid (Blk.new w #[.int .i64 0, .int .i64 0, .int .i64 0, .bool false, .string ByteArray.empty] 42)
 have HB0 := Lib.hid (hB.alloc (.cells #[.int .i64 0, .int .i64 0, .int .i64 0, .bool false, .string ByteArray.empty] 42))
 have HN := Lib.hid (Nat.ne_of_gt hB.lt)
 clear hB
 have HX := Lib.hid hx
 clear hx
 have g0 : ∀ h, (⟨#[x]⟩ : ByteArray)[0]'h = x := fun _ => rfl
 have HNN := Lib.hid hN
 clear hN
 have g1 : ∀ h, (⟨#[y]⟩ : ByteArray)[0]'h = y := fun _ => rfl
 have HY := Lib.hid hy
 clear hy
 go_enter Try.func82, Try.ntmps82
 go_wp2_with fail
 refine (first B s _ HB0.out h0 x HX.out).mono ?_
 rintro e w1 ⟨rfl, hE1, hB1⟩
 have hI1 : Blk w1 w.heap.size #[.int .i64 0, .int .i64 0, .int .i64 0, .bool false, .string ByteArray.empty] 42 := by simpa using HI0.out.kept hE1 HN.out
 skip
 obtain ⟨c0, c1, c2, c3, c4, z0, z1, z2, z3, z4⟩ := five hI1
 have HI1 := Lib.hid hI1
 have HE1 := Lib.hid hE1
 have HB1 := Lib.hid hB1
 clear hI1 hE1 hB1
 go_wp2_with fail
 refine (number_N B _ _ N HNN.out (HB1.out.setElse HN.out.symm 0 _) h8 (by simp; omega)).mono ?_
 rintro e w2 ⟨rfl, hE2, hB2⟩
 have hI2 : Blk w2 w.heap.size #[.int .i64 3, .int .i64 0, .int .i64 0, .bool false, .string ByteArray.empty] 42 := by simpa using (HI1.out.set 0 (.int .i64 3)).kept hE2 HN.out
 clear c0 c1 c2 c3 c4 z0 z1 z2 z3 z4
 obtain ⟨c0, c1, c2, c3, c4, z0, z1, z2, z3, z4⟩ := five hI2
 have HI2 := Lib.hid hI2
 have HE2 := Lib.hid hE2
 have HB2 := Lib.hid hB2
 clear hI2 hE2 hB2
 go_wp2_with fail
 refine (first B _ _ HB2.out h9 y HY.out).mono ?_
 rintro e w3 ⟨rfl, hE3, hB3⟩
 have hI3 : Blk w3 w.heap.size #[.int .i64 3, .int .i64 0, .int .i64 0, .bool false, .string ByteArray.empty] 42 := by simpa using HI2.out.kept hE3 HN.out
 clear c0 c1 c2 c3 c4 z0 z1 z2 z3 z4
 obtain ⟨c0, c1, c2, c3, c4, z0, z1, z2, z3, z4⟩ := five hI3
 have HI3 := Lib.hid hI3
 have HE3 := Lib.hid hE3
 have HB3 := Lib.hid hB3
 clear hI3 hE3 hB3
 go_wp2_with fail
 refine (end_bad B _ _ (HB3.out.setElse HN.out.symm 3 _) hr).mono ?_
 rintro e w9 ⟨he, rfl⟩
 rw [gives] at he
 subst he
 go_wp2_with fail
 exact ⟨rfl, rfl, (((((((Else.refl B w).alloc _).trans HE1.out).setNew (Nat.le_refl _) 0 _).trans HE2.out).trans HE3.out).setNew (Nat.le_refl _) 3 _)⟩
set_option maxHeartbeats 4000000 in
theorem input_3_1_arg (B : Nat) (s : ByteArray) (w : World) (hB : Blk w B #[.string s] 106) (x : UInt8) (h0 : 0 < s.size) (hx : s.extract 0 1 = ⟨#[x]⟩) (hs2 : s.size ≤ 100000) (N : Int) (hN : numP ((s.extract 1 s.size).extract 0 8) 8 = N) (wn0 : 0 ≤ N) (hk : x.toNat = 3) (h8 : 8 ≤ (s.extract 1 s.size).size) (h9 : 0 < ((s.extract 1 s.size).extract 8 (s.extract 1 s.size).size).size) (y : UInt8) (hy : ((s.extract 1 s.size).extract 8 (s.extract 1 s.size).size).extract 0 1 = ⟨#[y]⟩) (hf : y.toNat = 1) (hr : (((s.extract 1 s.size).extract 8 (s.extract 1 s.size).size).extract 1 ((s.extract 1 s.size).extract 8 (s.extract 1 s.size).size).size) = ByteArray.empty) (hn : 1152921504606846976 < N) :
  Calls Try.prog 82 #[.pointer (some ⟨B, 0, none⟩)] w fun e w' => e = (Got.bad 2).ending ∧ Else B w w' := by
 have HI0 := Lib.hid (Blk.new w #[.int .i64 0, .int .i64 0, .int .i64 0, .bool false, .string ByteArray.empty] 42)
 have HB0 := Lib.hid (hB.alloc (.cells #[.int .i64 0, .int .i64 0, .int .i64 0, .bool false, .string ByteArray.empty] 42))
 have HN := Lib.hid (Nat.ne_of_gt hB.lt)
 clear hB
 have HX := Lib.hid hx
 clear hx
 have g0 : ∀ h, (⟨#[x]⟩ : ByteArray)[0]'h = x := fun _ => rfl
 have HNN := Lib.hid hN
 clear hN
 have g1 : ∀ h, (⟨#[y]⟩ : ByteArray)[0]'h = y := fun _ => rfl
 have HY := Lib.hid hy
 clear hy
 go_enter Try.func82, Try.ntmps82
 go_wp2_with fail
 refine (first B s _ HB0.out h0 x HX.out).mono ?_
 rintro e w1 ⟨rfl, hE1, hB1⟩
 have hI1 : Blk w1 w.heap.size #[.int .i64 0, .int .i64 0, .int .i64 0, .bool false, .string ByteArray.empty] 42 := by simpa using HI0.out.kept hE1 HN.out
 skip
 obtain ⟨c0, c1, c2, c3, c4, z0, z1, z2, z3, z4⟩ := five hI1
 have HI1 := Lib.hid hI1
 have HE1 := Lib.hid hE1
 have HB1 := Lib.hid hB1
 clear hI1 hE1 hB1
 go_wp2_with fail
 refine (number_N B _ _ N HNN.out (HB1.out.setElse HN.out.symm 0 _) h8 (by simp; omega)).mono ?_
 rintro e w2 ⟨rfl, hE2, hB2⟩
 have hI2 : Blk w2 w.heap.size #[.int .i64 3, .int .i64 0, .int .i64 0, .bool false, .string ByteArray.empty] 42 := by simpa using (HI1.out.set 0 (.int .i64 3)).kept hE2 HN.out
 clear c0 c1 c2 c3 c4 z0 z1 z2 z3 z4
 obtain ⟨c0, c1, c2, c3, c4, z0, z1, z2, z3, z4⟩ := five hI2
 have HI2 := Lib.hid hI2
 have HE2 := Lib.hid hE2
 have HB2 := Lib.hid hB2
 clear hI2 hE2 hB2
 go_wp2_with fail
 refine (first B _ _ HB2.out h9 y HY.out).mono ?_
 rintro e w3 ⟨rfl, hE3, hB3⟩
 have hI3 : Blk w3 w.heap.size #[.int .i64 3, .int .i64 0, .int .i64 0, .bool false, .string ByteArray.empty] 42 := by simpa using HI2.out.kept hE3 HN.out
 clear c0 c1 c2 c3 c4 z0 z1 z2 z3 z4
 obtain ⟨c0, c1, c2, c3, c4, z0, z1, z2, z3, z4⟩ := five hI3
 have HI3 := Lib.hid hI3
 have HE3 := Lib.hid hE3
 have HB3 := Lib.hid hB3
 clear hI3 hE3 hB3
 go_wp2_with fail
 refine (end_ok B _ _ (HB3.out.setElse HN.out.symm 3 _) hr).mono ?_
 rintro e w9 ⟨rfl, rfl⟩
 go_wp2_with fail
 exact ⟨rfl, rfl, (((((((Else.refl B w).alloc _).trans HE1.out).setNew (Nat.le_refl _) 0 _).trans HE2.out).trans HE3.out).setNew (Nat.le_refl _) 3 _)⟩
set_option maxHeartbeats 4000000 in
theorem input_3_1 (B : Nat) (s : ByteArray) (w : World) (hB : Blk w B #[.string s] 106) (x : UInt8) (h0 : 0 < s.size) (hx : s.extract 0 1 = ⟨#[x]⟩) (hs2 : s.size ≤ 100000) (N : Int) (hN : numP ((s.extract 1 s.size).extract 0 8) 8 = N) (wn0 : 0 ≤ N) (hk : x.toNat = 3) (h8 : 8 ≤ (s.extract 1 s.size).size) (h9 : 0 < ((s.extract 1 s.size).extract 8 (s.extract 1 s.size).size).size) (y : UInt8) (hy : ((s.extract 1 s.size).extract 8 (s.extract 1 s.size).size).extract 0 1 = ⟨#[y]⟩) (hf : y.toNat = 1) (hr : (((s.extract 1 s.size).extract 8 (s.extract 1 s.size).size).extract 1 ((s.extract 1 s.size).extract 8 (s.extract 1 s.size).size).size) = ByteArray.empty) (hn : N ≤ 1152921504606846976) :
  Calls Try.prog 82 #[.pointer (some ⟨B, 0, none⟩)] w fun e w' => e = (Got.got 3 0 N true ByteArray.empty).ending ∧ Else B w w' := by
 have HI0 := Lib.hid (Blk.new w #[.int .i64 0, .int .i64 0, .int .i64 0, .bool false, .string ByteArray.empty] 42)
 have HB0 := Lib.hid (hB.alloc (.cells #[.int .i64 0, .int .i64 0, .int .i64 0, .bool false, .string ByteArray.empty] 42))
 have HN := Lib.hid (Nat.ne_of_gt hB.lt)
 clear hB
 have HX := Lib.hid hx
 clear hx
 have g0 : ∀ h, (⟨#[x]⟩ : ByteArray)[0]'h = x := fun _ => rfl
 have HNN := Lib.hid hN
 clear hN
 have g1 : ∀ h, (⟨#[y]⟩ : ByteArray)[0]'h = y := fun _ => rfl
 have HY := Lib.hid hy
 clear hy
 go_enter Try.func82, Try.ntmps82
 go_wp2_with fail
 refine (first B s _ HB0.out h0 x HX.out).mono ?_
 rintro e w1 ⟨rfl, hE1, hB1⟩
 have hI1 : Blk w1 w.heap.size #[.int .i64 0, .int .i64 0, .int .i64 0, .bool false, .string ByteArray.empty] 42 := by simpa using HI0.out.kept hE1 HN.out
 skip
 obtain ⟨c0, c1, c2, c3, c4, z0, z1, z2, z3, z4⟩ := five hI1
 have HI1 := Lib.hid hI1
 have HE1 := Lib.hid hE1
 have HB1 := Lib.hid hB1
 clear hI1 hE1 hB1
 go_wp2_with fail
 skip
 refine (number_N B _ _ N HNN.out (HB1.out.setElse HN.out.symm 0 _) h8 (by simp; omega)).mono ?_
 rintro e w2 ⟨rfl, hE2, hB2⟩
 have hI2 : Blk w2 w.heap.size #[.int .i64 3, .int .i64 0, .int .i64 0, .bool false, .string ByteArray.empty] 42 := by simpa using (HI1.out.set 0 (.int .i64 3)).kept hE2 HN.out
 clear c0 c1 c2 c3 c4 z0 z1 z2 z3 z4
 obtain ⟨c0, c1, c2, c3, c4, z0, z1, z2, z3, z4⟩ := five hI2
 have HI2 := Lib.hid hI2
 have HE2 := Lib.hid hE2
 have HB2 := Lib.hid hB2
 clear hI2 hE2 hB2
 go_wp2_with fail
 refine (first B _ _ HB2.out h9 y HY.out).mono ?_
 rintro e w3 ⟨rfl, hE3, hB3⟩
 have hI3 : Blk w3 w.heap.size #[.int .i64 3, .int .i64 0, .int .i64 0, .bool false, .string ByteArray.empty] 42 := by simpa using HI2.out.kept hE3 HN.out
 clear c0 c1 c2 c3 c4 z0 z1 z2 z3 z4
 obtain ⟨c0, c1, c2, c3, c4, z0, z1, z2, z3, z4⟩ := five hI3
 have HI3 := Lib.hid hI3
 have HE3 := Lib.hid hE3
 have HB3 := Lib.hid hB3
 clear hI3 hE3 hB3
 go_wp2_with fail
 have hgt : (1152921504606846976 < N) = False := eq_false (by omega)
 have wn : wrap64 N = N := wrapN wn0 hn
 clear hn wn0
 refine (end_ok B _ _ (HB3.out.setElse HN.out.symm 3 _) hr).mono ?_
 rintro e w9 ⟨rfl, rfl⟩
 go_wp2_with fail
 refine bodyPost_ret (v := .agg #[.int .i64 3, .int .i64 0, .int .i64 N, .bool true, .string ByteArray.empty]) (res16 (I := w.heap.size) ?_ rfl) rfl ⟨rfl, (((((((((((((Else.refl B w).alloc _).trans HE1.out).setNew (Nat.le_refl _) 0 _).trans HE2.out).trans HE3.out).setNew (Nat.le_refl _) 3 _).setNew (Nat.le_refl _) 2 _).setNew (Nat.le_refl _) 0 _).setNew (Nat.le_refl _) 1 _).setNew (Nat.le_refl _) 2 _).setNew (Nat.le_refl _) 3 _).setNew (Nat.le_refl _) 4 _)⟩
 simpa using (((((((HI3.out.set 3 (.bool true)).set 2 (.int .i64 N)).set 0 (.int .i64 3)).set 1 (.int .i64 0)).set 2 (.int .i64 N)).set 3 (.bool true)).set 4 (.string ByteArray.empty))
set_option maxHeartbeats 4000000 in
theorem input_9 (B : Nat) (s : ByteArray) (w : World) (hB : Blk w B #[.string s] 106) (x : UInt8) (h0 : 0 < s.size) (hx : s.extract 0 1 = ⟨#[x]⟩) (hs2 : s.size ≤ 100000) (k1 : ((x.toNat : Int) == 1) = false) (k2 : ((x.toNat : Int) == 2) = false) (k3 : ((x.toNat : Int) == 3) = false) (k4 : ((x.toNat : Int) == 4) = false) (k5 : ((x.toNat : Int) == 5) = false) (k6 : ((x.toNat : Int) == 6) = false) :
  Calls Try.prog 82 #[.pointer (some ⟨B, 0, none⟩)] w fun e w' => e = (Got.bad 9).ending ∧ Else B w w' := by
 have wx : wrap64 (x.toNat : Int) = x.toNat := by
  have := x.toNat_lt
  unfold wrap64; omega
 have HI0 := Lib.hid (Blk.new w #[.int .i64 0, .int .i64 0, .int .i64 0, .bool false, .string ByteArray.empty] 42)
 have HB0 := Lib.hid (hB.alloc (.cells #[.int .i64 0, .int .i64 0, .int .i64 0, .bool false, .string ByteArray.empty] 42))
 have HN := Lib.hid (Nat.ne_of_gt hB.lt)
 clear hB
 have HX := Lib.hid hx
 clear hx
 have g0 : ∀ h, (⟨#[x]⟩ : ByteArray)[0]'h = x := fun _ => rfl
 go_enter Try.func82, Try.ntmps82
 go_wp2_with fail
 refine (first B s _ HB0.out h0 x HX.out).mono ?_
 rintro e w1 ⟨rfl, hE1, hB1⟩
 obtain ⟨c0, c1, c2, c3, c4, z0, z1, z2, z3, z4⟩ := five (HI0.out.kept hE1 HN.out)
 have HE1 := Lib.hid hE1
 clear hE1 hB1
 go_wp2_with fail
 exact ⟨rfl, rfl, ((((Else.refl B w).alloc _).trans HE1.out).setNew (Nat.le_refl _) 0 _)⟩
theorem input_nil (B : Nat) (s : ByteArray) (w : World) (hB : Blk w B #[.string s] 106) (h0 : s.size = 0) :
  Calls Try.prog 82 #[.pointer (some ⟨B, 0, none⟩)] w fun e w' => e = (Got.bad 3).ending ∧ Else B w w' := by
 have HB0 := Lib.hid (hB.alloc (.cells #[.int .i64 0, .int .i64 0, .int .i64 0, .bool false, .string ByteArray.empty] 42))
 clear hB
 go_enter Try.func82, Try.ntmps82
 go_wp2_with fail
 refine (take_short B _ 1 _ HB0.out (by omega)).mono ?_
 rintro e w9 ⟨he, rfl⟩
 rw [gives] at he
 subst he
 go_wp2_with fail
 exact ⟨rfl, rfl, (Else.refl B w).alloc _⟩
end Go.Proofs.YtfgibjkgiolonaaG
set_option linter.unusedVariables false
set_option linter.unusedSimpArgs false
namespace Go.Proofs.YtfgibjkgiolonaaG
open Go.RowKit Go.Proofs.YtfgibjkgiolonaaW.PrintWords Go.Proofs.YtfgibjkgiolonaaX Go.Proofs.YtfgibjkgiolonaaW.PrintMore
theorem hta (x : Int) (w : World) : (Instr.typeAssert (.iface 102 (.agg #[.int .i64 x])) 20 102 true).run Try.prog w = .ok (.tuple #[.agg #[.int .i64 x], .bool true]) w := by
 simp [Instr.typeAssert, go_sem, Try.underlying102]
theorem wp_any {P : Program} {c : Code} {Q : Exit → Act → World → Prop} {a : Act} {w : World} (h : ∀ K : Exit → Act → World → Prop, Hid (∀ e a w, Q e a w → K e a w) → c.wp P K a w) : c.wp P Q a w := h Q (fun _ _ _ h => h)
set_option maxHeartbeats 4000000 in
theorem catch_broken (I J : Nat) (c0 c1 c2 c3 c4 d : Value) (x : Int) (older : List PanicEntry) (w : World) (hI : Blk w I #[c0, c1, c2, c3, c4] 42) (hJ : Blk w J #[d] 27) (hIJ : I ≠ J) :
  CallsD Try.prog 81 #[.pointer (some ⟨I, 0, none⟩), .pointer (some ⟨J, 0, none⟩)] (.panicking ({ v := .iface 102 (.agg #[.int .i64 x]), recovered := false } :: older)) w fun e u' w' =>
   e = .returned (.tuple #[]) ∧ u' = .panicking ({ v := .iface 102 (.agg #[.int .i64 x]), recovered := true } :: older) ∧ Blk w' I #[.int .i64 0, .int .i64 0, .int .i64 0, .bool false, .string ByteArray.empty] 42 ∧ Blk w' J #[.int .i64 x] 27 ∧ Below (min I J) w w' := by
 refine callsD_of_wpS Try.func81 rfl fun c₀ cs hu => ?_
 apply wpS_seq
 apply wpS_region
 simp [wpOpsS, go_sem, recoverD, hu, Try.ntmps81, Exit.thenS]
 refine wpS_of_wp (wp_any fun K hK => ?_)
 rw [show ∀ v : Value, (#[Value.pointer (some { block := I, off := 0 }), Value.pointer (some { block := J, off := 0 })] ++ ((Array.replicate 17 undef).setIfInBounds 3 v).setIfInBounds 0 v) = #[Value.pointer (some { block := I, off := 0 }), Value.pointer (some { block := J, off := 0 }), v, undef, undef, v, undef, undef, undef, undef, undef, undef, undef, undef, undef, undef, undef, undef, undef] from fun _ => rfl]
 obtain ⟨y0, y1, y2, y3, y4, z0, z1, z2, z3, z4⟩ := five hI
 have v0 := hJ.cell 0
 have v1 := hJ.frozen 0
 have HI := Lib.hid hI
 have HJ := Lib.hid hJ
 have HU := Lib.hid hu
 clear hI hJ hu
 have ht := fun (W : World) => hta x W
 go_wp2_with fail
 clear y0 y1 y2 y3 y4 z0 z1 z2 z3 z4 v0 v1
 have hIA := HI.out.alloc (.cells #[.int .i64 x] 102)
 have hJA := HJ.out.alloc (.cells #[.int .i64 x] 102)
 have hNA := Blk.new w #[.int .i64 x] 102
 obtain ⟨y0, y1, y2, y3, y4, z0, z1, z2, z3, z4⟩ := five hIA
 have v0 := hJA.cell 0
 have v1 := hJA.frozen 0
 have u0 := hNA.cell 0
 have ne1 : I ≠ w.heap.size := Nat.ne_of_lt HI.out.lt
 have ne2 : J ≠ w.heap.size := Nat.ne_of_lt HJ.out.lt
 have ne3 := ne1.symm
 have ne4 := ne2.symm
 have ne5 := hIJ.symm
 clear hIA hJA hNA
 go_region
 all_goals go_wp2
 have hb : min I J ≤ w.heap.size := Nat.le_trans (Nat.min_le_left _ _) (Nat.le_of_lt HI.out.lt)
 refine hK.out _ _ _ ⟨rfl, _, rfl, .tuple #[], ?_, rfl, rfl, ?_, ?_, ?_⟩
 ·simp [results, Try.results81]
 ·have h := (((((((HI.out.alloc (.cells #[.int .i64 x] 102)).set 0 (.int .i64 0)).set 1 (.int .i64 0)).set 2 (.int .i64 0)).set 3 (.bool false)).set 4 (.string ByteArray.empty)).setElse hIJ 0 (.int .i64 x)).drew
  simp at h
  exact h
 ·have h := (((((((HJ.out.alloc (.cells #[.int .i64 x] 102)).setElse hIJ.symm 0 (.int .i64 0)).setElse hIJ.symm 1 (.int .i64 0)).setElse hIJ.symm 2 (.int .i64 0)).setElse hIJ.symm 3 (.bool false)).setElse hIJ.symm 4 (.string ByteArray.empty)).set 0 (.int .i64 x)).drew
  simp at h
  exact h
 ·exact ((((((((Below.refl _ w).alloc hb _).setCell (Nat.min_le_left _ _) _).setCell (Nat.min_le_left _ _) _).setCell (Nat.min_le_left _ _) _).setCell (Nat.min_le_left _ _) _).setCell (Nat.min_le_left _ _) _).setCell (Nat.min_le_right _ _) _).drew
set_option maxHeartbeats 4000000 in
theorem catch_idle (p q : Addr) (w : World) :
  CallsD Try.prog 81 #[.pointer (some p), .pointer (some q)] .returning w fun e u' w' => e = .returned (.tuple #[]) ∧ u' = .returning ∧ w' = w := by
 refine callsD_of_wpS Try.func81 rfl fun c₀ cs hu => ?_
 apply wpS_seq
 apply wpS_region
 simp [wpOpsS, go_sem, recoverD, hu, Try.ntmps81, Exit.thenS]
 refine wpS_of_wp (wp_any fun K hK => ?_)
 rw [show ∀ v : Value, (#[Value.pointer (some p), Value.pointer (some q)] ++ ((Array.replicate 17 undef).setIfInBounds 3 v).setIfInBounds 0 v) = #[Value.pointer (some p), Value.pointer (some q), v, undef, undef, v, undef, undef, undef, undef, undef, undef, undef, undef, undef, undef, undef, undef, undef] from fun _ => rfl]
 have HU := Lib.hid hu
 clear hu
 go_wp2_with fail
 refine hK.out _ _ _ ⟨rfl, .returning, ?_, .tuple #[], ?_, rfl, rfl, rfl⟩
 ·rw [← HU.out]
 ·simp [results, Try.results81]
end Go.Proofs.YtfgibjkgiolonaaG
set_option linter.unusedVariables false
set_option linter.unusedSimpArgs false
namespace Go.Proofs.YtfgibjkgiolonaaG
open Go.RowKit Go.Proofs.YtfgibjkgiolonaaW.PrintWords Go.Proofs.YtfgibjkgiolonaaX Go.Proofs.YtfgibjkgiolonaaW.PrintMore
def gotNum (k n : Int) (ok : Bool) : Got := if 1152921504606846976 < n then .bad 2 else .got k 0 n ok ByteArray.empty
def gotK (k : Int) (b : ByteArray) : Got :=
 if k = 6 then if b.size = 0 then .got 6 0 0 false ByteArray.empty else .bad 5
 else if k = 1 then .got 1 0 0 false b
 else if k = 5 then if b.size < 1 then .bad 3 else .got 5 (bt b 0) 0 false (b.extract 1 b.size)
 else if k = 2 ∨ k = 4 then if b.size < 8 then .bad 3 else if ¬ b.size = 8 then .bad 5 else gotNum k (numP (b.extract 0 8) 8) false
 else if k = 3 then if b.size < 9 then .bad 3 else if 1 < bt b 8 then .bad 5 else if ¬ b.size = 9 then .bad 5 else gotNum 3 (numP (b.extract 0 8) 8) (bt b 8 == 1)
 else .bad 9
def gotOf (s : ByteArray) : Got := if s.size = 0 then .bad 3 else gotK (bt s 0) (s.extract 1 s.size)
theorem empty_of {b : ByteArray} (h : b.size = 0) : b = ByteArray.empty := by
 apply ByteArray.ext
 apply Array.eq_empty_of_size_eq_zero
 exact h
theorem bt_ext (b : ByteArray) (i j k : Nat) (hk : i + j < k) (hk2 : k ≤ b.size) : bt (b.extract i k) (j : Int) = bt b ((i + j : Nat) : Int) := by
 rw [bt_nat (s := b.extract i k) (i := j) (by simp; omega), bt_nat (s := b) (i := i + j) (by omega)]
 simp [ByteArray.getElem_extract]
theorem u8_cases (y : UInt8) (h : ¬ 1 < (y.toNat : Int)) : y.toNat = 0 ∨ y.toNat = 1 := by omega
theorem input_num {B : Nat} {s : ByteArray} {w : World} (x : UInt8) (k : Nat) (hB : Blk w B #[.string s] 106) (h0 : 0 < s.size) (hx : s.extract 0 1 = ⟨#[x]⟩) (hs2 : s.size ≤ 100000) (hk : x.toNat = k) (hk2 : k = 2 ∨ k = 4) :
  Calls Try.prog 82 #[.pointer (some ⟨B, 0, none⟩)] w fun e w' => e = (gotK k (s.extract 1 s.size)).ending ∧ Else B w w' := by
 have hz : ∀ {b : ByteArray}, ¬ b.size < 8 → ((b.extract 8 b.size).size = 0 ↔ b.size = 8) := by
  intro b hb
  simp
  omega
 rcases hk2 with rfl | rfl
 ·by_cases h8 : (s.extract 1 s.size).size < 8
  ·have : gotK (2 : Nat) (s.extract 1 s.size) = .bad 3 := by unfold gotK; simp only [if_pos h8]; rfl
   rw [this]
   exact input_2_short B s w hB x h0 hx hs2 hk h8
  by_cases hr : (s.extract 1 s.size).size = 8
  ·have he := empty_of ((hz h8).2 hr)
   by_cases hn : 1152921504606846976 < numP ((s.extract 1 s.size).extract 0 8) 8
   ·have : gotK (2 : Nat) (s.extract 1 s.size) = .bad 2 := by
     unfold gotK gotNum
     rw [if_neg (by decide), if_neg (by decide), if_neg (by decide), if_pos (by decide), if_neg h8, if_neg (fun h => h hr), if_pos hn]
    rw [this]
    exact input_2_arg B s w hB x h0 hx hs2 _ rfl (numP_range _ _).1 hk (by omega) he hn
   ·have : gotK (2 : Nat) (s.extract 1 s.size) = .got 2 0 (numP ((s.extract 1 s.size).extract 0 8) 8) false ByteArray.empty := by
     unfold gotK gotNum
     rw [if_neg (by decide), if_neg (by decide), if_neg (by decide), if_pos (by decide), if_neg h8, if_neg (fun h => h hr), if_neg hn]
     rfl
    rw [this]
    exact input_2 B s w hB x h0 hx hs2 _ rfl (numP_range _ _).1 hk (by omega) he (by omega)
  ·have he : (s.extract 1 s.size).extract 8 (s.extract 1 s.size).size ≠ ByteArray.empty := fun h => hr ((hz h8).1 (by rw [h]; rfl))
   have : gotK (2 : Nat) (s.extract 1 s.size) = .bad 5 := by
    unfold gotK
    rw [if_neg (by decide), if_neg (by decide), if_neg (by decide), if_pos (by decide), if_neg h8, if_pos hr]
   rw [this]
   exact input_2_bad B s w hB x h0 hx hs2 _ rfl (numP_range _ _).1 hk (by omega) he
 ·by_cases h8 : (s.extract 1 s.size).size < 8
  ·have : gotK (4 : Nat) (s.extract 1 s.size) = .bad 3 := by unfold gotK; simp only [if_pos h8]; rfl
   rw [this]
   exact input_4_short B s w hB x h0 hx hs2 hk h8
  by_cases hr : (s.extract 1 s.size).size = 8
  ·have he := empty_of ((hz h8).2 hr)
   by_cases hn : 1152921504606846976 < numP ((s.extract 1 s.size).extract 0 8) 8
   ·have : gotK (4 : Nat) (s.extract 1 s.size) = .bad 2 := by
     unfold gotK gotNum
     rw [if_neg (by decide), if_neg (by decide), if_neg (by decide), if_pos (by decide), if_neg h8, if_neg (fun h => h hr), if_pos hn]
    rw [this]
    exact input_4_arg B s w hB x h0 hx hs2 _ rfl (numP_range _ _).1 hk (by omega) he hn
   ·have : gotK (4 : Nat) (s.extract 1 s.size) = .got 4 0 (numP ((s.extract 1 s.size).extract 0 8) 8) false ByteArray.empty := by
     unfold gotK gotNum
     rw [if_neg (by decide), if_neg (by decide), if_neg (by decide), if_pos (by decide), if_neg h8, if_neg (fun h => h hr), if_neg hn]
     rfl
    rw [this]
    exact input_4 B s w hB x h0 hx hs2 _ rfl (numP_range _ _).1 hk (by omega) he (by omega)
  ·have he : (s.extract 1 s.size).extract 8 (s.extract 1 s.size).size ≠ ByteArray.empty := fun h => hr ((hz h8).1 (by rw [h]; rfl))
   have : gotK (4 : Nat) (s.extract 1 s.size) = .bad 5 := by
    unfold gotK
    rw [if_neg (by decide), if_neg (by decide), if_neg (by decide), if_pos (by decide), if_neg h8, if_pos hr]
   rw [this]
   exact input_4_bad B s w hB x h0 hx hs2 _ rfl (numP_range _ _).1 hk (by omega) he
theorem input_r {B : Nat} {s : ByteArray} {w : World} (x : UInt8) (hB : Blk w B #[.string s] 106) (h0 : 0 < s.size) (hx : s.extract 0 1 = ⟨#[x]⟩) (hs2 : s.size ≤ 100000) (hk : x.toNat = 3) :
  Calls Try.prog 82 #[.pointer (some ⟨B, 0, none⟩)] w fun e w' => e = (gotK 3 (s.extract 1 s.size)).ending ∧ Else B w w' := by
 generalize hb : s.extract 1 s.size = b
 have hbs : b.size = s.size - 1 := by rw [← hb]; simp
 have hp := (numP_range (b.extract 0 8) 8).1
 by_cases h9 : b.size < 9
 ·have : gotK 3 b = .bad 3 := by
   unfold gotK
   rw [if_neg (by decide), if_neg (by decide), if_neg (by decide), if_neg (by decide), if_pos (by decide), if_pos h9]
  rw [this]
  subst hb
  by_cases h8 : (s.extract 1 s.size).size < 8
  ·exact input_3_short B s w hB x h0 hx hs2 hk h8
  ·exact input_3_short2 B s w hB x h0 hx hs2 _ rfl hp hk (by omega) (by simp at *; omega)
 have hcs : (b.extract 8 b.size).size = b.size - 8 := by simp
 obtain ⟨y, hy, hy2⟩ := ext_at (b.extract 8 b.size) 0 (by omega)
 have hb8 : bt b 8 = (y.toNat : Int) := by rw [← hy2]; exact (bt_ext b 8 0 b.size (by omega) (Nat.le_refl _)).symm
 have hds : ((b.extract 8 b.size).extract 1 (b.extract 8 b.size).size).size = b.size - 9 := by rw [ByteArray.size_extract]; omega
 by_cases hf : 1 < (y.toNat : Int)
 ·have : gotK 3 b = .bad 5 := by
   unfold gotK
   rw [if_neg (by decide), if_neg (by decide), if_neg (by decide), if_neg (by decide), if_pos (by decide), if_neg h9, if_pos (by rw [hb8]; exact hf)]
  rw [this]
  subst hb
  exact input_3_flag B s w hB x h0 hx hs2 _ rfl hp hk (by omega) (by omega) y hy hf
 by_cases hr : b.size = 9
 ·have he := empty_of (hds.trans (by omega))
  by_cases hn : 1152921504606846976 < numP (b.extract 0 8) 8
  ·have : gotK 3 b = .bad 2 := by
    unfold gotK gotNum
    rw [if_neg (by decide), if_neg (by decide), if_neg (by decide), if_neg (by decide), if_pos (by decide), if_neg h9, if_neg (by rw [hb8]; exact hf), if_neg (fun h => h hr), if_pos hn]
   rw [this]
   subst hb
   rcases u8_cases y hf with h | h
   ·exact input_3_0_arg B s w hB x h0 hx hs2 _ rfl hp hk (by omega) (by omega) y hy h he hn
   ·exact input_3_1_arg B s w hB x h0 hx hs2 _ rfl hp hk (by omega) (by omega) y hy h he hn
  ·have : gotK 3 b = .got 3 0 (numP (b.extract 0 8) 8) ((y.toNat : Int) == 1) ByteArray.empty := by
    unfold gotK gotNum
    rw [if_neg (by decide), if_neg (by decide), if_neg (by decide), if_neg (by decide), if_pos (by decide), if_neg h9, if_neg (by rw [hb8]; exact hf), if_neg (fun h => h hr), if_neg hn, hb8]
   rw [this]
   subst hb
   rcases u8_cases y hf with h | h
   ·rw [h]
    exact input_3_0 B s w hB x h0 hx hs2 _ rfl hp hk (by omega) (by omega) y hy h he (by omega)
   ·rw [h]
    exact input_3_1 B s w hB x h0 hx hs2 _ rfl hp hk (by omega) (by omega) y hy h he (by omega)
 ·have he : (b.extract 8 b.size).extract 1 (b.extract 8 b.size).size ≠ ByteArray.empty := fun h => hr (by rw [h] at hds; have : (0 : Nat) = b.size - 9 := hds; omega)
  have : gotK 3 b = .bad 5 := by
   unfold gotK
   rw [if_neg (by decide), if_neg (by decide), if_neg (by decide), if_neg (by decide), if_pos (by decide), if_neg h9, if_neg (by rw [hb8]; exact hf), if_pos hr]
  rw [this]
  subst hb
  rcases u8_cases y hf with h | h
  ·exact input_3_0_bad B s w hB x h0 hx hs2 _ rfl hp hk (by omega) (by omega) y hy h he
  ·exact input_3_1_bad B s w hB x h0 hx hs2 _ rfl hp hk (by omega) (by omega) y hy h he
theorem input_any (B : Nat) (s : ByteArray) (w : World) (hB : Blk w B #[.string s] 106) (hs2 : s.size ≤ 100000) :
  Calls Try.prog 82 #[.pointer (some ⟨B, 0, none⟩)] w fun e w' => e = (gotOf s).ending ∧ Else B w w' := by
 unfold gotOf
 by_cases h0 : s.size = 0
 ·rw [if_pos h0]
  exact input_nil B s w hB h0
 rw [if_neg h0]
 obtain ⟨x, hx, hk⟩ := ext_at s 0 (by omega)
 have hk' : bt s 0 = (x.toNat : Int) := hk
 rw [hk']
 have h0' : 0 < s.size := by omega
 by_cases k2 : x.toNat = 2
 ·rw [k2]; exact input_num x 2 hB h0' hx hs2 k2 (.inl rfl)
 by_cases k4 : x.toNat = 4
 ·rw [k4]; exact input_num x 4 hB h0' hx hs2 k4 (.inr rfl)
 by_cases k3 : x.toNat = 3
 ·rw [k3]; exact input_r x hB h0' hx hs2 k3
 by_cases k6 : x.toNat = 6
 ·rw [k6]
  by_cases hb : (s.extract 1 s.size).size = 0
  ·have : gotK (6 : Nat) (s.extract 1 s.size) = .got 6 0 0 false ByteArray.empty := by
    unfold gotK
    rw [if_pos (by decide), if_pos hb]
   rw [this]
   exact input_6 B s w hB x h0' hx hs2 k6 (empty_of hb)
  ·have : gotK (6 : Nat) (s.extract 1 s.size) = .bad 5 := by
    unfold gotK
    rw [if_pos (by decide), if_neg hb]
   rw [this]
   exact input_6_bad B s w hB x h0' hx hs2 k6 (fun h => hb (by rw [h]; rfl))
 by_cases k1 : x.toNat = 1
 ·rw [k1]
  exact input_1 B s w hB x h0' hx hs2 k1
 by_cases k5 : x.toNat = 5
 ·rw [k5]
  by_cases hb : (s.extract 1 s.size).size < 1
  ·have : gotK (5 : Nat) (s.extract 1 s.size) = .bad 3 := by
    unfold gotK
    rw [if_neg (by decide), if_neg (by decide), if_pos (by decide), if_pos hb]
   rw [this]
   exact input_5_short B s w hB x h0' hx hs2 k5 hb
  ·obtain ⟨y, hy, hy2⟩ := ext_at (s.extract 1 s.size) 0 (by omega)
   have hy3 : bt (s.extract 1 s.size) 0 = (y.toNat : Int) := hy2
   have : gotK (5 : Nat) (s.extract 1 s.size) = .got 5 y.toNat 0 false ((s.extract 1 s.size).extract 1 (s.extract 1 s.size).size) := by
    unfold gotK
    rw [if_neg (by decide), if_neg (by decide), if_pos (by decide), if_neg hb, hy3]
   rw [this]
   exact input_5 B s w hB x h0' hx hs2 k5 (by omega) y hy
 have : gotK (x.toNat : Int) (s.extract 1 s.size) = .bad 9 := by
  unfold gotK
  rw [if_neg (by omega), if_neg (by omega), if_neg (by omega), if_neg (by omega), if_neg (by omega)]
 rw [this]
 exact input_9 B s w hB x h0' hx hs2 (beq_eq_false_iff_ne.2 (by omega)) (beq_eq_false_iff_ne.2 (by omega)) (beq_eq_false_iff_ne.2 (by omega)) (beq_eq_false_iff_ne.2 (by omega)) (beq_eq_false_iff_ne.2 (by omega)) (beq_eq_false_iff_ne.2 (by omega))
end Go.Proofs.YtfgibjkgiolonaaG
set_option linter.unusedVariables false
set_option linter.unusedSimpArgs false
namespace Go.Proofs.YtfgibjkgiolonaaG
open Go.RowKit Go.Proofs.YtfgibjkgiolonaaW.PrintWords Go.Proofs.YtfgibjkgiolonaaX Go.Proofs.YtfgibjkgiolonaaW.PrintMore
def zeroIn : Value := .agg #[.int .i64 0, .int .i64 0, .int .i64 0, .bool false, .string ByteArray.empty]
theorem res13 {w : World} {I J : Nat} {a b c d e x : Value} {tmps : Array Value} (h : Blk w I #[a, b, c, d, e] 42) (hJ : Blk w J #[x] 27) (ht : tmps.getD 2 undef = .pointer (some ⟨I, 0, none⟩)) (ht3 : tmps.getD 3 undef = .pointer (some ⟨J, 0, none⟩)) :
  (results Try.f69 tmps).run Try.prog w = .ok (.tuple #[.agg #[a, b, c, d, e], x]) w := by
 obtain ⟨c0, c1, c2, c3, c4, z0, z1, z2, z3, z4⟩ := five h
 have j0 := hJ.cell 0
 simp at ht ht3 j0
 simp [results, Try.results69, go_sem, ht, ht3, c0, c1, c2, c3, c4, j0, Result.andThen]
def R0 (w : World) (s : ByteArray) : World := ((w.alloc (.cells #[.int .i64 0, .int .i64 0, .int .i64 0, .bool false, .string { data := #[] }] 42)).alloc (.cells #[.int .i64 0] 27)).alloc (.cells #[.string s] 106)
theorem R0_I (w : World) (s : ByteArray) : Blk (R0 w s) w.heap.size #[.int .i64 0, .int .i64 0, .int .i64 0, .bool false, .string { data := #[] }] 42 := ((Blk.new w _ 42).alloc _).alloc _
theorem R0_J (w : World) (s : ByteArray) : Blk (R0 w s) (w.heap.size + 1) #[.int .i64 0] 27 := by
 have h := (Blk.new (w.alloc (.cells #[.int .i64 0, .int .i64 0, .int .i64 0, .bool false, .string { data := #[] }] 42)) #[.int .i64 0] 27).alloc (.cells #[.string s] 106)
 have e : (w.alloc (.cells #[.int .i64 0, .int .i64 0, .int .i64 0, .bool false, .string { data := #[] }] 42)).heap.size = w.heap.size + 1 := by simp
 rw [e] at h
 exact h
theorem R0_B (w : World) (s : ByteArray) : Blk (R0 w s) (w.heap.size + 1 + 1) #[.string s] 106 := by
 have h := Blk.new ((w.alloc (.cells #[.int .i64 0, .int .i64 0, .int .i64 0, .bool false, .string { data := #[] }] 42)).alloc (.cells #[.int .i64 0] 27)) #[.string s] 106
 have e : ((w.alloc (.cells #[.int .i64 0, .int .i64 0, .int .i64 0, .bool false, .string { data := #[] }] 42)).alloc (.cells #[.int .i64 0] 27)).heap.size = w.heap.size + 1 + 1 := by simp
 rw [e] at h
 exact h
theorem R0_below (w : World) (s : ByteArray) : Below w.heap.size w (R0 w s) := (((Below.refl _ w).alloc (Nat.le_refl _) _).alloc (by simp) _).alloc (by simp; omega) _
theorem R0_size (w : World) (s : ByteArray) : (R0 w s).heap.size = w.heap.size + 3 := by simp [R0]
set_option maxHeartbeats 4000000 in
theorem read_bad (s : ByteArray) (w : World) (hs : s.size ≤ 100000) (x : Int) (hg : gotOf s = .bad x) :
  Calls Try.prog 69 #[.string s] w fun e w' => e = .returned (.tuple #[zeroIn, .int .i64 x]) ∧ Below w.heap.size w w' := by
 have hmf : ∀ (fn : Fn) (first cap : Array Value) (w : World), (Instr.makeFunc fn first cap).run Try.prog w = .ok (.func fn first cap) w := fun _ _ _ _ => rfl
 have HG := Lib.hid hg
 clear hg
 go_enter_defers Try.func69, Try.ntmps69
 go_wp2_with fail
 refine (input_any (w.heap.size + 1 + 1) s _ (R0_B w s) hs).mono ?_
 rintro e w1 ⟨he, hE⟩
 rw [HG.out] at he
 simp only [Got.ending, gives] at he
 subst he
 have HI := Lib.hid ((R0_I w s).kept hE (by omega))
 have HJ := Lib.hid ((R0_J w s).kept hE (by omega))
 have HE := Lib.hid ((R0_below w s).trans (hE.below (by omega) (by rw [R0_size]; omega)))
 clear hE
 go_wp2_with fail
 refine leaves_cons (f := 81) (args := #[.pointer (some ⟨w.heap.size, 0, none⟩), .pointer (some ⟨w.heap.size + 1, 0, none⟩)]) (by simp) (by simp [go_sem]) ?_
 refine (catch_broken w.heap.size (w.heap.size + 1) _ _ _ _ _ _ x [] _ HI.out HJ.out (by omega)).mono ?_
 rintro e u' w'' ⟨rfl, rfl, hI2, hJ2, hb⟩
 exact ⟨_, res13 hI2 hJ2 rfl rfl, rfl, HE.out.trans (hb.mono (by omega))⟩
set_option maxHeartbeats 4000000 in
theorem read_got_ok (s : ByteArray) (w : World) (hs : s.size ≤ 100000) (k c n : Int) (ok : Bool) (t : ByteArray) (hg : gotOf s = .got k c n ok t) (hc : checkI k c n ok t = 0) :
  Calls Try.prog 69 #[.string s] w fun e w' => e = .returned (.tuple #[.agg #[.int .i64 k, .int .i64 c, .int .i64 n, .bool ok, .string t], .int .i64 0]) ∧ Below w.heap.size w w' := by
 have hmf : ∀ (fn : Fn) (first cap : Array Value) (w : World), (Instr.makeFunc fn first cap).run Try.prog w = .ok (.func fn first cap) w := fun _ _ _ _ => rfl
 have HG := Lib.hid hg
 clear hg
 go_enter_defers Try.func69, Try.ntmps69
 go_wp2_with fail
 refine (input_any (w.heap.size + 1 + 1) s _ (R0_B w s) hs).mono ?_
 rintro e w1 ⟨he, hE⟩
 rw [HG.out] at he
 simp only [Got.ending] at he
 subst he
 have hI := (R0_I w s).kept hE (by omega)
 have hJ := (R0_J w s).kept hE (by omega)
 obtain ⟨y0, y1, y2, y3, y4, z0, z1, z2, z3, z4⟩ := five hI
 have HE := Lib.hid ((R0_below w s).trans (hE.below (by omega) (by rw [R0_size]; omega)))
 have HI := Lib.hid hI
 have HJ := Lib.hid hJ
 clear hE hI hJ
 go_wp2_with fail
 have hI1 := ((((HI.out.set 0 (.int .i64 k)).set 1 (.int .i64 c)).set 2 (.int .i64 n)).set 3 (.bool ok)).set 4 (.string t)
 simp at hI1
 have nij : w.heap.size + 1 ≠ w.heap.size := by omega
 have hJ1 := ((((HJ.out.setElse nij 0 (.int .i64 k)).setElse nij 1 (.int .i64 c)).setElse nij 2 (.int .i64 n)).setElse nij 3 (.bool ok)).setElse nij 4 (.string t)
 have hW1 := ((((HE.out.setCell (p := ⟨w.heap.size, 0, none⟩) (Nat.le_refl _) (.int .i64 k)).setCell (p := ⟨w.heap.size, 1, none⟩) (Nat.le_refl _) (.int .i64 c)).setCell (p := ⟨w.heap.size, 2, none⟩) (Nat.le_refl _) (.int .i64 n)).setCell (p := ⟨w.heap.size, 3, none⟩) (Nat.le_refl _) (.bool ok)).setCell (p := ⟨w.heap.size, 4, none⟩) (Nat.le_refl _) (.string t)
 refine (check_any k c n ok t _).mono ?_
 rintro e w2 ⟨rfl, hb2⟩
 rw [hc]
 have hI2 := hI1.below hb2 hI1.lt
 have hJ2 := hJ1.below hb2 hJ1.lt
 have HW2 := Lib.hid (hW1.trans (hb2.mono hW1.size))
 clear y0 y1 y2 y3 y4 z0 z1 z2 z3 z4 hI1 hJ1 hW1 hb2
 obtain ⟨y0, y1, y2, y3, y4, z0, z1, z2, z3, z4⟩ := five hI2
 have v0 := hJ2.cell 0
 have v1 := hJ2.frozen 0
 have HI2 := Lib.hid hI2
 have HJ2 := Lib.hid hJ2
 clear hI2 hJ2
 simp only [hc] at *
 go_wp2_with fail
 have hIF := (((((HI2.out.set 0 (.int .i64 k)).set 1 (.int .i64 c)).set 2 (.int .i64 n)).set 3 (.bool ok)).set 4 (.string t)).setElse nij.symm 0 (.int .i64 0)
 have hJF := (((((HJ2.out.setElse nij 0 (.int .i64 k)).setElse nij 1 (.int .i64 c)).setElse nij 2 (.int .i64 n)).setElse nij 3 (.bool ok)).setElse nij 4 (.string t)).set 0 (.int .i64 0)
 have hWF := (((((HW2.out.setCell (p := ⟨w.heap.size, 0, none⟩) (Nat.le_refl _) (.int .i64 k)).setCell (p := ⟨w.heap.size, 1, none⟩) (Nat.le_refl _) (.int .i64 c)).setCell (p := ⟨w.heap.size, 2, none⟩) (Nat.le_refl _) (.int .i64 n)).setCell (p := ⟨w.heap.size, 3, none⟩) (Nat.le_refl _) (.bool ok)).setCell (p := ⟨w.heap.size, 4, none⟩) (Nat.le_refl _) (.string t)).setCell (p := ⟨w.heap.size + 1, 0, none⟩) (Nat.le_succ _) (.int .i64 0)
 simp at hIF hJF
 refine leaves_cons (f := 81) (args := #[.pointer (some ⟨w.heap.size, 0, none⟩), .pointer (some ⟨w.heap.size + 1, 0, none⟩)]) (by simp) (by simp [go_sem]) ?_
 refine (catch_idle ⟨w.heap.size, 0, none⟩ ⟨w.heap.size + 1, 0, none⟩ _).mono ?_
 rintro e u' w'' ⟨rfl, rfl, rfl⟩
 exact ⟨_, res13 hIF hJF rfl rfl, rfl, hWF⟩
set_option maxHeartbeats 4000000 in
theorem read_got_bad (s : ByteArray) (w : World) (hs : s.size ≤ 100000) (k c n : Int) (ok : Bool) (t : ByteArray) (hg : gotOf s = .got k c n ok t) (r : Int) (hc : checkI k c n ok t = r) (hr : (r == 0) = false) :
  Calls Try.prog 69 #[.string s] w fun e w' => e = .returned (.tuple #[zeroIn, .int .i64 r]) ∧ Below w.heap.size w w' := by
 have hmf : ∀ (fn : Fn) (first cap : Array Value) (w : World), (Instr.makeFunc fn first cap).run Try.prog w = .ok (.func fn first cap) w := fun _ _ _ _ => rfl
 have HG := Lib.hid hg
 clear hg
 go_enter_defers Try.func69, Try.ntmps69
 go_wp2_with fail
 refine (input_any (w.heap.size + 1 + 1) s _ (R0_B w s) hs).mono ?_
 rintro e w1 ⟨he, hE⟩
 rw [HG.out] at he
 simp only [Got.ending] at he
 subst he
 have hI := (R0_I w s).kept hE (by omega)
 have hJ := (R0_J w s).kept hE (by omega)
 obtain ⟨y0, y1, y2, y3, y4, z0, z1, z2, z3, z4⟩ := five hI
 have HE := Lib.hid ((R0_below w s).trans (hE.below (by omega) (by rw [R0_size]; omega)))
 have HI := Lib.hid hI
 have HJ := Lib.hid hJ
 clear hE hI hJ
 go_wp2_with fail
 have hI1 := ((((HI.out.set 0 (.int .i64 k)).set 1 (.int .i64 c)).set 2 (.int .i64 n)).set 3 (.bool ok)).set 4 (.string t)
 simp at hI1
 have nij : w.heap.size + 1 ≠ w.heap.size := by omega
 have hJ1 := ((((HJ.out.setElse nij 0 (.int .i64 k)).setElse nij 1 (.int .i64 c)).setElse nij 2 (.int .i64 n)).setElse nij 3 (.bool ok)).setElse nij 4 (.string t)
 have hW1 := ((((HE.out.setCell (p := ⟨w.heap.size, 0, none⟩) (Nat.le_refl _) (.int .i64 k)).setCell (p := ⟨w.heap.size, 1, none⟩) (Nat.le_refl _) (.int .i64 c)).setCell (p := ⟨w.heap.size, 2, none⟩) (Nat.le_refl _) (.int .i64 n)).setCell (p := ⟨w.heap.size, 3, none⟩) (Nat.le_refl _) (.bool ok)).setCell (p := ⟨w.heap.size, 4, none⟩) (Nat.le_refl _) (.string t)
 refine (check_any k c n ok t _).mono ?_
 rintro e w2 ⟨rfl, hb2⟩
 rw [hc]
 have hI2 := hI1.below hb2 hI1.lt
 have hJ2 := hJ1.below hb2 hJ1.lt
 have HW2 := Lib.hid (hW1.trans (hb2.mono hW1.size))
 clear y0 y1 y2 y3 y4 z0 z1 z2 z3 z4 hI1 hJ1 hW1 hb2
 obtain ⟨y0, y1, y2, y3, y4, z0, z1, z2, z3, z4⟩ := five hI2
 have v0 := hJ2.cell 0
 have v1 := hJ2.frozen 0
 have HI2 := Lib.hid hI2
 have HJ2 := Lib.hid hJ2
 clear hI2 hJ2
 go_wp2_with fail
 have hIF := (((((HI2.out.set 0 (.int .i64 0)).set 1 (.int .i64 0)).set 2 (.int .i64 0)).set 3 (.bool false)).set 4 (.string ByteArray.empty)).setElse nij.symm 0 (.int .i64 r)
 have hJF := (((((HJ2.out.setElse nij 0 (.int .i64 0)).setElse nij 1 (.int .i64 0)).setElse nij 2 (.int .i64 0)).setElse nij 3 (.bool false)).setElse nij 4 (.string ByteArray.empty)).set 0 (.int .i64 r)
 have hWF := (((((HW2.out.setCell (p := ⟨w.heap.size, 0, none⟩) (Nat.le_refl _) (.int .i64 0)).setCell (p := ⟨w.heap.size, 1, none⟩) (Nat.le_refl _) (.int .i64 0)).setCell (p := ⟨w.heap.size, 2, none⟩) (Nat.le_refl _) (.int .i64 0)).setCell (p := ⟨w.heap.size, 3, none⟩) (Nat.le_refl _) (.bool false)).setCell (p := ⟨w.heap.size, 4, none⟩) (Nat.le_refl _) (.string ByteArray.empty)).setCell (p := ⟨w.heap.size + 1, 0, none⟩) (Nat.le_succ _) (.int .i64 r)
 simp at hIF hJF
 refine leaves_cons (f := 81) (args := #[.pointer (some ⟨w.heap.size, 0, none⟩), .pointer (some ⟨w.heap.size + 1, 0, none⟩)]) (by simp) (by simp [go_sem]) ?_
 refine (catch_idle ⟨w.heap.size, 0, none⟩ ⟨w.heap.size + 1, 0, none⟩ _).mono ?_
 rintro e u' w'' ⟨rfl, rfl, rfl⟩
 exact ⟨_, res13 hIF hJF rfl rfl, rfl, hWF⟩
def readG (s : ByteArray) : Int × Int × Int × Bool × ByteArray × Int :=
 match gotOf s with
 | .bad x => (0, 0, 0, false, ByteArray.empty, x)
 | .got k c n ok t => if checkI k c n ok t = 0 then (k, c, n, ok, t, 0) else (0, 0, 0, false, ByteArray.empty, checkI k c n ok t)
def record_Read.f (s : ByteArray) : Option (Int × Int × Int × Bool × ByteArray × Int) := if s.size ≤ 100000 then some (readG s) else none
end Go.Proofs.YtfgibjkgiolonaaG
set_option linter.unusedVariables false
namespace Go.Proofs.YtfgibjkgiolonaaG
open Go.RowKit
theorem record_Read.calls (s : ByteArray) (r1 r2 r3 : Int) (r4 : Bool) (r5 : ByteArray) (r6 : Int) (w : World) (h : record_Read.f s = some (r1, r2, r3, r4, r5, r6)) :
  Calls Try.prog 69 #[.string s] w fun e w' => e = .returned (.tuple #[.agg #[.int .i64 r1, .int .i64 r2, .int .i64 r3, .bool r4, .string r5], .int .i64 r6]) ∧ Below w.heap.size w w' := by
 unfold record_Read.f at h
 by_cases hs : s.size ≤ 100000
 ·rw [if_pos hs] at h
  have h2 := Option.some.inj h
  unfold readG at h2
  cases hg : gotOf s with
  | bad x =>
   rw [hg] at h2
   simp only [Prod.mk.injEq] at h2
   obtain ⟨rfl, rfl, rfl, rfl, rfl, rfl⟩ := h2
   exact read_bad s w hs x hg
  | got k c n ok t =>
   rw [hg] at h2
   simp only at h2
   by_cases hc : checkI k c n ok t = 0
   ·rw [if_pos hc] at h2
    simp only [Prod.mk.injEq] at h2
    obtain ⟨rfl, rfl, rfl, rfl, rfl, rfl⟩ := h2
    exact read_got_ok s w hs k c n ok t hg hc
   ·rw [if_neg hc] at h2
    simp only [Prod.mk.injEq] at h2
    obtain ⟨rfl, rfl, rfl, rfl, rfl, rfl⟩ := h2
    exact read_got_bad s w hs k c n ok t hg _ rfl (beq_eq_false_iff_ne.2 hc)
 ·rw [if_neg hs] at h
  simp at h
end Go.Proofs.YtfgibjkgiolonaaG
