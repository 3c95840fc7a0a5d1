/- What the laws of a disk call besides: Times, Pick, padded, copies of numbers, strings of bytes. -/
import Derived.Test.YthienjmkagediaaMa
import Derived.Test.YthienjmkagediaaPAx1
set_option linter.unusedVariables false
set_option linter.unusedSimpArgs false
namespace Go.Proofs.YthienjmkagediaaM
open Go.RowKit Go.Proofs.YthienjmkagediaaW.PrintMore Go.Proofs.Ythienjmkagediaa.PA
open Go.Proofs.YthienjmkagediaaW.PrintWords hiding encs encs_append
/-- A string of these bytes. -/
def bs (l : List UInt8) : ByteArray := ⟨l.toArray⟩
theorem bs_size (l : List UInt8) : (bs l).size = l.length := by simp [bs, ByteArray.size]
theorem bs_append (l m : List UInt8) : bs l ++ bs m = bs (l ++ m) := by
  apply ByteArray.ext
  simp [bs]
theorem bs_data (s : ByteArray) : bs s.data.toList = s := by
  apply ByteArray.ext
  simp [bs]
theorem bs_inj {l m : List UInt8} (h : bs l = bs m) : l = m := by
  have := congrArg (fun x : ByteArray => x.data.toList) h
  simpa [bs] using this
/-- So many times this byte. -/
def rep (c : UInt8) (n : Nat) : List UInt8 := List.replicate n c
theorem rep_length (c : UInt8) (n : Nat) : (rep c n).length = n := List.length_replicate
theorem rep_add (c : UInt8) (m n : Nat) : rep c m ++ rep c n = rep c (m + n) := List.replicate_append_replicate
theorem zeros_rep (n : Nat) : zeros n = rep 0 n := rfl
theorem tm2 (n : Nat) : Int.tmod (n : Int) 2 = ((n % 2 : Nat) : Int) := by
  rw [Int.tmod_eq_emod_of_nonneg (by omega)]
  omega
theorem td2 (n : Nat) (h : n ≤ 1000000000000) : wrap64 (Int.tdiv (n : Int) 2) = ((n / 2 : Nat) : Int) := by
  rw [Int.tdiv_eq_ediv_of_nonneg (by omega)]
  unfold wrap64
  omega
theorem times_l0 (c : UInt8) : ∀ (k n a b : Nat), n < 2 ^ k → b + a * n ≤ 1000000000000 → n ≤ 1000000000000 → outlawkit_Times.l0 (k + 1) (bs (rep c a)) (n : Int) (bs (rep c b)) = some (bs (rep c (b + a * n)))
  | 0, n, a, b, hn, _, _ => by
    obtain rfl : n = 0 := by omega
    simp only [outlawkit_Times.l0]
    rw [if_neg (by omega), Nat.mul_zero, Nat.add_zero]
  | k + 1, n, a, b, hn, hm, hn2 => by
    rw [outlawkit_Times.l0]
    by_cases h0 : n = 0
    · subst h0
      rw [if_neg (by omega), Nat.mul_zero, Nat.add_zero]
    · have hk : n / 2 < 2 ^ k := by
        rw [Nat.pow_succ] at hn
        omega
      have ha : a ≤ 1000000000000 := Nat.le_trans (Nat.le_trans (Nat.le_mul_of_pos_right a (by omega)) (Nat.le_add_left _ b)) hm
      rw [if_pos (by omega), tm2, td2 n hn2]
      rcases Nat.mod_two_eq_zero_or_one n with h2 | h2
      · have e : n = 2 * (n / 2) := by omega
        have em : (a + a) * (n / 2) = a * n := by
          rw [← Nat.two_mul, Nat.mul_comm 2 a, Nat.mul_assoc, ← e]
        rw [if_neg (by rw [h2]; omega), if_pos (by rw [bs_size, rep_length]; omega), bs_append, rep_add, times_l0 c k (n / 2) (a + a) b hk (by rw [em]; exact hm) (by omega), em]
      · have e : n = 2 * (n / 2) + 1 := by omega
        have em : (a + a) * (n / 2) + a = a * n := by
          rw [← Nat.two_mul, Nat.mul_comm 2 a, Nat.mul_assoc]
          conv => rhs; rw [e, Nat.mul_add, Nat.mul_one]
        rw [if_pos (by rw [h2]; rfl), if_pos (by rw [bs_size, bs_size, rep_length, rep_length]; have : b ≤ 1000000000000 := Nat.le_trans (Nat.le_add_right b _) hm; omega), if_pos (by rw [bs_size, rep_length]; omega), bs_append, bs_append, rep_add, rep_add, times_l0 c k (n / 2) (a + a) (b + a) hk (by omega) (by omega), Nat.add_assoc, Nat.add_comm a, em]
theorem times_ok (c : UInt8) (n : Nat) (hn : n ≤ 1000000) (w : World) :
    Calls Try.prog 21 #[.string (bs [c]), .int .i64 (n : Int)] w fun e w' => e = .returned (.string (bs (rep c n))) ∧ Below w.heap.size w w' := by
  have h : outlawkit_Times.f 21 (bs [c]) (n : Int) = some (bs (rep c n)) := by
    have := times_l0 c 20 n 1 0 (by omega) (by omega) (by omega)
    rw [Nat.zero_add, Nat.one_mul] at this
    exact this
  refine (outlawkit_Times.calls 21 _ _ _ w h).mono ?_
  rintro e w' ⟨rfl, hd⟩
  exact ⟨rfl, hd.below⟩
theorem times_z (n : Nat) (hn : n ≤ 1000000) (w : World) :
    Calls Try.prog 21 #[.string ⟨#[0]⟩, .int .i64 (n : Int)] w fun e w' => e = .returned (.string (bs (zeros n))) ∧ Below w.heap.size w w' := times_ok 0 n hn w
theorem times_x (n : Nat) (hn : n ≤ 1000000) (w : World) :
    Calls Try.prog 21 #[.string ⟨#[120]⟩, .int .i64 (n : Int)] w fun e w' => e = .returned (.string (bs (rep 120 n))) ∧ Below w.heap.size w w' := times_ok 120 n hn w
/-- n modulo m, from 0 on. -/
def pickN (a : Int) (m : Nat) : Nat := (a % (m : Int)).toNat
theorem pickN_lt (a : Int) {m : Nat} (h : 0 < m) : pickN a m < m := by
  have := Int.emod_nonneg a (show (m : Int) ≠ 0 by omega)
  have := Int.emod_lt_of_pos a (show (0 : Int) < m by omega)
  unfold pickN
  omega
theorem pick_ok (a : Int) (m : Nat) (h0 : 0 < m) (hm : m ≤ 1000000000000) (w : World) :
    Calls Try.prog 14 #[.int .i64 a, .int .i64 (m : Int)] w fun e w' => e = .returned (.int .i64 (pickN a m : Int)) ∧ Below w.heap.size w w' := by
  have he : ((pickN a m : Nat) : Int) = a % (m : Int) := by
    have := Int.emod_nonneg a (show (m : Int) ≠ 0 by omega)
    unfold pickN
    omega
  have h : outlawkit_Pick.f a (m : Int) = some ((pickN a m : Nat) : Int) := by
    rw [he]
    unfold outlawkit_Pick.f
    rw [if_neg (by omega), if_neg (by omega)]
    have h1 := Int.emod_nonneg a (show (m : Int) ≠ 0 by omega)
    have h2 := Int.emod_lt_of_pos a (show (0 : Int) < m by omega)
    have h3 := @Int.tmod_eq_emod a (m : Int)
    by_cases hc : 0 ≤ a ∨ (m : Int) ∣ a
    · rw [if_pos hc] at h3
      rw [if_neg (by omega)]
      exact congrArg some (by omega)
    · rw [if_neg hc] at h3
      have h4 : ((m : Int).natAbs : Int) = m := by omega
      rw [h4] at h3
      rw [if_pos (by omega)]
      apply congrArg some
      unfold wrap64
      omega
  refine (outlawkit_Pick.calls _ _ _ w h).mono ?_
  rintro e w' ⟨rfl, hd⟩
  exact ⟨rfl, hd.below⟩
set_option maxHeartbeats 400000 in
theorem padded_ok (s : ByteArray) (hs : s.size ≤ 512) (w : World) :
    Calls Try.prog 12 #[.string s] w fun e w' => e = .returned (.string (s ++ bs (zeros (512 - s.size)))) ∧ Below w.heap.size w w' := by
  have h1 : (512 : Int) - (s.size : Int) = ((512 - s.size : Nat) : Int) := by omega
  have h2 : (s.size : Int) ≤ 512 := by omega
  have h3 : IntKind.i64.wrap ((512 : Int) - (s.size : Int)) = ((512 - s.size : Nat) : Int) := by rw [IntKind.wrap_i64]; omega
  have HS := Lib.hid (And.intro hs h1)
  go_enter Try.func12, Try.ntmps12
  go_wp2_with fail
  refine (times_z (512 - s.size) (by omega) _).mono ?_
  rintro e w1 ⟨rfl, hb⟩
  have hz : (bs (zeros (512 - s.size))).size = 512 - s.size := by rw [bs_size, zeros_length]
  have hsz : s.size + (bs (zeros (512 - s.size))).size ≤ 9223372036854775807 := by omega
  have HZ := Lib.hid hz
  clear hz
  go_wp2
  go_ret
  exact ⟨rfl, hb⟩
end Go.Proofs.YthienjmkagediaaM
