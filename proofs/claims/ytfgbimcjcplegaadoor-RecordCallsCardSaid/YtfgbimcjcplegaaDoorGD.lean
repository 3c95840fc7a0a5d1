/- The contracts of the reference's digits, Digits and Line: the same decimal numerals. -/
import Derived.Test.YtfgbimcjcplegaaDoorGM
set_option linter.unusedVariables false
set_option linter.unusedSimpArgs false
namespace Go.Proofs.YtfgbimcjcplegaaDoorG
open Go.RowKit Go.Proofs.YtfgbimcjcplegaaDoorW.PrintWords Go.Proofs.YtfgbimcjcplegaaDoorX Go.Proofs.YtfgbimcjcplegaaDoorW.PrintMore
def decS (u : Nat) : ByteArray := ⟨(Lib.decDigits u).toArray⟩
theorem digit_ext : ∀ d : Nat, d < 10 → (⟨#[48, 49, 50, 51, 52, 53, 54, 55, 56, 57]⟩ : ByteArray).extract d (d + 1) = ⟨#[UInt8.ofNat (48 + d)]⟩ := by
  intro d hd
  match d, hd with
  | 0, _ => rfl
  | 1, _ => rfl
  | 2, _ => rfl
  | 3, _ => rfl
  | 4, _ => rfl
  | 5, _ => rfl
  | 6, _ => rfl
  | 7, _ => rfl
  | 8, _ => rfl
  | 9, _ => rfl
theorem decS_small (u : Nat) (h : u < 10) : decS u = ⟨#[UInt8.ofNat (48 + u)]⟩ := by
  unfold decS Lib.decDigits
  rw [dif_pos h]
theorem decS_step (u : Nat) (h : ¬ u < 10) : decS u = decS (u / 10) ++ ⟨#[UInt8.ofNat (48 + u % 10)]⟩ := by
  have e : Lib.decDigits u = Lib.decDigits (u / 10) ++ [UInt8.ofNat (48 + u % 10)] := by
    conv => lhs; unfold Lib.decDigits
    rw [dif_neg h]
  unfold decS
  rw [e]
  apply ByteArray.ext
  simp [ByteArray.data_append]
theorem decS_size (u : Nat) (h : u < 18446744073709551616) : (decS u).size ≤ 40 := by
  have : ∀ (m u : Nat), u < 10 ^ m → (decS u).size ≤ m + 1 := by
    intro m
    induction m with
    | zero => intro u hu; rw [decS_small u (by simp at hu; omega)]; exact Nat.le_refl 1
    | succ m ih =>
      intro u hu
      by_cases h10 : u < 10
      · rw [decS_small u h10]; show 1 ≤ _; omega
      · rw [decS_step u h10, ByteArray.size_append]
        have := ih (u / 10) (by rw [Nat.pow_succ] at hu; omega)
        show _ + 1 ≤ _
        omega
  have := this 20 u (by omega)
  omega
set_option maxHeartbeats 4000000 in
theorem digits_any : ∀ (u : Nat) (w : World), u < 18446744073709551616 →
    Calls Tryd.prog 34 #[.int .u64 (u : Int)] w fun e w' => e = .returned (.string (decS u)) ∧ Below w.heap.size w w' := by
  intro u
  induction u using Nat.strongRecOn with
  | _ u ih =>
    intro w hu
    by_cases h10 : u < 10
    · have hw1 : IntKind.u64.wrap ((u : Int) + 1) = (u : Int) + 1 := by simp [IntKind.wrap_u64]; omega
      have he := digit_ext u h10
      have hlt : (u : Int) < 10 := by omega
      rw [decS_small u h10]
      clear ih
      go_enter Tryd.func34, Tryd.ntmps34
      go_wp2_with fail
      go_ret
      exact ⟨by simp, Below.refl _ _⟩
    · have hge : ¬ (u : Int) < 10 := by omega
      have ihu := Lib.hid (ih (u / 10))
      clear ih
      have hq : Int.tdiv (u : Int) 10 = ((u / 10 : Nat) : Int) := by rw [Int.tdiv_eq_ediv_of_nonneg (by omega)]; omega
      have hm : Int.tmod (u : Int) 10 = ((u % 10 : Nat) : Int) := by rw [Int.tmod_eq_emod_of_nonneg (by omega)]; omega
      have hwq : IntKind.u64.wrap ((u / 10 : Nat) : Int) = ((u / 10 : Nat) : Int) := by simp [IntKind.wrap_u64]; omega
      have hwm : IntKind.u64.wrap ((u % 10 : Nat) : Int) = ((u % 10 : Nat) : Int) := by simp [IntKind.wrap_u64]; omega
      have hw1 : IntKind.u64.wrap (((u % 10 : Nat) : Int) + 1) = ((u % 10 : Nat) : Int) + 1 := by simp [IntKind.wrap_u64]; omega
      have he := digit_ext (u % 10) (by omega)
      have hs := decS_size (u / 10) (by omega)
      have HS := Lib.hid (decS_step u h10)
      have hl1 : ((u % 10 : Nat) : Int) ≤ ((u % 10 : Nat) : Int) + 1 := by omega
      have hl2 : ((u % 10 : Nat) : Int) + 1 ≤ 10 := by omega
      have hl3 : (0 : Int) ≤ ((u % 10 : Nat) : Int) := by omega
      have ha := Lib.hid (show u / 10 < u by omega)
      have ha2 := Lib.hid (show u / 10 < 18446744073709551616 by omega)
      have hc1 : (9223372036854775807 < (decS (u / 10)).size + 1) = False := eq_false (by omega)
      have hc2 : (9223372036854775806 < (decS (u / 10)).size) = False := eq_false (by omega)
      generalize u / 10 = a at *
      generalize u % 10 = b at *
      go_enter Tryd.func34, Tryd.ntmps34
      go_wp2_with fail
      go_region_held3 (fun w' => Below w.heap.size w w') (first | assumption | exact (Below.refl _ w).drew | exact Below.trans (by assumption) (Below.mono (by assumption) (Below.size (by assumption))))
        (first | (go_at_call 34; refine (ihu.out ha.out _ ha2.out).mono ?_; rintro e w2 ⟨rfl, hb2⟩))
      all_goals go_wp2
      all_goals (go_ret; exact ⟨by rw [HS.out]; simp, by assumption⟩)
theorem itoa_nat (u : Nat) : itoaS (u : Int) = decS u := by
  unfold itoaS decS
  rw [Lib.itoa_nonneg]
theorem itoa_negS (u : Nat) (h : 1 ≤ u) : itoaS (-(u : Int)) = ⟨#[45]⟩ ++ decS u := by
  unfold itoaS decS
  rw [Lib.itoa_neg u h]
  apply ByteArray.ext
  simp [ByteArray.data_append]
set_option maxHeartbeats 4000000 in
theorem bigDigits_any (n : Int) (w : World) (h0 : -9223372036854775808 ≤ n) (h1 : n ≤ 9223372036854775807) :
    Calls Tryd.prog 27 #[.int .i64 n] w fun e w' => e = .returned (.string (itoaS n)) ∧ Below w.heap.size w w' := by
  by_cases hn : n < 0
  · obtain ⟨u, hu⟩ := Int.eq_ofNat_of_zero_le (show 0 ≤ -n by omega)
    have hnu : n = -(u : Int) := by omega
    have hw : IntKind.u64.wrap (-IntKind.u64.wrap n) = (u : Int) := by simp [IntKind.wrap_u64]; omega
    have hs := decS_size u (by omega)
    have HD := Lib.hid (digits_any u w (by omega))
    have HS := Lib.hid (itoa_negS u (by omega))
    rw [hnu] at hw hn ⊢
    clear hu hnu h0 h1
    go_enter Tryd.func27, Tryd.ntmps27
    go_wp2_with fail
    refine HD.out.mono ?_
    rintro e w1 ⟨rfl, hb⟩
    have HB := Lib.hid hb
    clear hb
    go_wp2_with fail
    go_ret
    exact ⟨by rw [HS.out]; rfl, HB.out⟩
  · obtain ⟨u, rfl⟩ := Int.eq_ofNat_of_zero_le (show 0 ≤ n by omega)
    have hw : IntKind.u64.wrap (u : Int) = (u : Int) := by simp [IntKind.wrap_u64]; omega
    have HD := Lib.hid (digits_any u w (by omega))
    have HS := Lib.hid (itoa_nat u)
    clear h0 h1
    go_enter Tryd.func27, Tryd.ntmps27
    go_wp2_with fail
    refine HD.out.mono ?_
    rintro e w1 ⟨rfl, hb⟩
    have HB := Lib.hid hb
    clear hb
    go_wp2_with fail
    go_ret
    exact ⟨by rw [HS.out]; rfl, HB.out⟩
end Go.Proofs.YtfgbimcjcplegaaDoorG
