import Derived.Test.YtfmenojhojmedaaDoorMa
-- Written by a program of this session (gprint.py, a turned print with given contracts).
namespace Go.Proofs.YtfmenojhojmedaaDoor.PB
open Go.RowKit Go.Proofs.YtfmenojhojmedaaDoorW.PrintWords Go.Proofs.YtfmenojhojmedaaDoorW.PrintLast Go.Proofs.YtfmenojhojmedaaDoorW.PrintMore Go.Proofs.YtfmenojhojmedaaDoorG Go.Proofs.YtfmenojhojmedaaDoorX
attribute [local go_sem] max2_int min2_int max_two min_two max_three min_three max_four min_four   -- for this text's walks alone
set_option linter.unusedVariables false
set_option linter.unusedSimpArgs false

/-! ### outlawref01_Digits: function 43 -/
def outlawref01_Digits.f : Nat → Int → Option (ByteArray)
  | 0, _ => none
  | k + 1, a0 => if a0 < 10 then (if 0 ≤ a0 then (if a0 ≤ (wrap64 (a0 + 1)) then (if (wrap64 (a0 + 1)) ≤ 10 then (some ((⟨#[48, 49, 50, 51, 52, 53, 54, 55, 56, 57]⟩ : ByteArray).extract (a0 : Int).toNat ((wrap64 (a0 + 1)) : Int).toNat)) else (none)) else (none)) else (none)) else ((outlawref01_Digits.f k (wrap64 (Int.tdiv a0 10))).bind fun t210 => (if 0 ≤ (Int.tmod a0 10) then (if (Int.tmod a0 10) ≤ (wrap64 ((Int.tmod a0 10) + 1)) then (if (wrap64 ((Int.tmod a0 10) + 1)) ≤ 10 then (if t210.size + ((⟨#[48, 49, 50, 51, 52, 53, 54, 55, 56, 57]⟩ : ByteArray).extract ((Int.tmod a0 10) : Int).toNat ((wrap64 ((Int.tmod a0 10) + 1)) : Int).toNat).size ≤ 9223372036854775807 then (some (t210 ++ ((⟨#[48, 49, 50, 51, 52, 53, 54, 55, 56, 57]⟩ : ByteArray).extract ((Int.tmod a0 10) : Int).toNat ((wrap64 ((Int.tmod a0 10) + 1)) : Int).toNat))) else (none)) else (none)) else (none)) else (none)))
theorem outlawref01_Digits.mono_l : ∀ k, (∀ y0, LeO (outlawref01_Digits.f k y0) (outlawref01_Digits.f (k + 1) y0))
  | 0 => fun _ r h => by simp [outlawref01_Digits.f] at h
  | k + 1 => by
    have ih0 := outlawref01_Digits.mono_l k
    · intro y0
      unfold outlawref01_Digits.f
      repeat' first
      | (with_reducible exact ih0 _)
      | (with_reducible exact LeO.refl _)
      | (with_reducible exact LeO.none _)
      | (with_reducible refine LeO.ite ?_ ?_)
      | (with_reducible refine LeO.bind ?_ (fun _ => ?_))
      | exact ih0 _
      | exact LeO.none _
      | refine LeO.ite ?_ ?_
      | refine LeO.bind ?_ (fun _ => ?_)
theorem outlawref01_Digits.mono : ∀ a0 k, LeO (outlawref01_Digits.f k a0) (outlawref01_Digits.f (k + 1) a0) := by
  intro a0 k
  have ih0 := outlawref01_Digits.mono_l k
  exact ih0 a0
def outlawref01_Digits.T3 : Bool × List (List Nat × List Nat) := (true, [([], []), ([0], [0]), ([1], [1]), ([], []), ([3], [3]), ([], []), ([5], [5]), ([6], [6]), ([4, 7], [4, 7]), ([2, 8], [2, 8]), ([9, 2, 0, 1, 2, 3, 4, 5, 6, 7, 8, 9], [9])])
def outlawref01_Digits.B3 : List Nat := [0, 1, 3, 0, 8, 0, 32, 96, 248, 511, 1023]
theorem outlawref01_Digits.tab3 : rtab .any (opsOf Tryd.f43 3) = outlawref01_Digits.T3 := by kernel_rfl
theorem outlawref01_Digits.bits3 : waitsOk outlawref01_Digits.T3.2 outlawref01_Digits.B3 = true := by kernel_rfl
set_option maxHeartbeats 8000000 in
set_option maxRecDepth 100000 in
theorem outlawref01_Digits.calls (k : Nat) : ∀ (a0 : Int) (r : ByteArray) (w : World) (h : outlawref01_Digits.f k a0 = some r),
    Calls Tryd.prog 43 #[.int .i64 a0] w fun e w' => e = .returned (.string r) ∧ Below w.heap.size w w' := by
  induction k using Nat.strongRecOn with
  | _ k ih =>
  intro a0 r w h
  cases k with
  | zero => exact absurd h (by simp [outlawref01_Digits.f])
  | succ k =>
  simp only [outlawref01_Digits.f] at h
  have HB := Aside0.mk (Below.refl w.heap.size w)
  have H : (if a0 < 10 then (if 0 ≤ a0 then (if a0 ≤ (wrap64 (a0 + 1)) then (if (wrap64 (a0 + 1)) ≤ 10 then (some ((⟨#[48, 49, 50, 51, 52, 53, 54, 55, 56, 57]⟩ : ByteArray).extract (a0 : Int).toNat ((wrap64 (a0 + 1)) : Int).toNat)) else (none)) else (none)) else (none)) else ((outlawref01_Digits.f k (wrap64 (Int.tdiv a0 10))).bind fun t210 => (if 0 ≤ (Int.tmod a0 10) then (if (Int.tmod a0 10) ≤ (wrap64 ((Int.tmod a0 10) + 1)) then (if (wrap64 ((Int.tmod a0 10) + 1)) ≤ 10 then (if t210.size + ((⟨#[48, 49, 50, 51, 52, 53, 54, 55, 56, 57]⟩ : ByteArray).extract ((Int.tmod a0 10) : Int).toNat ((wrap64 ((Int.tmod a0 10) + 1)) : Int).toNat).size ≤ 9223372036854775807 then (some (t210 ++ ((⟨#[48, 49, 50, 51, 52, 53, 54, 55, 56, 57]⟩ : ByteArray).extract ((Int.tmod a0 10) : Int).toNat ((wrap64 ((Int.tmod a0 10) + 1)) : Int).toNat))) else (none)) else (none)) else (none)) else (none)))) = some r := h
  clear h
  by_cases c2 : a0 < 10
  · rw [if_pos c2] at H
    have c2b0 : decide (a0 < 10) = true := decide_eq_true c2
    clear c2
    by_cases c3 : 0 ≤ a0
    · rw [if_pos c3] at H
      have c3b0 := eq_true c3
      have c3b1 : decide (0 ≤ a0) = true := decide_eq_true c3
      clear c3
      by_cases c4 : a0 ≤ (wrap64 (a0 + 1))
      · rw [if_pos c4] at H
        have c4b0 := eq_true c4
        have c4b1 : decide (a0 ≤ (wrap64 (a0 + 1))) = true := decide_eq_true c4
        by_cases c5 : (wrap64 (a0 + 1)) ≤ 10
        · rw [if_pos c5] at H
          have c5b0 := eq_true c5
          have c5b1 : decide ((wrap64 (a0 + 1)) ≤ 10) = true := decide_eq_true c5
          obtain rfl := Option.some.inj H
          go_enter Tryd.func43, Tryd.ntmps43
          go_wp2
          go_ret
          exact ⟨by first | rfl | (simp [errW_none, errW_some] <;> rfl) | (simp [*, errW_none, errW_some] <;> rfl), by repeat (first | (with_reducible first | exact HB.out | apply below_alloc | apply pw_below_drewN | apply below_drew1) | exact HB.out)⟩
        · rw [if_neg c5] at H
          exact absurd H (by simp)
      · rw [if_neg c4] at H
        exact absurd H (by simp)
    · rw [if_neg c3] at H
      exact absurd H (by simp)
  · rw [if_neg c2] at H
    have c2b0 : decide (a0 < 10) = false := decide_eq_false c2
    clear c2
    replace H := Option.bind_eq_some_iff.mp H
    obtain ⟨t210, A60, H⟩ := H
    replace H : (if 0 ≤ (Int.tmod a0 10) then (if (Int.tmod a0 10) ≤ (wrap64 ((Int.tmod a0 10) + 1)) then (if (wrap64 ((Int.tmod a0 10) + 1)) ≤ 10 then (if t210.size + ((⟨#[48, 49, 50, 51, 52, 53, 54, 55, 56, 57]⟩ : ByteArray).extract ((Int.tmod a0 10) : Int).toNat ((wrap64 ((Int.tmod a0 10) + 1)) : Int).toNat).size ≤ 9223372036854775807 then (some (t210 ++ ((⟨#[48, 49, 50, 51, 52, 53, 54, 55, 56, 57]⟩ : ByteArray).extract ((Int.tmod a0 10) : Int).toNat ((wrap64 ((Int.tmod a0 10) + 1)) : Int).toNat))) else (none)) else (none)) else (none)) else (none)) = some r := H
    have A6 := Aside0.mk A60
    clear A60
    obtain ⟨ji7, hji7⟩ : ∃ j_ : Int, (Int.tmod a0 10) = j_ := ⟨_, rfl⟩
    replace H : (if 0 ≤ (ji7) then (if (ji7) ≤ (wrap64 ((ji7) + 1)) then (if (wrap64 ((ji7) + 1)) ≤ 10 then (if t210.size + ((⟨#[48, 49, 50, 51, 52, 53, 54, 55, 56, 57]⟩ : ByteArray).extract ((ji7) : Int).toNat ((wrap64 ((ji7) + 1)) : Int).toNat).size ≤ 9223372036854775807 then (some (t210 ++ ((⟨#[48, 49, 50, 51, 52, 53, 54, 55, 56, 57]⟩ : ByteArray).extract ((ji7) : Int).toNat ((wrap64 ((ji7) + 1)) : Int).toNat))) else (none)) else (none)) else (none)) else (none)) = some r := by first | (rw [hji7] at H; exact H) | (simp only [hji7] at H ⊢; exact H)
    (try rw [hji7] at A6)
    by_cases c8 : 0 ≤ (ji7)
    · rw [if_pos c8] at H
      have c8b0 := eq_true c8
      have c8b1 : decide (0 ≤ (ji7)) = true := decide_eq_true c8
      clear c8
      by_cases c9 : (ji7) ≤ (wrap64 ((ji7) + 1))
      · rw [if_pos c9] at H
        have c9b0 := eq_true c9
        have c9b1 : decide ((ji7) ≤ (wrap64 ((ji7) + 1))) = true := decide_eq_true c9
        by_cases c10 : (wrap64 ((ji7) + 1)) ≤ 10
        · rw [if_pos c10] at H
          have c10b0 := eq_true c10
          have c10b1 : decide ((wrap64 ((ji7) + 1)) ≤ 10) = true := decide_eq_true c10
          by_cases c11 : t210.size + ((⟨#[48, 49, 50, 51, 52, 53, 54, 55, 56, 57]⟩ : ByteArray).extract ((ji7) : Int).toNat ((wrap64 ((ji7) + 1)) : Int).toNat).size ≤ 9223372036854775807
          · rw [if_pos c11] at H
            (try (have c11x := c11; simp only [ByteArray.size_extract, Nat.min_self, Nat.sub_zero] at c11x))
            (try (have c11y := c11; simp only [ByteArray.size_extract, Nat.min_self, Nat.sub_zero, Int.natCast_pos] at c11y))
            have c11b0 := eq_true c11
            have c11b1 : decide (t210.size + ((⟨#[48, 49, 50, 51, 52, 53, 54, 55, 56, 57]⟩ : ByteArray).extract ((ji7) : Int).toNat ((wrap64 ((ji7) + 1)) : Int).toNat).size ≤ 9223372036854775807) = true := decide_eq_true c11
            (try (have c11b1e := c11b1; simp only [ByteArray.size_extract, Nat.min_self, Nat.sub_zero] at c11b1e))
            try have c11b2 : (9223372036854775807 < t210.size + ((⟨#[48, 49, 50, 51, 52, 53, 54, 55, 56, 57]⟩ : ByteArray).extract ((ji7) : Int).toNat ((wrap64 ((ji7) + 1)) : Int).toNat).size) = False := eq_false (Nat.not_lt.2 c11)
            obtain rfl := Option.some.inj H
            go_enter Tryd.func43, Tryd.ntmps43
            try go_wp2
            have n0_ := Aside0.mk (below_drew1 HB.out)
            clear HB
            have HB := n0_
            clear n0_
            refine start_ (n := 11) (S := fun w' => True) (ds := []) #[false, false, false, false, false, false, false, false, false, false, false] (by kernel_rfl) rfl rfl trivial (fun hHeld => ?_); refine with_tabW outlawref01_Digits.tab3 outlawref01_Digits.bits3 (fun HT_ HW_ => ?_)
            generalize w.drew = w12 at HB hHeld ⊢
            refine pure_ (i := 0) (N := some 9) (v := ?_) (a' := ?_) #[true, false, false, false, false, false, false, false, false, false, false] rfl rfl (any_of HT_.out (by kernel_rfl)) (fun _ _ _ h => h) (Or.inl ⟨by rfl, ?_⟩) ?_ ?_
            rotate_left
            · intro w'
              go_simp
              first | with_reducible rfl | (rw [if_neg (by first | (exact Nat.not_lt.2 c11) | (have hm10_ : (⟨#[48, 49, 50, 51, 52, 53, 54, 55, 56, 57]⟩ : ByteArray).size = 10 := rfl; have hm_ : ∀ x : UInt8, (⟨#[x]⟩ : ByteArray).size = 1 := fun _ => rfl; have hm2_ : ∀ x y : UInt8, (⟨#[x, y]⟩ : ByteArray).size = 2 := fun _ _ => rfl; have hm3_ : ∀ x y z : UInt8, (⟨#[x, y, z]⟩ : ByteArray).size = 3 := fun _ _ _ => rfl; (try simp only [ByteArray.size_append, ByteArray.size_extract, hm_, hm2_, hm3_, strOfNums_size]); (try have h_c3b0 := of_eq_true c3b0); (try have h_c4b0 := of_eq_true c4b0); (try have h_c5b0 := of_eq_true c5b0); (try have h_c8b0 := of_eq_true c8b0); (try have h_c9b0 := of_eq_true c9b0); (try have h_c10b0 := of_eq_true c10b0); (try have h_c11b0 := of_eq_true c11b0); (try have h_c11 := c11); (try simp only [ByteArray.size_append, ByteArray.size_extract, hm_, hm2_, hm3_, strOfNums_size, List.size_toArray, List.length_cons, List.length_nil, Nat.zero_add] at h_c11); omega))]; try with_reducible rfl)
            rotate_left
            · simp only [Act.put, List.setIfInBounds_toArray, List.set_cons_zero, List.set_cons_succ, i64_w, i32_w]
              rfl
            refine pure_ (i := 1) (N := some 10) (v := ?_) (a' := ?_) #[true, true, false, false, false, false, false, false, false, false, false] rfl rfl (any_of HT_.out (by kernel_rfl)) (fun _ _ _ h => h) (Or.inl ⟨by rfl, ?_⟩) ?_ ?_
            rotate_left
            · intro w'
              go_simp
              first | with_reducible rfl | (rw [if_neg (by first | (exact Nat.not_lt.2 c11) | (have hm10_ : (⟨#[48, 49, 50, 51, 52, 53, 54, 55, 56, 57]⟩ : ByteArray).size = 10 := rfl; have hm_ : ∀ x : UInt8, (⟨#[x]⟩ : ByteArray).size = 1 := fun _ => rfl; have hm2_ : ∀ x y : UInt8, (⟨#[x, y]⟩ : ByteArray).size = 2 := fun _ _ => rfl; have hm3_ : ∀ x y z : UInt8, (⟨#[x, y, z]⟩ : ByteArray).size = 3 := fun _ _ _ => rfl; (try simp only [ByteArray.size_append, ByteArray.size_extract, hm_, hm2_, hm3_, strOfNums_size]); (try have h_c3b0 := of_eq_true c3b0); (try have h_c4b0 := of_eq_true c4b0); (try have h_c5b0 := of_eq_true c5b0); (try have h_c8b0 := of_eq_true c8b0); (try have h_c9b0 := of_eq_true c9b0); (try have h_c10b0 := of_eq_true c10b0); (try have h_c11b0 := of_eq_true c11b0); (try have h_c11 := c11); (try simp only [ByteArray.size_append, ByteArray.size_extract, hm_, hm2_, hm3_, strOfNums_size, List.size_toArray, List.length_cons, List.length_nil, Nat.zero_add] at h_c11); omega))]; try with_reducible rfl)
            rotate_left
            · simp only [Act.put, List.setIfInBounds_toArray, List.set_cons_zero, List.set_cons_succ, i64_w, i32_w]
              rfl
            refine pure_ (i := 3) (N := some 12) (v := ?_) (a' := ?_) #[true, true, false, true, false, false, false, false, false, false, false] rfl rfl (any_of HT_.out (by kernel_rfl)) (fun _ _ _ h => h) (Or.inl ⟨by rfl, ?_⟩) ?_ ?_
            rotate_left
            · intro w'
              go_simp
              first | with_reducible rfl | (rw [if_neg (by first | (exact Nat.not_lt.2 c11) | (have hm10_ : (⟨#[48, 49, 50, 51, 52, 53, 54, 55, 56, 57]⟩ : ByteArray).size = 10 := rfl; have hm_ : ∀ x : UInt8, (⟨#[x]⟩ : ByteArray).size = 1 := fun _ => rfl; have hm2_ : ∀ x y : UInt8, (⟨#[x, y]⟩ : ByteArray).size = 2 := fun _ _ => rfl; have hm3_ : ∀ x y z : UInt8, (⟨#[x, y, z]⟩ : ByteArray).size = 3 := fun _ _ _ => rfl; (try simp only [ByteArray.size_append, ByteArray.size_extract, hm_, hm2_, hm3_, strOfNums_size]); (try have h_c3b0 := of_eq_true c3b0); (try have h_c4b0 := of_eq_true c4b0); (try have h_c5b0 := of_eq_true c5b0); (try have h_c8b0 := of_eq_true c8b0); (try have h_c9b0 := of_eq_true c9b0); (try have h_c10b0 := of_eq_true c10b0); (try have h_c11b0 := of_eq_true c11b0); (try have h_c11 := c11); (try simp only [ByteArray.size_append, ByteArray.size_extract, hm_, hm2_, hm3_, strOfNums_size, List.size_toArray, List.length_cons, List.length_nil, Nat.zero_add] at h_c11); omega))]; try with_reducible rfl)
            rotate_left
            · simp only [Act.put, List.setIfInBounds_toArray, List.set_cons_zero, List.set_cons_succ, i64_w, i32_w]
              rfl
            refine pure_ (i := 4) (N := some 13) (v := ?_) (a' := ?_) #[true, true, false, true, true, false, false, false, false, false, false] rfl rfl (any_of HT_.out (by kernel_rfl)) (fun _ _ _ h => h) (Or.inl ⟨by rfl, ?_⟩) ?_ ?_
            rotate_left
            · intro w'
              go_simp
              first | with_reducible rfl | (rw [if_neg (by first | (exact Nat.not_lt.2 c11) | (have hm10_ : (⟨#[48, 49, 50, 51, 52, 53, 54, 55, 56, 57]⟩ : ByteArray).size = 10 := rfl; have hm_ : ∀ x : UInt8, (⟨#[x]⟩ : ByteArray).size = 1 := fun _ => rfl; have hm2_ : ∀ x y : UInt8, (⟨#[x, y]⟩ : ByteArray).size = 2 := fun _ _ => rfl; have hm3_ : ∀ x y z : UInt8, (⟨#[x, y, z]⟩ : ByteArray).size = 3 := fun _ _ _ => rfl; (try simp only [ByteArray.size_append, ByteArray.size_extract, hm_, hm2_, hm3_, strOfNums_size]); (try have h_c3b0 := of_eq_true c3b0); (try have h_c4b0 := of_eq_true c4b0); (try have h_c5b0 := of_eq_true c5b0); (try have h_c8b0 := of_eq_true c8b0); (try have h_c9b0 := of_eq_true c9b0); (try have h_c10b0 := of_eq_true c10b0); (try have h_c11b0 := of_eq_true c11b0); (try have h_c11 := c11); (try simp only [ByteArray.size_append, ByteArray.size_extract, hm_, hm2_, hm3_, strOfNums_size, List.size_toArray, List.length_cons, List.length_nil, Nat.zero_add] at h_c11); omega))]; try with_reducible rfl)
            rotate_left
            · simp only [Act.put, List.setIfInBounds_toArray, List.set_cons_zero, List.set_cons_succ, i64_w, i32_w]
              rfl
            refine pure_ (i := 5) (N := some 14) (v := ?_) (a' := ?_) #[true, true, false, true, true, true, false, false, false, false, false] rfl rfl (any_of HT_.out (by kernel_rfl)) (fun _ _ _ h => h) (Or.inl ⟨by rfl, ?_⟩) ?_ ?_
            rotate_left
            · intro w'
              go_simp
              first | with_reducible rfl | (rw [if_neg (by first | (exact Nat.not_lt.2 c11) | (have hm10_ : (⟨#[48, 49, 50, 51, 52, 53, 54, 55, 56, 57]⟩ : ByteArray).size = 10 := rfl; have hm_ : ∀ x : UInt8, (⟨#[x]⟩ : ByteArray).size = 1 := fun _ => rfl; have hm2_ : ∀ x y : UInt8, (⟨#[x, y]⟩ : ByteArray).size = 2 := fun _ _ => rfl; have hm3_ : ∀ x y z : UInt8, (⟨#[x, y, z]⟩ : ByteArray).size = 3 := fun _ _ _ => rfl; (try simp only [ByteArray.size_append, ByteArray.size_extract, hm_, hm2_, hm3_, strOfNums_size]); (try have h_c3b0 := of_eq_true c3b0); (try have h_c4b0 := of_eq_true c4b0); (try have h_c5b0 := of_eq_true c5b0); (try have h_c8b0 := of_eq_true c8b0); (try have h_c9b0 := of_eq_true c9b0); (try have h_c10b0 := of_eq_true c10b0); (try have h_c11b0 := of_eq_true c11b0); (try have h_c11 := c11); (try simp only [ByteArray.size_append, ByteArray.size_extract, hm_, hm2_, hm3_, strOfNums_size, List.size_toArray, List.length_cons, List.length_nil, Nat.zero_add] at h_c11); omega))]; try with_reducible rfl)
            rotate_left
            · simp only [Act.put, List.setIfInBounds_toArray, List.set_cons_zero, List.set_cons_succ, i64_w, i32_w]
              rfl
            refine pure_ (i := 6) (N := some 15) (v := ?_) (a' := ?_) #[true, true, false, true, true, true, true, false, false, false, false] rfl rfl (any_of HT_.out (by kernel_rfl)) (fun _ _ _ h => h) (Or.inl ⟨by rfl, ?_⟩) ?_ ?_
            rotate_left
            · intro w'
              go_simp
              first | with_reducible rfl | (rw [if_neg (by first | (exact Nat.not_lt.2 c11) | (have hm10_ : (⟨#[48, 49, 50, 51, 52, 53, 54, 55, 56, 57]⟩ : ByteArray).size = 10 := rfl; have hm_ : ∀ x : UInt8, (⟨#[x]⟩ : ByteArray).size = 1 := fun _ => rfl; have hm2_ : ∀ x y : UInt8, (⟨#[x, y]⟩ : ByteArray).size = 2 := fun _ _ => rfl; have hm3_ : ∀ x y z : UInt8, (⟨#[x, y, z]⟩ : ByteArray).size = 3 := fun _ _ _ => rfl; (try simp only [ByteArray.size_append, ByteArray.size_extract, hm_, hm2_, hm3_, strOfNums_size]); (try have h_c3b0 := of_eq_true c3b0); (try have h_c4b0 := of_eq_true c4b0); (try have h_c5b0 := of_eq_true c5b0); (try have h_c8b0 := of_eq_true c8b0); (try have h_c9b0 := of_eq_true c9b0); (try have h_c10b0 := of_eq_true c10b0); (try have h_c11b0 := of_eq_true c11b0); (try have h_c11 := c11); (try simp only [ByteArray.size_append, ByteArray.size_extract, hm_, hm2_, hm3_, strOfNums_size, List.size_toArray, List.length_cons, List.length_nil, Nat.zero_add] at h_c11); omega))]; try with_reducible rfl)
            rotate_left
            · simp only [Act.put, List.setIfInBounds_toArray, List.set_cons_zero, List.set_cons_succ, i64_w, i32_w]
              rfl
            refine pure_ (i := 7) (N := some 16) (v := ?_) (a' := ?_) #[true, true, false, true, true, true, true, true, false, false, false] rfl rfl (any_of HT_.out (by kernel_rfl)) (fun _ _ _ h => h) (Or.inl ⟨by rfl, ?_⟩) ?_ ?_
            rotate_left
            · intro w'
              go_simp
              first | with_reducible rfl | (rw [if_neg (by first | (exact Nat.not_lt.2 c11) | (have hm10_ : (⟨#[48, 49, 50, 51, 52, 53, 54, 55, 56, 57]⟩ : ByteArray).size = 10 := rfl; have hm_ : ∀ x : UInt8, (⟨#[x]⟩ : ByteArray).size = 1 := fun _ => rfl; have hm2_ : ∀ x y : UInt8, (⟨#[x, y]⟩ : ByteArray).size = 2 := fun _ _ => rfl; have hm3_ : ∀ x y z : UInt8, (⟨#[x, y, z]⟩ : ByteArray).size = 3 := fun _ _ _ => rfl; (try simp only [ByteArray.size_append, ByteArray.size_extract, hm_, hm2_, hm3_, strOfNums_size]); (try have h_c3b0 := of_eq_true c3b0); (try have h_c4b0 := of_eq_true c4b0); (try have h_c5b0 := of_eq_true c5b0); (try have h_c8b0 := of_eq_true c8b0); (try have h_c9b0 := of_eq_true c9b0); (try have h_c10b0 := of_eq_true c10b0); (try have h_c11b0 := of_eq_true c11b0); (try have h_c11 := c11); (try simp only [ByteArray.size_append, ByteArray.size_extract, hm_, hm2_, hm3_, strOfNums_size, List.size_toArray, List.length_cons, List.length_nil, Nat.zero_add] at h_c11); omega))]; try with_reducible rfl)
            rotate_left
            · simp only [Act.put, List.setIfInBounds_toArray, List.set_cons_zero, List.set_cons_succ, i64_w, i32_w]
              rfl
            refine pure_ (i := 8) (N := some 17) (v := ?_) (a' := ?_) #[true, true, false, true, true, true, true, true, true, false, false] rfl rfl (any_of HT_.out (by kernel_rfl)) (fun _ _ _ h => h) (Or.inl ⟨by rfl, ?_⟩) ?_ ?_
            rotate_left
            · intro w'
              go_simp
              first | with_reducible rfl | (rw [if_neg (by first | (exact Nat.not_lt.2 c11) | (have hm10_ : (⟨#[48, 49, 50, 51, 52, 53, 54, 55, 56, 57]⟩ : ByteArray).size = 10 := rfl; have hm_ : ∀ x : UInt8, (⟨#[x]⟩ : ByteArray).size = 1 := fun _ => rfl; have hm2_ : ∀ x y : UInt8, (⟨#[x, y]⟩ : ByteArray).size = 2 := fun _ _ => rfl; have hm3_ : ∀ x y z : UInt8, (⟨#[x, y, z]⟩ : ByteArray).size = 3 := fun _ _ _ => rfl; (try simp only [ByteArray.size_append, ByteArray.size_extract, hm_, hm2_, hm3_, strOfNums_size]); (try have h_c3b0 := of_eq_true c3b0); (try have h_c4b0 := of_eq_true c4b0); (try have h_c5b0 := of_eq_true c5b0); (try have h_c8b0 := of_eq_true c8b0); (try have h_c9b0 := of_eq_true c9b0); (try have h_c10b0 := of_eq_true c10b0); (try have h_c11b0 := of_eq_true c11b0); (try have h_c11 := c11); (try simp only [ByteArray.size_append, ByteArray.size_extract, hm_, hm2_, hm3_, strOfNums_size, List.size_toArray, List.length_cons, List.length_nil, Nat.zero_add] at h_c11); omega))]; try with_reducible rfl)
            rotate_left
            · simp only [Act.put, List.setIfInBounds_toArray, List.set_cons_zero, List.set_cons_succ, i64_w, i32_w]
              rfl
            refine one_ (i := 2) (N := some 11) #[true, true, true, true, true, true, true, true, true, false, false] rfl rfl (one_of HT_.out (by kernel_rfl)) (by decide) (fun K hK => ?_)
            refine goes_ Tryd.func43 (by kernel_rfl) rfl #[.int .i64 (wrap64 (Int.tdiv a0 10))] (by rfl) rfl rfl (by (try simp only [List.map_toArray, List.map_cons, List.map_nil]); first | done | rfl | (simp only [List.length_drop, List.length_take]; rfl)) ?_
            with_reducible refine (ih k (by omega) (wrap64 (Int.tdiv a0 10)) t210 _ A6.out).mono ?_
            rintro e w13 ⟨rfl, hb⟩
            refine ⟨_, rfl, ?_⟩
            have n0_ := Aside0.mk (below_step (by repeat (first | (with_reducible first | exact HB.out | apply below_alloc | apply pw_below_drewN | apply below_drew1) | exact HB.out)) hb)
            clear HB
            have HB := n0_
            clear n0_
            (try clear hb)
            (try clear hb2)
            (try clear hk)
            (try clear hi)
            refine hK.out _ _ trivial (fun hHeld => ?_)
            clear hK K
            refine norm_ (a' := ?_) ?_ ?_
            rotate_left
            · show Act.put _ (some 11) _ = _
              simp only [Act.put, List.setIfInBounds_toArray, List.set_cons_zero, List.set_cons_succ, i64_w, i32_w]
              rfl
            refine pure_ (i := 9) (N := some 18) (v := ?_) (a' := ?_) #[true, true, true, true, true, true, true, true, true, true, false] rfl rfl (any_of HT_.out (by kernel_rfl)) (fun _ _ _ h => h) (Or.inl ⟨by rfl, ?_⟩) ?_ ?_
            rotate_left
            · intro w'
              go_simp
              first | with_reducible rfl | (rw [if_neg (by first | (exact Nat.not_lt.2 c11) | (have hm10_ : (⟨#[48, 49, 50, 51, 52, 53, 54, 55, 56, 57]⟩ : ByteArray).size = 10 := rfl; have hm_ : ∀ x : UInt8, (⟨#[x]⟩ : ByteArray).size = 1 := fun _ => rfl; have hm2_ : ∀ x y : UInt8, (⟨#[x, y]⟩ : ByteArray).size = 2 := fun _ _ => rfl; have hm3_ : ∀ x y z : UInt8, (⟨#[x, y, z]⟩ : ByteArray).size = 3 := fun _ _ _ => rfl; (try simp only [ByteArray.size_append, ByteArray.size_extract, hm_, hm2_, hm3_, strOfNums_size]); (try have h_c3b0 := of_eq_true c3b0); (try have h_c4b0 := of_eq_true c4b0); (try have h_c5b0 := of_eq_true c5b0); (try have h_c8b0 := of_eq_true c8b0); (try have h_c9b0 := of_eq_true c9b0); (try have h_c10b0 := of_eq_true c10b0); (try have h_c11b0 := of_eq_true c11b0); (try have h_c11 := c11); (try simp only [ByteArray.size_append, ByteArray.size_extract, hm_, hm2_, hm3_, strOfNums_size, List.size_toArray, List.length_cons, List.length_nil, Nat.zero_add] at h_c11); omega))]; try with_reducible rfl)
            rotate_left
            · simp only [Act.put, List.setIfInBounds_toArray, List.set_cons_zero, List.set_cons_succ, i64_w, i32_w]
              rfl
            refine pure_ (i := 10) (N := some 2) (v := ?_) (a' := ?_) #[true, true, true, true, true, true, true, true, true, true, true] rfl rfl (any_of HT_.out (by kernel_rfl)) (fun _ _ _ h => h) (Or.inl ⟨by rfl, ?_⟩) ?_ ?_
            rotate_left
            · intro w'
              go_simp
              first | with_reducible rfl | (rw [if_neg (by first | (exact Nat.not_lt.2 c11) | (have hm10_ : (⟨#[48, 49, 50, 51, 52, 53, 54, 55, 56, 57]⟩ : ByteArray).size = 10 := rfl; have hm_ : ∀ x : UInt8, (⟨#[x]⟩ : ByteArray).size = 1 := fun _ => rfl; have hm2_ : ∀ x y : UInt8, (⟨#[x, y]⟩ : ByteArray).size = 2 := fun _ _ => rfl; have hm3_ : ∀ x y z : UInt8, (⟨#[x, y, z]⟩ : ByteArray).size = 3 := fun _ _ _ => rfl; (try simp only [ByteArray.size_append, ByteArray.size_extract, hm_, hm2_, hm3_, strOfNums_size]); (try have h_c3b0 := of_eq_true c3b0); (try have h_c4b0 := of_eq_true c4b0); (try have h_c5b0 := of_eq_true c5b0); (try have h_c8b0 := of_eq_true c8b0); (try have h_c9b0 := of_eq_true c9b0); (try have h_c10b0 := of_eq_true c10b0); (try have h_c11b0 := of_eq_true c11b0); (try have h_c11 := c11); (try simp only [ByteArray.size_append, ByteArray.size_extract, hm_, hm2_, hm3_, strOfNums_size, List.size_toArray, List.length_cons, List.length_nil, Nat.zero_add] at h_c11); omega))]; try with_reducible rfl)
            rotate_left
            · simp only [Act.put, List.setIfInBounds_toArray, List.set_cons_zero, List.set_cons_succ, i64_w, i32_w]
              rfl
            refine done_ (done_of HT_.out (by kernel_rfl)) ?_
            try go_wp2
            go_ret
            exact ⟨by first | rfl | (simp [errW_none, errW_some] <;> rfl) | (simp only [← hji7]; first | rfl | (simp [errW_none, errW_some] <;> rfl)) | (simp [*, errW_none, errW_some] <;> rfl), by repeat (first | (with_reducible first | exact HB.out | apply below_alloc | apply pw_below_drewN | apply below_drew1) | exact HB.out)⟩
          · rw [if_neg c11] at H
            (try (have c11x := c11; simp only [ByteArray.size_extract, Nat.min_self, Nat.sub_zero] at c11x))
            (try (have c11y := c11; simp only [ByteArray.size_extract, Nat.min_self, Nat.sub_zero, Int.natCast_pos] at c11y))
            exact absurd H (by simp)
        · rw [if_neg c10] at H
          exact absurd H (by simp)
      · rw [if_neg c9] at H
        exact absurd H (by simp)
    · rw [if_neg c8] at H
      exact absurd H (by simp)

/-! ### outlawref01_Number: function 23 -/
def outlawref01_Number.j0 : Nat → Int → Bool → Option (ByteArray × Int)
  | 0, _, _ => none
  | k + 1, x0, x4 => if x4 = true then (some ((⟨#[]⟩ : ByteArray), 2)) else (if x0 < 0 then ((outlawref01_Digits.f k (wrap64 (-x0))).bind fun t211 => (if 1 + t211.size ≤ 9223372036854775807 then (some ((⟨#[45]⟩ : ByteArray) ++ t211, 0)) else (none))) else ((outlawref01_Digits.f k x0).bind fun t212 => (some (t212, 0))))
def outlawref01_Number.f (k : Nat) (a0 : Int) : Option (ByteArray × Int) := if a0 < (-9007199254740991) then (outlawref01_Number.j0 k a0 true) else (outlawref01_Number.j0 k a0 (decide (a0 > 9007199254740991)))
theorem outlawref01_Number.mono_l : ∀ k, (∀ y0 y1, LeO (outlawref01_Number.j0 k y0 y1) (outlawref01_Number.j0 (k + 1) y0 y1))
  | 0 => fun _ _ r h => by simp [outlawref01_Number.j0] at h
  | k + 1 => by
    have ih0 := outlawref01_Number.mono_l k
    · intro y0 y1
      unfold outlawref01_Number.j0
      repeat' first
      | (with_reducible exact ih0 _ _)
      | (with_reducible exact outlawref01_Digits.mono _ _)
      | (with_reducible exact LeO.refl _)
      | (with_reducible exact LeO.none _)
      | (with_reducible refine LeO.ite ?_ ?_)
      | (with_reducible refine LeO.bind ?_ (fun _ => ?_))
      | exact ih0 _ _
      | exact outlawref01_Digits.mono _ _
      | exact LeO.none _
      | refine LeO.ite ?_ ?_
      | refine LeO.bind ?_ (fun _ => ?_)
theorem outlawref01_Number.mono : ∀ a0 k, LeO (outlawref01_Number.f k a0) (outlawref01_Number.f (k + 1) a0) := by
  intro a0 k
  have ih0 := outlawref01_Number.mono_l k
  unfold outlawref01_Number.f
  repeat' first
      | (with_reducible exact ih0 _ _)
      | (with_reducible exact outlawref01_Digits.mono _ _)
      | (with_reducible exact LeO.refl _)
      | (with_reducible exact LeO.none _)
      | (with_reducible refine LeO.ite ?_ ?_)
      | (with_reducible refine LeO.bind ?_ (fun _ => ?_))
      | exact ih0 _ _
      | exact outlawref01_Digits.mono _ _
      | exact LeO.none _
      | refine LeO.ite ?_ ?_
      | refine LeO.bind ?_ (fun _ => ?_)
set_option maxHeartbeats 8000000 in
set_option maxRecDepth 100000 in
theorem outlawref01_Number.calls (k : Nat) (a0 : Int) (r1 : ByteArray) (r2 : Int) (w : World) (h : outlawref01_Number.f k a0 = some (r1, r2)) :
    Calls Tryd.prog 23 #[.int .i64 a0] w fun e w' => e = .returned (.tuple #[.string r1, .int .i64 r2]) ∧ Below w.heap.size w w' := by
  have HB := Aside0.mk (Below.refl w.heap.size w)
  have H : (if a0 < (-9007199254740991) then (outlawref01_Number.j0 k a0 true) else (outlawref01_Number.j0 k a0 (decide (a0 > 9007199254740991)))) = some (r1, r2) := h
  clear h
  have HC2 := Aside0.mk H
  clear H
  go_enter Tryd.func23, Tryd.ntmps23
  go_upto_region 1 with (fail)
  go_cut [4] (fun v4 wc => ∃ (kq : Nat) (x4_1 : Bool), v4 = .bool x4_1 ∧ Aside0 (outlawref01_Number.j0 kq a0 x4_1 = some (r1, r2)) ∧ Aside0 (kq ≤ k) ∧ Aside0 (Below w.heap.size w wc))
  case first =>
    have H := HC2.out
    clear HC2
    by_cases c3 : a0 < (-9007199254740991)
    · rw [if_pos c3] at H
      have c3b0 : decide (a0 < (-9007199254740991)) = true := decide_eq_true c3
      clear c3
      (first | rw [c3b0] | (simp only [i64_w, i32_w]; rw [c3b0]) | skip)
      have H' := Aside0.mk H
      clear H
      go_wp2
      all_goals
        go_meet
        case rel => exact ⟨_, (true), (by first | rfl | (simp; done) | (simp [*]; done) | (simp [bneNil_, beqNil_]; done) | (simp [bneNil_, beqNil_, *]; done) | (simp_all; done)), H', ⟨by first | omega | exact Nat.le_refl _⟩, ⟨by repeat (first | (with_reducible first | exact HB.out | apply below_alloc | apply pw_below_drewN | apply below_drew1) | exact HB.out)⟩⟩
    · rw [if_neg c3] at H
      have c3b0 : decide (a0 < (-9007199254740991)) = false := decide_eq_false c3
      clear c3
      (first | rw [c3b0] | (simp only [i64_w, i32_w]; rw [c3b0]) | skip)
      have H' := Aside0.mk H
      clear H
      go_wp2
      all_goals
        go_meet
        case rel => exact ⟨_, (decide (a0 > 9007199254740991)), (by first | rfl | (simp; done) | (simp [*]; done) | (simp [bneNil_, beqNil_]; done) | (simp [bneNil_, beqNil_, *]; done) | (simp_all; done)), H', ⟨by first | omega | exact Nat.le_refl _⟩, ⟨by repeat (first | (with_reducible first | exact HB.out | apply below_alloc | apply pw_below_drewN | apply below_drew1) | exact HB.out)⟩⟩
  case rest =>
    clear HC2
    try clear c2
    try clear p2
    try clear c3
    try clear c3b0
    obtain ⟨kq, x4_1, rfl, HA, HJ1, HB⟩ := hcut
    cases kq with
    | zero => exact absurd HA.out (by simp [outlawref01_Number.j0])
    | succ kj1 =>
      have H := HA.out
      clear HA
      simp only [outlawref01_Number.j0] at H
      by_cases c4 : x4_1 = true
      · subst c4
        have H1 : (some ((⟨#[]⟩ : ByteArray), 2)) = some (r1, r2) := by rw [if_pos rfl] at H; exact H
        clear H
        have H := H1
        clear H1
        simp only [Option.some.injEq, Prod.mk.injEq] at H
        obtain ⟨rfl, rfl⟩ := H
        go_wp2
        go_ret2
        exact ⟨by first | rfl | (simp [errW_none, errW_some] <;> rfl) | (simp [*, errW_none, errW_some] <;> rfl), by repeat (first | (with_reducible first | exact HB.out | apply below_alloc | apply pw_below_drewN | apply below_drew1) | exact HB.out)⟩
      · replace c4 := Bool.eq_false_iff.mpr c4
        subst c4
        have H1 : (if a0 < 0 then ((outlawref01_Digits.f kj1 (wrap64 (-a0))).bind fun t211 => (if 1 + t211.size ≤ 9223372036854775807 then (some ((⟨#[45]⟩ : ByteArray) ++ t211, 0)) else (none))) else ((outlawref01_Digits.f kj1 a0).bind fun t212 => (some (t212, 0)))) = some (r1, r2) := by rw [if_neg (show ¬ (false = true) by decide)] at H; exact H
        clear H
        have H := H1
        clear H1
        by_cases c5 : a0 < 0
        · rw [if_pos c5] at H
          have c5b0 : decide (a0 < 0) = true := decide_eq_true c5
          clear c5
          replace H := Option.bind_eq_some_iff.mp H
          obtain ⟨t211, A60, H⟩ := H
          replace H : (if 1 + t211.size ≤ 9223372036854775807 then (some ((⟨#[45]⟩ : ByteArray) ++ t211, 0)) else (none)) = some (r1, r2) := H
          have A6 := Aside0.mk A60
          clear A60
          by_cases c7 : 1 + t211.size ≤ 9223372036854775807
          · rw [if_pos c7] at H
            have c7b0 := eq_true c7
            have c7b1 : decide (1 + t211.size ≤ 9223372036854775807) = true := decide_eq_true c7
            try have c7b2 : (9223372036854775807 < 1 + t211.size) = False := eq_false (Nat.not_lt.2 c7)
            simp only [Option.some.injEq, Prod.mk.injEq] at H
            obtain ⟨rfl, rfl⟩ := H
            go_wp2_with (first | ((with_reducible refine gate_callee (f := 43) rfl ?_); refine goesL_ (some 16) rfl rfl Tryd.func43 (by kernel_rfl) rfl #[.int .i64 (wrap64 (-a0))] rfl (by (try simp only [List.map_toArray, List.map_cons, List.map_nil]); first | done | rfl | (simp only [List.length_drop, List.length_take]; rfl)) ?_; (with_reducible refine (outlawref01_Digits.calls kj1 (wrap64 (-a0)) t211 _ A6.out).mono ?_); rintro e w8 ⟨rfl, hb⟩; refine ⟨_, rfl, ?_⟩; have n0_ := Aside0.mk (below_step (by repeat (first | (with_reducible first | exact HB.out | apply below_alloc | apply pw_below_drewN | apply below_drew1) | exact HB.out)) hb); clear HB; have HB := n0_; clear n0_; (try clear hb); (try clear hb2); (try clear hk); (try clear hi)))
            go_ret2
            exact ⟨by first | rfl | (simp [errW_none, errW_some] <;> rfl) | (simp [*, errW_none, errW_some] <;> rfl), by repeat (first | (with_reducible first | exact HB.out | apply below_alloc | apply pw_below_drewN | apply below_drew1) | exact HB.out)⟩
          · rw [if_neg c7] at H
            exact absurd H (by simp)
        · rw [if_neg c5] at H
          have c5b0 : decide (a0 < 0) = false := decide_eq_false c5
          clear c5
          replace H := Option.bind_eq_some_iff.mp H
          obtain ⟨t212, A90, H⟩ := H
          replace H : (some (t212, 0)) = some (r1, r2) := H
          have A9 := Aside0.mk A90
          clear A90
          simp only [Option.some.injEq, Prod.mk.injEq] at H
          obtain ⟨rfl, rfl⟩ := H
          go_wp2_with (first | ((with_reducible refine gate_callee (f := 43) rfl ?_); refine goesL_ (some 19) rfl rfl Tryd.func43 (by kernel_rfl) rfl #[.int .i64 a0] rfl (by (try simp only [List.map_toArray, List.map_cons, List.map_nil]); first | done | rfl | (simp only [List.length_drop, List.length_take]; rfl)) ?_; (with_reducible refine (outlawref01_Digits.calls kj1 a0 t212 _ A9.out).mono ?_); rintro e w10 ⟨rfl, hb⟩; refine ⟨_, rfl, ?_⟩; have n0_ := Aside0.mk (below_step (by repeat (first | (with_reducible first | exact HB.out | apply below_alloc | apply pw_below_drewN | apply below_drew1) | exact HB.out)) hb); clear HB; have HB := n0_; clear n0_; (try clear hb); (try clear hb2); (try clear hk); (try clear hi)))
          go_ret2
          exact ⟨by first | rfl | (simp [errW_none, errW_some] <;> rfl) | (simp [*, errW_none, errW_some] <;> rfl), by repeat (first | (with_reducible first | exact HB.out | apply below_alloc | apply pw_below_drewN | apply below_drew1) | exact HB.out)⟩

end Go.Proofs.YtfmenojhojmedaaDoor.PB
-- Written by a program of this session (gprint.py, a turned print with given contracts).
namespace Go.Proofs.YtfmenojhojmedaaDoor.PB
open Go.RowKit Go.Proofs.YtfmenojhojmedaaDoorW.PrintWords Go.Proofs.YtfmenojhojmedaaDoorW.PrintLast Go.Proofs.YtfmenojhojmedaaDoorW.PrintMore Go.Proofs.YtfmenojhojmedaaDoorG Go.Proofs.YtfmenojhojmedaaDoorX
attribute [local go_sem] max2_int min2_int max_two min_two max_three min_three max_four min_four   -- for this text's walks alone
set_option linter.unusedVariables false
set_option linter.unusedSimpArgs false

/-! ### outlawref01_Space: function 24 -/
def outlawref01_Space.l0 : Nat → ByteArray → Int → Option (Int)
  | 0, _, _ => none
  | k + 1, x0, x3 => if x3 < (x0.size : Int) then (if 0 ≤ x3 then (if (bt x0 x3) = 9 then (outlawref01_Space.l0 k x0 (wrap64 (x3 + 1))) else (if (bt x0 x3) = 10 then (outlawref01_Space.l0 k x0 (wrap64 (x3 + 1))) else (if (bt x0 x3) = 13 then (outlawref01_Space.l0 k x0 (wrap64 (x3 + 1))) else (if (bt x0 x3) = 32 then (outlawref01_Space.l0 k x0 (wrap64 (x3 + 1))) else (some x3))))) else (none)) else (some x3)
def outlawref01_Space.f (k : Nat) (a0 : ByteArray) : Option (Int) := outlawref01_Space.l0 k a0 0
theorem outlawref01_Space.mono_l : ∀ k, (∀ y0 y1, LeO (outlawref01_Space.l0 k y0 y1) (outlawref01_Space.l0 (k + 1) y0 y1))
  | 0 => fun _ _ r h => by simp [outlawref01_Space.l0] at h
  | k + 1 => by
    have ih0 := outlawref01_Space.mono_l k
    · intro y0 y1
      unfold outlawref01_Space.l0
      repeat' first
      | (with_reducible exact ih0 _ _)
      | (with_reducible exact LeO.refl _)
      | (with_reducible exact LeO.none _)
      | (with_reducible refine LeO.ite ?_ ?_)
      | (with_reducible refine LeO.bind ?_ (fun _ => ?_))
      | exact ih0 _ _
      | exact LeO.none _
      | refine LeO.ite ?_ ?_
      | refine LeO.bind ?_ (fun _ => ?_)
theorem outlawref01_Space.mono : ∀ a0 k, LeO (outlawref01_Space.f k a0) (outlawref01_Space.f (k + 1) a0) := by
  intro a0 k
  have ih0 := outlawref01_Space.mono_l k
  unfold outlawref01_Space.f
  repeat' first
      | (with_reducible exact ih0 _ _)
      | (with_reducible exact LeO.refl _)
      | (with_reducible exact LeO.none _)
      | (with_reducible refine LeO.ite ?_ ?_)
      | (with_reducible refine LeO.bind ?_ (fun _ => ?_))
      | exact ih0 _ _
      | exact LeO.none _
      | refine LeO.ite ?_ ?_
      | refine LeO.bind ?_ (fun _ => ?_)
set_option maxHeartbeats 8000000 in
set_option maxRecDepth 100000 in
theorem outlawref01_Space.calls (k : Nat) (a0 : ByteArray) (r : Int) (w : World) (h : outlawref01_Space.f k a0 = some r) :
    Calls Tryd.prog 24 #[.string a0] w fun e w' => e = .returned (.int .i64 r) ∧ Drawn0 w w' := by
  have H : (outlawref01_Space.l0 k a0 0) = some r := h
  clear h
  have H' := Aside0.mk H
  clear H
  go_enter Tryd.func24, Tryd.ntmps24
  go_wp2
  go_loopg [3] k (fun kq v3 w' => ∃ (x3_1 : Int), v3 = .int .i64 x3_1 ∧ Aside0 (outlawref01_Space.l0 kq a0 x3_1 = some r) ∧ Aside0 (kq ≤ k) ∧ Drawn0 w w')
  case atStart => exact ⟨(0), (by first | rfl | (simp; done) | (simp [*]; done) | (simp [bneNil_, beqNil_]; done) | (simp [bneNil_, beqNil_, *]; done) | (simp_all; done)), H', ⟨Nat.le_refl _⟩, by repeat (first | exact Drawn0.refl _ | apply Drawn0.step)⟩
  case round =>
    clear H'
    obtain ⟨x3_1, rfl, HA, HK1, ⟨m1, rfl⟩⟩ := hrel
    cases gk with
    | zero => exact absurd HA.out (by simp [outlawref01_Space.l0])
    | succ k1 =>
      have H := HA.out
      clear HA
      simp only [outlawref01_Space.l0] at H
      by_cases c2 : x3_1 < (a0.size : Int)
      · rw [if_pos c2] at H
        have c2b0 : decide (x3_1 < (a0.size : Int)) = true := decide_eq_true c2
        clear c2
        by_cases c3 : 0 ≤ x3_1
        · rw [if_pos c3] at H
          have c3b0 : decide (0 ≤ x3_1) = true := decide_eq_true c3
          clear c3
          by_cases c5 : (bt a0 x3_1) = 9
          · rw [if_pos c5] at H
            have c5b0 : ((bt a0 x3_1) == 9) = true := beq_iff_eq.mpr c5
            have c5b1 : ((bt a0 x3_1) != 9) = false := bne_eq_false_iff_eq.mpr c5
            clear c5
            have H' := Aside0.mk H
            clear H
            have p4 : 0 ≤ (x3_1 : Int) := of_decide_eq_true (by first | (with_reducible assumption) | assumption)
            have q4 : x3_1 < (a0.size : Int) := of_decide_eq_true (by first | (with_reducible assumption) | assumption)
            have hx4 := bt_at a0 x3_1
            replace p4 := eq_true p4
            replace q4 := eq_true q4
            go_wp2
            go_roundg k1
            case measure => have := HK1.out; omega
            case rel => exact ⟨(wrap64 (x3_1 + 1)), (by first | rfl | (simp; done) | (simp [*]; done) | (simp [bneNil_, beqNil_]; done) | (simp [bneNil_, beqNil_, *]; done) | (simp_all; done)), H', ⟨by have := HK1.out; omega⟩, by repeat (first | exact Drawn0.refl _ | apply Drawn0.step)⟩
          · rw [if_neg c5] at H
            have c5b0 : ((bt a0 x3_1) == 9) = false := beq_eq_false_iff_ne.mpr c5
            have c5b1 : ((bt a0 x3_1) != 9) = true := bne_iff_ne.mpr c5
            by_cases c7 : (bt a0 x3_1) = 10
            · rw [if_pos c7] at H
              have c7b0 : ((bt a0 x3_1) == 10) = true := beq_iff_eq.mpr c7
              have c7b1 : ((bt a0 x3_1) != 10) = false := bne_eq_false_iff_eq.mpr c7
              clear c7
              have H' := Aside0.mk H
              clear H
              have p4 : 0 ≤ (x3_1 : Int) := of_decide_eq_true (by first | (with_reducible assumption) | assumption)
              have q4 : x3_1 < (a0.size : Int) := of_decide_eq_true (by first | (with_reducible assumption) | assumption)
              have hx4 := bt_at a0 x3_1
              replace p4 := eq_true p4
              replace q4 := eq_true q4
              have p6 : 0 ≤ (x3_1 : Int) := of_decide_eq_true (by first | (with_reducible assumption) | assumption)
              have q6 : x3_1 < (a0.size : Int) := of_decide_eq_true (by first | (with_reducible assumption) | assumption)
              have hx6 := bt_at a0 x3_1
              replace p6 := eq_true p6
              replace q6 := eq_true q6
              go_wp2
              go_roundg k1
              case measure => have := HK1.out; omega
              case rel => exact ⟨(wrap64 (x3_1 + 1)), (by first | rfl | (simp; done) | (simp [*]; done) | (simp [bneNil_, beqNil_]; done) | (simp [bneNil_, beqNil_, *]; done) | (simp_all; done)), H', ⟨by have := HK1.out; omega⟩, by repeat (first | exact Drawn0.refl _ | apply Drawn0.step)⟩
            · rw [if_neg c7] at H
              have c7b0 : ((bt a0 x3_1) == 10) = false := beq_eq_false_iff_ne.mpr c7
              have c7b1 : ((bt a0 x3_1) != 10) = true := bne_iff_ne.mpr c7
              by_cases c9 : (bt a0 x3_1) = 13
              · rw [if_pos c9] at H
                have c9b0 : ((bt a0 x3_1) == 13) = true := beq_iff_eq.mpr c9
                have c9b1 : ((bt a0 x3_1) != 13) = false := bne_eq_false_iff_eq.mpr c9
                clear c9
                have H' := Aside0.mk H
                clear H
                have p4 : 0 ≤ (x3_1 : Int) := of_decide_eq_true (by first | (with_reducible assumption) | assumption)
                have q4 : x3_1 < (a0.size : Int) := of_decide_eq_true (by first | (with_reducible assumption) | assumption)
                have hx4 := bt_at a0 x3_1
                replace p4 := eq_true p4
                replace q4 := eq_true q4
                have p6 : 0 ≤ (x3_1 : Int) := of_decide_eq_true (by first | (with_reducible assumption) | assumption)
                have q6 : x3_1 < (a0.size : Int) := of_decide_eq_true (by first | (with_reducible assumption) | assumption)
                have hx6 := bt_at a0 x3_1
                replace p6 := eq_true p6
                replace q6 := eq_true q6
                have p8 : 0 ≤ (x3_1 : Int) := of_decide_eq_true (by first | (with_reducible assumption) | assumption)
                have q8 : x3_1 < (a0.size : Int) := of_decide_eq_true (by first | (with_reducible assumption) | assumption)
                have hx8 := bt_at a0 x3_1
                replace p8 := eq_true p8
                replace q8 := eq_true q8
                go_wp2
                go_roundg k1
                case measure => have := HK1.out; omega
                case rel => exact ⟨(wrap64 (x3_1 + 1)), (by first | rfl | (simp; done) | (simp [*]; done) | (simp [bneNil_, beqNil_]; done) | (simp [bneNil_, beqNil_, *]; done) | (simp_all; done)), H', ⟨by have := HK1.out; omega⟩, by repeat (first | exact Drawn0.refl _ | apply Drawn0.step)⟩
              · rw [if_neg c9] at H
                have c9b0 : ((bt a0 x3_1) == 13) = false := beq_eq_false_iff_ne.mpr c9
                have c9b1 : ((bt a0 x3_1) != 13) = true := bne_iff_ne.mpr c9
                by_cases c11 : (bt a0 x3_1) = 32
                · rw [if_pos c11] at H
                  (try (have c11x := c11; simp only [ByteArray.size_extract, Nat.min_self, Nat.sub_zero] at c11x))
                  (try (have c11y := c11; simp only [ByteArray.size_extract, Nat.min_self, Nat.sub_zero, Int.natCast_pos] at c11y))
                  have c11b0 : ((bt a0 x3_1) == 32) = true := beq_iff_eq.mpr c11
                  have c11b1 : ((bt a0 x3_1) != 32) = false := bne_eq_false_iff_eq.mpr c11
                  clear c11
                  have H' := Aside0.mk H
                  clear H
                  have p4 : 0 ≤ (x3_1 : Int) := of_decide_eq_true (by first | (with_reducible assumption) | assumption)
                  have q4 : x3_1 < (a0.size : Int) := of_decide_eq_true (by first | (with_reducible assumption) | assumption)
                  have hx4 := bt_at a0 x3_1
                  replace p4 := eq_true p4
                  replace q4 := eq_true q4
                  have p6 : 0 ≤ (x3_1 : Int) := of_decide_eq_true (by first | (with_reducible assumption) | assumption)
                  have q6 : x3_1 < (a0.size : Int) := of_decide_eq_true (by first | (with_reducible assumption) | assumption)
                  have hx6 := bt_at a0 x3_1
                  replace p6 := eq_true p6
                  replace q6 := eq_true q6
                  have p8 : 0 ≤ (x3_1 : Int) := of_decide_eq_true (by first | (with_reducible assumption) | assumption)
                  have q8 : x3_1 < (a0.size : Int) := of_decide_eq_true (by first | (with_reducible assumption) | assumption)
                  have hx8 := bt_at a0 x3_1
                  replace p8 := eq_true p8
                  replace q8 := eq_true q8
                  have p10 : 0 ≤ (x3_1 : Int) := of_decide_eq_true (by first | (with_reducible assumption) | assumption)
                  have q10 : x3_1 < (a0.size : Int) := of_decide_eq_true (by first | (with_reducible assumption) | assumption)
                  have hx10 := bt_at a0 x3_1
                  replace p10 := eq_true p10
                  replace q10 := eq_true q10
                  go_wp2
                  go_roundg k1
                  case measure => have := HK1.out; omega
                  case rel => exact ⟨(wrap64 (x3_1 + 1)), (by first | rfl | (simp; done) | (simp [*]; done) | (simp [bneNil_, beqNil_]; done) | (simp [bneNil_, beqNil_, *]; done) | (simp_all; done)), H', ⟨by have := HK1.out; omega⟩, by repeat (first | exact Drawn0.refl _ | apply Drawn0.step)⟩
                · rw [if_neg c11] at H
                  (try (have c11x := c11; simp only [ByteArray.size_extract, Nat.min_self, Nat.sub_zero] at c11x))
                  (try (have c11y := c11; simp only [ByteArray.size_extract, Nat.min_self, Nat.sub_zero, Int.natCast_pos] at c11y))
                  have c11b0 : ((bt a0 x3_1) == 32) = false := beq_eq_false_iff_ne.mpr c11
                  have c11b1 : ((bt a0 x3_1) != 32) = true := bne_iff_ne.mpr c11
                  obtain rfl := Option.some.inj H
                  have p4 : 0 ≤ (x3_1 : Int) := of_decide_eq_true (by first | (with_reducible assumption) | assumption)
                  have q4 : x3_1 < (a0.size : Int) := of_decide_eq_true (by first | (with_reducible assumption) | assumption)
                  have hx4 := bt_at a0 x3_1
                  replace p4 := eq_true p4
                  replace q4 := eq_true q4
                  have p6 : 0 ≤ (x3_1 : Int) := of_decide_eq_true (by first | (with_reducible assumption) | assumption)
                  have q6 : x3_1 < (a0.size : Int) := of_decide_eq_true (by first | (with_reducible assumption) | assumption)
                  have hx6 := bt_at a0 x3_1
                  replace p6 := eq_true p6
                  replace q6 := eq_true q6
                  have p8 : 0 ≤ (x3_1 : Int) := of_decide_eq_true (by first | (with_reducible assumption) | assumption)
                  have q8 : x3_1 < (a0.size : Int) := of_decide_eq_true (by first | (with_reducible assumption) | assumption)
                  have hx8 := bt_at a0 x3_1
                  replace p8 := eq_true p8
                  replace q8 := eq_true q8
                  have p10 : 0 ≤ (x3_1 : Int) := of_decide_eq_true (by first | (with_reducible assumption) | assumption)
                  have q10 : x3_1 < (a0.size : Int) := of_decide_eq_true (by first | (with_reducible assumption) | assumption)
                  have hx10 := bt_at a0 x3_1
                  replace p10 := eq_true p10
                  replace q10 := eq_true q10
                  go_wp2
                  go_ret
                  exact ⟨by first | rfl | (simp; done) | (simp [*]; done) | (simp [bneNil_, beqNil_]; done) | (simp [bneNil_, beqNil_, *]; done) | (simp_all; done), by repeat (first | exact Drawn0.refl _ | apply Drawn0.step)⟩
        · rw [if_neg c3] at H
          exact absurd H (by simp)
      · rw [if_neg c2] at H
        have c2b0 : decide (x3_1 < (a0.size : Int)) = false := decide_eq_false c2
        clear c2
        obtain rfl := Option.some.inj H
        go_wp2
        go_ret
        exact ⟨by first | rfl | (simp; done) | (simp [*]; done) | (simp [bneNil_, beqNil_]; done) | (simp [bneNil_, beqNil_, *]; done) | (simp_all; done), by repeat (first | exact Drawn0.refl _ | apply Drawn0.step)⟩

/-! ### outlawref01_Word: function 25 -/
def outlawref01_Word.l0 : Nat → ByteArray → List ByteArray → Int → Int → Option (ByteArray)
  | 0, _, _, _, _ => none
  | k + 1, x0, x5, x6, x7 => if x7 < x6 then (if 0 ≤ x7 then (if x7 < (x5.length : Int) then (if (x0.size : Int) ≥ ((rdOf ByteArray.empty x5 x7).size : Int) then (if 0 ≤ ((rdOf ByteArray.empty x5 x7).size : Int) then (if ((rdOf ByteArray.empty x5 x7).size : Int) ≤ (x0.size : Int) then (if (x0.extract 0 (((rdOf ByteArray.empty x5 x7).size : Int) : Int).toNat).toList = (rdOf ByteArray.empty x5 x7).toList then (some (rdOf ByteArray.empty x5 x7)) else (outlawref01_Word.l0 k x0 x5 x6 (wrap64 (x7 + 1)))) else (none)) else (none)) else (outlawref01_Word.l0 k x0 x5 x6 (wrap64 (x7 + 1)))) else (none)) else (none)) else (some (⟨#[]⟩ : ByteArray))
def outlawref01_Word.f (k : Nat) (a0 : ByteArray) : Option (ByteArray) := (some (([(⟨#[116, 114, 117, 101]⟩ : ByteArray), (⟨#[102, 97, 108, 115, 101]⟩ : ByteArray), (⟨#[110, 117, 108, 108]⟩ : ByteArray)] : List ByteArray) : List ByteArray)).bind fun y213 => (outlawref01_Word.l0 k a0 y213 (y213.length : Int) 0)
theorem outlawref01_Word.mono_l : ∀ k, (∀ y0 y1 y2 y3, LeO (outlawref01_Word.l0 k y0 y1 y2 y3) (outlawref01_Word.l0 (k + 1) y0 y1 y2 y3))
  | 0 => fun _ _ _ _ r h => by simp [outlawref01_Word.l0] at h
  | k + 1 => by
    have ih0 := outlawref01_Word.mono_l k
    · intro y0 y1 y2 y3
      unfold outlawref01_Word.l0
      repeat' first
      | (with_reducible exact ih0 _ _ _ _)
      | (with_reducible exact LeO.refl _)
      | (with_reducible exact LeO.none _)
      | (with_reducible refine LeO.ite ?_ ?_)
      | (with_reducible refine LeO.bind ?_ (fun _ => ?_))
      | exact ih0 _ _ _ _
      | exact LeO.none _
      | refine LeO.ite ?_ ?_
      | refine LeO.bind ?_ (fun _ => ?_)
theorem outlawref01_Word.mono : ∀ a0 k, LeO (outlawref01_Word.f k a0) (outlawref01_Word.f (k + 1) a0) := by
  intro a0 k
  have ih0 := outlawref01_Word.mono_l k
  unfold outlawref01_Word.f
  repeat' first
      | (with_reducible exact ih0 _ _ _ _)
      | (with_reducible exact LeO.refl _)
      | (with_reducible exact LeO.none _)
      | (with_reducible refine LeO.ite ?_ ?_)
      | (with_reducible refine LeO.bind ?_ (fun _ => ?_))
      | exact ih0 _ _ _ _
      | exact LeO.none _
      | refine LeO.ite ?_ ?_
      | refine LeO.bind ?_ (fun _ => ?_)
set_option maxHeartbeats 8000000 in
set_option maxRecDepth 100000 in
theorem outlawref01_Word.calls (k : Nat) (a0 : ByteArray) (r : ByteArray) (w : World) (h : outlawref01_Word.f k a0 = some r) :
    Calls Tryd.prog 25 #[.string a0] w fun e w' => e = .returned (.string r) ∧ Below w.heap.size w w' := by
  have HB := Aside0.mk (Below.refl w.heap.size w)
  have H : ((some (([(⟨#[116, 114, 117, 101]⟩ : ByteArray), (⟨#[102, 97, 108, 115, 101]⟩ : ByteArray), (⟨#[110, 117, 108, 108]⟩ : ByteArray)] : List ByteArray) : List ByteArray)).bind fun y213 => (outlawref01_Word.l0 k a0 y213 (y213.length : Int) 0)) = some r := h
  clear h
  obtain ⟨y213, hy213⟩ : ∃ y_ : List ByteArray, y_ = (([(⟨#[116, 114, 117, 101]⟩ : ByteArray), (⟨#[102, 97, 108, 115, 101]⟩ : ByteArray), (⟨#[110, 117, 108, 108]⟩ : ByteArray)] : List ByteArray)) := ⟨_, rfl⟩
  replace H : (outlawref01_Word.l0 k a0 y213 (y213.length : Int) 0) = some r := by first | (rw [hy213]; with_reducible exact H) | (have H2_ := (Option.bind_some _ _).symm.trans H; rw [hy213]; with_reducible exact H2_) | (have H2_ := (Option.bind_some _ _).symm.trans H; with_reducible exact H2_) | with_reducible exact H | (rw [hy213]; exact H) | exact H
  have Ny213 := Aside0.mk hy213
  clear hy213
  have H' := Aside0.mk H
  clear H
  go_enter Tryd.func25, Tryd.ntmps25
  go_wp2_with (first | ((with_reducible refine gate_dst (N := 5) rfl ?_); (try (refine gate_guard (by rfl) ?_; dsimp only)); refine Kd.R_lit Kd.string _ 9 ?hg (N := 5) ?hd (xs := ([(⟨#[116, 114, 117, 101]⟩ : ByteArray), (⟨#[102, 97, 108, 115, 101]⟩ : ByteArray), (⟨#[110, 117, 108, 108]⟩ : ByteArray)] : List ByteArray)) (inner := [.string (⟨#[116, 114, 117, 101]⟩ : ByteArray), .string (⟨#[102, 97, 108, 115, 101]⟩ : ByteArray), .string (⟨#[110, 117, 108, 108]⟩ : ByteArray)]) (ok := fun _ => True) (okp := fun _ => True) ?hr ?hp (fun _ hk => hk) trivial (Below.refl _ _) (Nat.le_refl _) (by simp) ?_; (case hd => rfl); (case hg => rfl); (case hr => first | (go_simp; done) | (go_simp; rfl)); (case hp => exact (Reps.one (show Kd.M Kd.string _ _ _ (⟨#[116, 114, 117, 101]⟩ : ByteArray) [.string (⟨#[116, 114, 117, 101]⟩ : ByteArray)] from rfl) (Reps.one (show Kd.M Kd.string _ _ _ (⟨#[102, 97, 108, 115, 101]⟩ : ByteArray) [.string (⟨#[102, 97, 108, 115, 101]⟩ : ByteArray)] from rfl) (Reps.one (show Kd.M Kd.string _ _ _ (⟨#[110, 117, 108, 108]⟩ : ByteArray) [.string (⟨#[110, 117, 108, 108]⟩ : ByteArray)] from rfl) (Reps.none _ _))))); intro v214 w2 ho3 hb hg_ hnew_; clear hg_ hnew_; (first | rw [← Ny213.out] at ho3 | (simp only [Int.reduceToNat] at ho3; rw [← Ny213.out] at ho3)); have n0_ := Aside0.mk (Kd.R_lower ho3 (below_size (by repeat (first | (with_reducible first | exact HB.out | apply below_alloc | apply pw_below_drewN | apply below_drew1) | exact HB.out)))); have n1_ := Aside0.mk (below_step (by repeat (first | (with_reducible first | exact HB.out | apply below_alloc | apply pw_below_drewN | apply below_drew1) | exact HB.out)) hb); clear HB; have HO215 := n0_; have HB := n1_; clear n0_ n1_; clear hb ho3; obtain ⟨Ao4, co4, eo4⟩ := Kd.R_slice HO215.out; subst eo4))
  go_loopg [7] k (fun kq v7 w' => ∃ (x7_1 : Int), v7 = .int .i64 x7_1 ∧ Aside0 (outlawref01_Word.l0 kq a0 y213 (y213.length : Int) x7_1 = some r) ∧ Aside0 (kq ≤ k) ∧ Aside0 (Kd.R Kd.string 9 w' w.heap.size (fun _ => True) (.slice Ao4 y213.length co4) y213) ∧ Aside0 (Below w.heap.size w w'))
  case atStart => exact ⟨(0), (by first | rfl | (simp; done) | (simp [*]; done) | (simp [bneNil_, beqNil_]; done) | (simp [bneNil_, beqNil_, *]; done) | (simp_all; done)), H', ⟨Nat.le_refl _⟩, ⟨by (with_reducible repeat (first | apply Kd.R_alloc | apply Kd.R_drewN | apply Kd.R_drew)); exact HO215.out⟩, ⟨by repeat (first | (with_reducible first | exact HB.out | apply below_alloc | apply pw_below_drewN | apply below_drew1) | exact HB.out)⟩⟩
  case round =>
    clear H'
    try clear c2
    try clear p2
    obtain ⟨x7_1, rfl, HA, HK1, HO_5, HB⟩ := hrel
    cases gk with
    | zero => exact absurd HA.out (by simp [outlawref01_Word.l0])
    | succ k1 =>
      have H := HA.out
      clear HA
      simp only [outlawref01_Word.l0] at H
      by_cases c5 : x7_1 < (y213.length : Int)
      · rw [if_pos c5] at H
        have c5b0 : decide (x7_1 < (y213.length : Int)) = true := decide_eq_true c5
        clear c5
        by_cases c6 : 0 ≤ x7_1
        · rw [if_pos c6] at H
          have c6b0 : decide (0 ≤ x7_1) = true := decide_eq_true c6
          clear c6
          by_cases c7 : x7_1 < (y213.length : Int)
          · rw [if_pos c7] at H
            have c7b0 : decide (x7_1 < (y213.length : Int)) = true := decide_eq_true c7
            clear c7
            by_cases c8 : (a0.size : Int) ≥ ((rdOf ByteArray.empty y213 x7_1).size : Int)
            · rw [if_pos c8] at H
              have c8b0 : decide (((rdOf ByteArray.empty y213 x7_1).size : Int) ≤ (a0.size : Int)) = true := decide_eq_true c8
              have c8b1 : decide ((rdOf ByteArray.empty y213 x7_1).size ≤ a0.size) = true := decide_eq_true (Int.ofNat_le.mp c8)
              clear c8
              by_cases c9 : 0 ≤ ((rdOf ByteArray.empty y213 x7_1).size : Int)
              · rw [if_pos c9] at H
                have c9b0 := eq_true c9
                have c9b1 : decide (0 ≤ ((rdOf ByteArray.empty y213 x7_1).size : Int)) = true := decide_eq_true c9
                clear c9
                by_cases c10 : ((rdOf ByteArray.empty y213 x7_1).size : Int) ≤ (a0.size : Int)
                · rw [if_pos c10] at H
                  have c10b0 := eq_true c10
                  have c10b1 : decide (((rdOf ByteArray.empty y213 x7_1).size : Int) ≤ (a0.size : Int)) = true := decide_eq_true c10
                  clear c10
                  by_cases c11 : (a0.extract 0 (((rdOf ByteArray.empty y213 x7_1).size : Int) : Int).toNat).toList = (rdOf ByteArray.empty y213 x7_1).toList
                  · rw [if_pos c11] at H
                    (try (have c11x := c11; simp only [ByteArray.size_extract, Nat.min_self, Nat.sub_zero] at c11x))
                    (try (have c11y := c11; simp only [ByteArray.size_extract, Nat.min_self, Nat.sub_zero, Int.natCast_pos] at c11y))
                    have c11b0 : ((a0.extract 0 (((rdOf ByteArray.empty y213 x7_1).size : Int) : Int).toNat).toList == (rdOf ByteArray.empty y213 x7_1).toList) = true := beq_iff_eq.mpr c11
                    have c11b1 : ((a0.extract 0 (((rdOf ByteArray.empty y213 x7_1).size : Int) : Int).toNat).toList != (rdOf ByteArray.empty y213 x7_1).toList) = false := bne_eq_false_iff_eq.mpr c11
                    simp only [Int.toNat_natCast] at c11b0 c11b1
                    clear c11
                    obtain rfl := Option.some.inj H
                    have p216 : 0 ≤ (x7_1 : Int) := of_decide_eq_true (by first | (with_reducible assumption) | assumption)
                    have q216 : x7_1 < (y213.length : Int) := of_decide_eq_true (by first | (with_reducible assumption) | assumption)
                    obtain ⟨ad216, e216, hx216_0⟩ := Kd.at_string (Kd.R_reads' HO_5.out).2.2 x7_1 p216 q216
                    cases e216
                    replace p216 := eq_true p216
                    replace q216 := eq_true q216
                    go_wp2
                    go_ret
                    exact ⟨by first | rfl | (simp [errW_none, errW_some] <;> rfl) | (simp [*, errW_none, errW_some] <;> rfl), by repeat (first | (with_reducible first | exact HB.out | apply below_alloc | apply pw_below_drewN | apply below_drew1) | exact HB.out)⟩
                  · rw [if_neg c11] at H
                    (try (have c11x := c11; simp only [ByteArray.size_extract, Nat.min_self, Nat.sub_zero] at c11x))
                    (try (have c11y := c11; simp only [ByteArray.size_extract, Nat.min_self, Nat.sub_zero, Int.natCast_pos] at c11y))
                    have c11b0 : ((a0.extract 0 (((rdOf ByteArray.empty y213 x7_1).size : Int) : Int).toNat).toList == (rdOf ByteArray.empty y213 x7_1).toList) = false := beq_eq_false_iff_ne.mpr c11
                    have c11b1 : ((a0.extract 0 (((rdOf ByteArray.empty y213 x7_1).size : Int) : Int).toNat).toList != (rdOf ByteArray.empty y213 x7_1).toList) = true := bne_iff_ne.mpr c11
                    simp only [Int.toNat_natCast] at c11b0 c11b1
                    have H' := Aside0.mk H
                    clear H
                    have p216 : 0 ≤ (x7_1 : Int) := of_decide_eq_true (by first | (with_reducible assumption) | assumption)
                    have q216 : x7_1 < (y213.length : Int) := of_decide_eq_true (by first | (with_reducible assumption) | assumption)
                    obtain ⟨ad216, e216, hx216_0⟩ := Kd.at_string (Kd.R_reads' HO_5.out).2.2 x7_1 p216 q216
                    cases e216
                    replace p216 := eq_true p216
                    replace q216 := eq_true q216
                    go_wp2
                    go_roundg k1
                    case measure => have := HK1.out; omega
                    case rel => exact ⟨(wrap64 (x7_1 + 1)), (by first | rfl | (simp; done) | (simp [*]; done) | (simp [bneNil_, beqNil_]; done) | (simp [bneNil_, beqNil_, *]; done) | (simp_all; done)), H', ⟨by have := HK1.out; omega⟩, ⟨by (with_reducible repeat (first | apply Kd.R_alloc | apply Kd.R_drewN | apply Kd.R_drew)); exact HO_5.out⟩, ⟨by repeat (first | (with_reducible first | exact HB.out | apply below_alloc | apply pw_below_drewN | apply below_drew1) | exact HB.out)⟩⟩
                · rw [if_neg c10] at H
                  exact absurd H (by simp)
              · rw [if_neg c9] at H
                exact absurd H (by simp)
            · rw [if_neg c8] at H
              have c8b0 : decide (((rdOf ByteArray.empty y213 x7_1).size : Int) ≤ (a0.size : Int)) = false := decide_eq_false c8
              have c8b1 : decide ((rdOf ByteArray.empty y213 x7_1).size ≤ a0.size) = false := decide_eq_false (fun h => c8 (Int.ofNat_le.mpr h))
              clear c8
              have H' := Aside0.mk H
              clear H
              have p216 : 0 ≤ (x7_1 : Int) := of_decide_eq_true (by first | (with_reducible assumption) | assumption)
              have q216 : x7_1 < (y213.length : Int) := of_decide_eq_true (by first | (with_reducible assumption) | assumption)
              obtain ⟨ad216, e216, hx216_0⟩ := Kd.at_string (Kd.R_reads' HO_5.out).2.2 x7_1 p216 q216
              cases e216
              replace p216 := eq_true p216
              replace q216 := eq_true q216
              go_wp2
              go_roundg k1
              case measure => have := HK1.out; omega
              case rel => exact ⟨(wrap64 (x7_1 + 1)), (by first | rfl | (simp; done) | (simp [*]; done) | (simp [bneNil_, beqNil_]; done) | (simp [bneNil_, beqNil_, *]; done) | (simp_all; done)), H', ⟨by have := HK1.out; omega⟩, ⟨by (with_reducible repeat (first | apply Kd.R_alloc | apply Kd.R_drewN | apply Kd.R_drew)); exact HO_5.out⟩, ⟨by repeat (first | (with_reducible first | exact HB.out | apply below_alloc | apply pw_below_drewN | apply below_drew1) | exact HB.out)⟩⟩
          · rw [if_neg c7] at H
            exact absurd H (by simp)
        · rw [if_neg c6] at H
          exact absurd H (by simp)
      · rw [if_neg c5] at H
        have c5b0 : decide (x7_1 < (y213.length : Int)) = false := decide_eq_false c5
        clear c5
        obtain rfl := Option.some.inj H
        go_wp2
        go_ret
        exact ⟨by first | rfl | (simp [errW_none, errW_some] <;> rfl) | (simp [*, errW_none, errW_some] <;> rfl), by repeat (first | (with_reducible first | exact HB.out | apply below_alloc | apply pw_below_drewN | apply below_drew1) | exact HB.out)⟩

end Go.Proofs.YtfmenojhojmedaaDoor.PB
