/- The document's numerals and lines are the code's. -/
import Derived.Test.YtlmhgnkkdjpkcaaDoorP0
import Derived.Test.YtlmhgnkkdjpkcaaDoorPAx18
import Derived.Test.YtlmhgnkkdjpkcaaDoorP4
set_option linter.unusedVariables false
set_option linter.unusedSimpArgs false
namespace Go.Proofs.YtlmhgnkkdjpkcaaDoorG
open Go.RowKit Go.Proofs.YtlmhgnkkdjpkcaaDoor.PA Go.Proofs.YtlmhgnkkdjpkcaaDoorW.PrintWords
def decB (u : Nat) : ByteArray := ⟨(Lib.decDigits u).toArray⟩
theorem dig_at {m : Nat} (h : m < 10) : (⟨#[48, 49, 50, 51, 52, 53, 54, 55, 56, 57]⟩ : ByteArray).extract m (m + 1) = ⟨#[UInt8.ofNat (48 + m)]⟩ := by
 have : ∀ m : Fin 10, (⟨#[48, 49, 50, 51, 52, 53, 54, 55, 56, 57]⟩ : ByteArray).extract m.val (m.val + 1) = ⟨#[UInt8.ofNat (48 + m.val)]⟩ := by decide
 exact this ⟨m, h⟩
theorem u64_nat {u : Nat} (h : u < 18446744073709551616) : IntKind.u64.wrap (u : Int) = (u : Int) := by rw [IntKind.wrap_u64]; omega
theorem u64_next {u : Nat} (h : u + 1 < 18446744073709551616) : IntKind.u64.wrap ((u : Int) + 1) = ((u + 1 : Nat) : Int) := by rw [IntKind.wrap_u64]; omega
theorem decB_small {u : Nat} (h : u < 10) : decB u = ⟨#[UInt8.ofNat (48 + u)]⟩ := by unfold decB; rw [Lib.decDigits, dif_pos h]
theorem decB_big {u : Nat} (h : ¬ u < 10) : decB u = decB (u / 10) ++ ⟨#[UInt8.ofNat (48 + u % 10)]⟩ := by
 unfold decB
 conv => lhs; rw [Lib.decDigits, dif_neg h]
 apply ByteArray.ext
 simp
theorem decB_size {u : Nat} (h : u < 18446744073709551616) : (decB u).size ≤ 20 := by
 show (Lib.decDigits u).toArray.size ≤ 20
 rw [List.size_toArray, Lib.decDigits_length]
 exact Lib.nDigits_le20 u h
theorem digits_ev : ∀ u : Nat, u < 18446744073709551616 → Ev (fun k => outlawref21_digits.f k (u : Int)) (decB u) := by
 intro u
 induction u using Nat.strongRecOn with
 | _ u ih =>
  intro hu
  by_cases h : u < 10
  ·refine Ev.step (f := fun _ => some _) (fun k => ?_) (Ev.now _)
   rw [outlawref21_digits.f, if_pos (by omega), if_pos (by omega), u64_next (by omega), if_pos (by omega), if_pos (by omega), Int.toNat_natCast, Int.toNat_natCast, dig_at h, decB_small h]
  ·have hd : Int.tdiv (u : Int) 10 = ((u / 10 : Nat) : Int) := by rw [Int.tdiv_eq_ediv_of_nonneg (by omega)]; omega
   have hm : Int.tmod (u : Int) 10 = ((u % 10 : Nat) : Int) := by rw [Int.tmod_eq_emod_of_nonneg (by omega)]; omega
   have hl : u % 10 < 10 := Nat.mod_lt _ (by decide)
   have hs := decB_size (u := u / 10) (by omega)
   refine Ev.step (f := fun k => (outlawref21_digits.f k ((u / 10 : Nat) : Int)).bind fun t => if t.size + 1 ≤ 9223372036854775807 then some (t ++ ⟨#[UInt8.ofNat (48 + u % 10)]⟩) else none) (fun k => ?_) ?_
   ·rw [outlawref21_digits.f, if_neg (by omega), hd, hm, u64_nat (by omega), u64_next (by omega)]
    congr 1
    funext t
    rw [if_pos (by omega), if_pos (by omega), if_pos (by omega), Int.toNat_natCast, Int.toNat_natCast, dig_at hl]
    rfl
   ·refine Ev.bind (ih (u / 10) (by omega) (by omega)) ?_
    refine Ev.congr (f := fun _ => some _) (fun k => ?_) (Ev.now _)
    rw [if_pos (by omega), decB_big h]
theorem Digits_ev (n : Int) (h0 : -9223372036854775808 ≤ n) (h1 : n ≤ 9223372036854775807) : Ev (fun k => outlawref21_Digits.f k n) (itoaS n) := by
 by_cases h : n < 0
 ·have hw : IntKind.u64.wrap (-(IntKind.u64.wrap n)) = ((n.natAbs : Nat) : Int) := by rw [IntKind.wrap_u64, IntKind.wrap_u64]; omega
  have hs := decB_size (u := n.natAbs) (by omega)
  refine Ev.congr (f := fun k => (outlawref21_digits.f k ((n.natAbs : Nat) : Int)).bind fun t190 => (if 1 + t190.size ≤ 9223372036854775807 then (some ((⟨#[45]⟩ : ByteArray) ++ t190)) else (none))) (fun k => ?_) ?_
  ·unfold outlawref21_Digits.f
   rw [if_pos h, hw]
  ·refine Ev.bind (digits_ev n.natAbs (by omega)) ?_
   refine Ev.congr (f := fun _ => some _) (fun k => ?_) (Ev.now _)
   rw [if_pos (by omega)]
   congr 1
   unfold itoaS Lib.itoa decB
   rw [if_pos h]
   apply ByteArray.ext
   simp
 ·have hw : IntKind.u64.wrap n = ((n.toNat : Nat) : Int) := by rw [IntKind.wrap_u64]; omega
  refine Ev.congr (f := fun k => (outlawref21_digits.f k ((n.toNat : Nat) : Int)).bind fun t191 => some t191) (fun k => ?_) ?_
  ·unfold outlawref21_Digits.f
   rw [if_neg h, hw]
  ·refine Ev.bind (digits_ev n.toNat (by omega)) ?_
   refine Ev.congr (f := fun _ => some _) (fun k => ?_) (Ev.now _)
   unfold itoaS Lib.itoa decB
   rw [if_neg h]
theorem word_rd (k : Int) (h0 : 1 ≤ k) (h1 : k ≤ 9) : rdOf ByteArray.empty ([(⟨#[114, 101, 102, 117, 115, 101, 100]⟩ : ByteArray), (⟨#[99, 111, 109, 109, 97, 110, 100]⟩ : ByteArray), (⟨#[113, 117, 101, 117, 101, 100]⟩ : ByteArray), (⟨#[115, 101, 110, 116]⟩ : ByteArray), (⟨#[100, 111, 110, 101]⟩ : ByteArray), (⟨#[97, 103, 97, 105, 110]⟩ : ByteArray), (⟨#[102, 97, 105, 108, 101, 100]⟩ : ByteArray), (⟨#[103, 111, 110, 101]⟩ : ByteArray), (⟨#[102, 117, 108, 108]⟩ : ByteArray)] : List ByteArray) (k - 1) = wordS kindsL k ⟨#[63]⟩ := by
 have hl : kindsL.length = 9 := rfl
 unfold wordS rdOf
 rw [if_pos ⟨h0, by rw [hl]; omega⟩]
 show kindsL.getD _ _ = _
 rw [List.getD_eq_getElem?_getD, List.getD_eq_getElem?_getD, List.getElem?_eq_getElem (by rw [hl]; omega)]
 rfl
theorem act_rd (k : Int) (h0 : 1 ≤ k) (h1 : k ≤ 4) : rdOf ByteArray.empty ([(⟨#[98, 97, 110]⟩ : ByteArray), (⟨#[117, 110, 98, 97, 110]⟩ : ByteArray), (⟨#[97, 99, 108]⟩ : ByteArray), (⟨#[114, 101, 100, 97, 99, 116]⟩ : ByteArray)] : List ByteArray) (k - 1) = wordS actsL k ⟨#[63]⟩ := by
 have hl : actsL.length = 4 := rfl
 unfold wordS rdOf
 rw [if_pos ⟨h0, by rw [hl]; omega⟩]
 show actsL.getD _ _ = _
 rw [List.getD_eq_getElem?_getD, List.getD_eq_getElem?_getD, List.getElem?_eq_getElem (by rw [hl]; omega)]
 rfl
theorem act_out (k : Int) (h : ¬ (1 ≤ k ∧ k ≤ 4)) : wordS actsL k ⟨#[63]⟩ = ⟨#[63]⟩ := by
 unfold wordS
 rw [if_neg (by rw [show actsL.length = 4 from rfl]; omega)]
theorem kind_out (k : Int) (h : ¬ (1 ≤ k ∧ k ≤ 9)) : wordS kindsL k ⟨#[63]⟩ = ⟨#[63]⟩ := by
 unfold wordS
 rw [if_neg (by rw [show kindsL.length = 9 from rfl]; omega)]
theorem s32 : (⟨#[32]⟩ : ByteArray).size = 1 := rfl
theorem s63 : (⟨#[63]⟩ : ByteArray).size = 1 := rfl
theorem wrap_low (k : Int) (h0 : 1 ≤ k) (h1 : k ≤ 9) : wrap64 (k - 1) = k - 1 := by unfold wrap64; omega
set_option maxHeartbeats 4000000 in
theorem rline_ev (k t a : Int) (a1 a2 a3 a4 : ByteArray) (c : Int) (x : ByteArray) (h : LineOk t a1 a2 a3 a4 c x) : Ev (fun n => outlawref23_Line.f n k t a a1 a2 a3 a4 c x) (lineS k t a a1 a2 a3 a4 c x) := by
 obtain ⟨⟨⟨t0, t1⟩, c0, c1⟩, hs⟩ := h
 have zt := itoaS_size t t0 t1
 have zc := itoaS_size c c0 c1
 have zk := kinds_size k
 have za := acts_size a
 have dt := Digits_ev t t0 t1
 have dc := Digits_ev c c0 c1
 unfold lineS
 by_cases hk : 1 ≤ k ∧ k ≤ 9
 ·have hf : ∀ n, outlawref23_Line.f n k t a a1 a2 a3 a4 c x = outlawref23_Line.j0 n false k t a a1 a2 a3 a4 c x := fun n => by
   unfold outlawref23_Line.f
   rw [if_neg (by omega), decide_eq_false (by omega)]
  refine Ev.congr hf ?_
  have hw := wrap_low k hk.1 hk.2
  have hg := word_rd k hk.1 hk.2
  have hl : ((([(⟨#[114, 101, 102, 117, 115, 101, 100]⟩ : ByteArray), (⟨#[99, 111, 109, 109, 97, 110, 100]⟩ : ByteArray), (⟨#[113, 117, 101, 117, 101, 100]⟩ : ByteArray), (⟨#[115, 101, 110, 116]⟩ : ByteArray), (⟨#[100, 111, 110, 101]⟩ : ByteArray), (⟨#[97, 103, 97, 105, 110]⟩ : ByteArray), (⟨#[102, 97, 105, 108, 101, 100]⟩ : ByteArray), (⟨#[103, 111, 110, 101]⟩ : ByteArray), (⟨#[102, 117, 108, 108]⟩ : ByteArray)] : List ByteArray)).length : Int) = 9 := rfl
  obtain ⟨W, hW⟩ : ∃ W, W = wordS kindsL k ⟨#[63]⟩ := ⟨_, rfl⟩
  obtain ⟨A, hA⟩ : ∃ A, A = wordS actsL a ⟨#[63]⟩ := ⟨_, rfl⟩
  obtain ⟨T, hT⟩ : ∃ T, T = itoaS t := ⟨_, rfl⟩
  obtain ⟨C, hC⟩ : ∃ C, C = itoaS c := ⟨_, rfl⟩
  rw [← hW] at hg zk ⊢
  rw [← hA] at za ⊢
  rw [← hT] at zt dt ⊢
  rw [← hC] at zc dc ⊢
  by_cases h1 : k = 1
  ·rw [if_pos h1]
   refine Ev.step (f := fun n => (outlawref21_Digits.f n c).bind fun t197 => if (W ++ (⟨#[32]⟩ : ByteArray)).size + t197.size ≤ 9223372036854775807 then (some ((W ++ (⟨#[32]⟩ : ByteArray)) ++ t197)) else (none)) (fun n => ?_) ?_
   ·rw [outlawref23_Line.j0, if_neg (by decide), Option.bind_some, hw, if_pos (by omega), if_pos (by rw [hl]; omega), if_pos h1, hg, if_pos (by omega)]
   ·refine Ev.bind dc ?_
    refine Ev.congr (f := fun _ => some _) (fun n => ?_) (Ev.now _)
    rw [if_pos (by simp only [ByteArray.size_append, s32]; omega)]
  rw [if_neg h1]
  by_cases h2 : k = 2
  ·rw [if_pos h2]
   refine Ev.step (f := fun n => (outlawref21_Digits.f n c).bind fun t198 => if (W ++ (⟨#[32]⟩ : ByteArray)).size + t198.size ≤ 9223372036854775807 then (if ((W ++ (⟨#[32]⟩ : ByteArray)) ++ t198).size + 1 ≤ 9223372036854775807 then (if (((W ++ (⟨#[32]⟩ : ByteArray)) ++ t198) ++ (⟨#[32]⟩ : ByteArray)).size + x.size ≤ 9223372036854775807 then (some ((((W ++ (⟨#[32]⟩ : ByteArray)) ++ t198) ++ (⟨#[32]⟩ : ByteArray)) ++ x)) else (none)) else (none)) else (none)) (fun n => ?_) ?_
   ·rw [outlawref23_Line.j0, if_neg (by decide), Option.bind_some, hw, if_pos (by omega), if_pos (by rw [hl]; omega), if_neg h1, if_pos h2, hg, if_pos (by omega)]
   ·refine Ev.bind dc ?_
    refine Ev.congr (f := fun _ => some _) (fun n => ?_) (Ev.now _)
    rw [if_pos (by simp only [ByteArray.size_append, s32]; omega), if_pos (by simp only [ByteArray.size_append, s32]; omega), if_pos (by simp only [ByteArray.size_append, s32]; omega)]
  rw [if_neg h2]
  by_cases h9 : k = 9
  ·rw [if_neg (by omega)]
   refine Ev.step (f := fun _ => some _) (fun n => ?_) (Ev.now _)
   rw [outlawref23_Line.j0, if_neg (by decide), Option.bind_some, hw, if_pos (by omega), if_pos (by rw [hl]; omega), if_neg h1, if_neg h2, if_pos h9, hg]
  rw [if_pos (by omega)]
  by_cases g1 : 1 ≤ a
  ·by_cases g4 : a ≤ 4
   ·have hwa := wrap_low a g1 (by omega)
    have hga := act_rd a g1 g4
    have hla : ((([(⟨#[98, 97, 110]⟩ : ByteArray), (⟨#[117, 110, 98, 97, 110]⟩ : ByteArray), (⟨#[97, 99, 108]⟩ : ByteArray), (⟨#[114, 101, 100, 97, 99, 116]⟩ : ByteArray)] : List ByteArray)).length : Int) = 4 := rfl
    rw [← hA] at hga
    refine Ev.step (f := fun n => (outlawref21_Digits.f n t).bind fun t204 => (if (W ++ (⟨#[32]⟩ : ByteArray)).size + t204.size ≤ 9223372036854775807 then (if ((W ++ (⟨#[32]⟩ : ByteArray)) ++ t204).size + 1 ≤ 9223372036854775807 then (if (((W ++ (⟨#[32]⟩ : ByteArray)) ++ t204) ++ (⟨#[32]⟩ : ByteArray)).size + A.size ≤ 9223372036854775807 then (if ((((W ++ (⟨#[32]⟩ : ByteArray)) ++ t204) ++ (⟨#[32]⟩ : ByteArray)) ++ A).size + 1 ≤ 9223372036854775807 then (if (((((W ++ (⟨#[32]⟩ : ByteArray)) ++ t204) ++ (⟨#[32]⟩ : ByteArray)) ++ A) ++ (⟨#[32]⟩ : ByteArray)).size + a1.size ≤ 9223372036854775807 then (if ((((((W ++ (⟨#[32]⟩ : ByteArray)) ++ t204) ++ (⟨#[32]⟩ : ByteArray)) ++ A) ++ (⟨#[32]⟩ : ByteArray)) ++ a1).size + 1 ≤ 9223372036854775807 then (if (((((((W ++ (⟨#[32]⟩ : ByteArray)) ++ t204) ++ (⟨#[32]⟩ : ByteArray)) ++ A) ++ (⟨#[32]⟩ : ByteArray)) ++ a1) ++ (⟨#[32]⟩ : ByteArray)).size + a2.size ≤ 9223372036854775807 then (if ((((((((W ++ (⟨#[32]⟩ : ByteArray)) ++ t204) ++ (⟨#[32]⟩ : ByteArray)) ++ A) ++ (⟨#[32]⟩ : ByteArray)) ++ a1) ++ (⟨#[32]⟩ : ByteArray)) ++ a2).size + 1 ≤ 9223372036854775807 then (if (((((((((W ++ (⟨#[32]⟩ : ByteArray)) ++ t204) ++ (⟨#[32]⟩ : ByteArray)) ++ A) ++ (⟨#[32]⟩ : ByteArray)) ++ a1) ++ (⟨#[32]⟩ : ByteArray)) ++ a2) ++ (⟨#[32]⟩ : ByteArray)).size + a3.size ≤ 9223372036854775807 then (if ((((((((((W ++ (⟨#[32]⟩ : ByteArray)) ++ t204) ++ (⟨#[32]⟩ : ByteArray)) ++ A) ++ (⟨#[32]⟩ : ByteArray)) ++ a1) ++ (⟨#[32]⟩ : ByteArray)) ++ a2) ++ (⟨#[32]⟩ : ByteArray)) ++ a3).size + 1 ≤ 9223372036854775807 then (if (((((((((((W ++ (⟨#[32]⟩ : ByteArray)) ++ t204) ++ (⟨#[32]⟩ : ByteArray)) ++ A) ++ (⟨#[32]⟩ : ByteArray)) ++ a1) ++ (⟨#[32]⟩ : ByteArray)) ++ a2) ++ (⟨#[32]⟩ : ByteArray)) ++ a3) ++ (⟨#[32]⟩ : ByteArray)).size + a4.size ≤ 9223372036854775807 then (some ((((((((((((W ++ (⟨#[32]⟩ : ByteArray)) ++ t204) ++ (⟨#[32]⟩ : ByteArray)) ++ A) ++ (⟨#[32]⟩ : ByteArray)) ++ a1) ++ (⟨#[32]⟩ : ByteArray)) ++ a2) ++ (⟨#[32]⟩ : ByteArray)) ++ a3) ++ (⟨#[32]⟩ : ByteArray)) ++ a4)) else (none)) else (none)) else (none)) else (none)) else (none)) else (none)) else (none)) else (none)) else (none)) else (none)) else (none))) (fun n => ?_) ?_
    ·rw [outlawref23_Line.j0, if_neg (by decide), Option.bind_some, hw, if_pos (by omega), if_pos (by rw [hl]; omega), if_neg h1, if_neg h2, if_neg h9, hg, if_pos (show a ≥ 1 from g1), if_pos g4, Option.bind_some, hwa, if_pos (by omega), if_pos (by rw [hla]; omega), hga, if_pos (by omega)]
    ·refine Ev.bind dt ?_
     refine Ev.congr (f := fun _ => some _) (fun n => ?_) (Ev.now _)
     rw [if_pos (by simp only [ByteArray.size_append, s32, s63]; omega), if_pos (by simp only [ByteArray.size_append, s32, s63]; omega), if_pos (by simp only [ByteArray.size_append, s32, s63]; omega), if_pos (by simp only [ByteArray.size_append, s32, s63]; omega), if_pos (by simp only [ByteArray.size_append, s32, s63]; omega), if_pos (by simp only [ByteArray.size_append, s32, s63]; omega), if_pos (by simp only [ByteArray.size_append, s32, s63]; omega), if_pos (by simp only [ByteArray.size_append, s32, s63]; omega), if_pos (by simp only [ByteArray.size_append, s32, s63]; omega), if_pos (by simp only [ByteArray.size_append, s32, s63]; omega), if_pos (by simp only [ByteArray.size_append, s32, s63]; omega)]
   ·obtain rfl : A = ⟨#[63]⟩ := hA.trans (act_out a (by omega))
    refine Ev.step (f := fun n => (outlawref21_Digits.f n t).bind fun t204 => (if (W ++ (⟨#[32]⟩ : ByteArray)).size + t204.size ≤ 9223372036854775807 then (if ((W ++ (⟨#[32]⟩ : ByteArray)) ++ t204).size + 1 ≤ 9223372036854775807 then (if (((W ++ (⟨#[32]⟩ : ByteArray)) ++ t204) ++ (⟨#[32]⟩ : ByteArray)).size + 1 ≤ 9223372036854775807 then (if ((((W ++ (⟨#[32]⟩ : ByteArray)) ++ t204) ++ (⟨#[32]⟩ : ByteArray)) ++ (⟨#[63]⟩ : ByteArray)).size + 1 ≤ 9223372036854775807 then (if (((((W ++ (⟨#[32]⟩ : ByteArray)) ++ t204) ++ (⟨#[32]⟩ : ByteArray)) ++ (⟨#[63]⟩ : ByteArray)) ++ (⟨#[32]⟩ : ByteArray)).size + a1.size ≤ 9223372036854775807 then (if ((((((W ++ (⟨#[32]⟩ : ByteArray)) ++ t204) ++ (⟨#[32]⟩ : ByteArray)) ++ (⟨#[63]⟩ : ByteArray)) ++ (⟨#[32]⟩ : ByteArray)) ++ a1).size + 1 ≤ 9223372036854775807 then (if (((((((W ++ (⟨#[32]⟩ : ByteArray)) ++ t204) ++ (⟨#[32]⟩ : ByteArray)) ++ (⟨#[63]⟩ : ByteArray)) ++ (⟨#[32]⟩ : ByteArray)) ++ a1) ++ (⟨#[32]⟩ : ByteArray)).size + a2.size ≤ 9223372036854775807 then (if ((((((((W ++ (⟨#[32]⟩ : ByteArray)) ++ t204) ++ (⟨#[32]⟩ : ByteArray)) ++ (⟨#[63]⟩ : ByteArray)) ++ (⟨#[32]⟩ : ByteArray)) ++ a1) ++ (⟨#[32]⟩ : ByteArray)) ++ a2).size + 1 ≤ 9223372036854775807 then (if (((((((((W ++ (⟨#[32]⟩ : ByteArray)) ++ t204) ++ (⟨#[32]⟩ : ByteArray)) ++ (⟨#[63]⟩ : ByteArray)) ++ (⟨#[32]⟩ : ByteArray)) ++ a1) ++ (⟨#[32]⟩ : ByteArray)) ++ a2) ++ (⟨#[32]⟩ : ByteArray)).size + a3.size ≤ 9223372036854775807 then (if ((((((((((W ++ (⟨#[32]⟩ : ByteArray)) ++ t204) ++ (⟨#[32]⟩ : ByteArray)) ++ (⟨#[63]⟩ : ByteArray)) ++ (⟨#[32]⟩ : ByteArray)) ++ a1) ++ (⟨#[32]⟩ : ByteArray)) ++ a2) ++ (⟨#[32]⟩ : ByteArray)) ++ a3).size + 1 ≤ 9223372036854775807 then (if (((((((((((W ++ (⟨#[32]⟩ : ByteArray)) ++ t204) ++ (⟨#[32]⟩ : ByteArray)) ++ (⟨#[63]⟩ : ByteArray)) ++ (⟨#[32]⟩ : ByteArray)) ++ a1) ++ (⟨#[32]⟩ : ByteArray)) ++ a2) ++ (⟨#[32]⟩ : ByteArray)) ++ a3) ++ (⟨#[32]⟩ : ByteArray)).size + a4.size ≤ 9223372036854775807 then (some ((((((((((((W ++ (⟨#[32]⟩ : ByteArray)) ++ t204) ++ (⟨#[32]⟩ : ByteArray)) ++ (⟨#[63]⟩ : ByteArray)) ++ (⟨#[32]⟩ : ByteArray)) ++ a1) ++ (⟨#[32]⟩ : ByteArray)) ++ a2) ++ (⟨#[32]⟩ : ByteArray)) ++ a3) ++ (⟨#[32]⟩ : ByteArray)) ++ a4)) else (none)) else (none)) else (none)) else (none)) else (none)) else (none)) else (none)) else (none)) else (none)) else (none)) else (none))) (fun n => ?_) ?_
    ·rw [outlawref23_Line.j0, if_neg (by decide), Option.bind_some, hw, if_pos (by omega), if_pos (by rw [hl]; omega), if_neg h1, if_neg h2, if_neg h9, hg, if_pos (show a ≥ 1 from g1), if_neg g4, if_pos (by omega)]
    ·refine Ev.bind dt ?_
     refine Ev.congr (f := fun _ => some _) (fun n => ?_) (Ev.now _)
     rw [if_pos (by simp only [ByteArray.size_append, s32, s63]; omega), if_pos (by simp only [ByteArray.size_append, s32, s63]; omega), if_pos (by simp only [ByteArray.size_append, s32, s63]; omega), if_pos (by simp only [ByteArray.size_append, s32, s63]; omega), if_pos (by simp only [ByteArray.size_append, s32, s63]; omega), if_pos (by simp only [ByteArray.size_append, s32, s63]; omega), if_pos (by simp only [ByteArray.size_append, s32, s63]; omega), if_pos (by simp only [ByteArray.size_append, s32, s63]; omega), if_pos (by simp only [ByteArray.size_append, s32, s63]; omega), if_pos (by simp only [ByteArray.size_append, s32, s63]; omega), if_pos (by simp only [ByteArray.size_append, s32, s63]; omega)]
  ·obtain rfl : A = ⟨#[63]⟩ := hA.trans (act_out a (by omega))
   refine Ev.step (f := fun n => (outlawref21_Digits.f n t).bind fun t204 => (if (W ++ (⟨#[32]⟩ : ByteArray)).size + t204.size ≤ 9223372036854775807 then (if ((W ++ (⟨#[32]⟩ : ByteArray)) ++ t204).size + 1 ≤ 9223372036854775807 then (if (((W ++ (⟨#[32]⟩ : ByteArray)) ++ t204) ++ (⟨#[32]⟩ : ByteArray)).size + 1 ≤ 9223372036854775807 then (if ((((W ++ (⟨#[32]⟩ : ByteArray)) ++ t204) ++ (⟨#[32]⟩ : ByteArray)) ++ (⟨#[63]⟩ : ByteArray)).size + 1 ≤ 9223372036854775807 then (if (((((W ++ (⟨#[32]⟩ : ByteArray)) ++ t204) ++ (⟨#[32]⟩ : ByteArray)) ++ (⟨#[63]⟩ : ByteArray)) ++ (⟨#[32]⟩ : ByteArray)).size + a1.size ≤ 9223372036854775807 then (if ((((((W ++ (⟨#[32]⟩ : ByteArray)) ++ t204) ++ (⟨#[32]⟩ : ByteArray)) ++ (⟨#[63]⟩ : ByteArray)) ++ (⟨#[32]⟩ : ByteArray)) ++ a1).size + 1 ≤ 9223372036854775807 then (if (((((((W ++ (⟨#[32]⟩ : ByteArray)) ++ t204) ++ (⟨#[32]⟩ : ByteArray)) ++ (⟨#[63]⟩ : ByteArray)) ++ (⟨#[32]⟩ : ByteArray)) ++ a1) ++ (⟨#[32]⟩ : ByteArray)).size + a2.size ≤ 9223372036854775807 then (if ((((((((W ++ (⟨#[32]⟩ : ByteArray)) ++ t204) ++ (⟨#[32]⟩ : ByteArray)) ++ (⟨#[63]⟩ : ByteArray)) ++ (⟨#[32]⟩ : ByteArray)) ++ a1) ++ (⟨#[32]⟩ : ByteArray)) ++ a2).size + 1 ≤ 9223372036854775807 then (if (((((((((W ++ (⟨#[32]⟩ : ByteArray)) ++ t204) ++ (⟨#[32]⟩ : ByteArray)) ++ (⟨#[63]⟩ : ByteArray)) ++ (⟨#[32]⟩ : ByteArray)) ++ a1) ++ (⟨#[32]⟩ : ByteArray)) ++ a2) ++ (⟨#[32]⟩ : ByteArray)).size + a3.size ≤ 9223372036854775807 then (if ((((((((((W ++ (⟨#[32]⟩ : ByteArray)) ++ t204) ++ (⟨#[32]⟩ : ByteArray)) ++ (⟨#[63]⟩ : ByteArray)) ++ (⟨#[32]⟩ : ByteArray)) ++ a1) ++ (⟨#[32]⟩ : ByteArray)) ++ a2) ++ (⟨#[32]⟩ : ByteArray)) ++ a3).size + 1 ≤ 9223372036854775807 then (if (((((((((((W ++ (⟨#[32]⟩ : ByteArray)) ++ t204) ++ (⟨#[32]⟩ : ByteArray)) ++ (⟨#[63]⟩ : ByteArray)) ++ (⟨#[32]⟩ : ByteArray)) ++ a1) ++ (⟨#[32]⟩ : ByteArray)) ++ a2) ++ (⟨#[32]⟩ : ByteArray)) ++ a3) ++ (⟨#[32]⟩ : ByteArray)).size + a4.size ≤ 9223372036854775807 then (some ((((((((((((W ++ (⟨#[32]⟩ : ByteArray)) ++ t204) ++ (⟨#[32]⟩ : ByteArray)) ++ (⟨#[63]⟩ : ByteArray)) ++ (⟨#[32]⟩ : ByteArray)) ++ a1) ++ (⟨#[32]⟩ : ByteArray)) ++ a2) ++ (⟨#[32]⟩ : ByteArray)) ++ a3) ++ (⟨#[32]⟩ : ByteArray)) ++ a4)) else (none)) else (none)) else (none)) else (none)) else (none)) else (none)) else (none)) else (none)) else (none)) else (none)) else (none))) (fun n => ?_) ?_
   ·rw [outlawref23_Line.j0, if_neg (by decide), Option.bind_some, hw, if_pos (by omega), if_pos (by rw [hl]; omega), if_neg h1, if_neg h2, if_neg h9, hg, if_neg (show ¬ a ≥ 1 from g1), if_pos (by omega)]
   ·refine Ev.bind dt ?_
    refine Ev.congr (f := fun _ => some _) (fun n => ?_) (Ev.now _)
    rw [if_pos (by simp only [ByteArray.size_append, s32, s63]; omega), if_pos (by simp only [ByteArray.size_append, s32, s63]; omega), if_pos (by simp only [ByteArray.size_append, s32, s63]; omega), if_pos (by simp only [ByteArray.size_append, s32, s63]; omega), if_pos (by simp only [ByteArray.size_append, s32, s63]; omega), if_pos (by simp only [ByteArray.size_append, s32, s63]; omega), if_pos (by simp only [ByteArray.size_append, s32, s63]; omega), if_pos (by simp only [ByteArray.size_append, s32, s63]; omega), if_pos (by simp only [ByteArray.size_append, s32, s63]; omega), if_pos (by simp only [ByteArray.size_append, s32, s63]; omega), if_pos (by simp only [ByteArray.size_append, s32, s63]; omega)]
 ·have hf : ∀ n, outlawref23_Line.f n k t a a1 a2 a3 a4 c x = outlawref23_Line.j0 n true k t a a1 a2 a3 a4 c x := fun n => by
   unfold outlawref23_Line.f
   by_cases g : k < 1
   ·rw [if_pos g]
   ·rw [if_neg g, decide_eq_true (show k > 9 by omega)]
  refine Ev.congr hf ?_
  rw [if_neg (by omega), if_neg (by omega), if_neg (by omega), kind_out k hk]
  refine Ev.step (f := fun _ => some _) (fun n => ?_) (Ev.now _)
  rw [outlawref23_Line.j0, if_pos rfl]
theorem rnote_ev {n : S30} (h : TextOk n) : Ev (fun k => outlawref23_Line.f k n.f0 n.f1 n.f2.f0 n.f2.f1 n.f2.f2 n.f2.f3 n.f2.f4 n.f3 n.f4) (noteS n) := rline_ev _ _ _ _ _ _ _ _ _ ⟨h.1, Nat.le_trans h.2 (by decide)⟩
theorem rtext_go (l : List S30) (hl : l.length ≤ 1000) (hok : ∀ n ∈ l, TextOk n) : ∀ d i : Nat, l.length - i = d → i ≤ l.length →
  Ev (fun k => outlawref23_Text.l0 k l (textS (l.take i)) (i : Int)) (textS l) := by
 have hs := fun k => textS_take_size l hok (by omega) k
 intro d
 induction d with
 | zero =>
  intro i hd hi
  obtain rfl : i = l.length := by omega
  refine Ev.step (f := fun _ => some _) (fun k => ?_) (Ev.now _)
  rw [outlawref23_Text.l0, if_neg (by omega), List.take_length]
 | succ d ih =>
  intro i hd hi
  have hlt : i < l.length := by omega
  have hw := wrap_nat hlt (by omega)
  have hn : TextOk l[i] := hok _ (List.getElem_mem hlt)
  have hz := noteS_size hn
  have h1 := hs i
  have ht := textS_take l (i : Int) (by omega) (by omega)
  rw [rd_nat l hlt, show ((i : Int) + 1).toNat = i + 1 by omega, Int.toNat_natCast] at ht
  refine Ev.step (f := fun k => (outlawref23_Line.f k l[i].f0 l[i].f1 l[i].f2.f0 l[i].f2.f1 l[i].f2.f2 l[i].f2.f3 l[i].f2.f4 l[i].f3 l[i].f4).bind fun t253 => (if (textS (l.take i)).size + t253.size ≤ 9223372036854775807 then (if ((textS (l.take i)) ++ t253).size + 1 ≤ 9223372036854775807 then (outlawref23_Text.l0 k l (((textS (l.take i)) ++ t253) ++ (⟨#[10]⟩ : ByteArray)) ((i + 1 : Nat) : Int)) else (none)) else (none))) (fun k => ?_) ?_
  ·rw [outlawref23_Text.l0, if_pos (by omega), if_pos (by omega), rd_nat l hlt, hw]
  ·refine Ev.bind (f := fun k t253 => (if (textS (l.take i)).size + t253.size ≤ 9223372036854775807 then (if ((textS (l.take i)) ++ t253).size + 1 ≤ 9223372036854775807 then (outlawref23_Text.l0 k l (((textS (l.take i)) ++ t253) ++ (⟨#[10]⟩ : ByteArray)) ((i + 1 : Nat) : Int)) else (none)) else (none))) (rnote_ev hn) ?_
   refine Ev.congr (fun k => ?_) (ih (i + 1) (by omega) (by omega))
   rw [if_pos (by omega), if_pos (by rw [ByteArray.size_append]; omega), ht, ByteArray.append_assoc]
theorem rtext_ev (l : List S30) (hl : l.length ≤ 1000) (hok : ∀ n ∈ l, TextOk n) : Ev (fun k => outlawref23_Text.f k l) (textS l) := rtext_go l hl hok _ 0 rfl (Nat.zero_le _)
end Go.Proofs.YtlmhgnkkdjpkcaaDoorG
