import Derived.Test.YtfgibjkgiolonaaGm
import Derived.Test.YtfgibjkgiolonaaX1
set_option linter.unusedVariables false
set_option linter.unusedSimpArgs false
namespace Go.Proofs.YtfgibjkgiolonaaQ
open Go.RowKit Go.Proofs.YtfgibjkgiolonaaW.PrintWords Go.Proofs.YtfgibjkgiolonaaX Go.Proofs.YtfgibjkgiolonaaG
def isB (l : List Int) : Prop := ∀ x ∈ l, 0 ≤ x ∧ x ≤ 255
theorem isB_bytesOf (s : ByteArray) : isB (bytesOf s) := by
 intro x hx
 unfold bytesOf at hx
 obtain ⟨b, _, rfl⟩ := List.mem_map.1 hx
 have := b.toNat_lt
 omega
theorem str_bytesOf (s : ByteArray) : strOfNums (bytesOf s) = s := by
 have := strOfNums_map s id
 unfold bytesOf
 simp only [id] at this
 rw [this]
 apply bytes_ext
 simp
theorem bytesOf_str {l : List Int} (h : isB l) : bytesOf (strOfNums l) = l := by
 unfold bytesOf strOfNums
 simp only [List.map_map]
 rw [List.map_congr_left (g := id) ?_]
 ·simp
 ·intro x hx
  have := h x hx
  simp
  omega
theorem str_size (l : List Int) : (strOfNums l).size = l.length := by
 show (strOfNums l).data.size = _
 simp [strOfNums]
theorem str_bt {l : List Int} (h : isB l) (i : Nat) (hi : i < l.length) : bt (strOfNums l) i = l.getD i 0 := by
 have h2 := rd_bytesOf (strOfNums l) i
 rw [bytesOf_str h] at h2
 rw [← h2]
 rfl
theorem str_extract (l : List Int) (i j : Nat) : (strOfNums l).extract i j = strOfNums ((l.take j).drop i) := by
 apply bytes_ext
 simp [strOfNums, List.map_drop, List.map_take]
 rw [List.drop_take]
theorem isB_eight (n : Int) : isB (eightL n) := by
 intro x hx
 unfold eightL at hx
 simp only [List.mem_cons, List.not_mem_nil, or_false] at hx
 rcases hx with rfl | rfl | rfl | rfl | rfl | rfl | rfl | rfl <;> omega
theorem isB_app {a b : List Int} (ha : isB a) (hb : isB b) : isB (a ++ b) := fun x hx => by
 rcases List.mem_append.1 hx with h | h
 ·exact ha x h
 ·exact hb x h
theorem isB_one {x : Int} (h1 : 0 ≤ x) (h2 : x ≤ 255) : isB [x] := fun y hy => by
 rw [List.mem_singleton] at hy
 omega
theorem isB_cons {x : Int} {l : List Int} (h1 : 0 ≤ x) (h2 : x ≤ 255) (h : isB l) : isB (x :: l) := fun y hy => by
 rcases List.mem_cons.1 hy with rfl | h'
 ·exact ⟨h1, h2⟩
 ·exact h y h'
theorem numP_8 (t : ByteArray) (b0 b1 b2 b3 b4 b5 b6 b7 : Int) (h : isB [b0, b1, b2, b3, b4, b5, b6, b7]) (ht : t = strOfNums [b0, b1, b2, b3, b4, b5, b6, b7]) :
  numP t 8 = ((((((b0 * 256 + b1) * 256 + b2) * 256 + b3) * 256 + b4) * 256 + b5) * 256 + b6) * 256 + b7 := by
 subst ht
 have e0 := str_bt h 0 (by simp)
 have e1 := str_bt h 1 (by simp)
 have e2 := str_bt h 2 (by simp)
 have e3 := str_bt h 3 (by simp)
 have e4 := str_bt h 4 (by simp)
 have e5 := str_bt h 5 (by simp)
 have e6 := str_bt h 6 (by simp)
 have e7 := str_bt h 7 (by simp)
 generalize strOfNums [b0, b1, b2, b3, b4, b5, b6, b7] = t at *
 simp only [numP, e0, e1, e2, e3, e4, e5, e6, e7]
 simp
theorem step256 (n d : Int) (h : d = 256 * (d / 256)) (hd : 0 < d) : n / d * 256 + n / (d / 256) % 256 = n / (d / 256) := by
 have h2 : n / d = n / (d / 256) / 256 := by
  rw [Int.ediv_ediv_of_nonneg (by omega), Int.mul_comm, ← h]
 rw [h2]
 omega
theorem num_eight (n : Int) (h0 : 0 ≤ n) (h1 : n < 18446744073709551616) : numP (strOfNums (eightL n)) 8 = n := by
 unfold eightL
 rw [numP_8 _ _ _ _ _ _ _ _ _ (isB_eight n) rfl]
 have s0 : n / 72057594037927936 % 256 = n / 72057594037927936 := by omega
 have s1 := step256 n 72057594037927936 (by decide) (by decide)
 have s2 := step256 n 281474976710656 (by decide) (by decide)
 have s3 := step256 n 1099511627776 (by decide) (by decide)
 have s4 := step256 n 4294967296 (by decide) (by decide)
 have s5 := step256 n 16777216 (by decide) (by decide)
 have s6 := step256 n 65536 (by decide) (by decide)
 have s7 : n / 256 * 256 + n % 256 = n := by omega
 simp only [show (72057594037927936 : Int) / 256 = 281474976710656 from rfl, show (281474976710656 : Int) / 256 = 1099511627776 from rfl, show (1099511627776 : Int) / 256 = 4294967296 from rfl, show (4294967296 : Int) / 256 = 16777216 from rfl, show (16777216 : Int) / 256 = 65536 from rfl, show (65536 : Int) / 256 = 256 from rfl] at s1 s2 s3 s4 s5 s6
 rw [s0, s1, s2, s3, s4, s5, s6, s7]
end Go.Proofs.YtfgibjkgiolonaaQ
set_option linter.unusedVariables false
set_option linter.unusedSimpArgs false
namespace Go.Proofs.YtfgibjkgiolonaaQ
open Go.RowKit Go.Proofs.YtfgibjkgiolonaaW.PrintWords Go.Proofs.YtfgibjkgiolonaaX Go.Proofs.YtfgibjkgiolonaaG
def recL (k c n : Int) (ok : Bool) (t : ByteArray) : List Int :=
 if k = 3 then 3 :: (eightL n ++ [if ok = true then 1 else 0])
 else if k = 2 ∨ k = 4 then k :: eightL n
 else if k = 5 then 5 :: c % 256 :: bytesOf t
 else if k = 1 then 1 :: bytesOf t
 else [k % 256]
theorem got_cons {x : Int} {r : List Int} (h : isB (x :: r)) : gotOf (strOfNums (x :: r)) = gotK x (strOfNums r) := by
 unfold gotOf
 have h1 : (strOfNums (x :: r)).size = r.length + 1 := str_size _
 have h2 : bt (strOfNums (x :: r)) 0 = x := str_bt h 0 (by simp)
 have h3 : (strOfNums (x :: r)).extract 1 (strOfNums (x :: r)).size = strOfNums r := by
  rw [str_extract, h1]
  simp
 rw [if_neg (by omega), h2, h3]
theorem ext_eight (n : Int) (r : List Int) : (strOfNums (eightL n ++ r)).extract 0 8 = strOfNums (eightL n) := by
 rw [str_extract]
 rfl
theorem ext_one_rest (y : Int) (r : List Int) : (strOfNums (y :: r)).extract 1 (strOfNums (y :: r)).size = strOfNums r := by
 rw [str_extract, str_size]
 simp
theorem check_ok {k c n : Int} {ok : Bool} {t : ByteArray} (h : checkI k c n ok t = 0) :
  (k = 1 ∧ c = 0 ∧ n = 0 ∧ ok = false ∧ t.size ≤ 4096) ∨ (k = 3 ∧ c = 0 ∧ 0 ≤ n ∧ n ≤ 1152921504606846976 ∧ t.size = 0) ∨
  (k = 4 ∧ c = 0 ∧ 0 ≤ n ∧ n ≤ 1152921504606846976 ∧ ok = false ∧ t.size = 0) ∨ (k = 2 ∧ c = 0 ∧ 4097 ≤ n ∧ n ≤ 1152921504606846975 ∧ ok = false ∧ t.size = 0) ∨
  (k = 5 ∧ 0 ≤ c ∧ c ≤ 255 ∧ n = 0 ∧ ok = false ∧ t.size ≤ 300) ∨ (k = 6 ∧ c = 0 ∧ n = 0 ∧ ok = false ∧ t.size = 0) := by
 have key : ∀ (a b : Prop) [Decidable a] [Decidable b], errIf a b = 0 → ¬ a ∧ ¬ b := by
  intro a b _ _ h
  unfold errIf at h
  by_cases ha : a
  ·rw [if_pos ha] at h; exact absurd h (by decide)
  ·rw [if_neg ha] at h
   by_cases hb : b
   ·rw [if_pos hb] at h; exact absurd h (by decide)
   ·exact ⟨ha, hb⟩
 unfold checkI at h
 by_cases k1 : k = 1
 ·rw [if_pos k1] at h
  have := key _ _ h
  exact .inl ⟨k1, (Decidable.not_not.1 this.1).1, (Decidable.not_not.1 this.1).2.1, (Decidable.not_not.1 this.1).2.2, by omega⟩
 rw [if_neg k1] at h
 by_cases k3 : k = 3
 ·rw [if_pos k3] at h
  have := Decidable.not_not.1 (key _ _ h).1
  exact .inr (.inl ⟨k3, this⟩)
 rw [if_neg k3] at h
 by_cases k4 : k = 4
 ·rw [if_pos k4] at h
  have := Decidable.not_not.1 (key _ _ h).1
  exact .inr (.inr (.inl ⟨k4, this⟩))
 rw [if_neg k4] at h
 by_cases k2 : k = 2
 ·rw [if_pos k2] at h
  have := Decidable.not_not.1 (key _ _ h).1
  exact .inr (.inr (.inr (.inl ⟨k2, this⟩)))
 rw [if_neg k2] at h
 by_cases k5 : k = 5
 ·rw [if_pos k5] at h
  have := key _ _ h
  have h5 := Decidable.not_not.1 this.1
  exact .inr (.inr (.inr (.inr (.inl ⟨k5, h5.1, h5.2.1, h5.2.2.1, h5.2.2.2, by omega⟩))))
 rw [if_neg k5] at h
 by_cases k6 : k = 6
 ·rw [if_pos k6] at h
  have := Decidable.not_not.1 (key _ _ h).1
  exact .inr (.inr (.inr (.inr (.inr ⟨k6, this⟩))))
 rw [if_neg k6] at h
 exact absurd h (by decide)
theorem gotNum_ok {k n : Int} {ok : Bool} (h : n ≤ 1152921504606846976) : gotNum k n ok = .got k 0 n ok ByteArray.empty := by
 unfold gotNum
 rw [if_neg (by omega)]
theorem got_num (k n : Int) (hk : k = 2 ∨ k = 4) (h0 : 0 ≤ n) (h1 : n ≤ 1152921504606846976) : gotOf (strOfNums (k :: eightL n)) = .got k 0 n false ByteArray.empty := by
 have hb : isB (k :: eightL n) := isB_cons (by omega) (by omega) (isB_eight n)
 have hs : (strOfNums (eightL n)).size = 8 := str_size _
 have he : (strOfNums (eightL n)).extract 0 8 = strOfNums (eightL n) := by
  have := ext_eight n []
  rw [List.append_nil] at this
  exact this
 rw [got_cons hb]
 unfold gotK
 rw [if_neg (by omega), if_neg (by omega), if_neg (by omega), if_pos hk, hs, if_neg (by decide), if_neg (by decide), he, num_eight n h0 (by omega), gotNum_ok h1]
theorem back (k c n : Int) (ok : Bool) (t : ByteArray) (h : checkI k c n ok t = 0) : gotOf (strOfNums (recL k c n ok t)) = .got k c n ok t := by
 rcases check_ok h with ⟨rfl, rfl, rfl, rfl, ht⟩ | ⟨rfl, rfl, h0, h1, ht⟩ | ⟨rfl, rfl, h0, h1, rfl, ht⟩ | ⟨rfl, rfl, h0, h1, rfl, ht⟩ | ⟨rfl, h0, h1, rfl, rfl, ht⟩ | ⟨rfl, rfl, rfl, rfl, ht⟩
 ·have : recL 1 0 0 false t = 1 :: bytesOf t := by simp [recL]
  rw [this, got_cons (isB_cons (by decide) (by decide) (isB_bytesOf t)), str_bytesOf]
  rfl
 ·have hr : recL 3 0 n ok t = 3 :: (eightL n ++ [if ok = true then 1 else 0]) := by simp [recL]
  have hf : isB [if ok = true then (1 : Int) else 0] := by cases ok <;> exact isB_one (by decide) (by decide)
  have hb := isB_app (isB_eight n) hf
  have hs : (strOfNums (eightL n ++ [if ok = true then 1 else 0])).size = 9 := str_size _
  have h8 : bt (strOfNums (eightL n ++ [if ok = true then 1 else 0])) 8 = if ok = true then 1 else 0 := str_bt hb 8 (by simp [eightL])
  rw [hr, got_cons (isB_cons (by decide) (by decide) hb), empty_of ht]
  unfold gotK
  rw [if_neg (by decide), if_neg (by decide), if_neg (by decide), if_neg (by decide), if_pos rfl, hs, if_neg (by decide), h8, if_neg (by cases ok <;> decide), if_neg (by decide), ext_eight, num_eight n h0 (by omega), gotNum_ok h1]
  cases ok <;> rfl
 ·have hr : recL 4 0 n false t = 4 :: eightL n := by simp [recL]
  rw [hr, got_num 4 n (.inr rfl) h0 h1, empty_of ht]
 ·have hr : recL 2 0 n false t = 2 :: eightL n := by simp [recL]
  rw [hr, got_num 2 n (.inl rfl) (by omega) (by omega), empty_of ht]
 ·have hc : c % 256 = c := by omega
  have hr : recL 5 c 0 false t = 5 :: c :: bytesOf t := by simp [recL, hc]
  have hb : isB (c :: bytesOf t) := isB_cons h0 h1 (isB_bytesOf t)
  have h2 : bt (strOfNums (c :: bytesOf t)) 0 = c := str_bt hb 0 (by simp)
  rw [hr, got_cons (isB_cons (by decide) (by decide) hb)]
  unfold gotK
  rw [if_neg (by decide), if_neg (by decide), if_pos rfl, if_neg (by rw [str_size]; simp), h2, ext_one_rest, str_bytesOf]
 ·have hr : recL 6 0 0 false t = [6] := by simp [recL]
  rw [hr, got_cons (isB_one (by decide) (by decide)), empty_of ht]
  rfl
theorem recL_size {k c n : Int} {ok : Bool} {t : ByteArray} (h : checkI k c n ok t = 0) : (recL k c n ok t).length ≤ 4097 ∧ 0 < (recL k c n ok t).length := by
 have hl := bytesOf_length t
 have h8 : (eightL n).length = 8 := rfl
 rcases check_ok h with ⟨rfl, _, _, _, ht⟩ | ⟨rfl, _⟩ | ⟨rfl, _⟩ | ⟨rfl, _⟩ | ⟨rfl, h0, h1, _, _, ht⟩ | ⟨rfl, _⟩ <;> simp [recL, hl, h8] <;> omega
end Go.Proofs.YtfgibjkgiolonaaQ
