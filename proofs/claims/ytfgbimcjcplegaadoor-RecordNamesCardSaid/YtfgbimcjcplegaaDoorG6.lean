/- The contract of record's reader.input, in one. -/
import Derived.Test.YtfgbimcjcplegaaDoorG4
set_option linter.unusedVariables false
set_option linter.unusedSimpArgs false
namespace Go.Proofs.YtfgbimcjcplegaaDoorG
open Go.RowKit Go.Proofs.YtfgbimcjcplegaaDoorW.PrintWords Go.Proofs.YtfgbimcjcplegaaDoorX Go.Proofs.YtfgbimcjcplegaaDoorW.PrintMore
/-- What is read of a record's bytes b behind its kind. -/
def gotNum (k n : Int) (ok : Bool) : Got := if 1152921504606846976 < n then .bad 2 else .got k 0 n ok ByteArray.empty
def gotK (k : Int) (b : ByteArray) : Got :=
  if k = 6 then if b.size = 0 then .got 6 0 0 false ByteArray.empty else .bad 5
  else if k = 1 then .got 1 0 0 false b
  else if k = 5 then if b.size < 1 then .bad 3 else .got 5 (bt b 0) 0 false (b.extract 1 b.size)
  else if k = 2 ∨ k = 4 then if b.size < 8 then .bad 3 else if ¬ b.size = 8 then .bad 5 else gotNum k (numP (b.extract 0 8) 8) false
  else if k = 3 then if b.size < 9 then .bad 3 else if 1 < bt b 8 then .bad 5 else if ¬ b.size = 9 then .bad 5 else gotNum 3 (numP (b.extract 0 8) 8) (bt b 8 == 1)
  else .bad 9
def gotOf (s : ByteArray) : Got := if s.size = 0 then .bad 3 else gotK (bt s 0) (s.extract 1 s.size)
theorem empty_of {b : ByteArray} (h : b.size = 0) : b = ByteArray.empty := by
  apply ByteArray.ext
  apply Array.eq_empty_of_size_eq_zero
  exact h
theorem size_of {b : ByteArray} (h : b ≠ ByteArray.empty) : ¬ b.size = 0 := fun hh => h (empty_of hh)
theorem bt_ext (b : ByteArray) (i j k : Nat) (hk : i + j < k) (hk2 : k ≤ b.size) : bt (b.extract i k) (j : Int) = bt b ((i + j : Nat) : Int) := by
  rw [bt_nat (s := b.extract i k) (i := j) (by simp; omega), bt_nat (s := b) (i := i + j) (by omega)]
  simp [ByteArray.getElem_extract]
theorem u8_cases (y : UInt8) (h : ¬ 1 < (y.toNat : Int)) : y.toNat = 0 ∨ y.toNat = 1 := by omega
theorem input_num {B : Nat} {s : ByteArray} {w : World} (x : UInt8) (k : Nat) (hB : Blk w B #[.string s] 42) (h0 : 0 < s.size) (hx : s.extract 0 1 = ⟨#[x]⟩) (hs2 : s.size ≤ 6000) (hk : x.toNat = k) (hk2 : k = 2 ∨ k = 4) :
    Calls Tryd.prog 20 #[.pointer (some ⟨B, 0, none⟩)] w fun e w' => e = (gotK k (s.extract 1 s.size)).ending ∧ Else B w w' := by
  have hz : ∀ {b : ByteArray}, ¬ b.size < 8 → ((b.extract 8 b.size).size = 0 ↔ b.size = 8) := by
    intro b hb
    simp
    omega
  rcases hk2 with rfl | rfl
  · by_cases h8 : (s.extract 1 s.size).size < 8
    · have : gotK (2 : Nat) (s.extract 1 s.size) = .bad 3 := by unfold gotK; simp only [if_pos h8]; rfl
      rw [this]
      exact input_2_short B s w hB x h0 hx hs2 hk h8
    by_cases hr : (s.extract 1 s.size).size = 8
    · have he := empty_of ((hz h8).2 hr)
      by_cases hn : 1152921504606846976 < numP ((s.extract 1 s.size).extract 0 8) 8
      · have : gotK (2 : Nat) (s.extract 1 s.size) = .bad 2 := by
          unfold gotK gotNum
          rw [if_neg (by decide), if_neg (by decide), if_neg (by decide), if_pos (by decide), if_neg h8, if_neg (fun h => h hr), if_pos hn]
        rw [this]
        exact input_2_arg B s w hB x h0 hx hs2 _ rfl (numP_range _ _).1 hk (by omega) he hn
      · have : gotK (2 : Nat) (s.extract 1 s.size) = .got 2 0 (numP ((s.extract 1 s.size).extract 0 8) 8) false ByteArray.empty := by
          unfold gotK gotNum
          rw [if_neg (by decide), if_neg (by decide), if_neg (by decide), if_pos (by decide), if_neg h8, if_neg (fun h => h hr), if_neg hn]
          rfl
        rw [this]
        exact input_2 B s w hB x h0 hx hs2 _ rfl (numP_range _ _).1 hk (by omega) he (by omega)
    · have he : (s.extract 1 s.size).extract 8 (s.extract 1 s.size).size ≠ ByteArray.empty := fun h => hr ((hz h8).1 (by rw [h]; rfl))
      have : gotK (2 : Nat) (s.extract 1 s.size) = .bad 5 := by
        unfold gotK
        rw [if_neg (by decide), if_neg (by decide), if_neg (by decide), if_pos (by decide), if_neg h8, if_pos hr]
      rw [this]
      exact input_2_bad B s w hB x h0 hx hs2 _ rfl (numP_range _ _).1 hk (by omega) he
  · by_cases h8 : (s.extract 1 s.size).size < 8
    · have : gotK (4 : Nat) (s.extract 1 s.size) = .bad 3 := by unfold gotK; simp only [if_pos h8]; rfl
      rw [this]
      exact input_4_short B s w hB x h0 hx hs2 hk h8
    by_cases hr : (s.extract 1 s.size).size = 8
    · have he := empty_of ((hz h8).2 hr)
      by_cases hn : 1152921504606846976 < numP ((s.extract 1 s.size).extract 0 8) 8
      · have : gotK (4 : Nat) (s.extract 1 s.size) = .bad 2 := by
          unfold gotK gotNum
          rw [if_neg (by decide), if_neg (by decide), if_neg (by decide), if_pos (by decide), if_neg h8, if_neg (fun h => h hr), if_pos hn]
        rw [this]
        exact input_4_arg B s w hB x h0 hx hs2 _ rfl (numP_range _ _).1 hk (by omega) he hn
      · have : gotK (4 : Nat) (s.extract 1 s.size) = .got 4 0 (numP ((s.extract 1 s.size).extract 0 8) 8) false ByteArray.empty := by
          unfold gotK gotNum
          rw [if_neg (by decide), if_neg (by decide), if_neg (by decide), if_pos (by decide), if_neg h8, if_neg (fun h => h hr), if_neg hn]
          rfl
        rw [this]
        exact input_4 B s w hB x h0 hx hs2 _ rfl (numP_range _ _).1 hk (by omega) he (by omega)
    · have he : (s.extract 1 s.size).extract 8 (s.extract 1 s.size).size ≠ ByteArray.empty := fun h => hr ((hz h8).1 (by rw [h]; rfl))
      have : gotK (4 : Nat) (s.extract 1 s.size) = .bad 5 := by
        unfold gotK
        rw [if_neg (by decide), if_neg (by decide), if_neg (by decide), if_pos (by decide), if_neg h8, if_pos hr]
      rw [this]
      exact input_4_bad B s w hB x h0 hx hs2 _ rfl (numP_range _ _).1 hk (by omega) he
theorem input_r {B : Nat} {s : ByteArray} {w : World} (x : UInt8) (hB : Blk w B #[.string s] 42) (h0 : 0 < s.size) (hx : s.extract 0 1 = ⟨#[x]⟩) (hs2 : s.size ≤ 6000) (hk : x.toNat = 3) :
    Calls Tryd.prog 20 #[.pointer (some ⟨B, 0, none⟩)] w fun e w' => e = (gotK 3 (s.extract 1 s.size)).ending ∧ Else B w w' := by
  generalize hb : s.extract 1 s.size = b
  have hbs : b.size = s.size - 1 := by rw [← hb]; simp
  have hp := (numP_range (b.extract 0 8) 8).1
  by_cases h9 : b.size < 9
  · have : gotK 3 b = .bad 3 := by
      unfold gotK
      rw [if_neg (by decide), if_neg (by decide), if_neg (by decide), if_neg (by decide), if_pos (by decide), if_pos h9]
    rw [this]
    subst hb
    by_cases h8 : (s.extract 1 s.size).size < 8
    · exact input_3_short B s w hB x h0 hx hs2 hk h8
    · exact input_3_short2 B s w hB x h0 hx hs2 _ rfl hp hk (by omega) (by simp at *; omega)
  have hcs : (b.extract 8 b.size).size = b.size - 8 := by simp
  obtain ⟨y, hy, hy2⟩ := ext_at (b.extract 8 b.size) 0 (by omega)
  have hb8 : bt b 8 = (y.toNat : Int) := by rw [← hy2]; exact (bt_ext b 8 0 b.size (by omega) (Nat.le_refl _)).symm
  have hds : ((b.extract 8 b.size).extract 1 (b.extract 8 b.size).size).size = b.size - 9 := by rw [ByteArray.size_extract]; omega
  by_cases hf : 1 < (y.toNat : Int)
  · have : gotK 3 b = .bad 5 := by
      unfold gotK
      rw [if_neg (by decide), if_neg (by decide), if_neg (by decide), if_neg (by decide), if_pos (by decide), if_neg h9, if_pos (by rw [hb8]; exact hf)]
    rw [this]
    subst hb
    exact input_3_flag B s w hB x h0 hx hs2 _ rfl hp hk (by omega) (by omega) y hy hf
  by_cases hr : b.size = 9
  · have he := empty_of (hds.trans (by omega))
    by_cases hn : 1152921504606846976 < numP (b.extract 0 8) 8
    · have : gotK 3 b = .bad 2 := by
        unfold gotK gotNum
        rw [if_neg (by decide), if_neg (by decide), if_neg (by decide), if_neg (by decide), if_pos (by decide), if_neg h9, if_neg (by rw [hb8]; exact hf), if_neg (fun h => h hr), if_pos hn]
      rw [this]
      subst hb
      rcases u8_cases y hf with h | h
      · exact input_3_0_arg B s w hB x h0 hx hs2 _ rfl hp hk (by omega) (by omega) y hy h he hn
      · exact input_3_1_arg B s w hB x h0 hx hs2 _ rfl hp hk (by omega) (by omega) y hy h he hn
    · have : gotK 3 b = .got 3 0 (numP (b.extract 0 8) 8) ((y.toNat : Int) == 1) ByteArray.empty := by
        unfold gotK gotNum
        rw [if_neg (by decide), if_neg (by decide), if_neg (by decide), if_neg (by decide), if_pos (by decide), if_neg h9, if_neg (by rw [hb8]; exact hf), if_neg (fun h => h hr), if_neg hn, hb8]
      rw [this]
      subst hb
      rcases u8_cases y hf with h | h
      · rw [h]
        exact input_3_0 B s w hB x h0 hx hs2 _ rfl hp hk (by omega) (by omega) y hy h he (by omega)
      · rw [h]
        exact input_3_1 B s w hB x h0 hx hs2 _ rfl hp hk (by omega) (by omega) y hy h he (by omega)
  · have he : (b.extract 8 b.size).extract 1 (b.extract 8 b.size).size ≠ ByteArray.empty := fun h => hr (by rw [h] at hds; have : (0 : Nat) = b.size - 9 := hds; omega)
    have : gotK 3 b = .bad 5 := by
      unfold gotK
      rw [if_neg (by decide), if_neg (by decide), if_neg (by decide), if_neg (by decide), if_pos (by decide), if_neg h9, if_neg (by rw [hb8]; exact hf), if_pos hr]
    rw [this]
    subst hb
    rcases u8_cases y hf with h | h
    · exact input_3_0_bad B s w hB x h0 hx hs2 _ rfl hp hk (by omega) (by omega) y hy h he
    · exact input_3_1_bad B s w hB x h0 hx hs2 _ rfl hp hk (by omega) (by omega) y hy h he
theorem input_any (B : Nat) (s : ByteArray) (w : World) (hB : Blk w B #[.string s] 42) (hs2 : s.size ≤ 6000) :
    Calls Tryd.prog 20 #[.pointer (some ⟨B, 0, none⟩)] w fun e w' => e = (gotOf s).ending ∧ Else B w w' := by
  unfold gotOf
  by_cases h0 : s.size = 0
  · rw [if_pos h0]
    exact input_nil B s w hB h0
  rw [if_neg h0]
  obtain ⟨x, hx, hk⟩ := ext_at s 0 (by omega)
  have hk' : bt s 0 = (x.toNat : Int) := hk
  rw [hk']
  have h0' : 0 < s.size := by omega
  by_cases k2 : x.toNat = 2
  · rw [k2]; exact input_num x 2 hB h0' hx hs2 k2 (.inl rfl)
  by_cases k4 : x.toNat = 4
  · rw [k4]; exact input_num x 4 hB h0' hx hs2 k4 (.inr rfl)
  by_cases k3 : x.toNat = 3
  · rw [k3]; exact input_r x hB h0' hx hs2 k3
  by_cases k6 : x.toNat = 6
  · rw [k6]
    by_cases hb : (s.extract 1 s.size).size = 0
    · have : gotK (6 : Nat) (s.extract 1 s.size) = .got 6 0 0 false ByteArray.empty := by
        unfold gotK
        rw [if_pos (by decide), if_pos hb]
      rw [this]
      exact input_6 B s w hB x h0' hx hs2 k6 (empty_of hb)
    · have : gotK (6 : Nat) (s.extract 1 s.size) = .bad 5 := by
        unfold gotK
        rw [if_pos (by decide), if_neg hb]
      rw [this]
      exact input_6_bad B s w hB x h0' hx hs2 k6 (fun h => hb (by rw [h]; rfl))
  by_cases k1 : x.toNat = 1
  · rw [k1]
    exact input_1 B s w hB x h0' hx hs2 k1
  by_cases k5 : x.toNat = 5
  · rw [k5]
    by_cases hb : (s.extract 1 s.size).size < 1
    · have : gotK (5 : Nat) (s.extract 1 s.size) = .bad 3 := by
        unfold gotK
        rw [if_neg (by decide), if_neg (by decide), if_pos (by decide), if_pos hb]
      rw [this]
      exact input_5_short B s w hB x h0' hx hs2 k5 hb
    · obtain ⟨y, hy, hy2⟩ := ext_at (s.extract 1 s.size) 0 (by omega)
      have hy3 : bt (s.extract 1 s.size) 0 = (y.toNat : Int) := hy2
      have : gotK (5 : Nat) (s.extract 1 s.size) = .got 5 y.toNat 0 false ((s.extract 1 s.size).extract 1 (s.extract 1 s.size).size) := by
        unfold gotK
        rw [if_neg (by decide), if_neg (by decide), if_pos (by decide), if_neg hb, hy3]
      rw [this]
      exact input_5 B s w hB x h0' hx hs2 k5 (by omega) y hy
  have : gotK (x.toNat : Int) (s.extract 1 s.size) = .bad 9 := by
    unfold gotK
    rw [if_neg (by omega), if_neg (by omega), if_neg (by omega), if_neg (by omega), if_neg (by omega)]
  rw [this]
  exact input_9 B s w hB x h0' hx hs2 (beq_eq_false_iff_ne.2 (by omega)) (beq_eq_false_iff_ne.2 (by omega)) (beq_eq_false_iff_ne.2 (by omega)) (beq_eq_false_iff_ne.2 (by omega)) (beq_eq_false_iff_ne.2 (by omega)) (beq_eq_false_iff_ne.2 (by omega))
end Go.Proofs.YtfgbimcjcplegaaDoorG
