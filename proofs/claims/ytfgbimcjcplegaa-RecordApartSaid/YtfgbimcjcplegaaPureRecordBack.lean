/- A valid input is read from its record; what is read is valid, and has exactly this record; no record is longer than allowed: for every input and bytes, no condition. -/
import Derived.Test.YtfgbimcjcplegaaPBx3
import Derived.Test.YtfgbimcjcplegaaQ2
set_option linter.unusedVariables false
set_option linter.unusedSimpArgs false
namespace Go.Proofs.Ytfgbimcjcplegaa.PureB
open Go.RowKit Go.Proofs.Ytfgbimcjcplegaa.PB Go.Proofs.YtfgbimcjcplegaaW.PrintWords Go.Proofs.YtfgbimcjcplegaaW.PrintLast Go.Proofs.YtfgbimcjcplegaaG Go.Proofs.YtfgbimcjcplegaaX Go.Proofs.YtfgbimcjcplegaaQ
theorem lives_3 : outlawlaw21_lives.f 3 = some true := by
  unfold outlawlaw21_lives.f
  simp only [ByteArray.toList_eq]
  decide +kernel
theorem eight_val {n : Int} (h0 : 0 ≤ n) (h1 : n ≤ 1152921504606846976) : record_eight.f n = some (strOfNums (eightL n)) := if_pos ⟨by omega, by omega⟩
theorem bytes_val (m : Nat) (k c n : Int) (ok : Bool) (t : ByteArray) (ht : t.size ≤ 5000) :
    record_Bytes.f (m + 1) k c n ok t = some (if checkI k c n ok t = 0 then (strOfNums (recL k c n ok t), 0) else ((⟨#[]⟩ : ByteArray), checkI k c n ok t)) := by
  unfold record_Bytes.f record_Check.f
  simp only [Option.bind_some]
  by_cases h : checkI k c n ok t = 0
  · rw [if_pos h, if_pos h]
    have hl := bytesOf_length t
    have h8 : ∀ n, (eightL n).length = 8 := fun _ => rfl
    rcases check_ok h with ⟨rfl, rfl, rfl, rfl, h1⟩ | ⟨rfl, rfl, h0, h1, h2⟩ | ⟨rfl, rfl, h0, h1, rfl, h2⟩ | ⟨rfl, rfl, h0, h1, rfl, h2⟩ | ⟨rfl, h0, h1, rfl, rfl, h2⟩ | ⟨rfl, rfl, rfl, rfl, h2⟩
    · simp [record_Bytes.j0, recL]
      omega
    · simp [record_Bytes.j0, recL, eight_val h0 h1, str_size, h8, bytesOf_str (isB_eight n)]
      cases ok <;> simp
    · simp [record_Bytes.j0, recL, eight_val h0 h1, str_size, h8, bytesOf_str (isB_eight n)]
    · simp [record_Bytes.j0, recL, eight_val (show 0 ≤ n by omega) (show n ≤ 1152921504606846976 by omega), str_size, h8, bytesOf_str (isB_eight n)]
    · simp [record_Bytes.j0, recL]
      omega
    · simp [record_Bytes.j0, recL]
  · rw [if_neg h, if_neg h]
theorem bad_pos {s : ByteArray} {x : Int} (h : gotOf s = .bad x) : x ≠ 0 := by
  unfold gotOf gotK gotNum at h
  repeat' (split at h)
  all_goals first | (cases h; decide) | cases h
theorem read_val (s : ByteArray) (hs : s.size ≤ 6000) : record_Read.f s = some (readG s) := if_pos hs
theorem j1_val (m : Nat) (s : ByteArray) (hs : s.size ≤ 5000) : outlawlaw21_RecordBack.j1 (m + 2) s = some true := by
  simp only [outlawlaw21_RecordBack.j1]
  rw [read_val s (by omega)]
  simp only [Option.bind_some]
  unfold readG
  cases hg : gotOf s with
  | bad x =>
    simp only
    by_cases hx : x = 0
    · exact absurd hx (bad_pos hg)
    · rw [if_neg hx]
      simp [ByteArray.toList_eq]
  | got k c n ok t =>
    simp only
    by_cases hc : checkI k c n ok t = 0
    · rw [if_pos hc]
      simp only [if_true]
      have hx := exact_back hg
      have ht : t.size ≤ 5000 := by
        rcases check_ok hc with ⟨_, _, _, _, h⟩ | ⟨_, _, _, _, h⟩ | ⟨_, _, _, _, _, h⟩ | ⟨_, _, _, _, _, h⟩ | ⟨_, _, _, _, _, h⟩ | ⟨_, _, _, _, h⟩ <;> omega
      rw [bytes_val m k c n ok t ht, if_pos hc, hx]
      simp [record_Check.f, hc]
    · rw [if_neg hc]
      simp only
      rw [if_neg hc]
      simp [ByteArray.toList_eq]
theorem RecordBack (k c n : Int) (ok : Bool) (t s : ByteArray) : ∃ m, outlawlaw21_RecordBack.f m k c n ok t s = some true := by
  refine ⟨4, ?_⟩
  unfold outlawlaw21_RecordBack.f outlawlaw21_light.f
  rw [show outlawlaw21_lives.f 4 = some true from outlawlaw21_lives.mono 3 _ lives_3]
  simp only [Option.bind_some, if_true, decide_eq_true_eq]
  have big : ∀ m, outlawlaw21_RecordBack.j0 (m + 1) s true k c n ok t = some true := fun m => by
    simp only [outlawlaw21_RecordBack.j0, if_true]
  by_cases ht : (t.size : Int) ≤ 5000
  · rw [if_pos ht]
    by_cases hs : (s.size : Int) > 5000
    · rw [decide_eq_true hs]
      exact big 3
    rw [decide_eq_false hs]
    show outlawlaw21_RecordBack.j0 (3 + 1) s false k c n ok t = _
    simp only [outlawlaw21_RecordBack.j0]
    rw [if_neg (by decide), bytes_val 2 k c n ok t (by omega)]
    simp only [Option.bind_some, record_Check.f]
    by_cases hc : checkI k c n ok t = 0
    · rw [if_pos hc]
      simp only [hc, if_true]
      have hsz := recL_size hc
      rw [read_val _ (by rw [str_size]; omega)]
      simp only [Option.bind_some]
      have hr : readG (strOfNums (recL k c n ok t)) = (k, c, n, ok, t, 0) := by
        unfold readG
        rw [back k c n ok t hc]
        simp only
        rw [if_pos hc]
      rw [hr]
      simp only [if_true]
      rw [if_neg (by simp), if_neg (by rw [str_size]; omega), if_neg ?_, j1_val 1 s (by omega)]
      intro h
      have h2 : (strOfNums (recL k c n ok t)).size = 0 := by
        have h3 := congrArg List.length h
        rw [ByteArray.toList_eq, Array.length_toList] at h3
        exact h3
      rw [str_size] at h2
      omega
    · rw [if_neg hc]
      simp only [if_true]
      rw [if_neg hc, if_pos (by simp [ByteArray.toList_eq]), j1_val 1 s (by omega)]
  · rw [if_neg ht]
    exact big 3
end Go.Proofs.Ytfgbimcjcplegaa.PureB
