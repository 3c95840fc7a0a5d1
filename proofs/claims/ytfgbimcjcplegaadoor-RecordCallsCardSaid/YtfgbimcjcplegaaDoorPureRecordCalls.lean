/- Which inputs are valid, their records and lines, and what is read and taken, are what the document says: for every input, bytes, code and string, no condition. -/
import Derived.Test.YtfgbimcjcplegaaDoorPFx4
import Derived.Test.YtfgbimcjcplegaaDoorQ2
import Derived.Test.YtfgbimcjcplegaaDoorRm
set_option linter.unusedVariables false
set_option linter.unusedSimpArgs false
namespace Go.Proofs.YtfgbimcjcplegaaDoor.PureC
open Go.RowKit Go.Proofs.YtfgbimcjcplegaaDoor.PF Go.Proofs.YtfgbimcjcplegaaDoorW.PrintWords Go.Proofs.YtfgbimcjcplegaaDoorW.PrintLast Go.Proofs.YtfgbimcjcplegaaDoorG Go.Proofs.YtfgbimcjcplegaaDoorX Go.Proofs.YtfgbimcjcplegaaDoorQ Go.Proofs.YtfgbimcjcplegaaDoorR Go.Proofs.YtfgbimcjcplegaaDoor.PR
theorem lives_11 : outlawlaw21_lives.f 11 = some true := by
  unfold outlawlaw21_lives.f
  simp only [ByteArray.toList_eq]
  decide +kernel
theorem eight_val {n : Int} (h0 : 0 ≤ n) (h1 : n ≤ 1152921504606846976) : record_eight.f n = some (strOfNums (eightL n)) := if_pos ⟨by omega, by omega⟩
theorem bytes_val (m : Nat) (k c n : Int) (ok : Bool) (t : ByteArray) (ht : t.size ≤ 5000) :
    record_Bytes.f (m + 1) k c n ok t = some (if checkI k c n ok t = 0 then (strOfNums (recL k c n ok t), 0) else ((⟨#[]⟩ : ByteArray), checkI k c n ok t)) := by
  unfold record_Bytes.f record_Check.f
  simp only [Option.bind_some]
  by_cases h : checkI k c n ok t = 0
  · rw [if_pos h, if_pos h]
    have hl := bytesOf_length t
    have h8 : ∀ n, (eightL n).length = 8 := fun _ => rfl
    rcases check_ok h with ⟨rfl, rfl, rfl, rfl, h1⟩ | ⟨rfl, rfl, h0, h1, h2⟩ | ⟨rfl, rfl, h0, h1, rfl, h2⟩ | ⟨rfl, rfl, h0, h1, rfl, h2⟩ | ⟨rfl, h0, h1, rfl, rfl, h2⟩ | ⟨rfl, rfl, rfl, rfl, h2⟩
    · simp [record_Bytes.j0, recL]
      omega
    · simp [record_Bytes.j0, recL, eight_val h0 h1, str_size, h8, bytesOf_str (isB_eight n)]
      cases ok <;> simp
    · simp [record_Bytes.j0, recL, eight_val h0 h1, str_size, h8, bytesOf_str (isB_eight n)]
    · simp [record_Bytes.j0, recL, eight_val (show 0 ≤ n by omega) (show n ≤ 1152921504606846976 by omega), str_size, h8, bytesOf_str (isB_eight n)]
    · simp [record_Bytes.j0, recL]
      omega
    · simp [record_Bytes.j0, recL]
  · rw [if_neg h, if_neg h]
theorem big_val (m : Nat) (n : Int) (h0 : 0 ≤ n) (h1 : n ≤ 1152921504606846976) : outlawref20_Big.f (m + 9) n = some (strOfNums (eightL n)) := by
  unfold outlawref20_Big.f
  rw [if_pos (by decide)]
  simp only [outlawref20_Big.l0]
  simp [wrap64, IntKind.wrap_u64, List.replicate]
  simp [shr, eightL, IntKind.bits]
theorem str_app (a b : List Int) : strOfNums a ++ strOfNums b = strOfNums (a ++ b) := by
  apply ByteArray.ext
  simp [strOfNums, ByteArray.data_append]
theorem refbytes_val (m : Nat) (k c n : Int) (ok : Bool) (t : ByteArray) (ht : t.size ≤ 5000) :
    outlawref21_Bytes.f (m + 9) k c n ok t = some (if checkI k c n ok t = 0 then (strOfNums (recL k c n ok t), 0) else ((⟨#[]⟩ : ByteArray), checkI k c n ok t)) := by
  unfold outlawref21_Bytes.f
  rw [check_val (m + 3)]
  simp only [Option.bind_some]
  by_cases h : checkI k c n ok t = 0
  · rw [if_pos h, if_pos h]
    have hl := bytesOf_length t
    have h8 : ∀ n, (eightL n).length = 8 := fun _ => rfl
    have hT := str_bytesOf t
    have hn : 0 ≤ n ∧ n ≤ 1152921504606846976 := by
      rcases check_ok h with ⟨rfl, rfl, rfl, rfl, h1⟩ | ⟨rfl, rfl, h0, h1, h2⟩ | ⟨rfl, rfl, h0, h1, rfl, h2⟩ | ⟨rfl, rfl, h0, h1, rfl, h2⟩ | ⟨rfl, h0, h1, rfl, rfl, h2⟩ | ⟨rfl, rfl, rfl, rfl, h2⟩ <;> omega
    have hw : IntKind.u64.wrap n = n := by simp [IntKind.wrap_u64]; omega
    rw [hw, big_val m n hn.1 hn.2]
    simp only [Option.bind_some]
    have one1 : (⟨#[1]⟩ : ByteArray) = strOfNums [1] := rfl
    have one0 : (⟨#[0]⟩ : ByteArray) = strOfNums [0] := rfl
    rcases check_ok h with ⟨rfl, rfl, rfl, rfl, h1⟩ | ⟨rfl, rfl, h0, h1, h2⟩ | ⟨rfl, rfl, h0, h1, rfl, h2⟩ | ⟨rfl, rfl, h0, h1, rfl, h2⟩ | ⟨rfl, h0, h1, rfl, rfl, h2⟩ | ⟨rfl, rfl, rfl, rfl, h2⟩
    · rw [if_pos rfl, if_pos (by rw [str_size]; simp; omega)]
      conv => lhs; rw [← hT]
      rw [str_app]
      rfl
    · cases ok <;> simp [outlawref21_Bytes.j0, recL, str_size, h8, str_app, one0, one1]
    · simp [outlawref21_Bytes.j0, recL, str_size, h8, str_app]
    · simp [outlawref21_Bytes.j0, recL, str_size, h8, str_app]
    · have e : (strOfNums [5] ++ strOfNums [c % 256]) ++ t = strOfNums ([5] ++ [c % 256] ++ bytesOf t) := by
        conv => lhs; rw [← hT]
        rw [str_app, str_app]
      simp [outlawref21_Bytes.j0, recL, str_size, h8, str_app] at e ⊢
      refine ⟨by omega, e⟩
    · simp [outlawref21_Bytes.j0, recL]
  · rw [if_neg h, if_neg h]
theorem read_val (s : ByteArray) (hs : s.size ≤ 6000) : record_Read.f s = some (readG s) := if_pos hs
theorem refread_val (s : ByteArray) (hs : s.size ≤ 6000) : outlawref21_Read.f s = some (readG s) := if_pos hs
theorem RecordCalls (k c n : Int) (ok : Bool) (t s : ByteArray) (code : Int) (x : ByteArray) (hk0 : -9223372036854775808 ≤ k) (hk1 : k ≤ 9223372036854775807) (hc0 : -9223372036854775808 ≤ c) (hc1 : c ≤ 9223372036854775807) (hn0 : -9223372036854775808 ≤ n) (hn1 : n ≤ 9223372036854775807) : ∃ m, outlawlaw21_RecordCalls.f m k c n ok t s code x = some true := by
  refine ⟨11, ?_⟩
  unfold outlawlaw21_RecordCalls.f outlawlaw21_light.f
  rw [lives_11]
  simp only [Option.bind_some, if_true, decide_eq_true_eq]
  have big : ∀ m, outlawlaw21_RecordCalls.j0 (m + 1) s code x true k c n ok t = some true := fun m => by
    simp only [outlawlaw21_RecordCalls.j0, if_true]
  by_cases ht : (t.size : Int) ≤ 5000
  · rw [if_pos ht]
    by_cases hs : (s.size : Int) > 5000
    · rw [if_pos hs]; exact big 10
    rw [if_neg hs]
    by_cases hx : (x.size : Int) > 5000
    · rw [decide_eq_true hx]; exact big 10
    rw [decide_eq_false hx]
    show outlawlaw21_RecordCalls.j0 (10 + 1) s code x false k c n ok t = _
    simp only [outlawlaw21_RecordCalls.j0]
    rw [if_neg (by decide), bytes_val 9 k c n ok t (by omega), refbytes_val 1 k c n ok t (by omega), read_val s (by omega), refread_val s (by omega), check_val 4]
    simp [record_Check.f, record_Take.f, outlawref21_Take.f, record_Command.f, record_Line.f, outlawref21_Line.f]
    have ht' : t.size ≤ 5000 := by omega
    by_cases hx4 : 4096 < (x.size : Int) <;> simp [hx4, hc0, hc1, hn0, hn1, ht']
  · rw [if_neg ht]
    exact big 10
theorem recordCalls_walk (k c n : Int) (ok : Bool) (t s : ByteArray) (code : Int) (x : ByteArray) (W : World) (ht : Tab W) (wa : (Lit.int .i64 k).wf = true) (wb : (Lit.int .i64 c).wf = true) (wc : (Lit.int .i64 n).wf = true) (wd : t.size ≤ maxLen) (w1 : s.size ≤ 140737488351232) (w2 : (Lit.int .i64 code).wf = true) (w3 : x.size ≤ 140737488351232) :
    Calls Tryd.prog 4 #[.agg #[.int .i64 k, .int .i64 c, .int .i64 n, .bool ok, .string t], .string s, .int .i64 code, .string x] W fun e w' => e = .returned (.bool true) ∧ Below W.heap.size W w' := by
  have hb : ∀ n : Int, (Lit.int .i64 n).wf = true → -9223372036854775808 ≤ n ∧ n ≤ 9223372036854775807 := fun n h => by
    have h2 : (decide (IntKind.i64.min ≤ n) && decide (n ≤ IntKind.i64.max)) = true := h
    rw [Bool.and_eq_true, decide_eq_true_eq, decide_eq_true_eq] at h2
    exact h2
  obtain ⟨m, hm⟩ := RecordCalls k c n ok t s code x (hb k wa).1 (hb k wa).2 (hb c wb).1 (hb c wb).2 (hb n wc).1 (hb n wc).2
  exact outlawlaw21_RecordCalls.calls m k c n ok t s code x true W ⟨rfl⟩ ht hm
end Go.Proofs.YtfgbimcjcplegaaDoor.PureC
