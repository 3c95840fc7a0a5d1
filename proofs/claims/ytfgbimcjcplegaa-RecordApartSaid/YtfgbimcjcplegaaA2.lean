/- RecordApart returns true: for any two inputs, and a cut. -/
import Derived.Test.YtfgbimcjcplegaaA1
set_option linter.unusedVariables false
set_option linter.unusedSimpArgs false
namespace Go.Proofs.YtfgbimcjcplegaaA
open Go.RowKit Go.Proofs.Ytfgbimcjcplegaa.PB Go.Proofs.YtfgbimcjcplegaaW.PrintWords Go.Proofs.YtfgbimcjcplegaaW.PrintLast Go.Proofs.YtfgbimcjcplegaaW.PrintMore Go.Proofs.YtfgbimcjcplegaaG Go.Proofs.YtfgbimcjcplegaaX Go.Proofs.YtfgbimcjcplegaaQ Go.Proofs.Ytfgbimcjcplegaa.PureB
theorem toList_inj {s t : ByteArray} (h : s.toList = t.toList) : s = t := by
  rw [ByteArray.toList_eq, ByteArray.toList_eq] at h
  exact bytes_ext h
theorem isB_take {l : List Int} (h : isB l) (j : Nat) : isB (l.take j) := fun x hx => h x (List.mem_of_mem_take hx)
theorem read_short {s : ByteArray} (hs : s.size ≤ 6000) (h : gotOf s = .bad 3) : record_Read.f s = some (0, 0, 0, false, ByteArray.empty, 3) := by
  rw [read_val s hs]
  unfold readG
  rw [h]
theorem read_got {s : ByteArray} {k c n : Int} {ok : Bool} {t : ByteArray} (hs : s.size ≤ 6000) (h : gotOf s = .got k c n ok t) (hc : checkI k c n ok t = 0) : record_Read.f s = some (k, c, n, ok, t, 0) := by
  rw [read_val s hs]
  unfold readG
  rw [h]
  simp only
  rw [if_pos hc]
theorem cut_zero {l : List Int} (h : isB l) : gotOf ((strOfNums l).extract 0 0) = .bad 3 := by
  rw [str_extract]
  rfl
theorem cut_succ (x : Int) (r : List Int) (h : isB (x :: r)) (j : Nat) : gotOf ((strOfNums (x :: r)).extract 0 (j + 1)) = gotK x (strOfNums (r.take j)) := by
  rw [str_extract, List.drop_zero, List.take_succ_cons]
  exact got_cons (fun y hy => h y (by
    rcases List.mem_cons.1 hy with rfl | h'
    · simp
    · exact List.mem_cons_of_mem _ (List.mem_of_mem_take h')))
/-- What a proper prefix of a record is read as. -/
theorem cut_read {k c n : Int} {ok : Bool} {t : ByteArray} (h : checkI k c n ok t = 0) (p : Nat) (hp : p < (recL k c n ok t).length) :
    gotOf ((strOfNums (recL k c n ok t)).extract 0 p) = .bad 3 ∨
    ((k = 1 ∨ k = 5) ∧ n = 0 ∧ ok = false ∧ ∃ T : ByteArray, gotOf ((strOfNums (recL k c n ok t)).extract 0 p) = .got k c 0 false T ∧ T.size ≤ t.size ∧ t.extract 0 T.size = T ∧ checkI k c 0 false T = 0) := by
  have pre : ∀ j, j ≤ (bytesOf t).length → t.extract 0 (strOfNums ((bytesOf t).take j)).size = strOfNums ((bytesOf t).take j) ∧ (strOfNums ((bytesOf t).take j)).size = j := by
    intro j hj
    have h1 : (strOfNums ((bytesOf t).take j)).size = j := by rw [str_size, List.length_take]; omega
    refine ⟨?_, h1⟩
    rw [h1]
    have h2 := str_extract (bytesOf t) 0 j
    rw [str_bytesOf, List.drop_zero] at h2
    exact h2
  have hl := bytesOf_length t
  have hB := isB_bytesOf t
  rcases check_ok h with ⟨rfl, rfl, rfl, rfl, ht⟩ | ⟨rfl, rfl, h0, h1, ht⟩ | ⟨rfl, rfl, h0, h1, rfl, ht⟩ | ⟨rfl, rfl, h0, h1, rfl, ht⟩ | ⟨rfl, h0, h1, rfl, rfl, ht⟩ | ⟨rfl, rfl, rfl, rfl, ht⟩
  · have e : recL 1 0 0 false t = 1 :: bytesOf t := by simp [recL]
    rw [e] at hp ⊢
    have hb : isB (1 :: bytesOf t) := isB_cons (by decide) (by decide) hB
    match p with
    | 0 => exact .inl (cut_zero hb)
    | j + 1 =>
      have hj : j ≤ (bytesOf t).length := by simp at hp; omega
      obtain ⟨q1, q2⟩ := pre j hj
      refine .inr ⟨.inl rfl, rfl, rfl, strOfNums ((bytesOf t).take j), ?_, by omega, q1, ?_⟩
      · rw [cut_succ _ _ hb]; rfl
      · unfold checkI errIf
        rw [if_pos rfl, if_neg (by simp), if_neg (by omega)]
  · have e : recL 3 0 n ok t = 3 :: (eightL n ++ [if ok = true then 1 else 0]) := by simp [recL]
    rw [e] at hp ⊢
    have hf : isB [if ok = true then (1 : Int) else 0] := by cases ok <;> exact isB_one (by decide) (by decide)
    have hb : isB (3 :: (eightL n ++ [if ok = true then 1 else 0])) := isB_cons (by decide) (by decide) (isB_app (isB_eight n) hf)
    match p with
    | 0 => exact .inl (cut_zero hb)
    | j + 1 =>
      refine .inl ?_
      have hj : j < 9 := by simp [eightL] at hp; omega
      rw [cut_succ _ _ hb]
      unfold gotK
      rw [if_neg (by decide), if_neg (by decide), if_neg (by decide), if_neg (by decide), if_pos rfl, if_pos (by rw [str_size, List.length_take]; omega)]
  · have e : recL 4 0 n false t = 4 :: eightL n := by simp [recL]
    rw [e] at hp ⊢
    have hb : isB (4 :: eightL n) := isB_cons (by decide) (by decide) (isB_eight n)
    match p with
    | 0 => exact .inl (cut_zero hb)
    | j + 1 =>
      refine .inl ?_
      have hj : j < 8 := by simp [eightL] at hp; omega
      rw [cut_succ _ _ hb]
      unfold gotK
      rw [if_neg (by decide), if_neg (by decide), if_neg (by decide), if_pos (.inr rfl), if_pos (by rw [str_size, List.length_take]; omega)]
  · have e : recL 2 0 n false t = 2 :: eightL n := by simp [recL]
    rw [e] at hp ⊢
    have hb : isB (2 :: eightL n) := isB_cons (by decide) (by decide) (isB_eight n)
    match p with
    | 0 => exact .inl (cut_zero hb)
    | j + 1 =>
      refine .inl ?_
      have hj : j < 8 := by simp [eightL] at hp; omega
      rw [cut_succ _ _ hb]
      unfold gotK
      rw [if_neg (by decide), if_neg (by decide), if_neg (by decide), if_pos (.inl rfl), if_pos (by rw [str_size, List.length_take]; omega)]
  · have hc : c % 256 = c := by omega
    have e : recL 5 c 0 false t = 5 :: c :: bytesOf t := by simp [recL, hc]
    rw [e] at hp ⊢
    have hb2 : isB (c :: bytesOf t) := isB_cons h0 h1 hB
    have hb : isB (5 :: c :: bytesOf t) := isB_cons (by decide) (by decide) hb2
    match p with
    | 0 => exact .inl (cut_zero hb)
    | 1 =>
      refine .inl ?_
      rw [cut_succ _ _ hb 0]
      rfl
    | j + 2 =>
      have hj : j ≤ (bytesOf t).length := by simp at hp; omega
      obtain ⟨q1, q2⟩ := pre j hj
      refine .inr ⟨.inr rfl, rfl, rfl, strOfNums ((bytesOf t).take j), ?_, by omega, q1, ?_⟩
      · rw [cut_succ _ _ hb (j + 1), List.take_succ_cons]
        have hb3 : isB (c :: (bytesOf t).take j) := isB_cons h0 h1 (isB_take hB j)
        have h2 : bt (strOfNums (c :: (bytesOf t).take j)) 0 = c := str_bt hb3 0 (by simp)
        unfold gotK
        rw [if_neg (by decide), if_neg (by decide), if_pos rfl, if_neg (by rw [str_size]; simp), h2, ext_one_rest]
      · unfold checkI errIf
        rw [if_neg (by decide), if_neg (by decide), if_neg (by decide), if_neg (by decide), if_pos rfl, if_neg (by simp; omega), if_neg (by omega)]
  · have e : recL 6 0 0 false t = [6] := by simp [recL]
    rw [e] at hp ⊢
    have hb : isB [6] := isB_one (by decide) (by decide)
    match p with
    | 0 => exact .inl (cut_zero hb)
    | j + 1 => simp at hp
theorem apart (k c n k' c' n' cut : Int) (ok ok' : Bool) (t t' : ByteArray) (w : World) :
    Calls Try.prog 5 #[.agg #[.int .i64 k, .int .i64 c, .int .i64 n, .bool ok, .string t], .agg #[.int .i64 k', .int .i64 c', .int .i64 n', .bool ok', .string t'], .int .i64 cut] w fun e w' => e = .returned (.bool true) ∧ Below w.heap.size w w' := by
  by_cases h1 : 5000 < t.size
  · exact w_l1 k c n k' c' n' cut ok ok' t t' h1 w
  by_cases h2 : 5000 < t'.size
  · exact w_l2 k c n k' c' n' cut ok ok' t t' (by omega) h2 w
  have hA := bytes_val 0 k c n ok t (by omega)
  have hB := bytes_val 0 k' c' n' ok' t' (by omega)
  by_cases hc : checkI k c n ok t = 0
  · rw [if_pos hc] at hA
    by_cases hc' : checkI k' c' n' ok' t' = 0
    · rw [if_pos hc'] at hB
      have hsz := recL_size hc
      have hAs : (strOfNums (recL k c n ok t)).size = (recL k c n ok t).length := str_size _
      have hback := back k c n ok t hc
      have hback' := back k' c' n' ok' t' hc'
      have hcr := cut_read hc
      have hst : (k == k' && (c == c' && (n == n' && (ok == ok' && t.toList == t'.toList)))) = ((strOfNums (recL k c n ok t)).toList == (strOfNums (recL k' c' n' ok' t')).toList) := by
        rw [Bool.eq_iff_iff]
        simp only [Bool.and_eq_true, beq_iff_eq]
        constructor
        · rintro ⟨rfl, rfl, rfl, rfl, h5⟩
          rw [toList_inj h5]
        · intro h
          rw [toList_inj h, hback'] at hback
          cases hback
          exact ⟨rfl, rfl, rfl, rfl, rfl⟩
      have hp := pick_of (f := outlawkit_Pick.f) (fun _ _ => rfl) cut ((strOfNums (recL k c n ok t)).size : Int) (by omega) (by omega)
      have hpr := pick_range cut ((strOfNums (recL k c n ok t)).size : Int) (by omega)
      obtain ⟨q, hq⟩ := Int.eq_ofNat_of_zero_le hpr.1
      rw [hq] at hp hpr
      have hql : q < (recL k c n ok t).length := by omega
      have hAe : (strOfNums (recL k c n ok t)).toList.isEmpty = false := by
        rw [Bool.eq_false_iff]
        intro h
        have h3 := congrArg List.length (List.isEmpty_iff.1 h)
        rw [ByteArray.toList_eq, Array.length_toList] at h3
        have h4 : (strOfNums (recL k c n ok t)).size = 0 := h3
        omega
      have hs6 : ((strOfNums (recL k c n ok t)).extract 0 ((q : Int)).toNat).size ≤ 6000 := by rw [ByteArray.size_extract]; omega
      have hA' : record_Bytes.f 1 k c n ok t = some (strOfNums (recL k c n ok t), 0) := hA
      have hB' : record_Bytes.f 1 k' c' n' ok' t' = some (strOfNums (recL k' c' n' ok' t'), 0) := hB
      rcases hcr q hql with hbad | ⟨hk, rfl, rfl, T, hgot, hT1, hT2, hT3⟩
      · exact w_short k c n k' c' n' cut ok ok' t t' (by omega) (by omega) _ _ _ (q : Int) hA' hB' rfl hst hAe hp hpr.1 (by omega) (by omega) (read_short hs6 hbad) w
      · have hr := read_got hs6 hgot hT3
        rcases hk with rfl | rfl
        · exact w_long1 c 0 k' c' n' cut false ok' t t' (by omega) (by omega) _ _ _ (q : Int) hA' hB' rfl hst hAe hp hpr.1 (by omega) (by omega) T (by omega) hT2 hr w
        · exact w_long5 c 0 k' c' n' cut false ok' t t' (by omega) (by omega) _ _ _ (q : Int) hA' hB' rfl hst hAe hp hpr.1 (by omega) (by omega) T (by omega) hT2 hr w
    · rw [if_neg hc'] at hB
      exact w_f k c n k' c' n' cut ok ok' t t' (by omega) (by omega) _ _ _ hA hB (beq_eq_false_iff_ne.2 hc') w
  · rw [if_neg hc] at hA
    exact w_e k c n k' c' n' cut ok ok' t t' (by omega) (by omega) _ _ _ _ hA hB (beq_eq_false_iff_ne.2 hc) w
end Go.Proofs.YtfgbimcjcplegaaA
