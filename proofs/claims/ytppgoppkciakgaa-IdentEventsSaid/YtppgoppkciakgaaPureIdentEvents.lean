/- The id of an event is $ followed by one to 64 allowed bytes: concatenations are valid as long as they are not too long; any other byte makes it invalid: for any two strings, a byte and a position, no condition. -/
import Derived.Test.YtppgoppkciakgaaPEx2
import Derived.Test.YtppgoppkciakgaaL4
set_option linter.unusedVariables false
set_option linter.unusedSimpArgs false
namespace Go.Proofs.Ytppgoppkciakgaa.Pure
open Go.RowKit Go.Proofs.Ytppgoppkciakgaa.PE Go.Proofs.YtppgoppkciakgaaW.PrintWords Go.Proofs.YtppgoppkciakgaaW.PrintLast Go.Proofs.YtppgoppkciakgaaG Go.Proofs.YtppgoppkciakgaaX Go.Proofs.YtppgoppkciakgaaL
theorem e_lives : outlawlaw04_lives.f = some true := by
  unfold outlawlaw04_lives.f
  simp only [ByteArray.toList_eq]
  decide +kernel
/-- The bytes of an event's id behind its sign. -/
def ev (l : List UInt8) : Bool := (l.all fun b => orI greatI eventM b.toNat) && !l.isEmpty && decide (l.length ≤ 64)
theorem event_ev' (s : ByteArray) (l : List UInt8) (h : s.data.toList = 36 :: l) : eventI s = ev l := by
  have hp : Lib.hasPrefix s.data.toList (⟨#[36]⟩ : ByteArray).data.toList = true := by
    rw [h]
    unfold Lib.hasPrefix
    simp [List.isPrefixOf]
  have hr : restS s ⟨#[36]⟩ = ⟨l.toArray⟩ := by
    apply list_inj
    unfold restS Lib.trimPrefix
    rw [if_pos hp, h]
    simp
  unfold eventI signed
  rw [hp, if_neg (by simp), hr]
  unfold allI ev
  show (l.all _ && !l.isEmpty && decide (((l.toArray.size : Nat) : Int) ≤ 64)) = _
  rw [List.size_toArray]
  congr 1
  exact decide_eq_decide.2 (by omega)
theorem sign_list (a : ByteArray) : (⟨#[36]⟩ ++ a : ByteArray).data.toList = 36 :: a.data.toList := by simp [ByteArray.data_append]
theorem both_list (a b : ByteArray) : (⟨#[36]⟩ ++ a ++ b : ByteArray).data.toList = 36 :: (a.data.toList ++ b.data.toList) := by simp [ByteArray.data_append]
theorem ev_both {a b : List UInt8} (ha : ev a = true) (hb : ev b = true) : ev (a ++ b) = decide (a.length + b.length ≤ 64) := by
  unfold ev at *
  rw [Bool.and_eq_true, Bool.and_eq_true] at ha hb
  rw [List.all_append, ha.1.1, hb.1.1, List.length_append]
  have : (a ++ b).isEmpty = false := by
    cases a with
    | nil => simp at ha
    | cons x l => rfl
  rw [this]
  rfl
theorem ev_not {a b : List UInt8} (ha : ev a = false) (hab : ev (a ++ b) = true) : a = [] := by
  cases a with
  | nil => rfl
  | cons x l =>
    exfalso
    unfold ev at *
    rw [Bool.and_eq_true, Bool.and_eq_true, List.all_append, Bool.and_eq_true, List.length_append, decide_eq_true_eq] at hab
    rw [hab.1.1.1, decide_eq_true (by omega)] at ha
    simp at ha
/-- The law's own list of allowed bytes. -/
def mayI (c : Int) : Bool := decide (97 ≤ c ∧ c ≤ 122) || (decide (65 ≤ c ∧ c ≤ 90) || (decide (48 ≤ c ∧ c ≤ 57) || decide (c = 95 ∨ c = 45 ∨ c = 46 ∨ c = 126 ∨ c = 47)))
theorem may_set : ∀ n, n < 256 → mayI ((n : Nat) : Int) = orI greatI eventM ((n : Nat) : Int) := by decide +kernel
theorem j1_yes (k : Nat) (a b : ByteArray) (c n : Int) : outlawlaw04_IdentEvents.j1 (k + 1) a b c n true false = outlawlaw04_IdentEvents.j2 k a c n (mayI c) := by
  simp only [outlawlaw04_IdentEvents.j1]
  rw [if_neg (by simp), if_pos trivial]
  have h47 : mayI c = true ∨ (mayI c = (c == 47)) := by
    unfold mayI
    by_cases h : c = 47
    · simp [h]
    · have : (c == 47) = false := beq_eq_false_iff_ne.2 h
      rw [this]
      cases hq : (decide (97 ≤ c ∧ c ≤ 122) || (decide (65 ≤ c ∧ c ≤ 90) || (decide (48 ≤ c ∧ c ≤ 57) || decide (c = 95 ∨ c = 45 ∨ c = 46 ∨ c = 126 ∨ c = 47)))) <;> simp
  generalize hX : outlawlaw04_IdentEvents.j2 k a c n = X
  unfold mayI at *
  by_cases h1 : c ≥ 97 <;> by_cases h2 : c ≤ 122 <;> by_cases h3 : c ≥ 65 <;> by_cases h4 : c ≤ 90 <;> by_cases h5 : c ≥ 48 <;> by_cases h6 : c ≤ 57 <;> by_cases h7 : c = 95 <;> by_cases h8 : c = 45 <;> by_cases h9 : c = 46 <;> by_cases h10 : c = 126 <;> first | omega | (simp only [h1, h2, h3, h4, h5, h6, h7, h8, h9, h10]; simp; done) | (simp [h1, h2, h3, h4, h5, h6, h7, h8, h9, h10]; congr 1; try (cases h : (c == 47) <;> simp_all))
theorem pick_some (n m : Int) (hm : 1 ≤ m) (hM : m ≤ 140737488351232) (hn : -9223372036854775808 ≤ n) : ∃ t : Nat, outlawkit_Pick.f n m = some (t : Int) ∧ (t : Int) < m := by
  unfold outlawkit_Pick.f
  rw [if_neg (by omega), if_neg (by omega)]
  have h1 := Int.tmod_lt_of_pos n (show 0 < m from by omega)
  have h2 : -m < Int.tmod n m := by
    have := Int.neg_tmod n m
    have h3 := Int.tmod_lt_of_pos (-n) (show 0 < m from by omega)
    omega
  by_cases h : Int.tmod n m < 0
  · rw [if_pos h]
    refine ⟨(Int.tmod n m + m).toNat, ?_, by omega⟩
    congr 1
    unfold wrap64
    omega
  · rw [if_neg h]
    exact ⟨(Int.tmod n m).toNat, by congr 1; omega, by omega⟩
theorem j2_true (k : Nat) (a : ByteArray) (c n : Int) (ha : a.size ≤ 200) (hc : 0 ≤ c) (hc2 : c ≤ 255) (hn : -9223372036854775808 ≤ n) (he : ev a.data.toList = true) : outlawlaw04_IdentEvents.j2 (k + 1) a c n (mayI c) = some true := by
  have hl := size_list a
  have h1 : 1 ≤ a.size := by
    unfold ev at he
    rw [Bool.and_eq_true, Bool.and_eq_true] at he
    cases hq : a.data.toList with
    | nil => rw [hq] at he; simp at he
    | cons x l => rw [hq] at hl; simp at hl; omega
  obtain ⟨t, ht, hlt⟩ := pick_some n (a.size : Int) (by omega) (by omega) hn
  have hlt' : t < a.size := by omega
  simp only [outlawlaw04_IdentEvents.j2]
  rw [ht]
  simp only [Option.bind_some]
  have hw : wrap64 ((t : Int) + 1) = ((t + 1 : Nat) : Int) := by unfold wrap64; omega
  have hs : strOfNums [c] = ⟨#[UInt8.ofNat c.toNat]⟩ := rfl
  rw [hw, Int.toNat_natCast, Int.toNat_natCast, hs]
  have z1 : (a.extract 0 t).size = t := by rw [ByteArray.size_extract]; omega
  have z2 : (⟨#[UInt8.ofNat c.toNat]⟩ : ByteArray).size = 1 := rfl
  have z3 : (a.extract (t + 1) a.size).size = a.size - (t + 1) := by rw [ByteArray.size_extract]; omega
  have z0 : (⟨#[36]⟩ : ByteArray).size = 1 := rfl
  rw [if_pos (by omega), if_pos (by omega), if_pos (by omega), if_pos (by rw [ByteArray.size_append, z0, z1, z2]; omega), if_pos (by omega), if_pos (by omega), if_pos (by rw [ByteArray.size_append, ByteArray.size_append, z0, z1, z2, z3]; omega)]
  unfold ident_EventID.f
  have hbig : small47 (⟨#[36]⟩ ++ a.extract 0 t ++ ⟨#[UInt8.ofNat c.toNat]⟩ ++ a.extract (t + 1) a.size) := by
    show (⟨#[36]⟩ ++ a.extract 0 t ++ ⟨#[UInt8.ofNat c.toNat]⟩ ++ a.extract (t + 1) a.size : ByteArray).size ≤ _
    rw [ByteArray.size_append, ByteArray.size_append, ByteArray.size_append, z0, z1, z2, z3]
    omega
  rw [if_pos hbig]
  simp only [Option.bind_some]
  have hlist : (⟨#[36]⟩ ++ a.extract 0 t ++ ⟨#[UInt8.ofNat c.toNat]⟩ ++ a.extract (t + 1) a.size : ByteArray).data.toList = 36 :: (a.data.toList.take t ++ UInt8.ofNat c.toNat :: a.data.toList.drop (t + 1)) := by
    have e1 := Lib.extract_from_zero a t
    have e2 := Lib.extract_to_end a (t + 1)
    simp only [ByteArray.data_append, Array.toList_append, e1, e2]
    simp
  rw [event_ev' _ _ hlist]
  have hP : orI greatI eventM ((UInt8.ofNat c.toNat).toNat : Int) = mayI c := by
    have := may_set c.toNat (by omega)
    rw [show ((c.toNat : Nat) : Int) = c from by omega] at this
    rw [this]
    congr 1
    rw [UInt8.toNat_ofNat']
    omega
  have hev : ev (a.data.toList.take t ++ UInt8.ofNat c.toNat :: a.data.toList.drop (t + 1)) = mayI c := by
    unfold ev at *
    rw [Bool.and_eq_true, Bool.and_eq_true, List.all_eq_true, decide_eq_true_eq] at he
    have q1 : (a.data.toList.take t).all (fun b => orI greatI eventM b.toNat) = true := List.all_eq_true.2 fun x hx => he.1.1 x (List.mem_of_mem_take hx)
    have q2 : (a.data.toList.drop (t + 1)).all (fun b => orI greatI eventM b.toNat) = true := List.all_eq_true.2 fun x hx => he.1.1 x (List.mem_of_mem_drop hx)
    have q3 : (a.data.toList.take t ++ UInt8.ofNat c.toNat :: a.data.toList.drop (t + 1)).isEmpty = false := by simp
    have q4 : (a.data.toList.take t ++ UInt8.ofNat c.toNat :: a.data.toList.drop (t + 1)).length ≤ 64 := by
      rw [List.length_append, List.length_cons, List.length_take, List.length_drop]
      omega
    rw [List.all_append, List.all_cons, q1, q2, q3, decide_eq_true q4, hP]
    simp
  rw [hev]
  simp
theorem small_both {a b : ByteArray} (h1 : a.size ≤ 200) (h2 : b.size ≤ 200) : small47 (⟨#[36]⟩ ++ a ++ b) := by
  show (⟨#[36]⟩ ++ a ++ b : ByteArray).size ≤ _
  rw [ByteArray.size_append, ByteArray.size_append]
  show 1 + a.size + b.size ≤ _
  omega
theorem small_sign {a : ByteArray} (h1 : a.size ≤ 200) : small47 (⟨#[36]⟩ ++ a) := by
  show (⟨#[36]⟩ ++ a : ByteArray).size ≤ _
  rw [ByteArray.size_append]
  show 1 + a.size ≤ _
  omega
theorem event_sign {a : ByteArray} (h1 : a.size ≤ 200) : ident_EventID.f (⟨#[36]⟩ ++ a) = some (ev a.data.toList) := by
  unfold ident_EventID.f
  rw [if_pos (small_sign h1), event_ev' _ _ (sign_list a)]
theorem event_both {a b : ByteArray} (h1 : a.size ≤ 200) (h2 : b.size ≤ 200) : ident_EventID.f (⟨#[36]⟩ ++ a ++ b) = some (ev (a.data.toList ++ b.data.toList)) := by
  unfold ident_EventID.f
  rw [if_pos (small_both h1 h2), event_ev' _ _ (both_list a b)]
theorem fits_one {b : ByteArray} (h2 : b.size ≤ 200) : 1 + b.size ≤ 9223372036854775807 := by omega
theorem fits_two {a b : ByteArray} (h1 : a.size ≤ 200) (h2 : b.size ≤ 200) : (⟨#[36]⟩ ++ a : ByteArray).size + b.size ≤ 9223372036854775807 := by
  rw [ByteArray.size_append]
  show 1 + a.size + b.size ≤ _
  omega
theorem j1_no (k : Nat) {a b : ByteArray} (c n : Int) (h1 : a.size ≤ 200) (h2 : b.size ≤ 200) (hx : ev a.data.toList = false) : outlawlaw04_IdentEvents.j1 (k + 1) a b c n false false = some true := by
  have hab : ev (a.data.toList ++ b.data.toList) = true → a.toList = [] := fun h => by rw [ByteArray.toList_eq]; exact ev_not hx h
  simp only [outlawlaw04_IdentEvents.j1]
  simp only [Bool.false_eq_true, if_false, if_pos (fits_one h1), if_pos (fits_two h1 h2), event_both h1 h2, Option.bind_some]
  cases hq : ev (a.data.toList ++ b.data.toList) with
  | false => simp
  | true => simp [hab hq]
theorem j0_true {a b : ByteArray} {c n : Int} (h1 : a.size ≤ 200) (h2 : b.size ≤ 200) (hc : 0 ≤ c) (hc2 : c ≤ 255) (hn : -9223372036854775808 ≤ n) : outlawlaw04_IdentEvents.j0 4 a b c n false = some true := by
  have hw : decide (wrap64 ((a.size : Int) + (b.size : Int)) ≤ 64) = decide (a.data.toList.length + b.data.toList.length ≤ 64) := by
    apply decide_eq_decide.2
    have la := size_list a
    have lb := size_list b
    unfold wrap64
    omega
  simp only [outlawlaw04_IdentEvents.j0, Bool.false_eq_true, if_false, if_pos (fits_one h1), if_pos (fits_one h2), if_pos (fits_two h1 h2), event_sign h1, event_sign h2, event_both h1 h2, Option.bind_some, hw]
  cases hx : ev a.data.toList with
  | true =>
    have hj : outlawlaw04_IdentEvents.j1 3 a b c n true false = some true := by
      rw [j1_yes 2]
      exact j2_true 1 a c n h1 hc hc2 hn hx
    cases hy : ev b.data.toList with
    | true =>
      simp only [if_true, ev_both hx hy, bne_self_eq_false]
      exact hj
    | false =>
      simp only [if_true, Bool.false_eq_true, if_false]
      exact hj
  | false =>
    simp only [Bool.false_eq_true, if_false]
    exact j1_no 2 c n h1 h2 hx
theorem IdentEvents : outlawlaw04_IdentEvents.Pure := by
  intro a b c n ha hb hc hn
  have hc' : 0 ≤ c ∧ c ≤ 255 := by
    simp only [Lit.wf, Bool.and_eq_true, decide_eq_true_eq] at hc
    exact hc
  have hn' : -9223372036854775808 ≤ n := by
    simp only [Lit.wf, Bool.and_eq_true, decide_eq_true_eq] at hn
    exact hn.1
  refine ⟨4, ?_⟩
  unfold outlawlaw04_IdentEvents.f
  rw [e_lives]
  simp only [Option.bind_some, if_true]
  by_cases h1 : 200 < a.size
  · rw [if_pos (by omega)]
    rfl
  · rw [if_neg (by omega)]
    by_cases h2 : 200 < b.size
    · rw [decide_eq_true (by omega)]
      rfl
    · rw [decide_eq_false (by omega)]
      exact j0_true (by omega) (by omega) hc'.1 hc'.2 hn'
end Go.Proofs.Ytppgoppkciakgaa.Pure
