/- The law IdentParts returns true: for every two names and a server, no condition. -/
import Derived.Test.YtppgoppkciakgaaQ1
set_option linter.unusedVariables false
set_option linter.unusedSimpArgs false
namespace Go.Proofs.YtppgoppkciakgaaQ
open Go.RowKit Go.Proofs.Ytppgoppkciakgaa.PA Go.Proofs.YtppgoppkciakgaaW.PrintWords Go.Proofs.YtppgoppkciakgaaG Go.Proofs.YtppgoppkciakgaaX Go.Proofs.YtppgoppkciakgaaL
def smallSet (c : Int) : Bool := decide (97 ≤ c ∧ c ≤ 122) || (decide (48 ≤ c ∧ c ≤ 57) || decide (c = 46 ∨ c = 95 ∨ c = 61 ∨ c = 45 ∨ c = 47 ∨ c = 43))
theorem small_set : ∀ n, n < 256 → smallSet ((n : Nat) : Int) = orI smallI userM ((n : Nat) : Int) := by decide +kernel
theorem small_step (k : Nat) (s : ByteArray) (i : Nat) (hi : i < s.size) (hn : s.size ≤ 140737488351232) : outlawlaw04_small.l0 (k + 1) s (i : Int) = if smallSet (bt s i) = true then outlawlaw04_small.l0 k s ((i + 1 : Nat) : Int) else some false := by
  simp only [outlawlaw04_small.l0]
  rw [if_pos (by omega), if_pos (by omega), wrap_succ hi hn]
  generalize outlawlaw04_small.l0 k s ((i + 1 : Nat) : Int) = X
  generalize bt s (i : Int) = c
  have hy : ∀ {p : Prop}, smallSet c = true → (if smallSet c = true then X else some false) = X := fun h => if_pos h
  unfold smallSet
  simp only [Bool.or_eq_true, decide_eq_true_eq]
  by_cases h1 : c ≥ 97 <;> by_cases h2 : c ≤ 122 <;> by_cases h3 : c ≥ 48 <;> by_cases h4 : c ≤ 57 <;> by_cases h5 : c = 46 <;> by_cases h6 : c = 95 <;> by_cases h7 : c = 61 <;> by_cases h8 : c = 45 <;> by_cases h9 : c = 47 <;> by_cases h10 : c = 43 <;> first | omega | simp [h1, h2, h3, h4, h5, h6, h7, h8, h9, h10]
theorem small_ev (s : ByteArray) (hn : s.size ≤ 140737488351232) : Ev (fun k => outlawlaw04_small.f k s) (allI (orI smallI userM) s s.size) := by
  have h : allI (orI smallI userM) s s.size = (allSeg smallSet s 0 s.size && (s.toList != [])) := by
    rw [allI_seg, allSeg_congr small_set, decide_eq_true (Int.le_refl _), Bool.and_true, bneNil_, ByteArray.toList_eq]
  rw [h]
  refine scan (g := fun k i => outlawlaw04_small.l0 k s i) (P := smallSet) (Nat.le_refl _) ?_ ?_ ?_ _ 0 rfl (Nat.zero_le _)
  · refine Ev.step (f := fun _ => some (s.toList != [])) (fun k => ?_) (Ev.now _)
    simp only [outlawlaw04_small.l0]
    rw [if_neg (by omega)]
  · intro i hi hp r hr
    exact Ev.step (fun k => by rw [small_step k s i hi hn, if_pos hp]) hr
  · intro i hi hp
    exact Ev.step (f := fun _ => some false) (fun k => by rw [small_step k s i hi hn, if_neg (by rw [hp]; simp)]) (Ev.now _)
/-- Has a text a colon? -/
def hasColon (s : ByteArray) : Bool := !allSeg (fun c => !(c == 58)) s 0 s.size
theorem hasColon_ev (s : ByteArray) (hn : s.size ≤ 140737488351232) : Ev (fun k => outlawlaw04_colon.f k s) (hasColon s) := by
  refine scanAny (g := fun k i => outlawlaw04_colon.l0 k s i) (P := fun c => c == 58) (Nat.le_refl _) ?_ ?_ ?_ _ 0 rfl (Nat.zero_le _)
  · refine Ev.step (f := fun _ => some false) (fun k => ?_) (Ev.now _)
    simp only [outlawlaw04_colon.l0]
    rw [if_neg (by omega)]
  · intro i hi hp
    refine Ev.step (f := fun _ => some true) (fun k => ?_) (Ev.now _)
    simp only [outlawlaw04_colon.l0]
    rw [if_pos (by omega), if_pos (by omega), if_pos (beq_iff_eq.1 hp)]
  · intro i hi hp r hr
    refine Ev.step (f := fun k => outlawlaw04_colon.l0 k s ((i + 1 : Nat) : Int)) (fun k => ?_) hr
    simp only [outlawlaw04_colon.l0]
    rw [if_pos (by omega), if_pos (by omega), if_neg (by simpa using hp), wrap_succ hi hn]
theorem no_colon {s : ByteArray} (h : hasColon s = false) (b : UInt8) (hb : b ∈ s.data.toList) : b ≠ 58 := by
  unfold hasColon at h
  rw [allSeg_zero, Bool.not_eq_false', List.all_eq_true] at h
  have := h b hb
  rintro rfl
  simp at this
theorem u_list (a c : ByteArray) : (⟨#[64]⟩ ++ a ++ ⟨#[58]⟩ ++ c : ByteArray).data.toList = 64 :: (a.data.toList ++ 58 :: c.data.toList) := by
  simp [ByteArray.data_append]
theorem u_index {a : ByteArray} (h : hasColon a = false) (c : ByteArray) : Lib.indexByte (⟨#[64]⟩ ++ a ++ ⟨#[58]⟩ ++ c : ByteArray).data.toList 58 = ((a.size + 1 : Nat) : Int) := by
  rw [u_list]
  apply indexByte_is
  · rw [List.getElem?_cons_succ, List.getElem?_append_right (by rw [size_list]; exact Nat.le_refl _), size_list, Nat.sub_self]
    rfl
  · intro j hj
    cases j with
    | zero => simp
    | succ j =>
      rw [List.getElem?_cons_succ, List.getElem?_append_left (by rw [size_list]; omega)]
      intro e
      exact no_colon h 58 (List.mem_of_getElem? e) rfl
theorem u_cut {a : ByteArray} (h : hasColon a = false) (c : ByteArray) : cutS (⟨#[64]⟩ ++ a ++ ⟨#[58]⟩ ++ c) 58 = (⟨#[64]⟩ ++ a, c, true) := by
  rw [cutS_hit (u_index h c)]
  have h1 : (⟨#[64]⟩ ++ a ++ ⟨#[58]⟩ ++ c : ByteArray).extract 0 (a.size + 1) = ⟨#[64]⟩ ++ a := by
    apply list_inj
    rw [Lib.extract_from_zero, u_list]
    simp [ByteArray.data_append, List.take_append, size_list]
  have h2 : (⟨#[64]⟩ ++ a ++ ⟨#[58]⟩ ++ c : ByteArray).extract (a.size + 1 + 1) (⟨#[64]⟩ ++ a ++ ⟨#[58]⟩ ++ c : ByteArray).size = c := by
    apply list_inj
    rw [Lib.extract_to_end, u_list, List.drop_succ_cons, List.drop_append, size_list, List.drop_eq_nil_of_le (by rw [size_list]; omega), show a.size + 1 - a.size = 1 from by omega]
    rfl
  rw [h1, h2]
theorem u_size (a c : ByteArray) : (⟨#[64]⟩ ++ a ++ ⟨#[58]⟩ ++ c : ByteArray).size = a.size + c.size + 2 := by
  simp only [ByteArray.size_append]
  show 1 + a.size + 1 + c.size = _
  omega
theorem u_user {a : ByteArray} (h : hasColon a = false) (c : ByteArray) :
    userI (⟨#[64]⟩ ++ a ++ ⟨#[58]⟩ ++ c) = (allI (orI smallI userM) a a.size && (serverI c && decide (((⟨#[64]⟩ ++ a ++ ⟨#[58]⟩ ++ c : ByteArray).size : Int) ≤ 255))) := by
  have hs : signed (⟨#[64]⟩ ++ a) ⟨#[64]⟩ = true := by
    unfold signed Lib.hasPrefix
    show List.isPrefixOf [64] (⟨#[64]⟩ ++ a : ByteArray).data.toList = true
    simp [ByteArray.data_append, List.isPrefixOf]
  have hr : restS (⟨#[64]⟩ ++ a) ⟨#[64]⟩ = a := by
    apply list_inj
    have hs' : Lib.hasPrefix (⟨#[64]⟩ ++ a : ByteArray).data.toList (⟨#[64]⟩ : ByteArray).data.toList = true := hs
    unfold restS Lib.trimPrefix
    rw [if_pos hs']
    simp [ByteArray.data_append]
  unfold userI namedI
  rw [u_cut h c]
  show (if true = false then false else if 255 < (⟨#[64]⟩ ++ a ++ ⟨#[58]⟩ ++ c : ByteArray).size then false else if serverI c = false then false else if signed (⟨#[64]⟩ ++ a) ⟨#[64]⟩ = false then false else allI (orI smallI userM) (restS (⟨#[64]⟩ ++ a) ⟨#[64]⟩) (⟨#[64]⟩ ++ a ++ ⟨#[58]⟩ ++ c : ByteArray).size) = _
  rw [hs, hr, if_neg (by simp), u_size]
  have ha : allI (orI smallI userM) a ((a.size + c.size + 2 : Nat) : Int) = allI (orI smallI userM) a a.size := by
    unfold allI
    rw [decide_eq_true (by omega), decide_eq_true (Int.le_refl _)]
  rw [ha]
  by_cases hz : 255 < a.size + c.size + 2
  · rw [if_pos hz, decide_eq_false (by omega), Bool.and_false, Bool.and_false]
  · rw [if_neg hz, decide_eq_true (by omega), Bool.and_true]
    cases serverI c <;> simp
theorem u_server {a : ByteArray} (h : hasColon a = false) (c : ByteArray) : serverOfI (⟨#[64]⟩ ++ a ++ ⟨#[58]⟩ ++ c) = if userI (⟨#[64]⟩ ++ a ++ ⟨#[58]⟩ ++ c) = true then (lowerS c, true) else (⟨#[]⟩, false) := by
  unfold serverOfI
  rw [u_cut h c]
theorem lives_calls (w : World) : Calls Try.prog 8 #[] w fun e w' => e = .returned (.bool true) ∧ Below w.heap.size w w' := outlawlaw04_lives.calls true w lives_f
set_option maxHeartbeats 1000000 in
set_option maxRecDepth 100000 in
theorem parts_long (a b c : ByteArray) (w : World) (h : 600 < a.size ∨ (a.size ≤ 600 ∧ 600 < b.size) ∨ (a.size ≤ 600 ∧ b.size ≤ 600 ∧ 600 < c.size)) :
    Calls Try.prog 5 #[.string a, .string b, .string c] w fun e w' => e = .returned (.bool true) ∧ Below w.heap.size w w' := by
  rcases h with h | ⟨h1, h⟩ | ⟨h1, h2, h⟩
  · have h' : (600 : Int) < (a.size : Int) := by omega
    clear h
    go_enter Try.func5, Try.ntmps5
    go_wp2_with fail
    refine (lives_calls _).mono ?_
    rintro e w1 ⟨rfl, hw1⟩
    go_wp2
    go_ret
    exact ⟨rfl, hw1⟩
  · have h1' : ¬ (600 : Int) < (a.size : Int) := by omega
    have h' : (600 : Int) < (b.size : Int) := by omega
    clear h h1
    go_enter Try.func5, Try.ntmps5
    go_wp2_with fail
    refine (lives_calls _).mono ?_
    rintro e w1 ⟨rfl, hw1⟩
    go_wp2
    go_ret
    exact ⟨rfl, hw1⟩
  · have h1' : ¬ (600 : Int) < (a.size : Int) := by omega
    have h2' : ¬ (600 : Int) < (b.size : Int) := by omega
    have h' : (600 : Int) < (c.size : Int) := by omega
    clear h h1 h2
    go_enter Try.func5, Try.ntmps5
    go_wp2_with fail
    refine (lives_calls _).mono ?_
    rintro e w1 ⟨rfl, hw1⟩
    go_wp2
    go_ret
    exact ⟨rfl, hw1⟩
set_option maxHeartbeats 1000000 in
set_option maxRecDepth 100000 in
theorem parts_colon (a b c : ByteArray) (w : World) (ha : a.size ≤ 600) (hb : b.size ≤ 600) (hc : c.size ≤ 600) (k : Nat) (h : outlawlaw04_colon.f k a = some true ∨ (outlawlaw04_colon.f k a = some false ∧ outlawlaw04_colon.f k b = some true)) :
    Calls Try.prog 5 #[.string a, .string b, .string c] w fun e w' => e = .returned (.bool true) ∧ Below w.heap.size w w' := by
  have ha' : ¬ (600 : Int) < (a.size : Int) := by omega
  have hb' : ¬ (600 : Int) < (b.size : Int) := by omega
  have hc' : ¬ (600 : Int) < (c.size : Int) := by omega
  rcases h with h | ⟨h, h'⟩
  · have H := Lib.hid h
    clear h
    go_enter Try.func5, Try.ntmps5
    go_wp2_with fail
    refine (lives_calls _).mono ?_
    rintro e w1 ⟨rfl, hw1⟩
    go_wp2_with fail
    refine (outlawlaw04_colon.calls k _ true _ H.out).mono ?_
    rintro e w2 ⟨rfl, hw2⟩
    go_wp2
    go_ret
    exact ⟨rfl, thenB hw1 hw2.below⟩
  · have H := Lib.hid h
    have H' := Lib.hid h'
    clear h h'
    go_enter Try.func5, Try.ntmps5
    go_wp2_with fail
    refine (lives_calls _).mono ?_
    rintro e w1 ⟨rfl, hw1⟩
    go_wp2_with fail
    refine (outlawlaw04_colon.calls k _ false _ H.out).mono ?_
    rintro e w2 ⟨rfl, hw2⟩
    go_wp2_with fail
    refine (outlawlaw04_colon.calls k _ true _ H'.out).mono ?_
    rintro e w3 ⟨rfl, hw3⟩
    go_wp2
    go_ret
    exact ⟨rfl, thenB (thenB hw1 hw2.below) hw3.below⟩
theorem parts_law (a b c : ByteArray) (w : World) (ha : a.size ≤ 140737488351232) (hb : b.size ≤ 140737488351232) (hc : c.size ≤ 140737488351232) :
    Calls Try.prog 5 #[.string a, .string b, .string c] w fun e w' => e = .returned (.bool true) ∧ Below w.heap.size w w' := by
  by_cases h1 : a.size ≤ 600
  · by_cases h2 : b.size ≤ 600
    · by_cases h3 : c.size ≤ 600
      · obtain ⟨K1, k1⟩ := hasColon_ev a ha
        obtain ⟨K2, k2⟩ := hasColon_ev b hb
        obtain ⟨K3, k3⟩ := small_ev a ha
        have q1 := k1 (max K1 (max K2 K3)) (by omega)
        have q2 := k2 (max K1 (max K2 K3)) (by omega)
        have q3 := k3 (max K1 (max K2 K3)) (by omega)
        cases e1 : hasColon a with
        | true =>
          rw [e1] at q1
          exact parts_colon a b c w h1 h2 h3 _ (.inl q1)
        | false =>
          rw [e1] at q1
          cases e2 : hasColon b with
          | true =>
            rw [e2] at q2
            exact parts_colon a b c w h1 h2 h3 _ (.inr ⟨q1, q2⟩)
          | false =>
            rw [e2] at q2
            have hs := u_server e2 c
            have hu := u_user e1 c
            have hv := u_server e1 c
            generalize hq : serverOfI (⟨#[64]⟩ ++ b ++ ⟨#[58]⟩ ++ c) = q at hs
            obtain ⟨t, al⟩ := q
            generalize hi : userI (⟨#[64]⟩ ++ a ++ ⟨#[58]⟩ ++ c) = is at hu hv
            generalize ho : serverI c = v at hu
            generalize hm : allI (orI smallI userM) a a.size = s at hu q3
            refine parts_walk a b c w h1 h2 h3 (max K1 (max K2 K3)) q1 q2 s v is al t q3 ho hu hi hv hq ?_
            intro hal
            subst hal
            generalize userI (⟨#[64]⟩ ++ b ++ ⟨#[58]⟩ ++ c) = z at hs
            cases z with
            | true => rw [if_pos rfl] at hs; exact (Prod.mk.inj hs).1
            | false => rw [if_neg (by simp)] at hs; exact absurd (Prod.mk.inj hs).2 (by simp)
      · exact parts_long a b c w (.inr (.inr ⟨h1, h2, by omega⟩))
    · exact parts_long a b c w (.inr (.inl ⟨h1, by omega⟩))
  · exact parts_long a b c w (.inl (by omega))
end Go.Proofs.YtppgoppkciakgaaQ
