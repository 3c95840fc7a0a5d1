/- The document's log: Of, Scan. -/
import Derived.Test.YtbbnjnpbaekfgaaRe
import Derived.Laws.BitsLemmas
set_option linter.unusedVariables false
set_option linter.unusedSimpArgs false
namespace Go.Proofs.YtbbnjnpbaekfgaaM
open Go.RowKit Go.Proofs.YtbbnjnpbaekfgaaW.PrintWords Go.Proofs.YtbbnjnpbaekfgaaW.PrintLast Go.Proofs.YtbbnjnpbaekfgaaW.PrintMore
attribute [local go_sem ↓] exec_conv
set_option maxRecDepth 100000 in
set_option maxHeartbeats 1600000 in
theorem rof_no (a : Nat) (s : List UInt8) (hs : s.length = 512) (w : World)
    (h : 493 < sizeOfS s ∨ 1 < (flagOf s).toNat ∨ ((flagOf s).toNat = 0 ∧ sizeOfS s < 493)) :
    Calls Try.prog 56 #[.int .i64 (a : Int), .string (bs s)] w fun e w' => e = .returned (.tuple #[.string ⟨#[]⟩, .bool false, .bool false]) ∧ Below w.heap.size w w' := by
  have hsz : (bs s).size = 512 := by rw [bs_size, hs]
  have hat : ∀ i (h : i < 512) (h2 : i < (bs s).size), ((bs s)[i]'h2).toNat = (s.getD i 0).toNat := fun i h h2 => by
    rw [List.getD_eq_getElem?_getD, List.getElem?_eq_getElem (by omega)]
    rfl
  obtain ⟨x8, h8⟩ : ∃ x, x = (s.getD 8 0).toNat := ⟨_, rfl⟩
  obtain ⟨x9, h9⟩ : ∃ x, x = (s.getD 9 0).toNat := ⟨_, rfl⟩
  obtain ⟨x10, h10⟩ : ∃ x, x = (s.getD 10 0).toNat := ⟨_, rfl⟩
  have e8 : ∀ h : 8 < (bs s).size, ((bs s)[8]'h).toNat = x8 := fun h => by rw [h8]; exact hat 8 (by omega) h
  have e9 : ∀ h : 9 < (bs s).size, ((bs s)[9]'h).toNat = x9 := fun h => by rw [h9]; exact hat 9 (by omega) h
  have e10 : ∀ h : 10 < (bs s).size, ((bs s)[10]'h).toNat = x10 := fun h => by rw [h10]; exact hat 10 (by omega) h
  have b8 : (x8 : Int) < 256 := by rw [h8]; have := (s.getD 8 0).toNat_lt; omega
  have b9 : (x9 : Int) < 256 := by rw [h9]; have := (s.getD 9 0).toNat_lt; omega
  have b10 : (x10 : Int) < 256 := by rw [h10]; have := (s.getD 10 0).toNat_lt; omega
  obtain ⟨n, hn⟩ : ∃ n, n = x9 * 256 + x10 := ⟨_, rfl⟩
  have hor : bits .or .i64 ((x9 : Int) * 256) (x10 : Int) = (n : Int) := by
    rw [hn, bits_join .i64 16 (by decide) (fun n h0 h1 => IntWalk.i64_in _ (by omega)) 8] <;> omega
  have hz : sizeOfS s = n := by unfold sizeOfS; rw [hn, h9, h10]
  have hf : (flagOf s).toNat = x8 := by unfold flagOf; rw [h8]
  rw [hz, hf] at h
  clear h8 h9 h10 hn hz hf hat
  have h' : (decide (493 < (n : Int)) = true) ∨ (decide (493 < (n : Int)) = false ∧ decide (1 < (x8 : Int)) = true) ∨ (decide (493 < (n : Int)) = false ∧ decide (1 < (x8 : Int)) = false ∧ ((x8 : Int) == 0) = true ∧ ((n : Int) != 493) = true) := by
    simp only [decide_eq_true_eq, decide_eq_false_iff_not, beq_iff_eq, bne_iff_ne]
    omega
  clear h
  rcases h' with k1 | ⟨k1, k2⟩ | ⟨k1, k2, k3, k4⟩
  all_goals
    go_enter Try.func56, Try.ntmps56
    go_wp2_with fail
    go_quiet (fail)
    go_wp2_with fail
  all_goals
    refine bodyPost_ret (v := .tuple #[.string ⟨#[]⟩, .bool false, .bool false]) (by simp [results, Try.results56, go_sem]) rfl ?_
    exact ⟨rfl, below_drewN (Below.refl _ w) _⟩
set_option maxRecDepth 100000 in
set_option maxHeartbeats 1600000 in
theorem rof_yes (a : Nat) (ha : a < 1000000) (s : List UInt8) (hs : s.length = 512) (w : World)
    (h : ¬ (493 < sizeOfS s ∨ 1 < (flagOf s).toNat ∨ ((flagOf s).toNat = 0 ∧ sizeOfS s < 493))) (part : List UInt8) (hp : part = (s.drop 11).take (sizeOfS s)) (l : Bool) (hl : l = (flagOf s == 1)) (v : Bool) (hv : v = decide (secF a l part = s)) :
    Calls Try.prog 56 #[.int .i64 (a : Int), .string (bs s)] w fun e w' => e = .returned (.tuple #[.string (bs part), .bool l, .bool v]) ∧ Below w.heap.size w w' := by
  have hsz : (bs s).size = 512 := by rw [bs_size, hs]
  have hat : ∀ i (h : i < 512) (h2 : i < (bs s).size), ((bs s)[i]'h2).toNat = (s.getD i 0).toNat := fun i h h2 => by
    rw [List.getD_eq_getElem?_getD, List.getElem?_eq_getElem (by omega)]
    rfl
  obtain ⟨x8, h8⟩ : ∃ x, x = (s.getD 8 0).toNat := ⟨_, rfl⟩
  obtain ⟨x9, h9⟩ : ∃ x, x = (s.getD 9 0).toNat := ⟨_, rfl⟩
  obtain ⟨x10, h10⟩ : ∃ x, x = (s.getD 10 0).toNat := ⟨_, rfl⟩
  have e8 : ∀ h : 8 < (bs s).size, ((bs s)[8]'h).toNat = x8 := fun h => by rw [h8]; exact hat 8 (by omega) h
  have e9 : ∀ h : 9 < (bs s).size, ((bs s)[9]'h).toNat = x9 := fun h => by rw [h9]; exact hat 9 (by omega) h
  have e10 : ∀ h : 10 < (bs s).size, ((bs s)[10]'h).toNat = x10 := fun h => by rw [h10]; exact hat 10 (by omega) h
  have b8 : (x8 : Int) < 256 := by rw [h8]; have := (s.getD 8 0).toNat_lt; omega
  have b9 : (x9 : Int) < 256 := by rw [h9]; have := (s.getD 9 0).toNat_lt; omega
  have b10 : (x10 : Int) < 256 := by rw [h10]; have := (s.getD 10 0).toNat_lt; omega
  obtain ⟨n, hn⟩ : ∃ n, n = x9 * 256 + x10 := ⟨_, rfl⟩
  have hor : bits .or .i64 ((x9 : Int) * 256) (x10 : Int) = (n : Int) := by
    rw [hn, bits_join .i64 16 (by decide) (fun n h0 h1 => IntWalk.i64_in _ (by omega)) 8] <;> omega
  have hz : sizeOfS s = n := by unfold sizeOfS; rw [hn, h9, h10]
  have hf : (flagOf s).toNat = x8 := by unfold flagOf; rw [h8]
  have hl1 : ((x8 : Int) == 1) = l := by
    rw [hl, Bool.eq_iff_iff, beq_iff_eq, beq_iff_eq]
    constructor
    · intro e
      apply UInt8.toNat_inj.1
      rw [hf]
      show x8 = 1
      omega
    · intro e
      rw [e] at hf
      have : (1 : UInt8).toNat = 1 := rfl
      omega
  rw [hz, hf] at h
  rw [hz] at hp
  have hpl : part.length = n := by rw [hp, List.length_take, List.length_drop]; omega
  have k1 : decide (493 < (n : Int)) = false := by rw [decide_eq_false_iff_not]; omega
  have k2 : decide (1 < (x8 : Int)) = false := by rw [decide_eq_false_iff_not]; omega
  have k3 : ((x8 : Int) == 0 && (n : Int) != 493) = false := by
    rw [Bool.and_eq_false_iff, beq_eq_false_iff_ne, bne_eq_false_iff_eq]
    omega
  have hn9 : (n : Int) ≤ 493 := by omega
  have hn0 : (0 : Int) ≤ (n : Int) := by omega
  have hcut : (bs s).extract 11 (11 + n) = bs part := by rw [bs_extract, Nat.add_sub_cancel_left, hp]
  have heq : ((bs s).toList == (bs (secF a l part)).toList) = v := by
    rw [hv, Bool.eq_iff_iff, beq_iff_eq, decide_eq_true_eq]
    exact ⟨fun e => (bs_toList_inj e).symm, fun e => by rw [e]⟩
  have HSC := Lib.hid (sector_ok (a : Int) a (by omega) (IntWalk.u64_in _ (by omega)) l part (by omega))
  obtain ⟨Z, hZ⟩ : ∃ Z, Z = secF a l part := ⟨_, rfl⟩
  rw [← hZ] at HSC heq
  clear h8 h9 h10 hn hz hf hat h hp hl hv hZ hpl
  go_enter Try.func56, Try.ntmps56
  go_wp2_with fail
  go_quiet (fail)
  have h34 : ((x8 : Int) == 0) = false ∨ (((x8 : Int) == 0) = true ∧ ((n : Int) != 493) = false) := by
    revert k3
    cases ((x8 : Int) == 0) <;> simp
  rcases h34 with q | ⟨q, q2⟩
  all_goals
    go_wp2_with fail
    refine start_ (n := 15) (S := (fun _ => True)) (ds := []) #[false, false, false, false, false, false, false, false, false, false, false, false, false, false, false] (by as_aux_lemma => kernel_rfl) rfl rfl (trivial) (fun hHeld => ?_)
    refine pure_ (i := 0) (N := some 40) (v := ?_) (a' := ?_) #[true, false, false, false, false, false, false, false, false, false, false, false, false, false, false] rfl rfl (by as_aux_lemma => kernel_rfl) (fun _ _ _ h => h) (Or.inl ⟨by rfl, ?_⟩) ?_ ?_
    rotate_left
    ·intro w'
     go_simp
     with_reducible rfl
    rotate_left
    ·simp only [Act.put, List.setIfInBounds_toArray, List.set_cons_zero, List.set_cons_succ, i64_w, i32_w]
     rfl
    refine pure_ (i := 1) (N := some 41) (v := ?_) (a' := ?_) #[true, true, false, false, false, false, false, false, false, false, false, false, false, false, false] rfl rfl (by as_aux_lemma => kernel_rfl) (fun _ _ _ h => h) (Or.inl ⟨by rfl, ?_⟩) ?_ ?_
    rotate_left
    ·intro w'
     go_simp
     with_reducible rfl
    rotate_left
    ·simp only [Act.put, List.setIfInBounds_toArray, List.set_cons_zero, List.set_cons_succ, i64_w, i32_w]
     rfl
    refine pure_ (i := 2) (N := some 42) (v := ?_) (a' := ?_) #[true, true, true, false, false, false, false, false, false, false, false, false, false, false, false] rfl rfl (by as_aux_lemma => kernel_rfl) (fun _ _ _ h => h) (Or.inl ⟨by rfl, ?_⟩) ?_ ?_
    rotate_left
    ·intro w'
     go_simp
     with_reducible rfl
    rotate_left
    ·simp only [Act.put, List.setIfInBounds_toArray, List.set_cons_zero, List.set_cons_succ, i64_w, i32_w]
     rfl
    refine pure_ (i := 3) (N := some 43) (v := ?_) (a' := ?_) #[true, true, true, true, false, false, false, false, false, false, false, false, false, false, false] rfl rfl (by as_aux_lemma => kernel_rfl) (fun _ _ _ h => h) (Or.inl ⟨by rfl, ?_⟩) ?_ ?_
    rotate_left
    ·intro w'
     go_simp
     with_reducible rfl
    rotate_left
    ·simp only [Act.put, List.setIfInBounds_toArray, List.set_cons_zero, List.set_cons_succ, i64_w, i32_w]
     rfl
    refine pure_ (i := 4) (N := some 44) (v := ?_) (a' := ?_) #[true, true, true, true, true, false, false, false, false, false, false, false, false, false, false] rfl rfl (by as_aux_lemma => kernel_rfl) (fun _ _ _ h => h) (Or.inl ⟨by rfl, ?_⟩) ?_ ?_
    rotate_left
    ·intro w'
     go_simp
     with_reducible rfl
    rotate_left
    ·simp only [Act.put, List.setIfInBounds_toArray, List.set_cons_zero, List.set_cons_succ, i64_w, i32_w]
     rfl
    refine pure_ (i := 5) (N := some 45) (v := ?_) (a' := ?_) #[true, true, true, true, true, true, false, false, false, false, false, false, false, false, false] rfl rfl (by as_aux_lemma => kernel_rfl) (fun _ _ _ h => h) (Or.inl ⟨by rfl, ?_⟩) ?_ ?_
    rotate_left
    ·intro w'
     go_simp
     with_reducible rfl
    rotate_left
    ·simp only [Act.put, List.setIfInBounds_toArray, List.set_cons_zero, List.set_cons_succ, i64_w, i32_w]
     rfl
    refine pure_ (i := 6) (N := some 46) (v := ?_) (a' := ?_) #[true, true, true, true, true, true, true, false, false, false, false, false, false, false, false] rfl rfl (by as_aux_lemma => kernel_rfl) (fun _ _ _ h => h) (Or.inl ⟨by rfl, ?_⟩) ?_ ?_
    rotate_left
    ·intro w'
     go_simp
     with_reducible rfl
    rotate_left
    ·simp only [Act.put, List.setIfInBounds_toArray, List.set_cons_zero, List.set_cons_succ, i64_w, i32_w]
     rfl
    refine pure_ (i := 7) (N := some 47) (v := ?_) (a' := ?_) #[true, true, true, true, true, true, true, true, false, false, false, false, false, false, false] rfl rfl (by as_aux_lemma => kernel_rfl) (fun _ _ _ h => h) (Or.inl ⟨by rfl, ?_⟩) ?_ ?_
    rotate_left
    ·intro w'
     go_simp
     with_reducible rfl
    rotate_left
    ·simp only [Act.put, List.setIfInBounds_toArray, List.set_cons_zero, List.set_cons_succ, i64_w, i32_w]
     rfl
    refine pure_ (i := 8) (N := some 48) (v := ?_) (a' := ?_) #[true, true, true, true, true, true, true, true, true, false, false, false, false, false, false] rfl rfl (by as_aux_lemma => kernel_rfl) (fun _ _ _ h => h) (Or.inl ⟨by rfl, ?_⟩) ?_ ?_
    rotate_left
    ·intro w'
     go_simp
     with_reducible rfl
    rotate_left
    ·simp only [Act.put, List.setIfInBounds_toArray, List.set_cons_zero, List.set_cons_succ, i64_w, i32_w]
     rfl
    refine pure_ (i := 9) (N := some 49) (v := ?_) (a' := ?_) #[true, true, true, true, true, true, true, true, true, true, false, false, false, false, false] rfl rfl (by as_aux_lemma => kernel_rfl) (fun _ _ _ h => h) (Or.inl ⟨by rfl, ?_⟩) ?_ ?_
    rotate_left
    ·intro w'
     go_simp
     with_reducible rfl
    rotate_left
    ·simp only [Act.put, List.setIfInBounds_toArray, List.set_cons_zero, List.set_cons_succ, i64_w, i32_w]
     rfl
    refine one_ (i := 10) (N := some 50) #[true, true, true, true, true, true, true, true, true, true, true, false, false, false, false] rfl rfl (by as_aux_lemma => kernel_rfl) (by decide) (fun K hK => ?_)
    refine goes_ Try.func57 (by as_aux_lemma => kernel_rfl) rfl #[.int .i64 (a : Int), .bool l, .string (bs part)] (by rfl) rfl rfl (by (try simp only [List.map_toArray, List.map_cons, List.map_nil]); first | done | rfl) ?_
    refine (HSC.out _).mono ?_
    rintro e wb ⟨rfl, hbb⟩
    have HB := Lib.hid ((below_drewN (Below.refl w.heap.size w) nq).drew.trans (hbb.mono (below_drewN (Below.refl w.heap.size w) nq).drew.size))
    clear hbb
    refine ⟨_, rfl, ?_⟩
    refine hK.out _ _ (trivial) (fun hHeld2 => ?_)
    clear hK K hHeld
    have hHeld := hHeld2
    clear hHeld2
    refine norm_ (a' := ?_) ?_ ?_
    rotate_left
    ·show Act.put _ (some 50) _ = _
     simp only [Act.put, List.setIfInBounds_toArray, List.set_cons_zero, List.set_cons_succ, i64_w, i32_w]
     rfl
    refine pure_ (i := 11) (N := some 51) (v := ?_) (a' := ?_) #[true, true, true, true, true, true, true, true, true, true, true, true, false, false, false] rfl rfl (by as_aux_lemma => kernel_rfl) (fun _ _ _ h => h) (Or.inl ⟨by rfl, ?_⟩) ?_ ?_
    rotate_left
    ·intro w'
     go_simp
     with_reducible rfl
    rotate_left
    ·simp only [Act.put, List.setIfInBounds_toArray, List.set_cons_zero, List.set_cons_succ, i64_w, i32_w]
     rfl
    refine pure_ (i := 12) (N := some 4) (v := ?_) (a' := ?_) #[true, true, true, true, true, true, true, true, true, true, true, true, true, false, false] rfl rfl (by as_aux_lemma => kernel_rfl) (fun _ _ _ h => h) (Or.inl ⟨by rfl, ?_⟩) ?_ ?_
    rotate_left
    ·intro w'
     go_simp
     with_reducible rfl
    rotate_left
    ·simp only [Act.put, List.setIfInBounds_toArray, List.set_cons_zero, List.set_cons_succ, i64_w, i32_w]
     rfl
    refine pure_ (i := 13) (N := some 5) (v := ?_) (a' := ?_) #[true, true, true, true, true, true, true, true, true, true, true, true, true, true, false] rfl rfl (by as_aux_lemma => kernel_rfl) (fun _ _ _ h => h) (Or.inl ⟨by rfl, ?_⟩) ?_ ?_
    rotate_left
    ·intro w'
     go_simp
     with_reducible rfl
    rotate_left
    ·simp only [Act.put, List.setIfInBounds_toArray, List.set_cons_zero, List.set_cons_succ, i64_w, i32_w]
     rfl
    refine pure_ (i := 14) (N := some 6) (v := ?_) (a' := ?_) #[true, true, true, true, true, true, true, true, true, true, true, true, true, true, true] rfl rfl (by as_aux_lemma => kernel_rfl) (fun _ _ _ h => h) (Or.inl ⟨by rfl, ?_⟩) ?_ ?_
    rotate_left
    ·intro w'
     go_simp
     with_reducible rfl
    rotate_left
    ·simp only [Act.put, List.setIfInBounds_toArray, List.set_cons_zero, List.set_cons_succ, i64_w, i32_w]
     rfl
    refine done_ (by as_aux_lemma => kernel_rfl) ?_
    go_wp2_with fail
    refine bodyPost_ret (v := .tuple #[.string (bs part), .bool l, .bool v]) (by simp [results, Try.results56, go_sem]) rfl ?_
    exact ⟨rfl, HB.out⟩
/-- What Of says of a sector. -/
def OfSays (a : Nat) (s : List UInt8) (w : World) (e : Ending) (w' : World) : Prop := ∃ p l b, e = .returned (.tuple #[.string (bs p), .bool l, .bool b]) ∧ (b = true → readS a s = some (p, l)) ∧ (b = false → readS a s = none) ∧ Below w.heap.size w w'
theorem rof_ok (a : Nat) (ha : a < 1000000) (s : List UInt8) (hs : s.length = 512) (w : World) : Calls Try.prog 56 #[.int .i64 (a : Int), .string (bs s)] w (OfSays a s w) := by
  by_cases h : 493 < sizeOfS s ∨ 1 < (flagOf s).toNat ∨ ((flagOf s).toNat = 0 ∧ sizeOfS s < 493)
  · refine (rof_no a s hs w h).mono ?_
    rintro e w' ⟨rfl, hb⟩
    refine ⟨[], false, false, rfl, fun h1 => absurd h1 (by decide), fun _ => ?_, hb⟩
    unfold readS
    rw [if_pos h]
  · refine (rof_yes a ha s hs w h _ rfl _ rfl _ rfl).mono ?_
    rintro e w' ⟨rfl, hb⟩
    refine ⟨_, _, _, rfl, fun h1 => ?_, fun h1 => ?_, hb⟩
    · unfold readS
      rw [if_neg h, if_pos (of_decide_eq_true h1)]
    · unfold readS
      rw [if_neg h, if_neg (of_decide_eq_false h1)]
end Go.Proofs.YtbbnjnpbaekfgaaM
