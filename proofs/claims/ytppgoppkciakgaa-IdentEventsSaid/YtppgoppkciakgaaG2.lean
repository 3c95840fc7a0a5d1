/- The contracts of ident's functions: which strings are servers, users, rooms and events, for every string that fits in memory. -/
import Derived.Test.YtppgoppkciakgaaG1
import Derived.Lib.CutLaws
import Derived.Lib.IndexLaws
import Derived.Lib.Strings
import Derived.RegionTactic
import Derived.Deep.Draws
import Derived.Laws.Strings3
namespace Go.Proofs.YtppgoppkciakgaaG
open Go.RowKit Go.Proofs.YtppgoppkciakgaaW.PrintWords
/-- What strings.Cut tells at a separator of one byte. -/
def cutS (s : ByteArray) (c : UInt8) : ByteArray × ByteArray × Bool :=
  if 0 ≤ Lib.indexByte s.data.toList c then (s.extract 0 (Lib.indexByte s.data.toList c).toNat, s.extract ((Lib.indexByte s.data.toList c).toNat + 1) s.size, true) else (s, ⟨#[]⟩, false)
theorem index_cases (s : ByteArray) (c : UInt8) : Lib.indexByte s.data.toList c = -1 ∨ ∃ i : Nat, Lib.indexByte s.data.toList c = i ∧ i < s.size := by
  have h := Lib.indexByte_ge s.data.toList c
  by_cases h0 : 0 ≤ Lib.indexByte s.data.toList c
  · obtain ⟨i, hi⟩ := Int.eq_ofNat_of_zero_le h0
    refine .inr ⟨i, hi, ?_⟩
    have := (Lib.indexByte_some (l := s.data.toList) (c := c) (o := i) hi).1
    have := (List.getElem?_eq_some_iff.1 this).1
    simpa using this
  · exact .inl (by omega)
theorem cutS_miss {s : ByteArray} {c : UInt8} (h : Lib.indexByte s.data.toList c = -1) : cutS s c = (s, ⟨#[]⟩, false) := by unfold cutS; rw [h]; rfl
theorem cutS_hit {s : ByteArray} {c : UInt8} {i : Nat} (h : Lib.indexByte s.data.toList c = i) : cutS s c = (s.extract 0 i, s.extract (i + 1) s.size, true) := by unfold cutS; rw [h, if_pos (by omega)]; rfl
set_option maxHeartbeats 2000000 in
set_option maxRecDepth 100000 in
theorem stringslite_Cut (s : ByteArray) (c : UInt8) (w : World) (hs : s.size ≤ 140737488351232) :
    Calls Try.prog 41 #[.string s, .string ⟨#[c]⟩] w fun e w' => e = .returned (.tuple #[.string (cutS s c).1, .string (cutS s c).2.1, .bool (cutS s c).2.2]) ∧ ∃ n, w' = w.drewN n := by
  rcases index_cases s c with hix | ⟨i, hix, hi⟩
  · rw [cutS_miss hix]
    have HX := Lib.hid hix
    clear hix
    go_enter Try.func41, Try.ntmps41
    go_wp2_with (go_at_call 45; refine (Try.stringslite_Index_one _ _ _).mono ?_; rintro e w' ⟨rfl, rfl⟩; rw [HX.out])
    go_ret3
    exact ⟨rfl, 0, rfl⟩
  · rw [cutS_hit hix]
    have HX := Lib.hid hix
    clear hix
    have c1 : (0 : Int) ≤ ↑i := by omega
    have c2 : (↑i : Int) ≤ ↑s.size := by omega
    have c3 : (0 : Int) ≤ ↑i + 1 := by omega
    have c4 : (↑i + 1 : Int) ≤ ↑s.size := by omega
    go_enter Try.func41, Try.ntmps41
    go_wp2_with (go_at_call 45; refine (Try.stringslite_Index_one _ _ _).mono ?_; rintro e w' ⟨rfl, rfl⟩; rw [HX.out])
    go_region
    go_wp2
    go_ret3
    exact ⟨rfl, 1, rfl⟩
set_option maxHeartbeats 1000000 in
theorem strings_Cut (s : ByteArray) (c : UInt8) (w : World) (hs : s.size ≤ 140737488351232) :
    Calls Try.prog 26 #[.string s, .string ⟨#[c]⟩] w fun e w' => e = .returned (.tuple #[.string (cutS s c).1, .string (cutS s c).2.1, .bool (cutS s c).2.2]) ∧ ∃ n, w' = w.drewN n := by
  go_enter Try.func26, Try.ntmps26
  go_wp2_with (go_at_call 41; refine (stringslite_Cut _ _ _ hs).mono ?_; rintro e w' ⟨rfl, n, rfl⟩)
  go_ret3
  exact ⟨rfl, n, rfl⟩
theorem tellsAt_or {G : Nat} {p : Int → Bool} (hg : Tells G p) (more : ByteArray) (B C : Nat) (w : World)
    (hf : w.cell? ⟨B, 0, none⟩ = some (.func (.func G) #[] #[])) (hm : w.cell? ⟨C, 0, none⟩ = some (.string more)) : TellsAt 42 #[.pointer (some ⟨B, 0, none⟩), .pointer (some ⟨C, 0, none⟩)] (orI p more) w :=
  ⟨enters_of Try.func42 (by kernel_rfl) rfl, fun c => or1_any G p hg more B C c w hf hm⟩
theorem Tells.at {G : Nat} {p : Int → Bool} (hg : Tells G p) (w : World) : TellsAt G #[] p w := ⟨hg.enters, fun c => hg.calls c w⟩
def hostM : ByteArray := ⟨#[46, 45]⟩
def serverI (s : ByteArray) : Bool :=
  if 128 < s.size then false else
  if (cutS s 58).2.2 = true then allI (orI greatI hostM) (cutS s 58).1 s.size && allI digitI (cutS s 58).2.1 5 else allI (orI greatI hostM) s s.size
theorem cutS_le (s : ByteArray) (c : UInt8) : (cutS s c).1.size ≤ s.size ∧ (cutS s c).2.1.size ≤ s.size := by
  unfold cutS
  split
  · constructor
    · simp only [ByteArray.size_extract]; omega
    · simp only [ByteArray.size_extract]; omega
  · exact ⟨Nat.le_refl _, Nat.zero_le _⟩
theorem two_cells (w : World) (a b : Value) (s t : TypeId) : ((w.alloc (.cells #[a] s)).alloc (.cells #[b] t)).cell? ⟨w.heap.size, 0, none⟩ = some a ∧ ((w.alloc (.cells #[a] s)).alloc (.cells #[b] t)).cell? ⟨w.heap.size + 1, 0, none⟩ = some b := by
  constructor <;> simp
theorem below_two (w : World) (n : Nat) (o p : Obj) : Below w.heap.size w (((w.drewN n).alloc o).alloc p) :=
  ((Drawn0.below ⟨n, rfl⟩).alloc (Nat.le_refl _) o).alloc (by simp) p
set_option maxHeartbeats 1000000 in
theorem server_any (s : ByteArray) (w : World) (hs : s.size ≤ 140737488351232) :
    Calls Try.prog 10 #[.string s] w fun e w' => e = .returned (.bool (serverI s)) ∧ Below w.heap.size w w' := by
  by_cases h1 : 128 < s.size
  · have HE := Lib.hid (show serverI s = false from if_pos h1)
    have h1' : (128 : Int) < (s.size : Int) := by omega
    go_enter Try.func10, Try.ntmps10
    go_wp2
    go_ret
    rw [HE.out]
    exact ⟨rfl, Below.refl _ _⟩
  · have h1' : ¬ (128 : Int) < (s.size : Int) := by omega
    have hl := cutS_le s 58
    generalize hc : cutS s 58 = c at hl
    obtain ⟨host, port, is⟩ := c
    have HC := Lib.hid hc
    clear hc
    have hl1 : host.size ≤ 140737488351232 := Nat.le_trans hl.1 hs
    have hl2 : port.size ≤ 140737488351232 := Nat.le_trans hl.2 hs
    clear hl
    cases is with
    | true =>
      cases ha : allI (orI greatI hostM) host s.size with
      | true =>
        have HA := Lib.hid ha
        have HE := Lib.hid (show serverI s = allI digitI port 5 from by unfold serverI; rw [if_neg h1, HC.out]; show (allI (orI greatI hostM) host s.size && allI digitI port 5) = _; rw [ha]; rfl)
        clear ha
        go_enter Try.func10, Try.ntmps10
        go_wp2_with (go_at_call 26; refine (strings_Cut s 58 _ hs).mono ?_; rintro e w' ⟨rfl, n, rfl⟩; rw [HC.out])
        refine (or_any _ _ _).mono ?_
        rintro e w' ⟨rfl, rfl⟩
        go_wp2_with fail
        refine (all_any _ _ (orI greatI hostM) _ _ _ hl1 (tellsAt_or tells_great _ _ _ _ (two_cells (w.drewN _) _ _ _ _).1 (two_cells (w.drewN _) _ _ _ _).2)).mono ?_
        rintro e w' ⟨rfl, rfl⟩
        rw [HA.out]
        go_wp2_with fail
        refine (all_any _ _ digitI _ _ _ hl2 (tells_digit.at _)).mono ?_
        rintro e w' ⟨rfl, rfl⟩
        rw [← HE.out]
        go_wp2
        go_ret
        exact ⟨rfl, below_two _ _ _ _⟩
      | false =>
        have HA := Lib.hid ha
        have HE := Lib.hid (show serverI s = false from by unfold serverI; rw [if_neg h1, HC.out]; show (allI (orI greatI hostM) host s.size && allI digitI port 5) = _; rw [ha]; rfl)
        clear ha
        go_enter Try.func10, Try.ntmps10
        go_wp2_with (go_at_call 26; refine (strings_Cut s 58 _ hs).mono ?_; rintro e w' ⟨rfl, n, rfl⟩; rw [HC.out])
        refine (or_any _ _ _).mono ?_
        rintro e w' ⟨rfl, rfl⟩
        go_wp2_with fail
        refine (all_any _ _ (orI greatI hostM) _ _ _ hl1 (tellsAt_or tells_great _ _ _ _ (two_cells (w.drewN _) _ _ _ _).1 (two_cells (w.drewN _) _ _ _ _).2)).mono ?_
        rintro e w' ⟨rfl, rfl⟩
        rw [HA.out]
        go_wp2_with fail
        go_ret
        rw [HE.out]
        exact ⟨rfl, below_two _ _ _ _⟩
    | false =>
      have HE := Lib.hid (show serverI s = allI (orI greatI hostM) s s.size from by unfold serverI; rw [if_neg h1, HC.out]; rfl)
      go_enter Try.func10, Try.ntmps10
      go_wp2_with (go_at_call 26; refine (strings_Cut s 58 _ hs).mono ?_; rintro e w' ⟨rfl, n, rfl⟩; rw [HC.out])
      refine (or_any _ _ _).mono ?_
      rintro e w' ⟨rfl, rfl⟩
      go_wp2_with fail
      refine (all_any _ _ (orI greatI hostM) _ _ _ hs (tellsAt_or tells_great _ _ _ _ (two_cells (w.drewN _) _ _ _ _).1 (two_cells (w.drewN _) _ _ _ _).2)).mono ?_
      rintro e w' ⟨rfl, rfl⟩
      rw [← HE.out]
      go_wp2
      go_ret
      exact ⟨rfl, below_two _ _ _ _⟩
end Go.Proofs.YtppgoppkciakgaaG
