/- Plain lemmas: a string is of at most one kind; Lower keeps a string's kind. -/
import Derived.Test.YtppgoppkciakgaaG4
import Derived.Test.YtppgoppkciakgaaX1
set_option linter.unusedVariables false
set_option linter.unusedSimpArgs false
namespace Go.Proofs.YtppgoppkciakgaaL
open Go.RowKit Go.Proofs.YtppgoppkciakgaaW.PrintWords Go.Proofs.YtppgoppkciakgaaG Go.Proofs.YtppgoppkciakgaaX
/-- Bytes one by one, by the kernel. -/
theorem bytes {P : UInt8 → Prop} (h : ∀ n, n < 256 → P (UInt8.ofNat n)) (b : UInt8) : P b := by
  have := h b.toNat b.toNat_lt
  rwa [UInt8.ofNat_toNat] at this
theorem lower_list (s : ByteArray) : (lowerS s).data.toList = s.data.toList.map lowB := by unfold lowerS; simp
theorem list_inj {s t : ByteArray} (h : s.data.toList = t.data.toList) : s = t := by
  obtain ⟨s⟩ := s
  obtain ⟨t⟩ := t
  congr 1
  exact Array.toList_inj.1 h
theorem lower_size (s : ByteArray) : (lowerS s).size = s.size := by rw [← size_list, ← size_list, lower_list, List.length_map]
theorem lower_twice (s : ByteArray) : lowerS (lowerS s) = lowerS s := by
  apply list_inj
  rw [lower_list, lower_list, List.map_map]
  apply List.map_congr_left
  intro b _
  exact bytes (P := fun b => lowB (lowB b) = lowB b) (by decide +kernel) b
theorem lower_extract (s : ByteArray) (a b : Nat) : (lowerS s).extract a b = lowerS (s.extract a b) := by
  apply list_inj
  rw [Lib.extract_data, lower_list, lower_list, Lib.extract_data, List.map_take, List.map_drop]
theorem index_lower (l : List UInt8) : Lib.indexByte (l.map lowB) 58 = Lib.indexByte l 58 := by
  induction l with
  | nil => rfl
  | cons b l ih =>
    rw [List.map_cons]
    unfold Lib.indexByte
    rw [ih, show (lowB b == 58) = (b == 58) from bytes (P := fun b => (lowB b == 58) = (b == 58)) (by decide +kernel) b]
theorem cut_lower (s : ByteArray) : cutS (lowerS s) 58 = (lowerS (cutS s 58).1, lowerS (cutS s 58).2.1, (cutS s 58).2.2) := by
  have h := index_lower s.data.toList
  rw [← lower_list] at h
  rcases index_cases s 58 with hix | ⟨i, hix, hi⟩
  · rw [cutS_miss hix, cutS_miss (h.trans hix)]
    show _ = (lowerS s, lowerS ⟨#[]⟩, false)
    rw [show lowerS ⟨#[]⟩ = ⟨#[]⟩ from list_inj (lower_list _)]
  · rw [cutS_hit hix, cutS_hit (h.trans hix), lower_extract, lower_extract, lower_size]
theorem all_lower {P : Int → Bool} (h : ∀ b : UInt8, P (lowB b).toNat = P b.toNat) (s : ByteArray) (most : Int) : allI P (lowerS s) most = allI P s most := by
  unfold allI
  rw [lower_list, lower_size, List.all_map, List.isEmpty_map]
  congr 3
  funext b
  exact h b
theorem all_lower_up {P : Int → Bool} (h : ∀ b : UInt8, P b.toNat = true → P (lowB b).toNat = true) {s : ByteArray} {most : Int} (hs : allI P s most = true) : allI P (lowerS s) most = true := by
  unfold allI at *
  rw [lower_list, lower_size, List.all_map, List.isEmpty_map]
  rw [Bool.and_eq_true, Bool.and_eq_true] at *
  refine ⟨⟨?_, hs.1.2⟩, hs.2⟩
  rw [List.all_eq_true]
  intro b hb
  exact h b (List.all_eq_true.1 hs.1.1 b hb)
theorem server_lower (s : ByteArray) : serverI (lowerS s) = serverI s := by
  unfold serverI
  have h1 := fun t m => all_lower (P := orI greatI hostM) (bytes (P := fun b => orI greatI hostM (lowB b).toNat = orI greatI hostM b.toNat) (by decide +kernel)) t m
  have h2 := fun t m => all_lower (P := digitI) (bytes (P := fun b => digitI (lowB b).toNat = digitI b.toNat) (by decide +kernel)) t m
  rw [cut_lower, lower_size, h1, h2, h1]
theorem prefix_lower {g : UInt8} (hg : ∀ b : UInt8, (g == lowB b) = (g == b)) (l : List UInt8) : List.isPrefixOf [g] (l.map lowB) = List.isPrefixOf [g] l := by
  cases l with
  | nil => rfl
  | cons b l => simp [List.isPrefixOf, hg b]
theorem signed_lower {g : UInt8} (hg : ∀ b : UInt8, (g == lowB b) = (g == b)) (s : ByteArray) : signed (lowerS s) ⟨#[g]⟩ = signed s ⟨#[g]⟩ := by
  unfold signed Lib.hasPrefix
  rw [lower_list]
  exact prefix_lower hg _
theorem rest_lower {g : UInt8} (hg : ∀ b : UInt8, (g == lowB b) = (g == b)) (s : ByteArray) : restS (lowerS s) ⟨#[g]⟩ = lowerS (restS s ⟨#[g]⟩) := by
  apply list_inj
  rw [lower_list]
  unfold restS Lib.trimPrefix Lib.hasPrefix
  rw [lower_list]
  show (if List.isPrefixOf [g] (s.data.toList.map lowB) = true then _ else _) = (if List.isPrefixOf [g] s.data.toList = true then _ else _ : List UInt8).map lowB
  rw [prefix_lower hg]
  split
  · exact (List.map_drop ..).symm
  · rfl
theorem named_lower {g : UInt8} {P : Int → Bool} (hg : ∀ b : UInt8, (g == lowB b) = (g == b)) (h : ∀ b : UInt8, P (lowB b).toNat = P b.toNat) (s : ByteArray) : namedI (lowerS s) ⟨#[g]⟩ P = namedI s ⟨#[g]⟩ P := by
  unfold namedI
  rw [cut_lower]
  simp only [lower_size, server_lower, signed_lower hg, rest_lower hg, all_lower h]
theorem room_lower (s : ByteArray) : roomI (lowerS s) = roomI s :=
  named_lower (bytes (by decide +kernel)) (bytes (P := fun b => orI greatI roomM (lowB b).toNat = orI greatI roomM b.toNat) (by decide +kernel)) s
theorem event_lower (s : ByteArray) : eventI (lowerS s) = eventI s := by
  have hg : ∀ b : UInt8, (36 == lowB b) = (36 == b) := bytes (by decide +kernel)
  have h1 := fun t m => all_lower (P := orI greatI eventM) (bytes (P := fun b => orI greatI eventM (lowB b).toNat = orI greatI eventM b.toNat) (by decide +kernel)) t m
  unfold eventI
  rw [signed_lower hg, rest_lower hg, h1]
theorem namedI_true {s g : ByteArray} {P : Int → Bool} (h : namedI s g P = true) : (cutS s 58).2.2 = true ∧ s.size ≤ 255 ∧ serverI (cutS s 58).2.1 = true ∧ signed (cutS s 58).1 g = true ∧ allI P (restS (cutS s 58).1 g) s.size = true := by
  unfold namedI at h
  cases h1 : (cutS s 58).2.2 with
  | false => rw [h1, if_pos rfl] at h; simp at h
  | true =>
    rw [h1, if_neg (by simp)] at h
    by_cases h2 : 255 < s.size
    · rw [if_pos h2] at h; simp at h
    · rw [if_neg h2] at h
      cases h3 : serverI (cutS s 58).2.1 with
      | false => rw [h3, if_pos rfl] at h; simp at h
      | true =>
        rw [h3, if_neg (by simp)] at h
        cases h4 : signed (cutS s 58).1 g with
        | false => rw [h4, if_pos rfl] at h; simp at h
        | true => rw [h4, if_neg (by simp)] at h; exact ⟨rfl, by omega, rfl, rfl, h⟩
theorem namedI_mk {s g : ByteArray} {P : Int → Bool} (h1 : (cutS s 58).2.2 = true) (h2 : s.size ≤ 255) (h3 : serverI (cutS s 58).2.1 = true) (h4 : signed (cutS s 58).1 g = true) (h5 : allI P (restS (cutS s 58).1 g) s.size = true) : namedI s g P = true := by
  unfold namedI
  rw [h1, if_neg (by simp), if_neg (by omega), h3, if_neg (by simp), h4, if_neg (by simp), h5]
theorem user_lower {s : ByteArray} (h : userI s = true) : userI (lowerS s) = true := by
  have hg : ∀ b : UInt8, (64 == lowB b) = (64 == b) := bytes (by decide +kernel)
  obtain ⟨h1, h2, h3, h4, h5⟩ := namedI_true h
  refine namedI_mk ?_ ?_ ?_ ?_ ?_
  · rw [cut_lower]; exact h1
  · rw [lower_size]; exact h2
  · rw [cut_lower]; exact (server_lower _).trans h3
  · rw [cut_lower]; exact (signed_lower hg _).trans h4
  · rw [cut_lower, lower_size]
    show allI (orI smallI userM) (restS (lowerS (cutS s 58).1) ⟨#[64]⟩) s.size = true
    rw [rest_lower hg]
    exact all_lower_up (bytes (P := fun b => orI smallI userM b.toNat = true → orI smallI userM (lowB b).toNat = true) (by decide +kernel)) h5
/-- The first byte. -/
theorem cut_head {s : ByteArray} {b : UInt8} (h : (cutS s 58).1.data.toList.head? = some b) : s.data.toList.head? = some b := by
  rcases index_cases s 58 with hix | ⟨i, hix, hi⟩
  · rw [cutS_miss hix] at h
    exact h
  · rw [cutS_hit hix] at h
    have hx : (s.extract 0 i).data.toList = s.data.toList.take i := Lib.extract_from_zero s i
    have h : (s.extract 0 i).data.toList.head? = some b := h
    rw [hx] at h
    cases hl : s.data.toList with
    | nil => rw [hl] at h; simp at h
    | cons x l =>
      rw [hl] at h
      cases i with
      | zero => simp at h
      | succ i => simpa using h
theorem signed_head {s : ByteArray} {g : UInt8} (h : signed s ⟨#[g]⟩ = true) : s.data.toList.head? = some g := by
  unfold signed Lib.hasPrefix at h
  have h : List.isPrefixOf [g] s.data.toList = true := h
  cases hl : s.data.toList with
  | nil => rw [hl] at h; simp at h
  | cons x l => rw [hl] at h; simp at h; rw [h]; rfl
theorem all_head {P : Int → Bool} {s : ByteArray} {most : Int} (h : allI P s most = true) : ∃ b, s.data.toList.head? = some b ∧ P b.toNat = true := by
  unfold allI at h
  rw [Bool.and_eq_true, Bool.and_eq_true] at h
  cases hl : s.data.toList with
  | nil => rw [hl] at h; simp at h
  | cons x l => rw [hl] at h; exact ⟨x, rfl, List.all_eq_true.1 h.1.1 x List.mem_cons_self⟩
theorem user_head {s : ByteArray} (h : userI s = true) : s.data.toList.head? = some 64 := cut_head (signed_head (namedI_true h).2.2.2.1)
theorem room_head {s : ByteArray} (h : roomI s = true) : s.data.toList.head? = some 33 := cut_head (signed_head (namedI_true h).2.2.2.1)
theorem event_head {s : ByteArray} (h : eventI s = true) : s.data.toList.head? = some 36 := by
  unfold eventI at h
  cases hg : signed s ⟨#[36]⟩ with
  | false => rw [hg, if_pos rfl] at h; simp at h
  | true => exact signed_head hg
theorem server_head {s : ByteArray} (h : serverI s = true) : ∃ b, s.data.toList.head? = some b ∧ orI greatI hostM b.toNat = true := by
  unfold serverI at h
  split at h
  · simp at h
  · split at h
    · rw [Bool.and_eq_true] at h
      obtain ⟨b, hb, hp⟩ := all_head h.1
      exact ⟨b, cut_head hb, hp⟩
    · exact all_head h
/-- At most one kind. -/
theorem one_kind (s : ByteArray) : (userI s = true → roomI s = false ∧ eventI s = false ∧ serverI s = false) ∧ (roomI s = true → eventI s = false ∧ serverI s = false) ∧ (eventI s = true → serverI s = false) := by
  have hu : ∀ g : UInt8, orI greatI hostM (g.toNat : Int) = false → s.data.toList.head? = some g → serverI s = false := by
    intro g hg hh
    cases hs : serverI s with
    | false => rfl
    | true =>
      obtain ⟨b, hb, hp⟩ := server_head hs
      rw [hb] at hh
      rw [← Option.some.inj hh, hp] at hg
      simp at hg
  have hd : ∀ (t : Bool) {a b : UInt8}, a ≠ b → s.data.toList.head? = some a → (t = true → s.data.toList.head? = some b) → t = false := by
    intro t a b hne ha hb
    cases t with
    | false => rfl
    | true =>
      rw [hb rfl] at ha
      exact absurd (Option.some.inj ha).symm hne
  refine ⟨fun h => ⟨hd _ (by decide) (user_head h) room_head, hd _ (by decide) (user_head h) event_head, hu 64 (by decide +kernel) (user_head h)⟩, fun h => ⟨hd _ (by decide) (room_head h) event_head, hu 33 (by decide +kernel) (room_head h)⟩, fun h => hu 36 (by decide +kernel) (event_head h)⟩
theorem none_empty {s : ByteArray} (h : s.data.toList = []) : userI s = false ∧ roomI s = false ∧ eventI s = false ∧ serverI s = false := by
  have hd : ∀ t : Bool, (t = true → ∃ b, s.data.toList.head? = some b) → t = false := by
    intro t ht
    cases t with
    | false => rfl
    | true =>
      obtain ⟨b, hb⟩ := ht rfl
      rw [h] at hb
      simp at hb
  exact ⟨hd _ fun h => ⟨_, user_head h⟩, hd _ fun h => ⟨_, room_head h⟩, hd _ fun h => ⟨_, event_head h⟩, hd _ fun h => let ⟨b, hb, _⟩ := server_head h; ⟨b, hb⟩⟩
end Go.Proofs.YtppgoppkciakgaaL
