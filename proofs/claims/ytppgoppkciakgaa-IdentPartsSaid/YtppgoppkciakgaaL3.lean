/- Plain lemmas: the reference's User, Room, EventID, ServerOf and Kind answer what the program's contracts say. -/
import Derived.Test.YtppgoppkciakgaaL2
set_option linter.unusedVariables false
set_option linter.unusedSimpArgs false
namespace Go.Proofs.YtppgoppkciakgaaL
open Go.RowKit Go.Proofs.Ytppgoppkciakgaa.PA Go.Proofs.YtppgoppkciakgaaW.PrintWords Go.Proofs.YtppgoppkciakgaaG Go.Proofs.YtppgoppkciakgaaX
theorem user_set : ∀ n, n < 256 → nameR true userM ((n : Nat) : Int) = orI smallI userM ((n : Nat) : Int) := by decide +kernel
theorem room_set' : ∀ n, n < 256 → nameR false roomM ((n : Nat) : Int) = orI greatI roomM ((n : Nat) : Int) := by decide +kernel
theorem user_ev (s : ByteArray) (hn : s.size ≤ 140737488351232) : Ev (fun k => outlawref04_User.f k s) (userI s) := by
  unfold outlawref04_User.f userI
  rw [← named_is s 64 true userM _ user_set]
  exact Ev.bind (named_ev s 64 true userM hn (by decide)) (Ev.now _)
theorem room_ev (s : ByteArray) (hn : s.size ≤ 140737488351232) : Ev (fun k => outlawref04_Room.f k s) (roomI s) := by
  unfold outlawref04_Room.f roomI
  rw [← named_is s 33 false roomM _ room_set']
  exact Ev.bind (named_ev s 33 false roomM hn (by decide)) (Ev.now _)
theorem event_loop (s : ByteArray) (hn : s.size ≤ 140737488351232) (h1 : 1 ≤ s.size) : Ev (fun k => outlawref04_EventID.l0 k s 1) (allSeg (setR eventM) s 1 s.size) := by
  have hm := fun c => among_ev c eventM (by decide)
  have h := scan (g := fun k i => outlawref04_EventID.l0 k s i) (P := setR eventM) (fin := true) (Nat.le_refl _) ?_ ?_ ?_ _ 1 rfl h1
  · rw [Bool.and_true] at h
    exact h
  · refine Ev.step (f := fun _ => some true) (fun k => ?_) (Ev.now _)
    simp only [outlawref04_EventID.l0]
    rw [if_neg (by omega)]
  · intro i hi hp r hr
    apply Ev.step
    · intro k
      simp only [outlawref04_EventID.l0]
      rw [if_pos (by omega), if_pos (by omega), letter_f, digit_f, wrap_succ hi hn]
    · simp only [Option.bind_some]
      unfold setR at hp
      cases h1 : letterI (bt s i) with
      | true => simpa using hr
      | false =>
        cases h2 : digitI (bt s i) with
        | true => simpa using hr
        | false =>
          rw [h1, h2] at hp
          simp only [Bool.false_or] at hp
          simp only [Bool.false_eq_true, if_false]
          exact Ev.bind (hm _) (by rw [hp]; simpa using hr)
  · intro i hi hp
    apply Ev.step
    · intro k
      simp only [outlawref04_EventID.l0]
      rw [if_pos (by omega), if_pos (by omega), letter_f, digit_f, wrap_succ hi hn]
    · simp only [Option.bind_some]
      unfold setR at hp
      rw [Bool.or_eq_false_iff, Bool.or_eq_false_iff] at hp
      obtain ⟨h1, h2, h3⟩ := hp
      rw [h1, h2]
      simp only [Bool.false_eq_true, if_false]
      exact Ev.bind (hm _) (by rw [h3]; simpa using Ev.now false)
theorem event_j0 (s : ByteArray) : Ev (fun k => outlawref04_EventID.j0 k s true) false := by
  refine Ev.step (f := fun _ => some false) (fun k => ?_) (Ev.now _)
  simp only [outlawref04_EventID.j0]
  rw [if_pos trivial]
/-- What an event's id is, byte by byte. -/
theorem eventI_is (s : ByteArray) : eventI s = (decide (2 ≤ s.size) && (decide (s.size ≤ 65) && (decide (bt s 0 = 36) && allSeg (setR eventM) s 1 s.size))) := by
  unfold eventI signed restS Lib.trimPrefix Lib.hasPrefix
  by_cases hz : 0 < s.size
  · have h0 : s.data.toList = s[0] :: s.data.toList.drop 1 := by
      have hb := bt_list (s := s) (i := 0) hz
      cases hl : s.data.toList with
      | nil => rw [hl] at hb; simp at hb
      | cons x l =>
        rw [hl] at hb
        simp only [List.getElem?_cons_zero, Option.some.injEq] at hb
        rw [hb]
        rfl
    have hb0 : bt s 0 = (s[0].toNat : Int) := bt_nat (i := 0) hz
    have hpre : List.isPrefixOf [36] s.data.toList = ((36 : UInt8) == s[0]) := by rw [h0]; simp [List.isPrefixOf]
    show (if List.isPrefixOf [36] s.data.toList = false then false else allI (orI greatI eventM) ⟨(if List.isPrefixOf [36] s.data.toList = true then s.data.toList.drop 1 else s.data.toList).toArray⟩ 64) = _
    rw [hpre, hb0]
    by_cases e : (36 : UInt8) = s[0]
    · have e1 : ((36 : UInt8) == s[0]) = true := beq_iff_eq.2 e
      have e2 : decide ((s[0].toNat : Int) = 36) = true := decide_eq_true (by rw [← e]; rfl)
      rw [e1, e2, if_neg (by simp), if_pos rfl, Bool.true_and]
      unfold allI
      have hl : (s.data.toList.drop 1).length = s.size - 1 := by rw [List.length_drop, size_list]
      have hsz : (⟨(s.data.toList.drop 1).toArray⟩ : ByteArray).size = s.size - 1 := by
        show (s.data.toList.drop 1).toArray.size = _
        rw [List.size_toArray, hl]
      have hseg : allSeg (setR eventM) s 1 s.size = (s.data.toList.drop 1).all fun b => orI greatI eventM b.toNat := by
        rw [allSeg_congr event_set]
        unfold allSeg
        rw [List.take_of_length_le (by rw [size_list]; exact Nat.le_refl _)]
      rw [hseg, hsz]
      have he : (!(s.data.toList.drop 1).isEmpty) = decide (2 ≤ s.size) := by
        cases hq : s.data.toList.drop 1 with
        | nil => rw [hq] at hl; simp at hl; rw [decide_eq_false (by omega)]; rfl
        | cons x l => rw [hq] at hl; simp at hl; rw [decide_eq_true (by omega)]; rfl
      have hd : decide (((s.size - 1 : Nat) : Int) ≤ 64) = decide (s.size ≤ 65) := decide_eq_decide.2 (by omega)
      show (((s.data.toList.drop 1).all fun b => orI greatI eventM b.toNat) && !(s.data.toList.drop 1).isEmpty && decide (((s.size - 1 : Nat) : Int) ≤ 64)) = _
      rw [he, hd]
      cases (s.data.toList.drop 1).all fun b => orI greatI eventM b.toNat <;> cases decide (2 ≤ s.size) <;> cases decide (s.size ≤ 65) <;> rfl
    · have e1 : ((36 : UInt8) == s[0]) = false := beq_eq_false_iff_ne.2 e
      have e2 : decide ((s[0].toNat : Int) = 36) = false := decide_eq_false (fun h => e (UInt8.toNat_inj.1 (show (36 : UInt8).toNat = s[0].toNat from by show 36 = s[0].toNat; omega)))
      rw [e1, e2, if_pos rfl, Bool.false_and, Bool.and_false, Bool.and_false]
  · have hl : s.data.toList = [] := List.length_eq_zero_iff.1 (by rw [size_list]; omega)
    rw [hl, decide_eq_false (by omega), Bool.false_and]
    rfl
theorem event_ev (s : ByteArray) (hn : s.size ≤ 140737488351232) : Ev (fun k => outlawref04_EventID.f k s) (eventI s) := by
  unfold outlawref04_EventID.f
  rw [eventI_is]
  by_cases h1 : 2 ≤ s.size
  · rw [decide_eq_true h1, Bool.true_and]
    by_cases h2 : s.size ≤ 65
    · rw [decide_eq_true h2, Bool.true_and]
      refine Ev.congr (fun k => by rw [if_neg (by omega), if_neg (by omega), if_pos (by omega)]) ?_
      by_cases h3 : bt s 0 = 36
      · rw [decide_eq_true h3, Bool.true_and]
        refine Ev.step (f := fun k => outlawref04_EventID.l0 k s 1) (fun k => ?_) (event_loop s hn (by omega))
        simp only [outlawref04_EventID.j0]
        rw [if_neg (by simp [h3])]
      · rw [decide_eq_false h3, Bool.false_and]
        have : (bt s 0 != 36) = true := by simpa using h3
        rw [this]
        exact event_j0 s
    · rw [decide_eq_false h2, Bool.false_and]
      exact Ev.congr (fun k => by rw [if_neg (by omega), if_pos (by omega)]) (event_j0 s)
  · rw [decide_eq_false h1, Bool.false_and]
    exact Ev.congr (fun k => by rw [if_pos (by omega)]) (event_j0 s)
theorem small_of {a : ByteArray} (h : a.size ≤ 140737488351232) : small47 a := h
theorem userI_hit {s : ByteArray} (h : userI s = true) : (cutS s 58).2.2 = true := by
  unfold userI namedI at h
  cases hc : (cutS s 58).2.2 with
  | true => rfl
  | false => rw [hc, if_pos rfl] at h; simp at h
theorem serverOf_ev (s : ByteArray) (hn : s.size ≤ 140737488351232) : Ev (fun k => outlawref04_ServerOf.f k s) (serverOfI s) := by
  unfold outlawref04_ServerOf.f serverOfI
  refine Ev.bind (user_ev s hn) ?_
  cases hu : userI s with
  | false => exact Ev.congr (fun k => if_neg (by simp)) (Ev.now _)
  | true =>
    refine Ev.congr (fun k => if_pos rfl) ?_
    rw [if_pos rfl]
    refine Ev.bind (colon_ev s hn) ?_
    have hit := userI_hit hu
    rcases index_cases s 58 with hix | ⟨i, hix, hi⟩
    · rw [cutS_miss hix] at hit
      simp at hit
    · rw [cutS_hit hix, hix]
      have hw := wrap_succ hi hn
      have he2 : (s.extract (i + 1) s.size).size ≤ 140737488351232 := by rw [ByteArray.size_extract]; omega
      refine Ev.congr (fun k => by rw [hw, if_pos (by omega), if_pos (by omega), Int.toNat_natCast]) ?_
      unfold outlawref04_Lower.f
      rw [if_pos (small_of he2)]
      exact Ev.now _
/-- What Kind answers. -/
def kindI (s : ByteArray) : Int := if userI s = true then 1 else if roomI s = true then 2 else if eventI s = true then 3 else if serverI s = true then 4 else 0
theorem refKind_ev (s : ByteArray) (hn : s.size ≤ 140737488351232) : Ev (fun k => outlawref04_Kind.f k s) (kindI s) := by
  unfold outlawref04_Kind.f kindI
  refine Ev.bind (user_ev s hn) ?_
  cases userI s with
  | true => exact Ev.now _
  | false =>
    refine Ev.congr (fun k => if_neg (by simp)) (Ev.bind (room_ev s hn) ?_)
    cases roomI s with
    | true => exact Ev.now _
    | false =>
      refine Ev.congr (fun k => if_neg (by simp)) (Ev.bind (event_ev s hn) ?_)
      cases eventI s with
      | true => exact Ev.now _
      | false =>
        refine Ev.congr (fun k => if_neg (by simp)) (Ev.bind (server_ev s hn) ?_)
        cases serverI s <;> exact Ev.now _
theorem kind_f (s : ByteArray) (hn : s.size ≤ 140737488351232) : ident_Kind.f s = some (kindI s) := by
  unfold ident_Kind.f kindI ident_User.f ident_Room.f ident_EventID.f ident_Server.f
  simp only [if_pos (small_of hn), Option.bind_some]
  cases userI s <;> cases roomI s <;> cases eventI s <;> cases serverI s <;> rfl
theorem lives_f : outlawlaw04_lives.f = some true := by
  unfold outlawlaw04_lives.f
  simp only [ByteArray.toList_eq]
  decide +kernel
end Go.Proofs.YtppgoppkciakgaaL
