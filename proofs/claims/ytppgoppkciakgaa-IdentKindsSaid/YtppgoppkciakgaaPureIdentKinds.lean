/- A string is of at most one kind; Lower preserves the length, and whether it is a server, a room of some kind, or an event; applied twice it is the same as once: for every string, no condition. -/
import Derived.Test.YtppgoppkciakgaaPAx7
import Derived.Test.YtppgoppkciakgaaL3
import Derived.Test.YtppgoppkciakgaaL4
namespace Go.Proofs.Ytppgoppkciakgaa.Pure
open Go.RowKit Go.Proofs.Ytppgoppkciakgaa.PA Go.Proofs.YtppgoppkciakgaaW.PrintWords Go.Proofs.YtppgoppkciakgaaW.PrintLast Go.Proofs.YtppgoppkciakgaaG Go.Proofs.YtppgoppkciakgaaX Go.Proofs.YtppgoppkciakgaaL
theorem kindI_range (s : ByteArray) : 0 ≤ kindI s ∧ kindI s ≤ 4 := by
  unfold kindI
  repeat' split
  all_goals omega
/-- What holds of Lower, as the law's last part asks it. -/
theorem kinds_end (s : ByteArray) (hn : s.size ≤ 140737488351232) (L : List Bool) (hl : L.length = 5) : Ev (fun k => outlawlaw04_IdentKinds.l0 k s L 1 5) true := by
  refine Ev.step (f := fun _ => some true) (fun k => ?_) (Ev.now _)
  simp only [outlawlaw04_IdentKinds.l0]
  have hn' : (lowerS s).size ≤ 140737488351232 := by rw [lower_size]; exact hn
  unfold ident_Server.f ident_User.f ident_Room.f ident_EventID.f ident_Lower.f
  rw [if_neg (by omega)]
  simp only [if_pos (small_of hn), if_pos (small_of hn'), Option.bind_some, lower_size, lower_twice, server_lower, room_lower, event_lower, if_true, beq_self_eq_true]
  cases h : userI s with
  | false => rfl
  | true => rw [user_lower h]; rfl
theorem kinds_loop (s : ByteArray) (hn : s.size ≤ 140737488351232) (L : List Bool) (hl : L.length = 5) (hL : ∀ i : Nat, i < 5 → L.getD i false = (kindI s == (i : Int))) :
    ∀ d i : Nat, 5 - i = d → i ≤ 5 → Ev (fun k => outlawlaw04_IdentKinds.l0 k s L (if kindI s < (i : Int) then 1 else 0) (i : Int)) true := by
  have hr := kindI_range s
  intro d
  induction d with
  | zero =>
    intro i hd hi
    obtain rfl : i = 5 := by omega
    rw [if_pos (by omega)]
    exact kinds_end s hn L hl
  | succ d ih =>
    intro i hd hi
    have h := ih (i + 1) (by omega) (by omega)
    have hb := hL i (by omega)
    have hrd : rdOf false L (i : Int) = (kindI s == (i : Int)) := by unfold rdOf; rw [Int.toNat_natCast]; exact hb
    have hw : wrap64 ((i : Int) + 1) = ((i + 1 : Nat) : Int) := by unfold wrap64; omega
    by_cases e : kindI s = (i : Int)
    · have e1 : (kindI s == (i : Int)) = true := beq_iff_eq.2 e
      rw [if_neg (by omega)]
      rw [if_pos (by omega)] at h
      refine Ev.step (fun k => ?_) h
      simp only [outlawlaw04_IdentKinds.l0]
      rw [if_pos (by omega), if_pos (by omega), hrd, kind_f s hn, hw]
      simp only [Option.bind_some, e1, if_true, bne_self_eq_false, Bool.false_eq_true, if_false, show wrap64 (0 + 1) = 1 from by unfold wrap64; omega]
    · have e1 : (kindI s == (i : Int)) = false := beq_eq_false_iff_ne.2 e
      have e2 : (if kindI s < ((i + 1 : Nat) : Int) then (1 : Int) else 0) = if kindI s < (i : Int) then 1 else 0 := by
        by_cases h3 : kindI s < (i : Int)
        · rw [if_pos h3, if_pos (by omega)]
        · rw [if_neg h3, if_neg (by omega)]
      rw [e2] at h
      refine Ev.step (fun k => ?_) h
      simp only [outlawlaw04_IdentKinds.l0]
      rw [if_pos (by omega), if_pos (by omega), hrd, kind_f s hn, hw]
      simp only [Option.bind_some, e1, bne_self_eq_false, Bool.false_eq_true, if_false]
theorem kinds_j0 (s : ByteArray) (hn : s.size ≤ 140737488351232) (L : List Bool) (hl : L.length = 5) (hL : ∀ i : Nat, i < 5 → L.getD i false = (kindI s == (i : Int))) : Ev (fun k => outlawlaw04_IdentKinds.j0 k s L) true := by
  have h := kinds_loop s hn L hl hL 5 0 rfl (by omega)
  have hr := kindI_range s
  rw [if_neg (by omega)] at h
  exact Ev.step (fun k => by simp only [outlawlaw04_IdentKinds.j0]; rfl) h
theorem IdentKinds : outlawlaw04_IdentKinds.Pure := by
  intro s hn
  apply Ev.rounds
  unfold outlawlaw04_IdentKinds.f
  rw [lives_f]
  simp only [Option.bind_some, if_true]
  by_cases h : 600 < s.size
  · exact Ev.congr (fun k => if_pos (by omega)) (Ev.now _)
  · refine Ev.congr (fun k => if_neg (by omega)) ?_
    unfold ident_Server.f ident_User.f ident_Room.f ident_EventID.f
    simp only [if_pos (small_of hn), Option.bind_some]
    have h1 := one_kind s
    have hk : kindI s = if userI s = true then 1 else if roomI s = true then 2 else if eventI s = true then 3 else if serverI s = true then 4 else 0 := rfl
    by_cases he : s.toList = []
    · obtain ⟨u, r, e, v⟩ := none_empty (s := s) (by rw [← ByteArray.toList_eq]; exact he)
      rw [u, r, e, v] at hk
      refine Ev.congr (fun k => if_pos he) ?_
      rw [u, r, e, v, he]
      refine kinds_j0 s hn _ rfl fun i hi => ?_
      rw [hk]
      match i, hi with
      | 0, _ | 1, _ | 2, _ | 3, _ | 4, _ => rfl
    · refine Ev.congr (fun k => if_neg he) ?_
      have he' : (s.toList == ([] : List UInt8)) = false := beq_eq_false_iff_ne.2 he
      rw [he']
      cases u : userI s with
      | true =>
        obtain ⟨r, e, v⟩ := h1.1 u
        rw [u] at hk
        rw [r, e, v]
        refine kinds_j0 s hn _ rfl fun i hi => ?_
        rw [hk]
        match i, hi with
        | 0, _ | 1, _ | 2, _ | 3, _ | 4, _ => rfl
      | false =>
        cases r : roomI s with
        | true =>
          obtain ⟨e, v⟩ := h1.2.1 r
          rw [u, r] at hk
          rw [e, v]
          refine kinds_j0 s hn _ rfl fun i hi => ?_
          rw [hk]
          match i, hi with
          | 0, _ | 1, _ | 2, _ | 3, _ | 4, _ => rfl
        | false =>
          cases e : eventI s with
          | true =>
            have v := h1.2.2 e
            rw [u, r, e] at hk
            rw [v]
            refine kinds_j0 s hn _ rfl fun i hi => ?_
            rw [hk]
            match i, hi with
            | 0, _ | 1, _ | 2, _ | 3, _ | 4, _ => rfl
          | false =>
            rw [u, r, e] at hk
            cases v : serverI s with
            | true =>
              rw [v] at hk
              refine kinds_j0 s hn _ rfl fun i hi => ?_
              rw [hk]
              match i, hi with
              | 0, _ | 1, _ | 2, _ | 3, _ | 4, _ => rfl
            | false =>
              rw [v] at hk
              refine kinds_j0 s hn _ rfl fun i hi => ?_
              rw [hk]
              match i, hi with
              | 0, _ | 1, _ | 2, _ | 3, _ | 4, _ => rfl
end Go.Proofs.Ytppgoppkciakgaa.Pure
