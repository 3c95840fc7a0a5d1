/- The contracts of ident's User, Room, EventID and ServerOf: which strings are identifiers, for every string that fits in memory. -/
import Derived.Test.YtppgoppkciakgaaG3
set_option linter.unusedVariables false
set_option linter.unusedSimpArgs false
namespace Go.Proofs.YtppgoppkciakgaaG
open Go.RowKit Go.Proofs.YtppgoppkciakgaaW.PrintWords Go.Proofs.YtppgoppkciakgaaX
def restS (s sign : ByteArray) : ByteArray := ⟨(Lib.trimPrefix s.data.toList sign.data.toList).toArray⟩
def signed (s sign : ByteArray) : Bool := Lib.hasPrefix s.data.toList sign.data.toList
theorem restS_le (s sign : ByteArray) : (restS s sign).size ≤ s.size := by
  have := Lib.trimPrefix_le s.data.toList sign.data.toList
  show (Lib.trimPrefix s.data.toList sign.data.toList).toArray.size ≤ s.data.size
  simpa using this
def namedI (s sign : ByteArray) (p : Int → Bool) : Bool :=
  if (cutS s 58).2.2 = false then false else if 255 < s.size then false else if serverI (cutS s 58).2.1 = false then false
  else if signed (cutS s 58).1 sign = false then false else allI p (restS (cutS s 58).1 sign) s.size
theorem below_drewN {B : Nat} {w w' : World} (h : Below B w w') (n : Nat) : Below B w (w'.drewN n) := ⟨h.os, h.tape, h.output, h.size, h.block⟩
set_option maxHeartbeats 1000000 in
theorem named_any (G : Nat) (lb : Array Value) (p : Int → Bool) (s sign : ByteArray) (w : World) (hs : s.size ≤ 140737488351232) (hf : ∀ W, Below w.heap.size w W → TellsAt G lb p W) :
    Calls Try.prog 34 #[.string s, .string sign, .func (.func G) #[] lb] w fun e w' => e = .returned (.bool (namedI s sign p)) ∧ Below w.heap.size w w' := by
  have hl := cutS_le s 58
  have HF := Lib.hid hf
  clear hf
  generalize hc : cutS s 58 = c at hl
  obtain ⟨name, server, is⟩ := c
  have HC := Lib.hid hc
  clear hc
  have hl1 : name.size ≤ 140737488351232 := Nat.le_trans hl.1 hs
  have hl2 : server.size ≤ 140737488351232 := Nat.le_trans hl.2 hs
  clear hl
  have hl3 : (restS name sign).size ≤ 140737488351232 := Nat.le_trans (restS_le _ _) hl1
  cases is with
  | false =>
    have HE := Lib.hid (show namedI s sign p = false from by unfold namedI; rw [HC.out]; rfl)
    go_enter Try.func34, Try.ntmps34
    go_wp2_with (go_at_call 26; refine (strings_Cut s 58 _ hs).mono ?_; rintro e w' ⟨rfl, n, rfl⟩; rw [HC.out])
    go_ret
    rw [HE.out]
    exact ⟨rfl, below_drewN (Below.refl _ _) _⟩
  | true =>
    by_cases h1 : 255 < s.size
    · have HE := Lib.hid (show namedI s sign p = false from by unfold namedI; rw [HC.out, if_neg (by simp), if_pos h1])
      have h1' : (255 : Int) < (s.size : Int) := by omega
      go_enter Try.func34, Try.ntmps34
      go_wp2_with (go_at_call 26; refine (strings_Cut s 58 _ hs).mono ?_; rintro e w' ⟨rfl, n, rfl⟩; rw [HC.out])
      go_ret
      rw [HE.out]
      exact ⟨rfl, below_drewN (Below.refl _ _) _⟩
    · have h1' : ¬ (255 : Int) < (s.size : Int) := by omega
      cases hv : serverI server with
      | false =>
        have HV := Lib.hid hv
        have HE := Lib.hid (show namedI s sign p = false from by unfold namedI; rw [HC.out, if_neg (by simp), if_neg h1, if_pos hv])
        clear hv
        go_enter Try.func34, Try.ntmps34
        go_wp2_with (go_at_call 26; refine (strings_Cut s 58 _ hs).mono ?_; rintro e w' ⟨rfl, n, rfl⟩; rw [HC.out])
        refine (server_any _ _ hl2).mono ?_
        rintro e w' ⟨rfl, hb⟩
        rw [HV.out]
        go_wp2_with fail
        go_ret
        rw [HE.out]
        exact ⟨rfl, (below_drewN (Below.refl _ w) _).trans hb⟩
      | true =>
        have HV := Lib.hid hv
        cases hg : signed name sign with
        | false =>
          have HG := Lib.hid hg
          have HE := Lib.hid (show namedI s sign p = false from by unfold namedI; rw [HC.out, if_neg (by simp), if_neg h1, if_neg (by rw [hv]; decide), if_pos hg])
          clear hv hg
          go_enter Try.func34, Try.ntmps34
          go_wp2_with (go_at_call 26; refine (strings_Cut s 58 _ hs).mono ?_; rintro e w' ⟨rfl, n, rfl⟩; rw [HC.out])
          refine (server_any _ _ hl2).mono ?_
          rintro e w' ⟨rfl, hb⟩
          rw [HV.out]
          go_wp2_with fail
          refine (Try.strings_CutPrefix _ _ _).mono ?_
          rintro e w' ⟨rfl, rfl⟩
          rw [show Lib.hasPrefix name.data.toList sign.data.toList = false from HG.out]
          go_wp2_with fail
          go_ret
          rw [HE.out]
          exact ⟨rfl, (below_drewN (Below.refl _ w) _).trans hb⟩
        | true =>
          have HG := Lib.hid hg
          have HE := Lib.hid (show namedI s sign p = allI p (restS name sign) s.size from by unfold namedI; rw [HC.out, if_neg (by simp), if_neg h1, if_neg (by rw [hv]; decide), if_neg (by rw [hg]; decide)])
          clear hv hg
          go_enter Try.func34, Try.ntmps34
          go_wp2_with (go_at_call 26; refine (strings_Cut s 58 _ hs).mono ?_; rintro e w' ⟨rfl, n, rfl⟩; rw [HC.out])
          refine (server_any _ _ hl2).mono ?_
          rintro e w' ⟨rfl, hb⟩
          rw [HV.out]
          go_wp2_with fail
          refine (Try.strings_CutPrefix _ _ _).mono ?_
          rintro e w' ⟨rfl, rfl⟩
          rw [show Lib.hasPrefix name.data.toList sign.data.toList = true from HG.out]
          rw [show (⟨(Lib.trimPrefix name.data.toList sign.data.toList).toArray⟩ : ByteArray) = restS name sign from rfl]
          go_wp2_with fail
          refine (all_any _ _ p _ _ _ hl3 (HF.out _ ((below_drewN (Below.refl _ w) _).trans hb))).mono ?_
          rintro e w' ⟨rfl, rfl⟩
          rw [← HE.out]
          go_wp2_with fail
          go_ret
          exact ⟨rfl, (below_drewN (Below.refl _ w) _).trans hb⟩
def userM : ByteArray := ⟨#[46, 95, 61, 45, 47, 43]⟩
def roomM : ByteArray := ⟨#[46, 95, 45]⟩
def eventM : ByteArray := ⟨#[95, 45, 46, 126, 47]⟩
def userI (s : ByteArray) : Bool := namedI s ⟨#[64]⟩ (orI smallI userM)
def roomI (s : ByteArray) : Bool := namedI s ⟨#[33]⟩ (orI greatI roomM)
def eventI (s : ByteArray) : Bool := if signed s ⟨#[36]⟩ = false then false else allI (orI greatI eventM) (restS s ⟨#[36]⟩) 64
theorem tellsAt_later {G : Nat} {p : Int → Bool} (hg : Tells G p) (more : ByteArray) (w : World) (s t : TypeId) :
    ∀ W, Below ((w.alloc (.cells #[.func (.func G) #[] #[]] s)).alloc (.cells #[.string more] t)).heap.size ((w.alloc (.cells #[.func (.func G) #[] #[]] s)).alloc (.cells #[.string more] t)) W →
      TellsAt 42 #[.pointer (some ⟨w.heap.size, 0, none⟩), .pointer (some ⟨w.heap.size + 1, 0, none⟩)] (orI p more) W := fun W hb =>
  tellsAt_or hg more _ _ W ((hb.cell (p := ⟨w.heap.size, 0, none⟩) (by simp; omega)).trans (two_cells w _ _ _ _).1) ((hb.cell (p := ⟨w.heap.size + 1, 0, none⟩) (by simp)).trans (two_cells w _ _ _ _).2)
theorem below_allocs (w : World) (o p : Obj) {w' : World} (h : Below ((w.alloc o).alloc p).heap.size ((w.alloc o).alloc p) w') : Below w.heap.size w w' :=
  (((Below.refl _ _).alloc (Nat.le_refl _) o).alloc (by simp) p).trans (h.mono (by simp; omega))
set_option maxHeartbeats 400000 in
theorem user_any (s : ByteArray) (w : World) (hs : s.size ≤ 140737488351232) :
    Calls Try.prog 15 #[.string s] w fun e w' => e = .returned (.bool (userI s)) ∧ Below w.heap.size w w' := by
  go_enter Try.func15, Try.ntmps15
  go_wp2_with fail
  refine (or_any _ _ _).mono ?_
  rintro e w' ⟨rfl, rfl⟩
  go_wp2_with fail
  refine (named_any _ _ (orI smallI userM) _ _ _ hs (tellsAt_later tells_small userM w _ _)).mono ?_
  rintro e w' ⟨rfl, hb⟩
  go_wp2_with fail
  go_ret
  exact ⟨rfl, below_allocs _ _ _ hb⟩
set_option maxHeartbeats 400000 in
theorem room_any (s : ByteArray) (w : World) (hs : s.size ≤ 140737488351232) :
    Calls Try.prog 17 #[.string s] w fun e w' => e = .returned (.bool (roomI s)) ∧ Below w.heap.size w w' := by
  go_enter Try.func17, Try.ntmps17
  go_wp2_with fail
  refine (or_any _ _ _).mono ?_
  rintro e w' ⟨rfl, rfl⟩
  go_wp2_with fail
  refine (named_any _ _ (orI greatI roomM) _ _ _ hs (tellsAt_later tells_great roomM w _ _)).mono ?_
  rintro e w' ⟨rfl, hb⟩
  go_wp2_with fail
  go_ret
  exact ⟨rfl, below_allocs _ _ _ hb⟩
set_option maxHeartbeats 400000 in
theorem event_any (s : ByteArray) (w : World) (hs : s.size ≤ 140737488351232) :
    Calls Try.prog 19 #[.string s] w fun e w' => e = .returned (.bool (eventI s)) ∧ Below w.heap.size w w' := by
  have hl : (restS s ⟨#[36]⟩).size ≤ 140737488351232 := Nat.le_trans (restS_le _ _) hs
  cases hg : signed s ⟨#[36]⟩ with
  | false =>
    have HG := Lib.hid hg
    have HE := Lib.hid (show eventI s = false from by unfold eventI; rw [if_pos hg])
    clear hg
    go_enter Try.func19, Try.ntmps19
    go_wp2_with fail
    refine (Try.strings_CutPrefix _ _ _).mono ?_
    rintro e w' ⟨rfl, rfl⟩
    rw [show Lib.hasPrefix s.data.toList (⟨#[36]⟩ : ByteArray).data.toList = false from HG.out]
    go_wp2_with fail
    go_ret
    rw [HE.out]
    exact ⟨rfl, Below.refl _ _⟩
  | true =>
    have HG := Lib.hid hg
    have HE := Lib.hid (show eventI s = allI (orI greatI eventM) (restS s ⟨#[36]⟩) 64 from by unfold eventI; rw [if_neg (by rw [hg]; simp)])
    clear hg
    go_enter Try.func19, Try.ntmps19
    go_wp2_with fail
    refine (Try.strings_CutPrefix _ _ _).mono ?_
    rintro e w' ⟨rfl, rfl⟩
    rw [show Lib.hasPrefix s.data.toList (⟨#[36]⟩ : ByteArray).data.toList = true from HG.out]
    rw [show (⟨(Lib.trimPrefix s.data.toList (⟨#[36]⟩ : ByteArray).data.toList).toArray⟩ : ByteArray) = restS s ⟨#[36]⟩ from rfl]
    go_wp2_with fail
    refine (or_any _ _ _).mono ?_
    rintro e w2 ⟨rfl, rfl⟩
    go_wp2_with fail
    refine (all_any _ _ (orI greatI eventM) _ _ _ hl (tellsAt_or tells_great _ _ _ _ (two_cells w' _ _ _ _).1 (two_cells w' _ _ _ _).2)).mono ?_
    rintro e w2 ⟨rfl, rfl⟩
    rw [← HE.out]
    go_wp2_with fail
    go_ret
    exact ⟨rfl, below_allocs _ _ _ (Below.refl _ _)⟩
def serverOfI (s : ByteArray) : ByteArray × Bool := if userI s = true then (lowerS (cutS s 58).2.1, true) else (⟨#[]⟩, false)
set_option maxHeartbeats 1000000 in
theorem serverOf_any (s : ByteArray) (w : World) (hs : s.size ≤ 140737488351232) :
    Calls Try.prog 12 #[.string s] w fun e w' => e = .returned (.tuple #[.string (serverOfI s).1, .bool (serverOfI s).2]) ∧ Below w.heap.size w w' := by
  have hl := cutS_le s 58
  generalize hc : cutS s 58 = c at hl
  obtain ⟨name, server, is⟩ := c
  have HC := Lib.hid hc
  clear hc
  have hl2 : server.size ≤ 140737488351232 := Nat.le_trans hl.2 hs
  clear hl
  cases is with
  | false =>
    have hu : userI s = false := by unfold userI namedI; rw [HC.out]; rfl
    have HE := Lib.hid (show serverOfI s = (⟨#[]⟩, false) from by unfold serverOfI; rw [if_neg (by rw [hu]; simp)])
    clear hu
    go_enter Try.func12, Try.ntmps12
    go_wp2_with (go_at_call 26; refine (strings_Cut s 58 _ hs).mono ?_; rintro e w' ⟨rfl, n, rfl⟩; rw [HC.out])
    go_ret2
    rw [HE.out]
    exact ⟨rfl, below_drewN (Below.refl _ _) _⟩
  | true =>
    cases hu : userI s with
    | false =>
      have HU := Lib.hid hu
      have HE := Lib.hid (show serverOfI s = (⟨#[]⟩, false) from by unfold serverOfI; rw [if_neg (by rw [hu]; simp)])
      clear hu
      go_enter Try.func12, Try.ntmps12
      go_wp2_with (go_at_call 26; refine (strings_Cut s 58 _ hs).mono ?_; rintro e w' ⟨rfl, n, rfl⟩; rw [HC.out])
      refine (user_any _ _ hs).mono ?_
      rintro e w' ⟨rfl, hb⟩
      rw [HU.out]
      go_wp2_with fail
      go_ret2
      rw [HE.out]
      exact ⟨rfl, (below_drewN (Below.refl _ w) _).trans hb⟩
    | true =>
      have HU := Lib.hid hu
      have HE := Lib.hid (show serverOfI s = (lowerS server, true) from by unfold serverOfI; rw [if_pos hu, HC.out])
      clear hu
      go_enter Try.func12, Try.ntmps12
      go_wp2_with (go_at_call 26; refine (strings_Cut s 58 _ hs).mono ?_; rintro e w' ⟨rfl, n, rfl⟩; rw [HC.out])
      refine (user_any _ _ hs).mono ?_
      rintro e w1 ⟨rfl, hb⟩
      rw [HU.out]
      go_wp2_with fail
      refine (lower_any _ _ hl2).mono ?_
      rintro e w2 ⟨rfl, hb2⟩
      go_wp2_with fail
      go_ret2
      rw [HE.out]
      exact ⟨rfl, ((below_drewN (Below.refl _ w) _).trans hb).trans (hb2.mono hb.size)⟩
end Go.Proofs.YtppgoppkciakgaaG
