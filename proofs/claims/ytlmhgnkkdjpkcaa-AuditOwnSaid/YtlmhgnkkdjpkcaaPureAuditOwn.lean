/- The law AuditOwn: whose bans are the bot's own, behind one more note; and all of them, rising. -/
import Derived.Test.YtlmhgnkkdjpkcaaP1
import Derived.Test.YtlmhgnkkdjpkcaaPAx4
set_option linter.unusedVariables false
set_option linter.unusedSimpArgs false
namespace Go.Proofs.YtlmhgnkkdjpkcaaG
open Go.RowKit Go.Proofs.YtlmhgnkkdjpkcaaW.PrintWords Go.Proofs.YtlmhgnkkdjpkcaaW.PrintLast Go.Proofs.YtlmhgnkkdjpkcaaW.PrintMore Go.Proofs.Ytlmhgnkkdjpkcaa.PA
set_option maxRecDepth 100000 in
theorem lives_now : outlawlaw23_lives.f 40 = some true := by kernel_rfl
theorem lives_ev : Ev (fun k => outlawlaw23_lives.f k) true := Ev.of outlawlaw23_lives.mono lives_now
theorem mem_take_succ {out : List ByteArray} {i : Nat} (h : i < out.length) (u : ByteArray) : memB u (out.take (i + 1)) = (memB u (out.take i) || decide (out[i] = u)) := by
  rw [List.take_succ_eq_append_getElem h]
  unfold memB
  rw [List.any_append]
  simp
theorem eq_decide (a b : ByteArray) : (a.toList == b.toList) = decide (a = b) := by
  by_cases h : a = b
  · subst h; simp
  · rw [decide_eq_false h]
    simpa using fun e => h (toList_inj e)
theorem rising_go (l : List S31) (room user : ByteArray) (was : Bool) (hl : l.length ≤ 1000000000) (out : List ByteArray) (ho : out = ownP l room) : ∀ d i : Nat, out.length - i = d → i ≤ out.length →
    Ev (fun k => outlawlaw23_AuditOwn.l0 k l room user was out (memB user (out.take i)) (i : Int)) (memB user out == was) := by
  have hr : Rising out := ho ▸ ownP_rising l room
  have hol : out.length ≤ 1000000000 := by have := ownP_length l room; rw [← ho] at this; omega
  intro d
  induction d with
  | zero =>
    intro i hd hi
    obtain rfl : i = out.length := by omega
    refine Ev.step (f := fun _ => some _) (fun k => ?_) (Ev.now _)
    rw [outlawlaw23_AuditOwn.l0, if_neg (by omega), List.take_length]
  | succ d ih =>
    intro i hd hi
    have hlt : i < out.length := by omega
    have hw := wrap_nat hlt (by omega)
    have hown := own_ev l room out[i] hl
    rw [← ho, show memB out[i] out = true from (memB_iff _ _).2 (List.getElem_mem hlt)] at hown
    have hnext := ih (i + 1) (by omega) (by omega)
    rw [mem_take_succ hlt] at hnext
    have hgo : Ev (fun k => (audit_Own.f k l room out[i]).bind fun t => if t = true then (if memB user (out.take i) = true then outlawlaw23_AuditOwn.l0 k l room user was out true (wrap64 ((i : Int) + 1)) else outlawlaw23_AuditOwn.l0 k l room user was out (out[i].toList == user.toList) (wrap64 ((i : Int) + 1))) else some false) (memB user out == was) := by
      refine Ev.bind (f := fun k t => if t = true then (if memB user (out.take i) = true then outlawlaw23_AuditOwn.l0 k l room user was out true (wrap64 ((i : Int) + 1)) else outlawlaw23_AuditOwn.l0 k l room user was out (out[i].toList == user.toList) (wrap64 ((i : Int) + 1))) else some false) hown ?_
      refine Ev.congr (f := fun k => outlawlaw23_AuditOwn.l0 k l room user was out (memB user (out.take i) || decide (out[i] = user)) ((i + 1 : Nat) : Int)) (fun k => ?_) hnext
      rw [if_pos rfl, hw, eq_decide]
      cases memB user (out.take i) with
      | true => rfl
      | false => rfl
    refine Ev.step (f := fun k => (audit_Own.f k l room out[i]).bind fun t => if t = true then (if memB user (out.take i) = true then outlawlaw23_AuditOwn.l0 k l room user was out true (wrap64 ((i : Int) + 1)) else outlawlaw23_AuditOwn.l0 k l room user was out (out[i].toList == user.toList) (wrap64 ((i : Int) + 1))) else some false) (fun k => ?_) hgo
    rw [outlawlaw23_AuditOwn.l0, if_pos (by omega), rdS_nat out hlt]
    by_cases h0 : 0 < i
    · have hp := wrap_pred hlt (by omega) h0
      have hless : Op.bytesLess out[i - 1].toList out[i].toList = true := List.pairwise_iff_getElem.1 hr (i - 1) i (by omega) hlt (by omega)
      rw [if_pos (by omega), hp, if_pos (by omega), if_pos (by omega), if_pos (by omega), rdS_nat out (by omega), if_pos hless]
    · rw [if_neg (by omega), if_pos (by omega)]
theorem own_tail (l : List S31) (n : S31) (room user : ByteArray) (hl : l.length ≤ 60) :
    Ev (fun k => outlawlaw23_AuditOwn.j0 k l room user false n.f0 n.f1 n.f2.f0 n.f2.f1 n.f2.f2 n.f2.f3 n.f2.f4 n.f3 n.f4) true := by
  have h1 := own_ev l room user (by omega)
  have h2 := own_ev (l ++ [n]) room user (by rw [List.length_append]; simp; omega)
  rw [ownP_snoc, step_mem (ownP_rising l room)] at h2
  have h3 := rising_go l room user (memB user (ownP l room)) (by omega) (ownP l room) rfl _ 0 rfl (Nat.zero_le _)
  rw [beq_self_eq_true] at h3
  have hJ2 : Ev (fun k => outlawlaw23_AuditOwn.j2 k l room user (memB user (ownP l room)) false) true := by
    refine Ev.step (f := fun k => (audit_Owned.f l room).bind fun t => outlawlaw23_AuditOwn.l0 k l room user (memB user (ownP l room)) t false 0) (fun k => ?_) ?_
    · rw [outlawlaw23_AuditOwn.j2, if_neg Bool.false_ne_true]
    · refine Ev.congr (f := fun k => outlawlaw23_AuditOwn.l0 k l room user (memB user (ownP l room)) (ownP l room) (memB user ((ownP l room).take 0)) ((0 : Nat) : Int)) (fun k => ?_) h3
      unfold audit_Owned.f audit_own.f
      rw [if_pos (by omega), Option.bind_some, Option.bind_some]
      rfl
  have hJ1 : Ev (fun k => outlawlaw23_AuditOwn.j1 k l room user (memB user (ownP l room)) (if touchB room user n = true then n.f2.f0 == 1 else memB user (ownP l room)) (touchB room user n) n.f0 n.f1 n.f2.f0 n.f2.f1 n.f2.f2 n.f2.f3 n.f2.f4 n.f3 n.f4) true := by
    refine Ev.step (f := fun k => outlawlaw23_AuditOwn.j2 k l room user (memB user (ownP l room)) false) (fun k => ?_) hJ2
    rw [outlawlaw23_AuditOwn.j1]
    cases touchB room user n with
    | true => rw [if_pos rfl, if_pos rfl, if_neg (by simp)]
    | false => rw [if_neg Bool.false_ne_true, if_neg Bool.false_ne_true]; simp
  refine Ev.step (f := fun k => (audit_Own.f k l room user).bind fun t => (audit_Own.f k (l ++ [n]) room user).bind fun u => outlawlaw23_AuditOwn.j1 k l room user t u (touchB room user n) n.f0 n.f1 n.f2.f0 n.f2.f1 n.f2.f2 n.f2.f3 n.f2.f4 n.f3 n.f4) (fun k => ?_) ?_
  · rw [outlawlaw23_AuditOwn.j0, if_neg Bool.false_ne_true]
    congr 1
    funext t
    have e1 : api_Note.f l = some l := by
      unfold api_Note.f
      rw [Option.bind_some, if_pos (by simp; omega)]
      rfl
    rw [e1, Option.bind_some, Option.bind_some]
    rw [if_pos (by simp; omega)]
    congr 1
    funext u
    unfold touchB
    by_cases h5 : n.f0 = 5
    · rw [if_pos h5]
      by_cases hm : n.f2.f1 = room
      · rw [if_pos (by rw [hm])]
        by_cases hu : n.f2.f2 = user
        · rw [if_pos (by rw [hu])]
          by_cases hk : n.f2.f0 = 1
          · rw [if_pos hk]; simp [h5, hm, hu, hk]
          · rw [if_neg hk]
            have : (n.f2.f0 == 1) = false := by simpa using hk
            simp [h5, hm, hu, this]
        · rw [if_neg (fun e => hu (toList_inj e))]; simp [hu]
      · rw [if_neg (fun e => hm (toList_inj e))]; simp [hm]
    · rw [if_neg h5]
      have : (n.f0 == 5) = false := by simpa using h5
      simp [this]
  · exact Ev.bind (f := fun k t => (audit_Own.f k (l ++ [n]) room user).bind fun u => outlawlaw23_AuditOwn.j1 k l room user t u (touchB room user n) n.f0 n.f1 n.f2.f0 n.f2.f1 n.f2.f2 n.f2.f3 n.f2.f4 n.f3 n.f4) h1 (Ev.bind (f := fun k u => outlawlaw23_AuditOwn.j1 k l room user (memB user (ownP l room)) u (touchB room user n) n.f0 n.f1 n.f2.f0 n.f2.f1 n.f2.f2 n.f2.f3 n.f2.f4 n.f3 n.f4) h2 hJ1)
theorem own_pass (l : List S31) (n : S31) (room user : ByteArray) : Ev (fun k => outlawlaw23_AuditOwn.j0 k l room user true n.f0 n.f1 n.f2.f0 n.f2.f1 n.f2.f2 n.f2.f3 n.f2.f4 n.f3 n.f4) true :=
  Ev.step (f := fun _ => some true) (fun k => by rw [outlawlaw23_AuditOwn.j0, if_pos rfl]) (Ev.now _)
theorem auditOwn (l : List S31) (n : S31) (room user : ByteArray) (hl : l.length ≤ 9223372036854775807) :
    Ev (fun k => outlawlaw23_AuditOwn.f k l n.f0 n.f1 n.f2.f0 n.f2.f1 n.f2.f2 n.f2.f3 n.f2.f4 n.f3 n.f4 room user) true := by
  unfold outlawlaw23_AuditOwn.f
  refine Ev.bind (f := fun k t => if t = true then _ else _) lives_ev ?_
  have hL := light_ev l 60 hl
  have hN := light_ev [n] 1 (by simp)
  have hg : ∀ b : Bool, (b = false → l.length ≤ 60) → Ev (fun k => outlawlaw23_AuditOwn.j0 k l room user b n.f0 n.f1 n.f2.f0 n.f2.f1 n.f2.f2 n.f2.f3 n.f2.f4 n.f3 n.f4) true := by
    intro b hb
    cases b with
    | true => exact own_pass l n room user
    | false => exact own_tail l n room user (hb rfl)
  simp only [if_true]
  refine Ev.bind (f := fun k t => if t = true then (outlawkit_LightNotes.f k [n] 1).bind fun t194 => (if t194 = true then (if (room.size : Int) > 300 then (outlawlaw23_AuditOwn.j0 k l room user true n.f0 n.f1 n.f2.f0 n.f2.f1 n.f2.f2 n.f2.f3 n.f2.f4 n.f3 n.f4) else (outlawlaw23_AuditOwn.j0 k l room user (decide ((user.size : Int) > 300)) n.f0 n.f1 n.f2.f0 n.f2.f1 n.f2.f2 n.f2.f3 n.f2.f4 n.f3 n.f4)) else (outlawlaw23_AuditOwn.j0 k l room user true n.f0 n.f1 n.f2.f0 n.f2.f1 n.f2.f2 n.f2.f3 n.f2.f4 n.f3 n.f4)) else (outlawlaw23_AuditOwn.j0 k l room user true n.f0 n.f1 n.f2.f0 n.f2.f1 n.f2.f2 n.f2.f3 n.f2.f4 n.f3 n.f4)) hL ?_
  by_cases hq : (l.all lightB && decide ((l.length : Int) ≤ 60)) = true
  · have hlen : l.length ≤ 60 := by
      simp only [Bool.and_eq_true, decide_eq_true_eq] at hq
      omega
    simp only [hq, if_true]
    refine Ev.bind (f := fun k t194 => (if t194 = true then (if (room.size : Int) > 300 then (outlawlaw23_AuditOwn.j0 k l room user true n.f0 n.f1 n.f2.f0 n.f2.f1 n.f2.f2 n.f2.f3 n.f2.f4 n.f3 n.f4) else (outlawlaw23_AuditOwn.j0 k l room user (decide ((user.size : Int) > 300)) n.f0 n.f1 n.f2.f0 n.f2.f1 n.f2.f2 n.f2.f3 n.f2.f4 n.f3 n.f4)) else (outlawlaw23_AuditOwn.j0 k l room user true n.f0 n.f1 n.f2.f0 n.f2.f1 n.f2.f2 n.f2.f3 n.f2.f4 n.f3 n.f4))) hN ?_
    by_cases hq2 : ([n].all lightB && decide ((([n] : List S31).length : Int) ≤ 1)) = true
    · simp only [hq2, if_true]
      by_cases hr : (room.size : Int) > 300
      · simp only [if_pos hr]
        exact hg true (fun h => by cases h)
      · simp only [if_neg hr]
        exact hg _ (fun _ => hlen)
    · simp only [if_neg hq2]
      exact hg true (fun h => by cases h)
  · simp only [if_neg hq]
    exact hg true (fun h => by cases h)
end Go.Proofs.YtlmhgnkkdjpkcaaG
