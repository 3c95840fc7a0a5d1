/- The document's functions on logs, from some round on: queued, Of, may, one, Life; the code's Of. -/
import Derived.Test.YtlmhgnkkdjpkcaaDoorP3
import Derived.Test.YtlmhgnkkdjpkcaaDoorP1
import Derived.Test.YtlmhgnkkdjpkcaaDoorRc
import Derived.Test.YtlmhgnkkdjpkcaaDoorPAx8
import Derived.Test.YtlmhgnkkdjpkcaaDoorPAx15
set_option linter.unusedVariables false
set_option linter.unusedSimpArgs false
namespace Go.Proofs.YtlmhgnkkdjpkcaaDoorG
open Go.RowKit Go.Proofs.YtlmhgnkkdjpkcaaDoor.PA Go.Proofs.YtlmhgnkkdjpkcaaDoorW.PrintWords
theorem rof_go (l : List S30) (t : Int) (hl : l.length ≤ 1000000000) : ∀ d i : Nat, ∀ acc : List S30, l.length - i = d → i ≤ l.length → acc.length ≤ i → Ev (fun k => outlawref23_Of.l0 k l t acc (i : Int)) (acc ++ ofP (l.drop i) t) := by
 intro d
 induction d with
 | zero =>
  intro i acc hd hi ha
  obtain rfl : i = l.length := by omega
  refine Ev.step (f := fun _ => some _) (fun k => ?_) (Ev.now _)
  rw [outlawref23_Of.l0, if_neg (by omega), List.drop_length]
  simp [ofP]
 | succ d ih =>
  intro i acc hd hi ha
  have hlt : i < l.length := by omega
  have hw := wrap_nat hlt (by omega)
  rw [List.drop_eq_getElem_cons hlt]
  by_cases hk : l[i].f1 = t
  ·rw [show ofP (l[i] :: l.drop (i + 1)) t = l[i] :: ofP (l.drop (i + 1)) t from List.filter_cons_of_pos (by simpa using hk)]
   have := ih (i + 1) (acc ++ [l[i]]) (by omega) (by omega) (by simp; omega)
   rw [List.append_assoc] at this
   refine Ev.step (f := fun k => outlawref23_Of.l0 k l t (acc ++ [l[i]]) ((i + 1 : Nat) : Int)) (fun k => ?_) this
   rw [outlawref23_Of.l0, if_pos (by omega), if_pos (by omega), rd_nat l hlt, if_pos hk, if_pos (by omega), hw]
  ·rw [show ofP (l[i] :: l.drop (i + 1)) t = ofP (l.drop (i + 1)) t from List.filter_cons_of_neg (by simpa using hk)]
   refine Ev.step (f := fun k => outlawref23_Of.l0 k l t acc ((i + 1 : Nat) : Int)) (fun k => ?_) (ih (i + 1) acc (by omega) (by omega) (by omega))
   rw [outlawref23_Of.l0, if_pos (by omega), if_pos (by omega), rd_nat l hlt, if_neg hk, hw]
theorem rof_ev (l : List S30) (t : Int) (hl : l.length ≤ 1000000000) : Ev (fun k => outlawref23_Of.f k l t) (ofP l t) := rof_go l t hl _ 0 [] rfl (Nat.zero_le _) (Nat.zero_le _)
theorem aof_go (l : List S30) (t : Int) (hl : l.length ≤ 1000000000) : ∀ d i : Nat, ∀ acc : List S30, l.length - i = d → i ≤ l.length → acc.length ≤ i → Ev (fun k => audit_Of.l0 k t acc l (l.length : Int) (i : Int)) (acc ++ ofP (l.drop i) t) := by
 intro d
 induction d with
 | zero =>
  intro i acc hd hi ha
  obtain rfl : i = l.length := by omega
  refine Ev.step (f := fun _ => some _) (fun k => ?_) (Ev.now _)
  rw [audit_Of.l0, if_neg (by omega), List.drop_length]
  simp [ofP]
 | succ d ih =>
  intro i acc hd hi ha
  have hlt : i < l.length := by omega
  have hw := wrap_nat hlt (by omega)
  rw [List.drop_eq_getElem_cons hlt]
  by_cases hk : l[i].f1 = t
  ·rw [show ofP (l[i] :: l.drop (i + 1)) t = l[i] :: ofP (l.drop (i + 1)) t from List.filter_cons_of_pos (by simpa using hk)]
   have := ih (i + 1) (acc ++ [l[i]]) (by omega) (by omega) (by simp; omega)
   rw [List.append_assoc] at this
   refine Ev.step (f := fun k => audit_Of.l0 k t (acc ++ [l[i]]) l (l.length : Int) ((i + 1 : Nat) : Int)) (fun k => ?_) this
   rw [audit_Of.l0, if_pos (by omega), if_pos (by omega), if_pos (by omega), rd_nat l hlt, if_pos hk, if_pos (by omega), hw]
  ·rw [show ofP (l[i] :: l.drop (i + 1)) t = ofP (l.drop (i + 1)) t from List.filter_cons_of_neg (by simpa using hk)]
   refine Ev.step (f := fun k => audit_Of.l0 k t acc l (l.length : Int) ((i + 1 : Nat) : Int)) (fun k => ?_) (ih (i + 1) acc (by omega) (by omega) (by omega))
   rw [audit_Of.l0, if_pos (by omega), if_pos (by omega), if_pos (by omega), rd_nat l hlt, if_neg hk, hw]
theorem aof_ev (l : List S30) (t : Int) (hl : l.length ≤ 1000000000) : Ev (fun k => audit_Of.f k l t) (ofP l t) := aof_go l t hl _ 0 [] rfl (Nat.zero_le _) (Nat.zero_le _)
theorem queued_go (l : List S30) (hl : l.length ≤ 1000000000) : ∀ d i c : Nat, l.length - i = d → i ≤ l.length → c ≤ i → Ev (fun k => outlawref23_queued.l0 k l (c : Int) (i : Int)) ((c + queuedC (l.drop i) : Nat) : Int) := by
 intro d
 induction d with
 | zero =>
  intro i c hd hi hc
  obtain rfl : i = l.length := by omega
  refine Ev.step (f := fun _ => some _) (fun k => ?_) (Ev.now _)
  rw [outlawref23_queued.l0, if_neg (by omega), List.drop_length]
  simp [queuedC]
 | succ d ih =>
  intro i c hd hi hc
  have hlt : i < l.length := by omega
  have hw := wrap_nat hlt (by omega)
  have hwc := wrap_nat (i := c) (n := l.length) (by omega) (by omega)
  rw [List.drop_eq_getElem_cons hlt]
  by_cases hk : l[i].f0 = 3
  ·rw [show queuedC (l[i] :: l.drop (i + 1)) = queuedC (l.drop (i + 1)) + 1 from by unfold queuedC; rw [List.filter_cons_of_pos (by simpa using hk)]; rfl]
   have := ih (i + 1) (c + 1) (by omega) (by omega) (by omega)
   rw [show c + 1 + queuedC (l.drop (i + 1)) = c + (queuedC (l.drop (i + 1)) + 1) by omega] at this
   refine Ev.step (f := fun k => outlawref23_queued.l0 k l ((c + 1 : Nat) : Int) ((i + 1 : Nat) : Int)) (fun k => ?_) this
   rw [outlawref23_queued.l0, if_pos (by omega), if_pos (by omega), rd_nat l hlt, if_pos hk, hw, hwc]
  ·rw [show queuedC (l[i] :: l.drop (i + 1)) = queuedC (l.drop (i + 1)) from by unfold queuedC; rw [List.filter_cons_of_neg (by simpa using hk)]]
   refine Ev.step (f := fun k => outlawref23_queued.l0 k l (c : Int) ((i + 1 : Nat) : Int)) (fun k => ?_) (ih (i + 1) c (by omega) (by omega) (by omega))
   rw [outlawref23_queued.l0, if_pos (by omega), if_pos (by omega), rd_nat l hlt, if_neg hk, hw]
theorem queuedC_le (l : List S30) : queuedC l ≤ l.length := List.length_filter_le _ _
theorem queued_ev (l : List S30) (hl : l.length ≤ 1000000000) : Ev (fun k => outlawref23_queued.f k l) (queuedC l : Int) := by
 have := queued_go l hl _ 0 0 rfl (Nat.zero_le _) (Nat.zero_le _)
 rw [Nat.zero_add] at this
 exact this
theorem head_rd (m : List S30) (h : 0 < m.length) : m.head? = some (rd_T30 m 0) := by
 cases m with
 | nil => simp at h
 | cons x m => rfl
theorem last_rd (m : List S30) (h : 0 < m.length) : m.getLast? = some (rd_T30 m ((m.length - 1 : Nat) : Int)) := by
 rw [rd_nat m (by omega), List.getLast?_eq_getElem?, List.getElem?_eq_getElem (by omega)]
theorem may_j1 (m : List S30) (n : S30) (k : Nat) : outlawref23_may.j0 (k + 1) m true n.f0 n.f1 n.f2.f0 n.f2.f1 n.f2.f2 n.f2.f3 n.f2.f4 n.f3 n.f4 = some false := by
 rw [outlawref23_may.j0, if_pos rfl]
theorem may_ev (m : List S30) (n : S30) (hl : m.length ≤ 1000000000) (hr : 4 ≤ n.f0 ∧ n.f0 ≤ 8) : Ev (fun k => outlawref23_may.f k m n.f0 n.f1 n.f2.f0 n.f2.f1 n.f2.f2 n.f2.f3 n.f2.f4 n.f3 n.f4) (mayP m n) := by
 have bad : Ev (fun k => outlawref23_may.j0 k m true n.f0 n.f1 n.f2.f0 n.f2.f1 n.f2.f2 n.f2.f3 n.f2.f4 n.f3 n.f4) false := Ev.step (f := fun _ => some false) (fun k => may_j1 m n k) (Ev.now _)
 by_cases h0 : m.length = 0
 ·have hm : m.head? = none := by rw [List.eq_nil_of_length_eq_zero h0]; rfl
  rw [mayP_none hm]
  refine Ev.congr (fun k => ?_) bad
  unfold outlawref23_may.f
  rw [if_pos (by omega)]
 ·have hh := head_rd m (by omega)
  have hz := last_rd m (by omega)
  have hw : wrap64 ((m.length : Int) - 1) = ((m.length - 1 : Nat) : Int) := by
   have := wrap_pred (i := m.length) (n := m.length + 1) (by omega) (by omega) (by omega)
   exact this
  obtain ⟨hd, hhd⟩ : ∃ hd, hd = rd_T30 m 0 := ⟨_, rfl⟩
  obtain ⟨z, hzz⟩ : ∃ z, z = rd_T30 m ((m.length - 1 : Nat) : Int) := ⟨_, rfl⟩
  rw [← hhd] at hh
  rw [← hzz] at hz
  rw [mayP_val hh hz]
  by_cases h3 : hd.f0 = 3
  ·cases he : endedB z.f0 with
   | true =>
    rw [if_neg (by simp)]
    refine Ev.congr (fun k => ?_) bad
    unfold outlawref23_may.f
    rw [if_neg (by omega), if_pos (by omega), ← hhd, if_pos h3, hw, if_pos (by omega), if_pos (by omega), ← hzz, ends_val, he, Option.bind_some, if_pos rfl]
   | false =>
    have hx : (!hd.f2.f0 == n.f2.f0 || (!hd.f2.f1.toList == n.f2.f1.toList || (!hd.f2.f2.toList == n.f2.f2.toList || (!hd.f2.f3.toList == n.f2.f3.toList || (!hd.f2.f4.toList == n.f2.f4.toList))))) = !eqL hd.f2 n.f2 := by
     unfold eqL
     simp only [Bool.not_and]
    have hf : ∀ k, outlawref23_may.f k m n.f0 n.f1 n.f2.f0 n.f2.f1 n.f2.f2 n.f2.f3 n.f2.f4 n.f3 n.f4 = outlawref23_may.j0 k m (!eqL hd.f2 n.f2) n.f0 n.f1 n.f2.f0 n.f2.f1 n.f2.f2 n.f2.f3 n.f2.f4 n.f3 n.f4 := fun k => by
     unfold outlawref23_may.f
     rw [if_neg (by omega), if_pos (by omega), ← hhd, if_pos h3, hw, if_pos (by omega), if_pos (by omega), ← hzz, ends_val, he, Option.bind_some, if_neg (by decide), hx]
    cases hq : eqL hd.f2 n.f2 with
    | false =>
     rw [if_neg (by simp)]
     exact Ev.congr (fun k => by rw [hf, hq]; rfl) bad
    | true =>
     rw [if_pos ⟨h3, rfl, rfl⟩]
     refine Ev.step (f := fun _ => some _) (fun k => ?_) (Ev.now _)
     rw [hf, hq, outlawref23_may.j0, if_neg (by decide), hw, if_pos (by omega), if_pos (by omega), ← hzz]
     by_cases g4 : n.f0 = 4
     ·rw [if_pos g4, if_pos g4]
     rw [if_neg g4, if_neg g4]
     by_cases g5 : n.f0 = 5
     ·rw [if_pos g5, if_pos (show n.f0 = 5 ∨ n.f0 = 7 ∨ n.f0 = 6 by omega)]
     rw [if_neg g5]
     by_cases g7 : n.f0 = 7
     ·rw [if_pos g7, if_pos (show n.f0 = 5 ∨ n.f0 = 7 ∨ n.f0 = 6 by omega)]
     rw [if_neg g7]
     by_cases g6 : n.f0 = 6
     ·rw [if_pos g6, if_pos (show n.f0 = 5 ∨ n.f0 = 7 ∨ n.f0 = 6 by omega)]
     rw [if_neg g6, if_neg (show ¬ (n.f0 = 5 ∨ n.f0 = 7 ∨ n.f0 = 6) by omega)]
     by_cases g8 : n.f0 = 8
     ·rw [if_pos g8, if_pos g8]
     ·rw [if_neg g8, if_neg g8]
  ·rw [if_neg (fun x => h3 x.1)]
   refine Ev.congr (fun k => ?_) bad
   unfold outlawref23_may.f
   rw [if_neg (by omega), if_pos (by omega), ← hhd, if_neg h3]
theorem bare_val (n : S30) : outlawref23_bare.f n.f0 n.f1 n.f2.f0 n.f2.f1 n.f2.f2 n.f2.f3 n.f2.f4 n.f3 n.f4 = some (eqN n (bareP n)) := by
 have hz : (z28.f1.toList = ([] : List UInt8) ∧ z28.f2.toList = ([] : List UInt8) ∧ z28.f3.toList = ([] : List UInt8) ∧ z28.f4.toList = ([] : List UInt8)) ∧ z28.f0 = 0 := ⟨⟨by kernel_rfl, by kernel_rfl, by kernel_rfl, by kernel_rfl⟩, by kernel_rfl⟩
 have he : (⟨#[]⟩ : ByteArray).toList = ([] : List UInt8) := by kernel_rfl
 unfold outlawref23_bare.f bareP eqN eqL
 by_cases h1 : n.f0 = 1
 ·rw [if_pos h1, if_pos h1]
  simp [h1, hz, he]
 rw [if_neg h1, if_neg h1]
 by_cases h2 : n.f0 = 2
 ·rw [if_pos h2, if_pos h2]
  simp [h2, hz, he]
 rw [if_neg h2, if_neg h2]
 by_cases h9 : n.f0 = 9
 ·rw [if_pos h9, if_pos h9]
  simp [h9, hz, he]
 rw [if_neg h9, if_neg h9]
 simp [he]
theorem one_ev (p : List S30) (n : S30) (hl : p.length ≤ 1000000000) (hr : 1 ≤ n.f0 ∧ n.f0 ≤ 9) : Ev (fun k => outlawref23_one.f k p n.f0 n.f1 n.f2.f0 n.f2.f1 n.f2.f2 n.f2.f3 n.f2.f4 n.f3 n.f4) (oneP p n) := by
 have hq9 := queuedC_le p
 unfold oneP
 by_cases h1 : n.f0 = 1 ∨ n.f0 = 2 ∨ n.f0 = 9
 ·rw [if_pos h1]
  refine Ev.step (f := fun _ => some _) (fun k => ?_) (Ev.now _)
  unfold outlawref23_one.f
  by_cases g1 : n.f0 = 1
  ·rw [if_pos g1, outlawref23_one.j0, if_pos (by simp [g1])]
  rw [if_neg g1]
  by_cases g2 : n.f0 = 2
  ·rw [if_pos g2, outlawref23_one.j0, if_pos (by simp [g2])]
  rw [if_neg g2, outlawref23_one.j0, if_pos (by simp; omega)]
 ·rw [if_neg h1]
  have hf : ∀ k, outlawref23_one.f k p n.f0 n.f1 n.f2.f0 n.f2.f1 n.f2.f2 n.f2.f3 n.f2.f4 n.f3 n.f4 = outlawref23_one.j0 k p n.f0 false n.f0 n.f1 n.f2.f0 n.f2.f1 n.f2.f2 n.f2.f3 n.f2.f4 n.f3 n.f4 := fun k => by
   unfold outlawref23_one.f
   rw [if_neg (by omega), if_neg (by omega), show (n.f0 == 9) = false from by rw [beq_eq_false_iff_ne]; omega]
  refine Ev.congr hf ?_
  by_cases h3 : n.f0 = 3
  ·rw [if_pos h3]
   refine Ev.step (f := fun k => (outlawref23_queued.f k p).bind fun t221 => (if n.f1 = (wrap64 (t221 + 1)) then (if n.f2.f0 ≥ 1 then (some (decide (n.f2.f0 ≤ 4))) else (some false)) else (some false))) (fun k => by rw [outlawref23_one.j0, if_neg (by decide), if_pos h3]) ?_
   refine Ev.bind (f := fun _ t221 => (if n.f1 = (wrap64 (t221 + 1)) then (if n.f2.f0 ≥ 1 then (some (decide (n.f2.f0 ≤ 4))) else (some false)) else (some false))) (queued_ev p hl) ?_
   have hw := wrap_nat (i := queuedC p) (n := p.length + 1) (by omega) (by omega)
   refine Ev.congr (f := fun _ => some _) (fun k => ?_) (Ev.now _)
   rw [hw]
   by_cases d1 : n.f1 = ((queuedC p + 1 : Nat) : Int)
   ·rw [if_pos d1]
    by_cases d2 : 1 ≤ n.f2.f0
    ·rw [if_pos d2]
     congr 1
     rw [decide_eq_decide]
     omega
    ·rw [if_neg d2, decide_eq_false (by omega)]
   ·rw [if_neg d1, decide_eq_false (by omega)]
  ·rw [if_neg h3]
   by_cases hp : 0 < n.f1
   ·rw [decide_eq_true hp, Bool.true_and]
    refine Ev.step (f := fun k => (outlawref23_Of.f k p n.f1).bind fun t222 => ((outlawref23_may.f k t222 n.f0 n.f1 n.f2.f0 n.f2.f1 n.f2.f2 n.f2.f3 n.f2.f4 n.f3 n.f4).bind fun t225 => (some t225))) (fun k => by rw [outlawref23_one.j0, if_neg (by decide), if_neg h3, if_pos hp]) ?_
    refine Ev.bind (f := fun k t222 => (outlawref23_may.f k t222 n.f0 n.f1 n.f2.f0 n.f2.f1 n.f2.f2 n.f2.f3 n.f2.f4 n.f3 n.f4).bind fun t225 => (some t225)) (rof_ev p n.f1 hl) ?_
    have hll : (ofP p n.f1).length ≤ p.length := List.length_filter_le _ _
    exact Ev.bind (f := fun _ t225 => some t225) (may_ev (ofP p n.f1) n (by omega) (by omega)) (Ev.now _)
   ·rw [decide_eq_false hp, Bool.false_and]
    refine Ev.step (f := fun _ => some false) (fun k => ?_) (Ev.now _)
    rw [outlawref23_one.j0, if_neg (by decide), if_neg h3, if_neg hp]
theorem rlife_go (l : List S30) (hl : l.length ≤ 1000000000) : ∀ d i : Nat, ∀ last f, l.length - i = d → i ≤ l.length → Runs (l.take i) last f → Ev (fun k => outlawref23_Life.l0 k l (i : Int)) (lifeP (l.drop i) (i : Int) last f) := by
 intro d
 induction d with
 | zero =>
  intro i last f hd hi hr
  obtain rfl : i = l.length := by omega
  refine Ev.step (f := fun _ => some _) (fun k => ?_) (Ev.now _)
  rw [outlawref23_Life.l0, if_neg (by omega), List.drop_length]
  rfl
 | succ d ih =>
  intro i last f hd hi hr
  have hlt : i < l.length := by omega
  have hw := wrap_nat hlt (by omega)
  rw [List.drop_eq_getElem_cons hlt]
  have hj := hr.invJ
  have ht := takes_one (n := l[i]) hj (fun t h => by
   cases hf : f t with
   | none => rw [hf] at h; cases h
   | some y => exact (hj.yes t y.1 y.2 hf).1)
  cases hq : takesP last f l[i] with
  | some y =>
   obtain ⟨l', f'⟩ := y
   rw [hq] at ht
   have ht2 := ht.symm
   simp only [Option.isSome_some, Bool.and_eq_true, decide_eq_true_eq] at ht2
   rw [lifeP_some hq]
   have hr2 : Runs (l.take (i + 1)) l' f' := by rw [List.take_succ_eq_append_getElem hlt]; exact .snoc hr hq
   have hih := ih (i + 1) l' f' (by omega) (by omega) hr2
   rw [show ((i : Int) + 1) = ((i + 1 : Nat) : Int) by omega]
   have ho := one_ev (l.take i) l[i] (by rw [List.length_take]; omega) ht2.1
   rw [ht2.2.2] at ho
   refine Ev.step (f := fun k => (outlawref23_one.f k (l.take i) l[i].f0 l[i].f1 l[i].f2.f0 l[i].f2.f1 l[i].f2.f2 l[i].f2.f3 l[i].f2.f4 l[i].f3 l[i].f4).bind fun t235 => (if t235 = true then (outlawref23_Life.l0 k l ((i + 1 : Nat) : Int)) else (some (i : Int)))) (fun k => ?_) ?_
   ·rw [outlawref23_Life.l0, if_pos (by omega), if_pos (by omega), rd_nat l hlt, if_neg (by omega), if_neg (by omega), bare_val, ht2.2.1, Option.bind_some, if_pos rfl, if_pos (by omega), hw, Int.toNat_natCast]
   ·exact Ev.bind (f := fun k t235 => if t235 = true then (outlawref23_Life.l0 k l ((i + 1 : Nat) : Int)) else (some (i : Int))) ho (Ev.congr (fun k => by rw [if_pos rfl]) hih)
  | none =>
   rw [hq] at ht
   rw [lifeP_none hq]
   by_cases hr1 : 1 ≤ l[i].f0 ∧ l[i].f0 ≤ 9
   ·rw [decide_eq_true hr1, Bool.true_and] at ht
    cases hb : eqN l[i] (bareP l[i]) with
    | false =>
     refine Ev.step (f := fun _ => some _) (fun k => ?_) (Ev.now _)
     rw [outlawref23_Life.l0, if_pos (by omega), if_pos (by omega), rd_nat l hlt, if_neg (by omega), if_neg (by omega), bare_val, hb, Option.bind_some, if_neg (by decide)]
    | true =>
     rw [hb, Bool.true_and] at ht
     have ho := one_ev (l.take i) l[i] (by rw [List.length_take]; omega) hr1
     rw [← ht] at ho
     refine Ev.step (f := fun k => (outlawref23_one.f k (l.take i) l[i].f0 l[i].f1 l[i].f2.f0 l[i].f2.f1 l[i].f2.f2 l[i].f2.f3 l[i].f2.f4 l[i].f3 l[i].f4).bind fun t235 => (if t235 = true then (outlawref23_Life.l0 k l ((i + 1 : Nat) : Int)) else (some (i : Int)))) (fun k => ?_) ?_
     ·rw [outlawref23_Life.l0, if_pos (by omega), if_pos (by omega), rd_nat l hlt, if_neg (by omega), if_neg (by omega), bare_val, hb, Option.bind_some, if_pos rfl, if_pos (by omega), hw, Int.toNat_natCast]
     ·exact Ev.bind (f := fun k t235 => if t235 = true then (outlawref23_Life.l0 k l ((i + 1 : Nat) : Int)) else (some (i : Int))) ho (Ev.congr (f := fun _ => some (i : Int)) (fun k => by rw [show (none : Option (Int × (Int → Option (S28 × Bool)))).isSome = false from rfl, if_neg (by decide)]) (Ev.now _))
   ·refine Ev.step (f := fun _ => some _) (fun k => ?_) (Ev.now _)
    by_cases g : l[i].f0 < 1
    ·rw [outlawref23_Life.l0, if_pos (by omega), if_pos (by omega), rd_nat l hlt, if_pos g]
    ·rw [outlawref23_Life.l0, if_pos (by omega), if_pos (by omega), rd_nat l hlt, if_neg g, if_pos (by omega)]
/-- The document's Life is the code's. -/
theorem rlife_ev (l : List S30) (hl : l.length ≤ 1000000000) : Ev (fun k => outlawref23_Life.f k l) (lifeP l 0 0 (fun _ => none)) := rlife_go l hl _ 0 0 (fun _ => none) rfl (Nat.zero_le _) Runs.nil
end Go.Proofs.YtlmhgnkkdjpkcaaDoorG
