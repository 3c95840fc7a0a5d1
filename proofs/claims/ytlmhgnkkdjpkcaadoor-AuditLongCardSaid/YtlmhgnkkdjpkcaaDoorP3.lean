/- Plain facts on valid logs: the document's way (a note behind those of its transaction) says the same as the code's. -/
import Derived.Test.YtlmhgnkkdjpkcaaDoorP2
set_option linter.unusedVariables false
set_option linter.unusedSimpArgs false
namespace Go.Proofs.YtlmhgnkkdjpkcaaDoorG
open Go.RowKit Go.Proofs.YtlmhgnkkdjpkcaaDoor.PA
/-- The notes of a transaction. -/
def ofP (p : List S30) (t : Int) : List S30 := p.filter fun n => n.f1 == t
def queuedC (p : List S30) : Nat := (p.filter fun n => n.f0 == 3).length
theorem ofP_snoc (p : List S30) (n : S30) (t : Int) : ofP (p ++ [n]) t = if n.f1 = t then ofP p t ++ [n] else ofP p t := by
 unfold ofP
 rw [List.filter_append]
 by_cases h : n.f1 = t
 ·rw [if_pos h, List.filter_cons_of_pos (by simpa using h)]
  rfl
 ·rw [if_neg h, List.filter_cons_of_neg (by simpa using h)]
  simp
theorem queuedC_snoc (p : List S30) (n : S30) : queuedC (p ++ [n]) = if n.f0 = 3 then queuedC p + 1 else queuedC p := by
 unfold queuedC
 rw [List.filter_append]
 by_cases h : n.f0 = 3
 ·rw [if_pos h, List.filter_cons_of_pos (by simpa using h), List.length_append]
  rfl
 ·rw [if_neg h, List.filter_cons_of_neg (by simpa using h)]
  simp
/-- May a note stand behind those of its transaction? -/
def mayP (m : List S30) (n : S30) : Bool :=
 match m.head?, m.getLast? with
 | some h, some z =>
  if h.f0 = 3 ∧ endedB z.f0 = false ∧ eqL h.f2 n.f2 = true then
   (if n.f0 = 4 then true else if n.f0 = 5 ∨ n.f0 = 7 ∨ n.f0 = 6 then z.f0 == 4 else if n.f0 = 8 then !(z.f0 == 4) else false)
  else false
 | _, _ => false
/-- May a note stand behind some? -/
def oneP (p : List S30) (n : S30) : Bool :=
 if n.f0 = 1 ∨ n.f0 = 2 ∨ n.f0 = 9 then n.f1 == 0
 else if n.f0 = 3 then decide (n.f1 = (queuedC p : Int) + 1 ∧ 1 ≤ n.f2.f0 ∧ n.f2.f0 ≤ 4)
 else decide (0 < n.f1) && mayP (ofP p n.f1) n
/-- What is known of a followed prefix, in the document's words. -/
structure InvJ (p : List S30) (last : Int) (f : Int → Option (S28 × Bool)) : Prop where
 q : (queuedC p : Int) = last
 le : ∀ n ∈ p, n.f1 ≤ last
 yes : ∀ t a s, f t = some (a, s) → 1 ≤ t ∧ ∃ h z, (ofP p t).head? = some h ∧ h.f0 = 3 ∧ h.f2 = a ∧ (ofP p t).getLast? = some z ∧ endedB z.f0 = false ∧ s = (z.f0 == 4)
 no : ∀ t, 1 ≤ t → f t = none → (ofP p t).head? = none ∨ ∃ z, (ofP p t).getLast? = some z ∧ endedB z.f0 = true
theorem InvJ.start : InvJ [] 0 (fun _ => none) := ⟨rfl, (fun n h => by cases h), (fun t a s h => by cases h), fun t _ _ => .inl rfl⟩
theorem head_snoc {m : List S30} {h n : S30} (e : m.head? = some h) : (m ++ [n]).head? = some h := by
 cases m with
 | nil => cases e
 | cons x m => exact e
theorem last_snoc (m : List S30) (n : S30) : (m ++ [n]).getLast? = some n := by simp
theorem endedB_3 : endedB 3 = false := rfl
theorem InvJ.same {p : List S30} {last : Int} {f : Int → Option (S28 × Bool)} {n : S30} (h : InvJ p last f) (h0 : n.f1 = 0) (h3 : n.f0 ≠ 3) : InvJ (p ++ [n]) last f := by
 have hl : 0 ≤ last := by have := h.q; omega
 refine ⟨by rw [queuedC_snoc, if_neg h3]; exact h.q, fun x hx => ?_, fun t a s hf => ?_, fun t ht hf => ?_⟩
 ·rcases List.mem_append.1 hx with hx | hx
  ·exact h.le x hx
  ·rw [List.mem_singleton.1 hx, h0]
   exact hl
 ·obtain ⟨h1, h2⟩ := h.yes t a s hf
  rw [ofP_snoc, if_neg (by omega)]
  exact ⟨h1, h2⟩
 ·rw [ofP_snoc, if_neg (by omega)]
  exact h.no t ht hf
theorem InvJ.step {p : List S30} {last l' : Int} {f f' : Int → Option (S28 × Bool)} {n : S30} (h : InvJ p last f) (ht : takesP last f n = some (l', f')) : InvJ (p ++ [n]) l' f' := by
 have hl : 0 ≤ last := by have := h.q; omega
 rcases takes_cases ht with ⟨hk, h0, rfl, rfl⟩ | ⟨h3, h1, rfl, rfl⟩ | ⟨a, s, hf, rfl, hr⟩
 ·exact h.same h0 (by omega)
 ·have hof : ofP p n.f1 = [] := by
   unfold ofP
   rw [List.filter_eq_nil_iff]
   intro x hx e
   have := h.le x hx
   have : x.f1 = n.f1 := by simpa using e
   omega
  refine ⟨by rw [queuedC_snoc, if_pos h3]; have := h.q; omega, fun x hx => ?_, fun t a s hf => ?_, fun t ht hf => ?_⟩
  ·rcases List.mem_append.1 hx with hx | hx
   ·have := h.le x hx; omega
   ·rw [List.mem_singleton.1 hx]; omega
  ·unfold putT at hf
   by_cases e : t = n.f1
   ·subst e
    rw [if_pos rfl] at hf
    cases hf
    rw [ofP_snoc, if_pos rfl, hof]
    exact ⟨by omega, n, n, rfl, h3, rfl, rfl, by rw [h3]; rfl, by rw [h3]; rfl⟩
   ·rw [if_neg e] at hf
    rw [ofP_snoc, if_neg (fun x => e x.symm)]
    exact h.yes t a s hf
  ·unfold putT at hf
   by_cases e : t = n.f1
   ·rw [if_pos e] at hf; cases hf
   ·rw [if_neg e] at hf
    rw [ofP_snoc, if_neg (fun x => e x.symm)]
    exact h.no t ht hf
 ·obtain ⟨ht1, hd, z, hh, hh3, hha, hz, hze, hs⟩ := h.yes _ _ _ hf
  have hle : n.f1 ≤ l' := by
   have hm : hd ∈ ofP p n.f1 := List.mem_of_mem_head? hh
   unfold ofP at hm
   rw [List.mem_filter] at hm
   have h1 := h.le hd hm.1
   have : hd.f1 = n.f1 := by simpa using hm.2
   omega
  have hk3 : n.f0 ≠ 3 := by rcases hr with ⟨e, _⟩ | ⟨e, _⟩ | ⟨(⟨e | e, _⟩ | ⟨e, _⟩), _⟩ <;> omega
  have hq : (queuedC (p ++ [n]) : Int) = l' := by rw [queuedC_snoc, if_neg hk3]; exact h.q
  have hle2 : ∀ x ∈ p ++ [n], x.f1 ≤ l' := fun x hx => by
   rcases List.mem_append.1 hx with hx | hx
   ·exact h.le x hx
   ·rw [List.mem_singleton.1 hx]; exact hle
  have other : ∀ (y : Option (S28 × Bool)), (∀ a' s', y = some (a', s') → 1 ≤ n.f1 ∧ ∃ h z, (ofP (p ++ [n]) n.f1).head? = some h ∧ h.f0 = 3 ∧ h.f2 = a' ∧ (ofP (p ++ [n]) n.f1).getLast? = some z ∧ endedB z.f0 = false ∧ s' = (z.f0 == 4)) →
    (y = none → ∃ z, (ofP (p ++ [n]) n.f1).getLast? = some z ∧ endedB z.f0 = true) → InvJ (p ++ [n]) l' (putT f n.f1 y) := by
   intro y hy hn
   refine ⟨hq, hle2, fun t a' s' hf' => ?_, fun t ht hf' => ?_⟩
   ·unfold putT at hf'
    by_cases e : t = n.f1
    ·subst e
     rw [if_pos rfl] at hf'
     exact hy a' s' hf'
    ·rw [if_neg e] at hf'
     rw [ofP_snoc, if_neg (fun x => e x.symm)]
     exact h.yes t a' s' hf'
   ·unfold putT at hf'
    by_cases e : t = n.f1
    ·subst e
     rw [if_pos rfl] at hf'
     exact .inr (hn hf')
    ·rw [if_neg e] at hf'
     rw [ofP_snoc, if_neg (fun x => e x.symm)]
     exact h.no t ht hf'
  have hlast : (ofP (p ++ [n]) n.f1).getLast? = some n := by rw [ofP_snoc, if_pos rfl]; exact last_snoc _ _
  have hhead : (ofP (p ++ [n]) n.f1).head? = some hd := by rw [ofP_snoc, if_pos rfl]; exact head_snoc hh
  rcases hr with ⟨e, rfl⟩ | ⟨e, _, rfl⟩ | ⟨he, rfl⟩
  ·exact other _ (fun a' s' x => by cases x; exact ⟨ht1, hd, n, hhead, hh3, hha, hlast, by rw [e]; rfl, by rw [e]; rfl⟩) (fun x => by cases x)
  ·exact other _ (fun a' s' x => by cases x; exact ⟨ht1, hd, n, hhead, hh3, hha, hlast, by rw [e]; rfl, by rw [e]; rfl⟩) (fun x => by cases x)
  ·refine other _ (fun a' s' x => by cases x) (fun _ => ⟨n, hlast, ?_⟩)
   rcases he with ⟨e | e, _⟩ | ⟨e, _⟩ <;> rw [e] <;> rfl
theorem Runs.invJ {p : List S30} {last : Int} {f : Int → Option (S28 × Bool)} (h : Runs p last f) : InvJ p last f := by
 induction h with
 | nil => exact InvJ.start
 | snoc h ht ih => exact ih.step ht
theorem mayP_none {m : List S30} {n : S30} (h : m.head? = none) : mayP m n = false := by unfold mayP; rw [h]
theorem mayP_val {m : List S30} {n h z : S30} (h1 : m.head? = some h) (h2 : m.getLast? = some z) : mayP m n =
  if h.f0 = 3 ∧ endedB z.f0 = false ∧ eqL h.f2 n.f2 = true then (if n.f0 = 4 then true else if n.f0 = 5 ∨ n.f0 = 7 ∨ n.f0 = 6 then z.f0 == 4 else if n.f0 = 8 then !(z.f0 == 4) else false) else false := by
 unfold mayP
 rw [h1, h2]
/-- One note more: the code's way says what the document's says. -/
theorem takes_one {p : List S30} {last : Int} {f : Int → Option (S28 × Bool)} {n : S30} (h : InvJ p last f) (hpos : ∀ t, (f t).isSome = true → 1 ≤ t) : (takesP last f n).isSome = (decide (1 ≤ n.f0 ∧ n.f0 ≤ 9) && (eqN n (bareP n) && oneP p n)) := by
 cases hb : eqN n (bareP n) with
 | false =>
  unfold takesP
  rw [if_pos hb]
  simp
 | true =>
  rw [Bool.true_and]
  unfold oneP
  by_cases h1 : n.f0 = 1 ∨ n.f0 = 2 ∨ n.f0 = 9
  ·rw [tp_pass hb h1, if_pos h1]
   have h0 : n.f1 = 0 := by
    have := (eqN_iff _ _).1 hb
    rw [this]
    unfold bareP
    rcases h1 with h1 | h1 | h1
    ·rw [if_pos h1]
    ·rw [if_neg (by omega), if_pos h1]
    ·rw [if_neg (by omega), if_neg (by omega), if_pos h1]
   rw [h0, decide_eq_true (by omega)]
   rfl
  ·rw [if_neg h1]
   by_cases h3 : n.f0 = 3
   ·rw [tp_three hb h3, if_pos h3, h.q, decide_eq_true (show 1 ≤ n.f0 ∧ n.f0 ≤ 9 by omega), Bool.true_and]
    by_cases d1 : n.f1 = last + 1
    ·rw [if_pos d1]
     by_cases d2 : 1 ≤ n.f2.f0
     ·rw [if_pos d2]
      by_cases d3 : n.f2.f0 ≤ 4
      ·rw [if_pos d3, decide_eq_true ⟨d1, d2, d3⟩]; rfl
      ·rw [if_neg d3, decide_eq_false (fun x => d3 x.2.2)]; rfl
     ·rw [if_neg d2, decide_eq_false (fun x => d2 x.2.1)]; rfl
    ·rw [if_neg d1, decide_eq_false (fun x => d1 x.1)]; rfl
   ·rw [if_neg h3]
    have k1 : n.f0 ≠ 1 := fun e => h1 (.inl e)
    have k2 : n.f0 ≠ 2 := fun e => h1 (.inr (.inl e))
    have k9 : n.f0 ≠ 9 := fun e => h1 (.inr (.inr e))
    cases hf : f n.f1 with
    | none =>
     rw [tp_no hb k1 k2 k9 h3 (fun a s e => by rw [hf] at e; cases e)]
     by_cases hp : 0 < n.f1
     ·rcases h.no n.f1 (by omega) hf with e | ⟨z, hz, he⟩
      ·rw [mayP_none e]; simp
      ·cases hh : (ofP p n.f1).head? with
       | none => rw [mayP_none hh]; simp
       | some hd =>
        rw [mayP_val hh hz, if_neg (by rw [he]; simp)]
        simp
     ·rw [decide_eq_false hp]; simp
    | some y =>
     obtain ⟨a, s⟩ := y
     obtain ⟨ht1, hd, z, hh, hh3, hha, hz, hze, hs⟩ := h.yes _ _ _ hf
     rw [decide_eq_true (show 0 < n.f1 by omega), Bool.true_and, mayP_val hh hz]
     cases he : eqL a n.f2 with
     | false =>
      rw [tp_no hb k1 k2 k9 h3 (fun b u e => by rw [hf] at e; cases e; exact he), if_neg (fun x => by
       have := x.2.2
       rw [hha, he] at this
       cases this)]
      simp
     | true =>
      rw [if_pos (show hd.f0 = 3 ∧ endedB z.f0 = false ∧ eqL hd.f2 n.f2 = true from ⟨hh3, hze, by rw [hha]; exact he⟩), tp_yes hb k1 k2 k9 h3 hf he, ← hs]
      by_cases g4 : n.f0 = 4
      ·rw [if_pos g4, if_pos g4, decide_eq_true (show 1 ≤ n.f0 ∧ n.f0 ≤ 9 by omega)]; rfl
      rw [if_neg g4, if_neg g4]
      by_cases g6 : n.f0 = 6
      ·rw [if_pos g6, if_pos (show n.f0 = 5 ∨ n.f0 = 7 ∨ n.f0 = 6 by omega), decide_eq_true (show 1 ≤ n.f0 ∧ n.f0 ≤ 9 by omega)]; cases s <;> rfl
      rw [if_neg g6]
      by_cases g5 : n.f0 = 5
      ·rw [if_pos g5, if_pos (show n.f0 = 5 ∨ n.f0 = 7 ∨ n.f0 = 6 by omega), decide_eq_true (show 1 ≤ n.f0 ∧ n.f0 ≤ 9 by omega)]; cases s <;> rfl
      rw [if_neg g5]
      by_cases g7 : n.f0 = 7
      ·rw [if_pos g7, if_pos (show n.f0 = 5 ∨ n.f0 = 7 ∨ n.f0 = 6 by omega), decide_eq_true (show 1 ≤ n.f0 ∧ n.f0 ≤ 9 by omega)]; cases s <;> rfl
      rw [if_neg g7, if_neg (show ¬ (n.f0 = 5 ∨ n.f0 = 7 ∨ n.f0 = 6) by omega)]
      by_cases g8 : n.f0 = 8
      ·rw [if_pos g8, if_pos g8, decide_eq_true (show 1 ≤ n.f0 ∧ n.f0 ≤ 9 by omega)]; cases s <;> rfl
      rw [if_neg g8, if_neg g8, Bool.and_false]
      rfl
end Go.Proofs.YtlmhgnkkdjpkcaaDoorG
