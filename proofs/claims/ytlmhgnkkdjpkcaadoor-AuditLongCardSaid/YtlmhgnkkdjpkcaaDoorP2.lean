/- Plain facts on valid logs: what holds of a followed prefix. -/
import Derived.Test.YtlmhgnkkdjpkcaaDoorB5
set_option linter.unusedVariables false
set_option linter.unusedSimpArgs false
namespace Go.Proofs.YtlmhgnkkdjpkcaaDoorG
open Go.RowKit Go.Proofs.YtlmhgnkkdjpkcaaDoor.PA
theorem takes_cases {last l' : Int} {f f' : Int → Option (S28 × Bool)} {n : S30} (h : takesP last f n = some (l', f')) :
  ((n.f0 = 1 ∨ n.f0 = 2 ∨ n.f0 = 9) ∧ n.f1 = 0 ∧ l' = last ∧ f' = f) ∨ (n.f0 = 3 ∧ n.f1 = last + 1 ∧ l' = last + 1 ∧ f' = putT f n.f1 (some (n.f2, false))) ∨
  ∃ a s, f n.f1 = some (a, s) ∧ l' = last ∧ ((n.f0 = 4 ∧ f' = putT f n.f1 (some (a, true))) ∨ (n.f0 = 6 ∧ s = true ∧ f' = putT f n.f1 (some (a, false))) ∨ (((n.f0 = 5 ∨ n.f0 = 7) ∧ s = true ∨ n.f0 = 8 ∧ s = false) ∧ f' = putT f n.f1 none)) := by
 cases hn : eqN n (bareP n) with
 | false => unfold takesP at h; rw [if_pos hn] at h; cases h
 | true =>
  by_cases h1 : n.f0 = 1 ∨ n.f0 = 2 ∨ n.f0 = 9
  ·rw [tp_pass hn h1] at h
   cases h
   refine .inl ⟨h1, ?_, rfl, rfl⟩
   have := (eqN_iff _ _).1 hn
   rw [this]
   unfold bareP
   rcases h1 with h1 | h1 | h1
   ·rw [if_pos h1]
   ·rw [if_neg (by omega), if_pos h1]
   ·rw [if_neg (by omega), if_neg (by omega), if_pos h1]
  ·by_cases h3 : n.f0 = 3
   ·rw [tp_three hn h3] at h
    by_cases d1 : n.f1 = last + 1
    ·rw [if_pos d1] at h
     by_cases d2 : 1 ≤ n.f2.f0
     ·rw [if_pos d2] at h
      by_cases d3 : n.f2.f0 ≤ 4
      ·rw [if_pos d3] at h; cases h; exact .inr (.inl ⟨h3, d1, d1, rfl⟩)
      ·rw [if_neg d3] at h; cases h
     ·rw [if_neg d2] at h; cases h
    ·rw [if_neg d1] at h; cases h
   ·have k1 : n.f0 ≠ 1 := fun e => h1 (.inl e)
    have k2 : n.f0 ≠ 2 := fun e => h1 (.inr (.inl e))
    have k9 : n.f0 ≠ 9 := fun e => h1 (.inr (.inr e))
    cases hf : f n.f1 with
    | none => rw [tp_no hn k1 k2 k9 h3 (fun a s e => by rw [hf] at e; cases e)] at h; cases h
    | some y =>
     obtain ⟨a, s⟩ := y
     cases he : eqL a n.f2 with
     | false => rw [tp_no hn k1 k2 k9 h3 (fun b u e => by rw [hf] at e; cases e; exact he)] at h; cases h
     | true =>
      rw [tp_yes hn k1 k2 k9 h3 hf he] at h
      refine .inr (.inr ⟨a, s, rfl, ?_⟩)
      by_cases g4 : n.f0 = 4
      ·rw [if_pos g4] at h; cases h; exact ⟨rfl, .inl ⟨g4, rfl⟩⟩
      rw [if_neg g4] at h
      by_cases g6 : n.f0 = 6
      ·rw [if_pos g6] at h
       by_cases hs : s = true
       ·rw [if_pos hs] at h; cases h; exact ⟨rfl, .inr (.inl ⟨g6, hs, rfl⟩)⟩
       ·rw [if_neg hs] at h; cases h
      rw [if_neg g6] at h
      by_cases g5 : n.f0 = 5
      ·rw [if_pos g5] at h
       by_cases hs : s = true
       ·rw [if_pos hs] at h; cases h; exact ⟨rfl, .inr (.inr ⟨.inl ⟨.inl g5, hs⟩, rfl⟩)⟩
       ·rw [if_neg hs] at h; cases h
      rw [if_neg g5] at h
      by_cases g7 : n.f0 = 7
      ·rw [if_pos g7] at h
       by_cases hs : s = true
       ·rw [if_pos hs] at h; cases h; exact ⟨rfl, .inr (.inr ⟨.inl ⟨.inr g7, hs⟩, rfl⟩)⟩
       ·rw [if_neg hs] at h; cases h
      rw [if_neg g7] at h
      by_cases g8 : n.f0 = 8
      ·rw [if_pos g8] at h
       by_cases hs : s = true
       ·rw [if_pos hs] at h; cases h
       ·rw [if_neg hs] at h; cases h; exact ⟨rfl, .inr (.inr ⟨.inr ⟨g8, by simpa using hs⟩, rfl⟩)⟩
      rw [if_neg g8] at h
      cases h
/-- What holds of a prefix that was followed. -/
structure InvA (p : List S30) (last : Int) (f : Int → Option (S28 × Bool)) (ge gs : Int → Option Int) (opn : Int) : Prop where
 last0 : 0 ≤ last
 pos : ∀ t, (f t).isSome = true → 1 ≤ t
 fin : ∀ t, (f t).isSome = (queuedIn p t && !endedIn p t)
 qle : ∀ t, queuedIn p t = true → t ≤ last
 eq : ∀ t, endedIn p t = true → queuedIn p t = true
 ended : ∀ t, (ge t).getD 0 = if endedIn p t = true then 1 else 0
 sent : ∀ t a s, f t = some (a, s) → (gs t).getD 0 = if s = true then 1 else 0
 sle : ∀ t, last < t → (gs t).getD 0 = 0
 cnt : ∃ L : List Int, L.Nodup ∧ (∀ t, t ∈ L ↔ (f t).isSome = true) ∧ opn = L.length ∧ L.length ≤ p.length
theorem InvA.start : InvA [] 0 (fun _ => none) (fun _ => none) (fun _ => none) 0 :=
 ⟨by omega, fun t h => (by cases h), fun t => rfl, fun t h => (by cases h), fun t h => (by cases h), fun t => rfl, fun t a s h => (by cases h), fun t _ => rfl, [], List.nodup_nil, fun t => by simp, rfl, by simp⟩
theorem putT_some (f : Int → Option (S28 × Bool)) (t u : Int) (x : S28 × Bool) : (putT f t (some x) u).isSome = ((f u).isSome || (t == u)) := by
 unfold putT
 by_cases h : u = t
 ·subst h; simp
 ·rw [if_neg h]
  have : (t == u) = false := by simpa using fun e => h e.symm
  simp [this]
theorem putT_none (f : Int → Option (S28 × Bool)) (t u : Int) : (putT f t none u).isSome = ((f u).isSome && !(t == u)) := by
 unfold putT
 by_cases h : u = t
 ·subst h; simp
 ·rw [if_neg h]
  have : (t == u) = false := by simpa using fun e => h e.symm
  simp [this]
section
variable {p : List S30} {last opn : Int} {f : Int → Option (S28 × Bool)} {ge gs : Int → Option Int} {n : S30}
theorem InvA.open_not (h : InvA p last f ge gs opn) {t : Int} {a : S28} {s : Bool} (ht : f t = some (a, s)) : queuedIn p t = true ∧ endedIn p t = false := by
 have := h.fin t
 rw [ht] at this
 simp at this
 exact this
theorem InvA.pass (h : InvA p last f ge gs opn) (h3 : n.f0 ≠ 3) (he : endedB n.f0 = false) : InvA (p ++ [n]) last f ge gs opn := by
 have q3 : (n.f0 == 3) = false := by simpa using h3
 have hq : ∀ t, queuedIn (p ++ [n]) t = queuedIn p t := fun t => by rw [queued_snoc, q3]; simp
 have hd : ∀ t, endedIn (p ++ [n]) t = endedIn p t := fun t => by rw [ended_snoc, he]; simp
 obtain ⟨L, h1, h2, h3, h4⟩ := h.cnt
 exact ⟨h.last0, h.pos, fun t => by rw [hq, hd]; exact h.fin t, fun t => by rw [hq]; exact h.qle t, fun t => by rw [hq, hd]; exact h.eq t, fun t => by rw [hd]; exact h.ended t, h.sent, h.sle, L, h1, h2, h3, by rw [List.length_append]; omega⟩
theorem InvA.queue (h : InvA p last f ge gs opn) (h3 : n.f0 = 3) (h1 : n.f1 = last + 1) : InvA (p ++ [n]) (last + 1) (putT f n.f1 (some (n.f2, false))) ge gs (opn + 1) := by
 have q3 : (n.f0 == 3) = true := by simpa using h3
 have he : endedB n.f0 = false := by rw [h3]; rfl
 have hq : ∀ t, queuedIn (p ++ [n]) t = (queuedIn p t || (n.f1 == t)) := fun t => by rw [queued_snoc, q3]; simp
 have hd : ∀ t, endedIn (p ++ [n]) t = endedIn p t := fun t => by rw [ended_snoc, he]; simp
 have hqn : queuedIn p n.f1 = false := by
  cases hc : queuedIn p n.f1 with
  | false => rfl
  | true => have := h.qle _ hc; omega
 have hen : endedIn p n.f1 = false := by
  cases hc : endedIn p n.f1 with
  | false => rfl
  | true => rw [h.eq _ hc] at hqn; cases hqn
 have hfn : (f n.f1).isSome = false := by rw [h.fin, hqn]; rfl
 have h0 := h.last0
 obtain ⟨L, c1, c2, c3, c4⟩ := h.cnt
 refine ⟨by omega, fun t ht => ?_, fun t => ?_, fun t ht => ?_, fun t ht => ?_, fun t => by rw [hd]; exact h.ended t, fun t a s ht => ?_, fun t ht => h.sle t (by omega), n.f1 :: L, ?_, fun t => ?_, ?_, ?_⟩
 ·rw [putT_some] at ht
  by_cases e : n.f1 = t
  ·omega
  ·have : (n.f1 == t) = false := by simpa using e
   rw [this, Bool.or_false] at ht
   exact h.pos t ht
 ·rw [putT_some, hq, hd, h.fin t]
  by_cases e : n.f1 = t
  ·subst e; simp [hen]
  ·have : (n.f1 == t) = false := by simpa using e
   simp [this]
 ·rw [hq] at ht
  by_cases e : n.f1 = t
  ·omega
  ·have : (n.f1 == t) = false := by simpa using e
   rw [this, Bool.or_false] at ht
   have := h.qle t ht
   omega
 ·rw [hd] at ht
  rw [hq, h.eq t ht, Bool.true_or]
 ·unfold putT at ht
  by_cases e : t = n.f1
  ·rw [if_pos e] at ht
   cases ht
   rw [h.sle t (by omega)]
   rfl
  ·rw [if_neg e] at ht
   exact h.sent t a s ht
 ·refine List.nodup_cons.2 ⟨fun hm => ?_, c1⟩
  rw [c2, hfn] at hm
  cases hm
 ·rw [List.mem_cons, c2, putT_some]
  by_cases e : n.f1 = t
  ·subst e; simp
  ·have e2 : (n.f1 == t) = false := by simpa using e
   have e3 : ¬ t = n.f1 := fun x => e x.symm
   simp [e2, e3]
 ·rw [c3, List.length_cons]; omega
 ·rw [List.length_cons, List.length_append]; simp; omega
theorem InvA.again (h : InvA p last f ge gs opn) {a : S28} {s u : Bool} (hf : f n.f1 = some (a, s)) (hk : n.f0 = 4 ∨ n.f0 = 6) : InvA (p ++ [n]) last (putT f n.f1 (some (a, u))) ge (setI gs n.f1 (some (if u = true then 1 else 0))) opn := by
 have q3 : (n.f0 == 3) = false := by rcases hk with h | h <;> rw [h] <;> rfl
 have he : endedB n.f0 = false := by rcases hk with h | h <;> rw [h] <;> rfl
 have hq : ∀ t, queuedIn (p ++ [n]) t = queuedIn p t := fun t => by rw [queued_snoc, q3]; simp
 have hd : ∀ t, endedIn (p ++ [n]) t = endedIn p t := fun t => by rw [ended_snoc, he]; simp
 have hs : ∀ t, (putT f n.f1 (some (a, u)) t).isSome = (f t).isSome := by
  intro t
  rw [putT_some]
  by_cases e : n.f1 = t
  ·subst e; rw [hf]; rfl
  ·have : (n.f1 == t) = false := by simpa using e
   rw [this, Bool.or_false]
 have hqn := (h.open_not hf).1
 have hle := h.qle _ hqn
 obtain ⟨L, c1, c2, c3, c4⟩ := h.cnt
 refine ⟨h.last0, fun t ht => h.pos t (by rw [← hs]; exact ht), fun t => by rw [hs, hq, hd]; exact h.fin t, fun t => by rw [hq]; exact h.qle t, fun t => by rw [hq, hd]; exact h.eq t, fun t => by rw [hd]; exact h.ended t, fun t b v ht => ?_, fun t ht => ?_, L, c1, fun t => by rw [c2, hs], c3, by rw [List.length_append]; omega⟩
 ·unfold putT at ht
  unfold setI
  by_cases e : t = n.f1
  ·rw [if_pos e] at ht ⊢
   cases ht
   rfl
  ·rw [if_neg e] at ht ⊢
   exact h.sent t b v ht
 ·unfold setI
  rw [if_neg (by omega)]
  exact h.sle t ht
theorem InvA.stop (h : InvA p last f ge gs opn) {a : S28} {s : Bool} (hf : f n.f1 = some (a, s)) (hk : n.f0 = 5 ∨ n.f0 = 7 ∨ n.f0 = 8) : InvA (p ++ [n]) last (putT f n.f1 none) (setI ge n.f1 (some 1)) gs (opn - 1) := by
 have q3 : (n.f0 == 3) = false := by rcases hk with h | h | h <;> rw [h] <;> rfl
 have he : endedB n.f0 = true := by rcases hk with h | h | h <;> rw [h] <;> rfl
 have hq : ∀ t, queuedIn (p ++ [n]) t = queuedIn p t := fun t => by rw [queued_snoc, q3]; simp
 have hd : ∀ t, endedIn (p ++ [n]) t = (endedIn p t || (n.f1 == t)) := fun t => by rw [ended_snoc, he]; simp
 have hqn := (h.open_not hf).1
 obtain ⟨L, c1, c2, c3, c4⟩ := h.cnt
 have hmem : n.f1 ∈ L := (c2 _).2 (by rw [hf]; rfl)
 have hlen : (L.erase n.f1).length = L.length - 1 := List.length_erase_of_mem hmem
 have hpos : 0 < L.length := List.length_pos_of_mem hmem
 refine ⟨h.last0, fun t ht => ?_, fun t => ?_, fun t => by rw [hq]; exact h.qle t, fun t ht => ?_, fun t => ?_, fun t b v ht => ?_, h.sle, L.erase n.f1, c1.erase _, fun t => ?_, by rw [hlen, c3]; omega, by rw [hlen, List.length_append]; omega⟩
 ·rw [putT_none] at ht
  simp at ht
  exact h.pos t ht.1
 ·rw [putT_none, hq, hd, h.fin t, Bool.not_or, Bool.and_assoc]
 ·rw [hd] at ht
  rw [hq]
  by_cases e : n.f1 = t
  ·rw [← e]; exact hqn
  ·have : (n.f1 == t) = false := by simpa using e
   rw [this, Bool.or_false] at ht
   exact h.eq t ht
 ·unfold setI
  rw [hd]
  by_cases e : t = n.f1
  ·rw [if_pos e]; simp [e]
  ·have : (n.f1 == t) = false := by simpa using fun x => e x.symm
   rw [if_neg e, this, Bool.or_false]
   exact h.ended t
 ·unfold putT at ht
  by_cases e : t = n.f1
  ·rw [if_pos e] at ht; cases ht
  ·rw [if_neg e] at ht; exact h.sent t b v ht
 ·rw [c1.mem_erase_iff, c2, putT_none]
  by_cases e : n.f1 = t
  ·subst e; simp
  ·have e2 : (n.f1 == t) = false := by simpa using e
   have e3 : t ≠ n.f1 := fun x => e x.symm
   simp [e2, e3]
theorem InvA.open_len (h : InvA p last f ge gs opn) : ((openP p).length : Int) = opn := by
 obtain ⟨L, c1, c2, c3, c4⟩ := h.cnt
 have hn : (openP p).Nodup := (openP_sorted p).imp (fun h => by omega)
 have hp : (openP p).Perm L := (List.perm_ext_iff_of_nodup hn c1).2 fun t => by rw [openP_mem, c2, h.fin]; simp
 rw [hp.length_eq, c3]
end
/-- A log followed to its end. -/
inductive Runs : List S30 → Int → (Int → Option (S28 × Bool)) → Prop
 | nil : Runs [] 0 (fun _ => none)
 | snoc {p : List S30} {last l' : Int} {f f' : Int → Option (S28 × Bool)} {n : S30} (h : Runs p last f) (ht : takesP last f n = some (l', f')) : Runs (p ++ [n]) l' f'
theorem Runs.inv {p : List S30} {n : S30} {l' : Int} {f' : Int → Option (S28 × Bool)} (h : Runs (p ++ [n]) l' f') : ∃ last f, Runs p last f ∧ takesP last f n = some (l', f') := by
 generalize hq : p ++ [n] = q at h
 cases h with
 | nil => simp at hq
 | snoc h ht =>
  obtain ⟨e1, e2⟩ := List.append_inj' hq rfl
  cases e2
  subst e1
  exact ⟨_, _, h, ht⟩
theorem Runs.det {p : List S30} {a : Int} {f : Int → Option (S28 × Bool)} (h : Runs p a f) : ∀ {b : Int} {g : Int → Option (S28 × Bool)}, Runs p b g → a = b ∧ f = g := by
 induction h with
 | nil =>
  intro b g h
  generalize hq : ([] : List S30) = q at h
  cases h with
  | nil => exact ⟨rfl, rfl⟩
  | snoc h ht => simp at hq
 | snoc h ht ih =>
  intro b g h2
  obtain ⟨last, f2, h3, ht2⟩ := h2.inv
  obtain ⟨rfl, rfl⟩ := ih h3
  rw [ht] at ht2
  cases ht2
  exact ⟨rfl, rfl⟩
theorem Runs.step {p : List S30} {n : S30} {last l' : Int} {f f' : Int → Option (S28 × Bool)} (h : Runs p last f) (h2 : Runs (p ++ [n]) l' f') : takesP last f n = some (l', f') := by
 obtain ⟨a, g, h3, ht⟩ := h2.inv
 obtain ⟨rfl, rfl⟩ := h.det h3
 exact ht
theorem life_runs : ∀ (l p : List S30) (last : Int) (f : Int → Option (S28 × Bool)), Runs p last f → ∀ j, j ≤ l.length → (lifeP l (p.length : Int) last f = -1 ∨ ((p.length + j : Nat) : Int) ≤ lifeP l (p.length : Int) last f) → ∃ l' f', Runs (p ++ l.take j) l' f' := by
 intro l
 induction l with
 | nil => intro p last f h j hj _; exact ⟨last, f, by simpa using h⟩
 | cons n l ih =>
  intro p last f h j hj hc
  cases j with
  | zero => exact ⟨last, f, by simpa using h⟩
  | succ j =>
   cases ht : takesP last f n with
   | none =>
    rw [lifeP_none ht] at hc
    omega
   | some y =>
    obtain ⟨l', f'⟩ := y
    rw [lifeP_some ht] at hc
    have hr : Runs (p ++ [n]) l' f' := .snoc h ht
    have e : ((p ++ [n]).length : Int) = (p.length : Int) + 1 := by simp
    have := ih (p ++ [n]) l' f' hr j (by simpa using hj) (by rw [e]; rw [List.length_append]; simp only [List.length_cons, List.length_nil]; rcases hc with hc | hc; exact .inl hc; exact .inr (by omega))
    obtain ⟨l2, f2, h2⟩ := this
    exact ⟨l2, f2, by simpa using h2⟩
theorem life_range : ∀ (l : List S30) (i last : Int) (f : Int → Option (S28 × Bool)), lifeP l i last f = -1 ∨ (i ≤ lifeP l i last f ∧ lifeP l i last f < i + l.length) := by
 intro l
 induction l with
 | nil => intro i last f; exact .inl rfl
 | cons n l ih =>
  intro i last f
  cases ht : takesP last f n with
  | none => rw [lifeP_none ht]; simp; omega
  | some y =>
   obtain ⟨a, g⟩ := y
   rw [lifeP_some ht]
   rcases ih (i + 1) a g with h | ⟨h1, h2⟩
   ·exact .inl h
   ·refine .inr ⟨by omega, ?_⟩
    simp only [List.length_cons]
    omega
theorem life_take : ∀ (l : List S30) (k : Nat) (i last : Int) (f : Int → Option (S28 × Bool)), 0 ≤ i → lifeP (l.take k) i last f = if lifeP l i last f < 0 ∨ i + k ≤ lifeP l i last f then -1 else lifeP l i last f := by
 intro l
 induction l with
 | nil => intro k i last f hi; simp [lifeP]
 | cons n l ih =>
  intro k i last f hi
  cases k with
  | zero =>
   have h1 := life_range (n :: l) i last f
   have : lifeP ((n :: l).take 0) i last f = -1 := rfl
   rw [this, if_pos (by rcases h1 with h | h <;> omega)]
  | succ k =>
   rw [List.take_succ_cons]
   cases ht : takesP last f n with
   | none =>
    rw [lifeP_none ht, lifeP_none ht, if_neg (by omega)]
   | some y =>
    obtain ⟨a, g⟩ := y
    rw [lifeP_some ht, lifeP_some ht, ih k (i + 1) a g (by omega)]
    by_cases hc : lifeP l (i + 1) a g < 0 ∨ i + 1 + (k : Int) ≤ lifeP l (i + 1) a g
    ·rw [if_pos hc, if_pos (by omega)]
    ·rw [if_neg hc, if_neg (by omega)]
end Go.Proofs.YtlmhgnkkdjpkcaaDoorG
