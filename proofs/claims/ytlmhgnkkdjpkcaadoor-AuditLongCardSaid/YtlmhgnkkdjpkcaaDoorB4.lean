/- The contract of audit.Open. -/
import Derived.Test.YtlmhgnkkdjpkcaaDoorB3
import Derived.Test.YtlmhgnkkdjpkcaaDoorShelf
import Derived.Sort.OwnSortedInts
import Derived.Maps.AppendAt
set_option linter.unusedVariables false
set_option linter.unusedSimpArgs false
namespace Go.Proofs.YtlmhgnkkdjpkcaaDoorG
open Go.RowKit Go.Proofs.YtlmhgnkkdjpkcaaDoor.PA Go.Proofs.YtlmhgnkkdjpkcaaDoorW.PrintWords Go.Proofs.YtlmhgnkkdjpkcaaDoorW.PrintLast Go.Proofs.YtlmhgnkkdjpkcaaDoorW.PrintMore Go.Proofs.YtlmhgnkkdjpkcaaDoorM Go.Proofs.YtlmhgnkkdjpkcaaDoorV
def fi (g : Int → Option Int) : Lit → Option Value
 | .int .i64 t => (g t).map (Value.int .i64)
 | _ => none
def setI (g : Int → Option Int) (t : Int) (x : Option Int) : Int → Option Int := fun i => if i = t then x else g i
theorem fi_put (g : Int → Option Int) (t x : Int) : ∀ l, WideAt.IsKeyLit l → putF (fi g) (.int .i64 t) (.int .i64 x) l = fi (setI g t (some x)) l := by
 intro l _
 unfold putF fi setI
 by_cases h : l = .int .i64 t
 ·subst h
  simp
 ·rw [if_neg h]
  split
  ·rename_i i
   rw [if_neg (fun e => h (by rw [e]))]
  ·rfl
theorem fi_del (g : Int → Option Int) (t : Int) : ∀ l, WideAt.IsKeyLit l → delF (fi g) (.int .i64 t) l = fi (setI g t none) l := by
 intro l _
 unfold delF fi setI
 by_cases h : l = .int .i64 t
 ·subst h
  simp
 ·rw [if_neg h]
  split
  ·rename_i i
   rw [if_neg (fun e => h (by rw [e]))]
  ·rfl
theorem z3 (w : World) : (zeroValue 3).run Tryd.prog w = .ok (.int .i64 0) w := by kernel_rfl
theorem info2 : (Tryd.prog.info? 2).map (fun i => (i.zero, i.size, i.bytes)) = some (some (.int .i64 0), 1, 8) := by kernel_rfl
/-- Is a transaction queued; has it ended? -/
def queuedIn (l : List S30) (t : Int) : Bool := l.any fun n => n.f0 == 3 && n.f1 == t
def endedIn (l : List S30) (t : Int) : Bool := l.any fun n => endedB n.f0 && n.f1 == t
theorem take_snoc (l : List S30) (i : Int) (h0 : 0 ≤ i) (hi : i < (l.length : Int)) : l.take (i + 1).toNat = l.take i.toNat ++ [rd_T30 l i] := by
 have hlt : i.toNat < l.length := by omega
 rw [show (i + 1).toNat = i.toNat + 1 by omega, List.take_succ_eq_append_getElem hlt]
 congr 2
 unfold rd_T30
 rw [List.getD_eq_getElem?_getD, List.getElem?_eq_getElem hlt]
 rfl
def insR (x : Int) : List Int → List Int
 | [] => [x]
 | y :: ys => if x < y then x :: y :: ys else if x = y then y :: ys else y :: insR x ys
/-- The transactions that are queued, and have not ended, rising. -/
def openP (l : List S30) : List Int := (l.filter fun n => n.f0 == 3 && !endedIn l n.f1).foldl (fun acc n => insR n.f1 acc) []
theorem insR_mem (x t : Int) : ∀ l, t ∈ insR x l ↔ t = x ∨ t ∈ l := by
 intro l
 induction l with
 | nil => simp [insR]
 | cons y ys ih =>
  unfold insR
  split
  ·simp
  ·split
   ·rename_i h
    subst h
    simp
   ·simp only [List.mem_cons, ih]
    constructor
    ·rintro (h | h | h)
     ·exact .inr (.inl h)
     ·exact .inl h
     ·exact .inr (.inr h)
    ·rintro (h | h | h)
     ·exact .inr (.inl h)
     ·exact .inl h
     ·exact .inr (.inr h)
theorem insR_sorted (x : Int) : ∀ l : List Int, l.Pairwise (· < ·) → (insR x l).Pairwise (· < ·) := by
 intro l
 induction l with
 | nil => intro _; simp [insR]
 | cons y ys ih =>
  intro h
  obtain ⟨h1, h2⟩ := List.pairwise_cons.1 h
  unfold insR
  split
  ·rename_i hx
   exact List.pairwise_cons.2 ⟨fun z hz => by rcases List.mem_cons.1 hz with rfl | hz; exact hx; exact Int.lt_trans hx (h1 z hz), h⟩
  ·split
   ·exact h
   ·refine List.pairwise_cons.2 ⟨fun z hz => ?_, ih h2⟩
    rcases (insR_mem x z ys).1 hz with rfl | hz
    ·omega
    ·exact h1 z hz
theorem fold_ins (L : List S30) : ∀ acc : List Int, acc.Pairwise (· < ·) → (L.foldl (fun acc n => insR n.f1 acc) acc).Pairwise (· < ·) ∧ ∀ t, t ∈ L.foldl (fun acc n => insR n.f1 acc) acc ↔ t ∈ acc ∨ ∃ n ∈ L, n.f1 = t := by
 induction L with
 | nil => intro acc h; exact ⟨h, fun t => by simp⟩
 | cons n L ih =>
  intro acc h
  obtain ⟨h1, h2⟩ := ih (insR n.f1 acc) (insR_sorted _ _ h)
  refine ⟨h1, fun t => ?_⟩
  rw [List.foldl_cons, h2 t, insR_mem]
  constructor
  ·rintro ((h | h) | ⟨m, hm, e⟩)
   ·exact .inr ⟨n, List.mem_cons_self, h.symm⟩
   ·exact .inl h
   ·exact .inr ⟨m, List.mem_cons_of_mem _ hm, e⟩
  ·rintro (h | ⟨m, hm, e⟩)
   ·exact .inl (.inr h)
   ·rcases List.mem_cons.1 hm with rfl | hm
    ·exact .inl (.inl e.symm)
    ·exact .inr ⟨m, hm, e⟩
theorem openP_mem (l : List S30) (t : Int) : t ∈ openP l ↔ queuedIn l t = true ∧ endedIn l t = false := by
 unfold openP
 rw [(fold_ins _ [] List.Pairwise.nil).2 t]
 simp only [List.not_mem_nil, false_or, List.mem_filter, Bool.and_eq_true, Bool.not_eq_true', queuedIn, List.any_eq_true, beq_iff_eq]
 constructor
 ·rintro ⟨n, ⟨hn, h3, he⟩, rfl⟩
  exact ⟨⟨n, hn, h3, rfl⟩, he⟩
 ·rintro ⟨⟨n, hn, h3, rfl⟩, he⟩
  exact ⟨n, ⟨hn, h3, he⟩, rfl⟩
theorem openP_sorted (l : List S30) : (openP l).Pairwise (· < ·) := (fold_ins _ [] List.Pairwise.nil).1
theorem sorted_ext : ∀ {l m : List Int}, l.Pairwise (· < ·) → m.Pairwise (· < ·) → (∀ t, t ∈ l ↔ t ∈ m) → l = m := by
 intro l
 induction l with
 | nil =>
  intro m _ _ h
  cases m with
  | nil => rfl
  | cons y ys => exact absurd ((h y).2 List.mem_cons_self) (by simp)
 | cons x xs ih =>
  intro m hl hm h
  cases m with
  | nil => exact absurd ((h x).1 List.mem_cons_self) (by simp)
  | cons y ys =>
   obtain ⟨hl1, hl2⟩ := List.pairwise_cons.1 hl
   obtain ⟨hm1, hm2⟩ := List.pairwise_cons.1 hm
   have e : x = y := by
    rcases List.mem_cons.1 ((h x).1 List.mem_cons_self) with e | e
    ·exact e
    ·rcases List.mem_cons.1 ((h y).2 List.mem_cons_self) with e' | e'
     ·exact e'.symm
     ·have := hm1 x e; have := hl1 y e'; omega
   subst e
   congr 1
   refine ih hl2 hm2 fun t => ?_
   constructor
   ·intro ht
    rcases List.mem_cons.1 ((h t).1 (List.mem_cons_of_mem _ ht)) with rfl | h'
    ·have := hl1 t ht; omega
    ·exact h'
   ·intro ht
    rcases List.mem_cons.1 ((h t).2 (List.mem_cons_of_mem _ ht)) with rfl | h'
    ·have := hm1 t ht; omega
    ·exact h'
theorem merge_open {acc : List Int} {l : List S30} (hn : acc.Nodup) (h : ∀ t, t ∈ acc ↔ queuedIn l t = true ∧ endedIn l t = false) : (acc.mergeSort fun x y => decide (x ≤ y)) = openP l := by
 have hp := List.mergeSort_perm acc fun x y => decide (x ≤ y)
 refine sorted_ext ?_ (openP_sorted l) fun t => by rw [openP_mem, ← h, hp.mem_iff]
 have h1 := List.pairwise_mergeSort (le := fun x y : Int => decide (x ≤ y)) (fun a b c h1 h2 => by simp at *; omega) (fun a b => by simp; omega) acc
 have h2 : (acc.mergeSort fun x y => decide (x ≤ y)).Nodup := hp.symm.nodup hn
 have h3 : (acc.mergeSort fun x y => decide (x ≤ y)).Pairwise (fun a b => decide (a ≤ b) = true ∧ a ≠ b) := h1.and h2
 exact h3.imp (fun ⟨a, b⟩ => by simp at a; omega)
end Go.Proofs.YtlmhgnkkdjpkcaaDoorG
