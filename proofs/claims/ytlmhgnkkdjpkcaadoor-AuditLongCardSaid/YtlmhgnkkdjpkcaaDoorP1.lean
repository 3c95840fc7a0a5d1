/- Plain facts on whose bans are the bot's own, and the printed small functions. -/
import Derived.Test.YtlmhgnkkdjpkcaaDoorPAx5
import Derived.Test.YtlmhgnkkdjpkcaaDoorPAx6
import Derived.Test.YtlmhgnkkdjpkcaaDoorPAx7
set_option linter.unusedVariables false
set_option linter.unusedSimpArgs false
namespace Go.Proofs.YtlmhgnkkdjpkcaaDoorG
open Go.RowKit Go.Proofs.YtlmhgnkkdjpkcaaDoorW.PrintWords Go.Proofs.YtlmhgnkkdjpkcaaDoorW.PrintLast Go.Proofs.YtlmhgnkkdjpkcaaDoorW.PrintMore Go.Proofs.YtlmhgnkkdjpkcaaDoor.PA
theorem wrap_nat {i n : Nat} (h : i < n) (hn : n ≤ 9223372036854775807) : wrap64 ((i : Int) + 1) = ((i + 1 : Nat) : Int) := by unfold wrap64; omega
theorem wrap_pred {i n : Nat} (h : i < n) (hn : n ≤ 9223372036854775807) (h0 : 0 < i) : wrap64 ((i : Int) - 1) = ((i - 1 : Nat) : Int) := by unfold wrap64; omega
theorem rd_nat (l : List S30) {i : Nat} (h : i < l.length) : rd_T30 l (i : Int) = l[i] := by
 unfold rd_T30
 rw [List.getD_eq_getElem?_getD, Int.toNat_natCast, List.getElem?_eq_getElem h]
 rfl
theorem rdS_nat (l : List ByteArray) {i : Nat} (h : i < l.length) : rdOf ByteArray.empty l (i : Int) = l[i] := by
 unfold rdOf
 rw [List.getD_eq_getElem?_getD, Int.toNat_natCast, List.getElem?_eq_getElem h]
 rfl
/-- Is a note gone through? -/
def lightB (n : S30) : Bool := decide (n.f2.f1.size ≤ 300) && decide (n.f2.f2.size ≤ 300) && decide (n.f2.f3.size ≤ 300) && decide (n.f2.f4.size ≤ 3000) && decide (n.f4.size ≤ 400)
theorem action_is (a : Int) (b c d e : ByteArray) : outlawkit_LightAction.f a b c d e = some (decide (b.size ≤ 300) && decide (c.size ≤ 300) && decide (d.size ≤ 300) && decide (e.size ≤ 3000)) := by
 unfold outlawkit_LightAction.f
 by_cases h1 : b.size ≤ 300
 ·rw [if_pos (by omega)]
  by_cases h2 : c.size ≤ 300
  ·rw [if_pos (by omega)]
   by_cases h3 : d.size ≤ 300
   ·rw [if_pos (by omega)]
    rw [decide_eq_true h1, decide_eq_true h2, decide_eq_true h3]
    have : decide ((e.size : Int) ≤ 3000) = decide (e.size ≤ 3000) := decide_eq_decide.2 (by omega)
    rw [this]
    rfl
   ·rw [if_neg (by omega)]; simp [h3]
  ·rw [if_neg (by omega)]; simp [h2]
 ·rw [if_neg (by omega)]; simp [h1]
theorem light_go (l : List S30) (m : Int) (hl : l.length ≤ 9223372036854775807) : ∀ d i : Nat, l.length - i = d → i ≤ l.length → Ev (fun k => outlawkit_LightNotes.l0 k l m (i : Int)) ((l.drop i).all lightB && decide ((l.length : Int) ≤ m)) := by
 intro d
 induction d with
 | zero =>
  intro i hd hi
  obtain rfl : i = l.length := by omega
  refine Ev.step (f := fun _ => some _) (fun k => ?_) (Ev.now _)
  rw [outlawkit_LightNotes.l0, if_neg (by omega), List.drop_length]
  rfl
 | succ d ih =>
  intro i hd hi
  have hlt : i < l.length := by omega
  have hw := wrap_nat hlt hl
  rw [List.drop_eq_getElem_cons hlt, List.all_cons]
  by_cases hb : lightB l[i] = true
  ·rw [hb, Bool.true_and]
   refine Ev.step (f := fun k => outlawkit_LightNotes.l0 k l m ((i + 1 : Nat) : Int)) (fun k => ?_) (ih (i + 1) (by omega) (by omega))
   unfold lightB at hb
   simp only [Bool.and_eq_true, decide_eq_true_eq] at hb
   rw [outlawkit_LightNotes.l0, if_pos (by omega), if_pos (by omega), rd_nat l hlt, action_is, Option.bind_some, if_pos (by simp [hb]), if_neg (by omega), hw]
  ·have hb' : lightB l[i] = false := by simpa using hb
   rw [hb', Bool.false_and, Bool.false_and]
   refine Ev.step (f := fun _ => some false) (fun k => ?_) (Ev.now _)
   rw [outlawkit_LightNotes.l0, if_pos (by omega), if_pos (by omega), rd_nat l hlt, action_is, Option.bind_some]
   by_cases hq : (decide (l[i].f2.f1.size ≤ 300) && decide (l[i].f2.f2.size ≤ 300) && decide (l[i].f2.f3.size ≤ 300) && decide (l[i].f2.f4.size ≤ 3000)) = true
   ·rw [if_pos hq, if_pos]
    unfold lightB at hb'
    rw [hq, Bool.true_and] at hb'
    have := of_decide_eq_false hb'
    omega
   ·rw [if_neg hq]
theorem light_ev (l : List S30) (m : Int) (hl : l.length ≤ 9223372036854775807) : Ev (fun k => outlawkit_LightNotes.f k l m) (l.all lightB && decide ((l.length : Int) ≤ m)) := light_go l m hl _ 0 rfl (Nat.zero_le _)
theorem index_go (l : List ByteArray) (x : ByteArray) (hl : l.length ≤ 9223372036854775807) : ∀ d i : Nat, l.length - i = d → i ≤ l.length → ∃ r : Int, Ev (fun k => slices_Index_string_string.l0 k l x (l.length : Int) (i : Int)) r ∧ (0 ≤ r ↔ x ∈ l.drop i) := by
 intro d
 induction d with
 | zero =>
  intro i hd hi
  obtain rfl : i = l.length := by omega
  refine ⟨-1, Ev.step (f := fun _ => some (-1)) (fun k => ?_) (Ev.now _), by rw [List.drop_length]; simp⟩
  rw [slices_Index_string_string.l0, if_neg (by omega)]
 | succ d ih =>
  intro i hd hi
  have hlt : i < l.length := by omega
  have hw := wrap_nat hlt hl
  rw [List.drop_eq_getElem_cons hlt]
  by_cases hx : x.toList = l[i].toList
  ·refine ⟨i, Ev.step (f := fun _ => some (i : Int)) (fun k => ?_) (Ev.now _), by rw [toList_inj hx]; exact ⟨fun _ => List.mem_cons_self, fun _ => by omega⟩⟩
   rw [slices_Index_string_string.l0, if_pos (by omega), if_pos (by omega), if_pos (by omega), rdS_nat l hlt, if_pos hx]
  ·obtain ⟨r, h1, h2⟩ := ih (i + 1) (by omega) (by omega)
   refine ⟨r, Ev.step (f := fun k => slices_Index_string_string.l0 k l x (l.length : Int) ((i + 1 : Nat) : Int)) (fun k => ?_) h1, ?_⟩
   ·rw [slices_Index_string_string.l0, if_pos (by omega), if_pos (by omega), if_pos (by omega), rdS_nat l hlt, if_neg hx, hw]
   ·rw [h2, List.mem_cons]
    constructor
    ·exact .inr
    ·rintro (e | e)
     ·exact absurd (by rw [e]) hx
     ·exact e
/-- Is a text among some? -/
def memB (x : ByteArray) (l : List ByteArray) : Bool := l.any fun y => decide (y = x)
theorem memB_iff (x : ByteArray) (l : List ByteArray) : memB x l = true ↔ x ∈ l := by simp [memB]
theorem memB_eq {x y : ByteArray} {l m : List ByteArray} (h : x ∈ l ↔ y ∈ m) : memB x l = memB y m := by
 rw [Bool.eq_iff_iff, memB_iff, memB_iff]
 exact h
theorem contains_ev (l : List ByteArray) (x : ByteArray) (hl : l.length ≤ 9223372036854775807) : Ev (fun k => slices_Contains_string_string.f k l x) (memB x l) := by
 obtain ⟨r, h1, h2⟩ := index_go l x hl _ 0 rfl (Nat.zero_le _)
 rw [List.drop_zero] at h2
 have : memB x l = decide (r ≥ 0) := by rw [Bool.eq_iff_iff, memB_iff, decide_eq_true_iff]; exact h2.symm
 rw [this]
 exact Ev.bind (f := fun _ t => some (decide (t ≥ 0))) h1 (Ev.now _)
theorem ownP_length : ∀ (l : List S30) (room : ByteArray), (ownP l room).length ≤ l.length := by
 intro l room
 have : ∀ (m : List S30) (out : List ByteArray), (m.foldl (ownStep room) out).length ≤ out.length + m.length := by
  intro m
  induction m with
  | nil => intro out; simp
  | cons n m ih =>
   intro out
   have h1 := ih (ownStep room out n)
   have h2 := ownStep_length (room := room) (out := out) (n := n)
   simp only [List.foldl_cons, List.length_cons]
   omega
 have h := this l []
 rw [List.length_nil, Nat.zero_add] at h
 exact h
theorem own_ev (l : List S30) (room user : ByteArray) (hl : l.length ≤ 1000000000) : Ev (fun k => audit_Own.f k l room user) (memB user (ownP l room)) := by
 have h := ownP_length l room
 refine Ev.congr (f := fun k => (slices_Contains_string_string.f k (ownP l room) user).bind fun t => some t) (fun k => ?_) (Ev.bind (f := fun _ t => some t) (contains_ev _ _ (by omega)) (Ev.now _))
 unfold audit_Own.f audit_own.f
 rw [if_pos hl, Option.bind_some]
theorem ownP_rising (l : List S30) (room : ByteArray) : Rising (ownP l room) := by
 have : ∀ (m : List S30) (out : List ByteArray), Rising out → Rising (m.foldl (ownStep room) out) := by
  intro m
  induction m with
  | nil => intro out h; exact h
  | cons n m ih => intro out h; exact ih _ (ownStep_rising h)
 exact this l [] List.Pairwise.nil
theorem has_mem {u : ByteArray} {l : List ByteArray} (hr : Rising l) : hasS u l = true ↔ u ∈ l := by
 constructor
 ·intro h
  exact List.mem_of_getElem? (has_at h)
 ·intro h
  obtain ⟨i, hi, rfl⟩ := List.mem_iff_getElem.1 h
  have h1 : posS l[i] l = i := by
   rcases Nat.lt_trichotomy (posS l[i] l) i with h | h | h
   ·have h2 := List.pairwise_iff_getElem.1 hr _ _ (by omega : posS l[i] l < l.length) hi h
    rw [posS_at (by omega)] at h2
    cases h2
   ·exact h
   ·have h2 := posS_low h hi
    rw [lessS_irrefl] at h2
    cases h2
  unfold hasS
  rw [decide_eq_true_eq, h1, List.getElem?_eq_getElem hi]
theorem mem_ins (u v : ByteArray) (l : List ByteArray) : v ∈ insAt u l ↔ v = u ∨ v ∈ l := by
 unfold insAt
 rw [List.mem_append, List.mem_cons]
 conv => rhs; rw [← List.take_append_drop (posS u l) l, List.mem_append]
 constructor
 ·rintro (h | h | h)
  ·exact .inr (.inl h)
  ·exact .inl h
  ·exact .inr (.inr h)
 ·rintro (h | h | h)
  ·exact .inr (.inl h)
  ·exact .inl h
  ·exact .inr (.inr h)
theorem mem_del {u v : ByteArray} {l : List ByteArray} (hr : Rising l) (h : hasS u l = true) : v ∈ delAt u l ↔ v ≠ u ∧ v ∈ l := by
 have hlt := has_lt h
 have hat : l[posS u l] = u := by have := has_at h; rw [List.getElem?_eq_getElem hlt] at this; exact Option.some.inj this
 unfold delAt
 rw [List.mem_append]
 constructor
 ·rintro (hv | hv)
  ·obtain ⟨i, hi, rfl⟩ := List.mem_iff_getElem.1 hv
   rw [List.length_take] at hi
   rw [List.getElem_take]
   refine ⟨fun e => ?_, List.getElem_mem (by omega)⟩
   have := posS_low (x := u) (l := l) (t := i) (by omega) (by omega)
   rw [e, lessS_irrefl] at this
   cases this
  ·obtain ⟨i, hi, rfl⟩ := List.mem_iff_getElem.1 hv
   rw [List.length_drop] at hi
   rw [List.getElem_drop]
   refine ⟨fun e => ?_, List.getElem_mem (by omega)⟩
   have := List.pairwise_iff_getElem.1 hr (posS u l) (posS u l + 1 + i) hlt (by omega) (by omega)
   rw [e, hat, lessS_irrefl] at this
   cases this
 ·rintro ⟨hne, hv⟩
  obtain ⟨i, hi, rfl⟩ := List.mem_iff_getElem.1 hv
  rcases Nat.lt_trichotomy i (posS u l) with hlt2 | heq | hgt
  ·exact .inl (List.mem_iff_getElem.2 ⟨i, by rw [List.length_take]; omega, by rw [List.getElem_take]⟩)
  ·subst heq
   exact absurd hat hne
  ·exact .inr (List.mem_iff_getElem.2 ⟨i - (posS u l + 1), by rw [List.length_drop]; omega, by rw [List.getElem_drop]; congr 1; omega⟩)
/-- Does a note touch a user's ban in a room? -/
def touchB (room user : ByteArray) (n : S30) : Bool := n.f0 == 5 && (decide (n.f2.f1 = room) && (decide (n.f2.f2 = user) && (n.f2.f0 == 1 || n.f2.f0 == 2)))
theorem step_mem {room user : ByteArray} {out : List ByteArray} {n : S30} (hr : Rising out) : memB user (ownStep room out n) = if touchB room user n = true then n.f2.f0 == 1 else memB user out := by
 unfold ownStep
 by_cases h5 : n.f0 = 5
 ·rw [if_pos h5]
  by_cases hm : n.f2.f1 = room
  ·rw [if_pos hm]
   by_cases h1 : n.f2.f0 = 1
   ·rw [if_pos h1]
    by_cases hu : n.f2.f2 = user
    ·have ht : touchB room user n = true := by simp [touchB, h5, hm, h1, hu]
     rw [ht, if_pos (rfl : true = true)]
     subst hu
     rw [h1]
     by_cases hh : hasS n.f2.f2 out = true
     ·rw [if_pos hh]
      exact ((memB_iff _ _).2 ((has_mem hr).1 hh)).trans rfl
     ·rw [if_neg hh]
      exact ((memB_iff _ _).2 ((mem_ins _ _ _).2 (.inl rfl))).trans rfl
    ·have ht : touchB room user n = false := by simp [touchB, hu]
     rw [ht, if_neg Bool.false_ne_true]
     by_cases hh : hasS n.f2.f2 out = true
     ·rw [if_pos hh]
     ·rw [if_neg hh]
      refine memB_eq ?_
      rw [mem_ins]
      exact ⟨fun h => h.resolve_left (fun e => hu e.symm), .inr⟩
   ·rw [if_neg h1]
    by_cases h2 : n.f2.f0 = 2
    ·rw [if_pos h2]
     by_cases hu : n.f2.f2 = user
     ·have ht : touchB room user n = true := by simp [touchB, h5, hm, h2, hu]
      rw [ht, if_pos (rfl : true = true)]
      subst hu
      rw [h2]
      by_cases hh : hasS n.f2.f2 out = true
      ·rw [if_pos hh]
       refine (Bool.eq_false_iff.2 fun e => ?_).trans (rfl : false = ((2 : Int) == 1))
       exact ((mem_del hr hh).1 ((memB_iff _ _).1 e)).1 rfl
      ·rw [if_neg hh]
       refine (Bool.eq_false_iff.2 fun e => ?_).trans (rfl : false = ((2 : Int) == 1))
       exact hh ((has_mem hr).2 ((memB_iff _ _).1 e))
     ·have ht : touchB room user n = false := by simp [touchB, hu]
      rw [ht, if_neg Bool.false_ne_true]
      by_cases hh : hasS n.f2.f2 out = true
      ·rw [if_pos hh]
       refine memB_eq ?_
       rw [mem_del hr hh]
       exact ⟨fun h => h.2, fun h => ⟨fun e => hu e.symm, h⟩⟩
      ·rw [if_neg hh]
    ·rw [if_neg h2]
     have ht : touchB room user n = false := by simp [touchB, h1, h2]
     rw [ht, if_neg Bool.false_ne_true]
  ·rw [if_neg hm]
   have ht : touchB room user n = false := by simp [touchB, hm]
   rw [ht, if_neg Bool.false_ne_true]
 ·rw [if_neg h5]
  have ht : touchB room user n = false := by simp [touchB, h5]
  rw [ht, if_neg Bool.false_ne_true]
end Go.Proofs.YtlmhgnkkdjpkcaaDoorG
