/- Whose bans are the bot's own: the document's way (the last note that touches one) is the code's; equal rows are told equal; all calls behind the lines. -/
import Derived.Test.YtlmhgnkkdjpkcaaDoorP5
import Derived.Test.YtlmhgnkkdjpkcaaDoorPAx17
import Derived.Test.YtlmhgnkkdjpkcaaDoorPAx20
import Derived.Test.YtlmhgnkkdjpkcaaDoorRo
set_option linter.unusedVariables false
set_option linter.unusedSimpArgs false
namespace Go.Proofs.YtlmhgnkkdjpkcaaDoorG
open Go.RowKit Go.Proofs.YtlmhgnkkdjpkcaaDoor.PA Go.Proofs.YtlmhgnkkdjpkcaaDoorW.PrintWords
def ownB (room user : ByteArray) (b : Bool) (n : S30) : Bool := if touchB room user n = true then n.f2.f0 == 1 else b
theorem fold_own {room user : ByteArray} : ∀ (l : List S30) (out : List ByteArray), Rising out → l.foldl (ownB room user) (memB user out) = memB user (l.foldl (ownStep room) out) := by
 intro l
 induction l with
 | nil => intro out h; rfl
 | cons n l ih =>
  intro out h
  rw [List.foldl_cons, List.foldl_cons, ← ih _ (ownStep_rising h)]
  congr 1
  unfold ownB
  rw [step_mem h]
theorem rown_go (l : List S30) (room user : ByteArray) (hl : l.length ≤ 1000000000) : ∀ d i : Nat, ∀ b, l.length - i = d → i ≤ l.length → Ev (fun k => outlawref23_Own.l0 k l room user b (i : Int)) ((l.drop i).foldl (ownB room user) b) := by
 intro d
 induction d with
 | zero =>
  intro i b hd hi
  obtain rfl : i = l.length := by omega
  refine Ev.step (f := fun _ => some _) (fun k => ?_) (Ev.now _)
  rw [outlawref23_Own.l0, if_neg (by omega), List.drop_length]
  rfl
 | succ d ih =>
  intro i b hd hi
  have hlt : i < l.length := by omega
  have hw := wrap_nat hlt (by omega)
  rw [List.drop_eq_getElem_cons hlt, List.foldl_cons]
  refine Ev.step (f := fun k => outlawref23_Own.l0 k l room user (ownB room user b l[i]) ((i + 1 : Nat) : Int)) (fun k => ?_) (ih (i + 1) _ (by omega) (by omega))
  rw [outlawref23_Own.l0, if_pos (by omega), if_pos (by omega), rd_nat l hlt, hw]
  unfold ownB touchB
  by_cases h5 : l[i].f0 = 5
  ·rw [if_pos h5]
   by_cases hm : l[i].f2.f1.toList = room.toList
   ·have hm' := toList_inj hm
    by_cases hu : l[i].f2.f2.toList = user.toList
    ·have hu' := toList_inj hu
     by_cases h1 : l[i].f2.f0 = 1
     ·rw [if_pos h1, if_pos hm, if_pos hu, if_pos (by simp [h5, hm', hu', h1])]
     ·rw [if_neg h1]
      by_cases h2 : l[i].f2.f0 = 2
      ·rw [if_pos h2, if_pos hm, if_pos hu, if_pos (by simp [h5, hm', hu', h2])]
      ·rw [if_neg h2, if_neg (by simp [h1, h2])]
    ·have hu' : l[i].f2.f2 ≠ user := fun e => hu (by rw [e])
     rw [if_neg (show ¬ (l[i].f0 == 5 && (decide (l[i].f2.f1 = room) && (decide (l[i].f2.f2 = user) && (l[i].f2.f0 == 1 || l[i].f2.f0 == 2)))) = true by simp [hu'])]
     by_cases h1 : l[i].f2.f0 = 1
     ·rw [if_pos h1, if_pos hm, if_neg hu]
     ·rw [if_neg h1]
      by_cases h2 : l[i].f2.f0 = 2
      ·rw [if_pos h2, if_pos hm, if_neg hu]
      ·rw [if_neg h2]
   ·have hm' : l[i].f2.f1 ≠ room := fun e => hm (by rw [e])
    rw [if_neg (show ¬ (l[i].f0 == 5 && (decide (l[i].f2.f1 = room) && (decide (l[i].f2.f2 = user) && (l[i].f2.f0 == 1 || l[i].f2.f0 == 2)))) = true by simp [hm'])]
    by_cases h1 : l[i].f2.f0 = 1
    ·rw [if_pos h1, if_neg hm]
    ·rw [if_neg h1]
     by_cases h2 : l[i].f2.f0 = 2
     ·rw [if_pos h2, if_neg hm]
     ·rw [if_neg h2]
  ·rw [if_neg h5, if_neg (by simp [h5])]
theorem rown_ev (l : List S30) (room user : ByteArray) (hl : l.length ≤ 1000000000) : Ev (fun k => outlawref23_Own.f k l room user) (memB user (ownP l room)) := by
 have h := rown_go l room user hl _ 0 false rfl (Nat.zero_le _)
 have e := fold_own (room := room) (user := user) l [] List.Pairwise.nil
 rw [List.drop_zero] at h
 rw [show memB user (ownP l room) = l.foldl (ownB room user) false from e.symm]
 exact h
theorem rising_ext : ∀ {l m : List ByteArray}, Rising l → Rising m → (∀ t, t ∈ l ↔ t ∈ m) → l = m := by
 intro l
 induction l with
 | nil =>
  intro m _ _ h
  cases m with
  | nil => rfl
  | cons y ys => exact absurd ((h y).2 List.mem_cons_self) (by simp)
 | cons x xs ih =>
  intro m hl hm h
  cases m with
  | nil => exact absurd ((h x).1 List.mem_cons_self) (by simp)
  | cons y ys =>
   obtain ⟨hl1, hl2⟩ := List.pairwise_cons.1 hl
   obtain ⟨hm1, hm2⟩ := List.pairwise_cons.1 hm
   have no : ∀ a b, lessS a b = true → lessS b a = true → False := fun a b h k => by
    have := lessS_trans h k
    rw [lessS_irrefl] at this
    cases this
   have e : x = y := by
    rcases List.mem_cons.1 ((h x).1 List.mem_cons_self) with e | e
    ·exact e
    ·rcases List.mem_cons.1 ((h y).2 List.mem_cons_self) with e' | e'
     ·exact e'.symm
     ·exact (no _ _ (hm1 x e) (hl1 y e')).elim
   subst e
   congr 1
   refine ih hl2 hm2 fun t => ?_
   constructor
   ·intro ht
    rcases List.mem_cons.1 ((h t).1 (List.mem_cons_of_mem _ ht)) with rfl | h'
    ·exact (no _ _ (hl1 t ht) (hl1 t ht)).elim
    ·exact h'
   ·intro ht
    rcases List.mem_cons.1 ((h t).2 (List.mem_cons_of_mem _ ht)) with rfl | h'
    ·exact (no _ _ (hm1 t ht) (hm1 t ht)).elim
    ·exact h'
theorem rise_step_rising {out : List ByteArray} {x : ByteArray} (h : Rising out) : Rising (riseStep out x) := by
 cases hb : hasS x out with
 | true => unfold riseStep; rw [if_pos hb]; exact h
 | false => exact rise_rising hb h
theorem rise_step_mem {out : List ByteArray} {x t : ByteArray} (h : Rising out) : t ∈ riseStep out x ↔ t = x ∨ t ∈ out := by
 unfold riseStep
 by_cases hb : hasS x out = true
 ·rw [if_pos hb]
  exact ⟨.inr, fun h' => h'.elim (fun e => e ▸ (has_mem h).1 hb) id⟩
 ·rw [if_neg hb, mem_ins]
theorem rise_fold : ∀ (l out : List ByteArray), Rising out → Rising (l.foldl riseStep out) ∧ ∀ t, t ∈ l.foldl riseStep out ↔ t ∈ l ∨ t ∈ out := by
 intro l
 induction l with
 | nil => intro out h; exact ⟨h, fun t => by simp⟩
 | cons x l ih =>
  intro out h
  obtain ⟨h1, h2⟩ := ih (riseStep out x) (rise_step_rising h)
  refine ⟨h1, fun t => ?_⟩
  rw [List.foldl_cons, h2 t, rise_step_mem h, List.mem_cons]
  constructor
  ·rintro (h | h | h)
   ·exact .inl (.inr h)
   ·exact .inl (.inl h)
   ·exact .inr h
  ·rintro ((h | h) | h)
   ·exact .inr (.inl h)
   ·exact .inl h
   ·exact .inr (.inr h)
theorem own_from {l : List S30} {room u : ByteArray} : ∀ out, Rising out → u ∈ l.foldl (ownStep room) out → u ∈ out ∨ ∃ n ∈ l, n.f0 = 5 ∧ n.f2.f1 = room ∧ n.f2.f2 = u := by
 induction l with
 | nil => intro out _ h; exact .inl h
 | cons n l ih =>
  intro out hr h
  rcases ih _ (ownStep_rising hr) h with h | ⟨m, hm, e⟩
  ·unfold ownStep at h
   by_cases h5 : n.f0 = 5
   ·rw [if_pos h5] at h
    by_cases hm : n.f2.f1 = room
    ·rw [if_pos hm] at h
     by_cases h1 : n.f2.f0 = 1
     ·rw [if_pos h1] at h
      by_cases hh : hasS n.f2.f2 out = true
      ·rw [if_pos hh] at h; exact .inl h
      ·rw [if_neg hh, mem_ins] at h
       rcases h with h | h
       ·exact .inr ⟨n, List.mem_cons_self, h5, hm, h.symm⟩
       ·exact .inl h
     ·rw [if_neg h1] at h
      by_cases h2 : n.f2.f0 = 2
      ·rw [if_pos h2] at h
       by_cases hh : hasS n.f2.f2 out = true
       ·rw [if_pos hh] at h; exact .inl ((mem_del hr hh).1 h).2
       ·rw [if_neg hh] at h; exact .inl h
      ·rw [if_neg h2] at h; exact .inl h
    ·rw [if_neg hm] at h; exact .inl h
   ·rw [if_neg h5] at h; exact .inl h
  ·exact .inr ⟨m, List.mem_cons_of_mem _ hm, e⟩
/-- The users of the notes that the document looks at. -/
def userP (l : List S30) (room : ByteArray) (own : List ByteArray) : List ByteArray := (l.filter fun n => n.f0 == 5 && (decide (n.f2.f1 = room) && memB n.f2.f2 own)).map fun n => n.f2.f2
theorem rise_own_eq (l : List S30) (room : ByteArray) : riseP (userP l room (ownP l room)) = ownP l room := by
 obtain ⟨h1, h2⟩ := rise_fold (userP l room (ownP l room)) [] List.Pairwise.nil
 refine rising_ext h1 (ownP_rising l room) fun t => ?_
 rw [show (t ∈ riseP (userP l room (ownP l room))) = (t ∈ (userP l room (ownP l room)).foldl riseStep []) from rfl, h2 t]
 unfold userP
 simp only [List.mem_map, List.mem_filter, Bool.and_eq_true, beq_iff_eq, decide_eq_true_eq, memB_iff, List.not_mem_nil, or_false]
 constructor
 ·rintro ⟨n, ⟨_, _, _, hm⟩, rfl⟩
  exact hm
 ·intro ht
  rcases own_from (l := l) (room := room) (u := t) [] List.Pairwise.nil ht with h | ⟨n, hn, h5, hm, hu⟩
  ·cases h
  ·exact ⟨n, ⟨hn, h5, hm, by rw [hu]; exact ht⟩, hu⟩
theorem rowned_go (l : List S30) (room : ByteArray) (hl : l.length ≤ 1000000000) : ∀ d i : Nat, ∀ acc : List ByteArray, l.length - i = d → i ≤ l.length → acc.length ≤ i → Ev (fun k => outlawref23_Owned.l0 k l room acc (i : Int)) (riseP (acc ++ userP (l.drop i) room (ownP l room))) := by
 intro d
 induction d with
 | zero =>
  intro i acc hd hi ha
  obtain rfl : i = l.length := by omega
  refine Ev.step (f := fun _ => some _) (fun k => ?_) (Ev.now _)
  rw [outlawref23_Owned.l0, if_neg (by omega), List.drop_length, outlawref18_Rising.f, if_pos (by omega), Option.bind_some]
  simp [userP]
 | succ d ih =>
  intro i acc hd hi ha
  have hlt : i < l.length := by omega
  have hw := wrap_nat hlt (by omega)
  rw [List.drop_eq_getElem_cons hlt]
  by_cases h5 : l[i].f0 = 5
  ·by_cases hm : l[i].f2.f1.toList = room.toList
   ·have hm' := toList_inj hm
    have ho := rown_ev l room l[i].f2.f2 hl
    cases hq : memB l[i].f2.f2 (ownP l room) with
    | true =>
     rw [hq] at ho
     rw [show userP (l[i] :: l.drop (i + 1)) room (ownP l room) = l[i].f2.f2 :: userP (l.drop (i + 1)) room (ownP l room) from by unfold userP; rw [List.filter_cons_of_pos (by simp [h5, hm', hq])]; rfl]
     have := ih (i + 1) (acc ++ [l[i].f2.f2]) (by omega) (by omega) (by simp; omega)
     rw [List.append_assoc] at this
     refine Ev.step (f := fun k => (outlawref23_Own.f k l room l[i].f2.f2).bind fun t242 => (if t242 = true then (outlawref23_Owned.l0 k l room (acc ++ [l[i].f2.f2]) ((i + 1 : Nat) : Int)) else (outlawref23_Owned.l0 k l room acc ((i + 1 : Nat) : Int)))) (fun k => ?_) ?_
     ·rw [outlawref23_Owned.l0, if_pos (by omega), if_pos (by omega), rd_nat l hlt, if_pos h5, if_pos hm, hw]
      congr 1
      funext t
      rw [if_pos (show acc.length < 8796093022208 by omega)]
     ·exact Ev.bind (f := fun k t242 => (if t242 = true then (outlawref23_Owned.l0 k l room (acc ++ [l[i].f2.f2]) ((i + 1 : Nat) : Int)) else (outlawref23_Owned.l0 k l room acc ((i + 1 : Nat) : Int)))) ho (Ev.congr (fun k => by rw [if_pos rfl]) this)
    | false =>
     rw [hq] at ho
     rw [show userP (l[i] :: l.drop (i + 1)) room (ownP l room) = userP (l.drop (i + 1)) room (ownP l room) from by unfold userP; rw [List.filter_cons_of_neg (by simp [hq])]]
     have := ih (i + 1) acc (by omega) (by omega) (by omega)
     refine Ev.step (f := fun k => (outlawref23_Own.f k l room l[i].f2.f2).bind fun t242 => (if t242 = true then (outlawref23_Owned.l0 k l room (acc ++ [l[i].f2.f2]) ((i + 1 : Nat) : Int)) else (outlawref23_Owned.l0 k l room acc ((i + 1 : Nat) : Int)))) (fun k => ?_) ?_
     ·rw [outlawref23_Owned.l0, if_pos (by omega), if_pos (by omega), rd_nat l hlt, if_pos h5, if_pos hm, hw]
      congr 1
      funext t
      rw [if_pos (show acc.length < 8796093022208 by omega)]
     ·exact Ev.bind (f := fun k t242 => (if t242 = true then (outlawref23_Owned.l0 k l room (acc ++ [l[i].f2.f2]) ((i + 1 : Nat) : Int)) else (outlawref23_Owned.l0 k l room acc ((i + 1 : Nat) : Int)))) ho (Ev.congr (fun k => by rw [if_neg (by decide)]) this)
   ·have hm' : l[i].f2.f1 ≠ room := fun e => hm (by rw [e])
    rw [show userP (l[i] :: l.drop (i + 1)) room (ownP l room) = userP (l.drop (i + 1)) room (ownP l room) from by unfold userP; rw [List.filter_cons_of_neg (by simp [hm'])]]
    refine Ev.step (f := fun k => outlawref23_Owned.l0 k l room acc ((i + 1 : Nat) : Int)) (fun k => ?_) (ih (i + 1) acc (by omega) (by omega) (by omega))
    rw [outlawref23_Owned.l0, if_pos (by omega), if_pos (by omega), rd_nat l hlt, if_pos h5, if_neg hm, hw]
  ·rw [show userP (l[i] :: l.drop (i + 1)) room (ownP l room) = userP (l.drop (i + 1)) room (ownP l room) from by unfold userP; rw [List.filter_cons_of_neg (by simp [h5])]]
   refine Ev.step (f := fun k => outlawref23_Owned.l0 k l room acc ((i + 1 : Nat) : Int)) (fun k => ?_) (ih (i + 1) acc (by omega) (by omega) (by omega))
   rw [outlawref23_Owned.l0, if_pos (by omega), if_pos (by omega), rd_nat l hlt, if_neg h5, hw]
theorem rowned_ev (l : List S30) (room : ByteArray) (hl : l.length ≤ 1000000000) : Ev (fun k => outlawref23_Owned.f k l room) (ownP l room) := by
 have h := rowned_go l room hl _ 0 [] rfl (Nat.zero_le _) (Nat.zero_le _)
 rw [List.drop_zero, List.nil_append, rise_own_eq] at h
 exact h
theorem sames_go (l : List ByteArray) (hl : l.length ≤ 1000000000) : ∀ d i : Nat, l.length - i = d → i ≤ l.length → Ev (fun k => outlawkit_Same_string.l0 k l l (i : Int)) true := by
 intro d
 induction d with
 | zero =>
  intro i hd hi
  refine Ev.step (f := fun _ => some _) (fun k => ?_) (Ev.now _)
  rw [outlawkit_Same_string.l0, if_neg (by omega)]
 | succ d ih =>
  intro i hd hi
  have hlt : i < l.length := by omega
  have hw := wrap_nat hlt (by omega)
  refine Ev.step (f := fun k => outlawkit_Same_string.l0 k l l ((i + 1 : Nat) : Int)) (fun k => ?_) (ih (i + 1) (by omega) (by omega))
  rw [outlawkit_Same_string.l0, if_pos (by omega), if_pos (by omega), if_pos (by omega), if_pos rfl, hw]
theorem sames_ev (l : List ByteArray) (hl : l.length ≤ 1000000000) : Ev (fun k => outlawkit_Same_string.f k l l) true :=
 Ev.congr (fun k => by unfold outlawkit_Same_string.f; rw [if_pos rfl]; rfl) (sames_go l hl _ 0 rfl (Nat.zero_le _))
theorem samei_go (l : List Int) (hl : l.length ≤ 1000000000) : ∀ d i : Nat, l.length - i = d → i ≤ l.length → Ev (fun k => outlawkit_Same_int64.l0 k l l (i : Int)) true := by
 intro d
 induction d with
 | zero =>
  intro i hd hi
  refine Ev.step (f := fun _ => some _) (fun k => ?_) (Ev.now _)
  rw [outlawkit_Same_int64.l0, if_neg (by omega)]
 | succ d ih =>
  intro i hd hi
  have hlt : i < l.length := by omega
  have hw := wrap_nat hlt (by omega)
  refine Ev.step (f := fun k => outlawkit_Same_int64.l0 k l l ((i + 1 : Nat) : Int)) (fun k => ?_) (ih (i + 1) (by omega) (by omega))
  rw [outlawkit_Same_int64.l0, if_pos (by omega), if_pos (by omega), if_pos (by omega), if_pos rfl, hw]
theorem samei_ev (l : List Int) (hl : l.length ≤ 1000000000) : Ev (fun k => outlawkit_Same_int64.f k l l) true :=
 Ev.congr (fun k => by unfold outlawkit_Same_int64.f; rw [if_pos rfl]; rfl) (samei_go l hl _ 0 rfl (Nat.zero_le _))
theorem samen_go (l : List S30) (hl : l.length ≤ 1000000000) : ∀ d i : Nat, l.length - i = d → i ≤ l.length → Ev (fun k => api_Note.l0 k l l (i : Int)) true := by
 intro d
 induction d with
 | zero =>
  intro i hd hi
  refine Ev.step (f := fun _ => some _) (fun k => ?_) (Ev.now _)
  rw [api_Note.l0, if_neg (by omega)]
 | succ d ih =>
  intro i hd hi
  have hlt : i < l.length := by omega
  have hw := wrap_nat hlt (by omega)
  refine Ev.step (f := fun k => api_Note.l0 k l l ((i + 1 : Nat) : Int)) (fun k => ?_) (ih (i + 1) (by omega) (by omega))
  rw [api_Note.l0, if_pos (by omega), if_pos (by omega), if_pos (by omega), if_neg (by simp), hw]
theorem samen_ev (l : List S30) (hl : l.length ≤ 1000000000) : Ev (fun k => api_Note.f k l l) true :=
 Ev.congr (fun k => by unfold api_Note.f; rw [if_pos rfl]; rfl) (samen_go l hl _ 0 rfl (Nat.zero_le _))
/-- The calls behind the lines, each beside the document's. -/
def tailF (k : Nat) (x7 : List S30) (x9 x10 : ByteArray) (x2 : Int) : Option Bool :=
 (audit_Life.f x7).bind fun t314 => ((outlawref23_Life.f k x7).bind fun t315 => (if t314 = t315 then ((audit_Own.f k x7 x9 x10).bind fun t316 => ((outlawref23_Own.f k x7 x9 x10).bind fun t317 => (if (t316 == t317) = true then ((audit_Owned.f x7 x9).bind fun t318 => ((outlawref23_Owned.f k x7 x9).bind fun t321 => ((outlawkit_Same_string.f k t318 t321).bind fun t324 => (if t324 = true then ((audit_Of.f k x7 x2).bind fun t325 => ((outlawref23_Of.f k x7 x2).bind fun t328 => ((api_Note.f k t325 t328).bind fun t331 => (if t331 = true then ((audit_Open.f x7).bind fun t332 => ((outlawref23_Open.f x7).bind fun t335 => ((outlawkit_Same_int64.f k t332 t335).bind fun t338 => (if t338 = true then ((audit_Text.f x7).bind fun t339 => ((outlawref23_Text.f k x7).bind fun t340 => (some (t339.toList == t340.toList)))) else (some false))))) else (some false))))) else (some false))))) else (some false)))) else (some false)))
theorem okN_of {l : List S30} (hf : ∀ n ∈ l, TextOk n) (hl : l.length ≤ 1000) : okN l = true := by
 unfold okN
 simp only [Bool.and_eq_true, List.all_eq_true, decide_eq_true_eq]
 refine ⟨fun n hn => ?_, by omega⟩
 have := (hf n hn).1.1
 simp only [Lit.wf, Bool.and_eq_true, decide_eq_true_eq]
 exact this
theorem openP_len (l : List S30) : (openP l).length ≤ l.length := by
 have : ∀ (m : List S30) (acc : List Int), (m.foldl (fun acc n => insR n.f1 acc) acc).length ≤ acc.length + m.length := by
  intro m
  induction m with
  | nil => intro acc; simp
  | cons n m ih =>
   intro acc
   have h1 := ih (insR n.f1 acc)
   have h2 := insR_len n.f1 acc
   simp only [List.foldl_cons, List.length_cons]
   omega
 have h := this (l.filter fun n => n.f0 == 3 && !endedIn l n.f1) []
 have h2 := List.length_filter_le (fun n : S30 => n.f0 == 3 && !endedIn l n.f1) l
 unfold openP
 rw [List.length_nil] at h
 omega
theorem tail_ev (l : List S30) (x9 x10 : ByteArray) (x2 : Int) (hl : l.length ≤ 1000) (hok : ∀ n ∈ l, TextOk n) : Ev (fun k => tailF k l x9 x10 x2) true := by
 have hn := okN_of hok hl
 have h9 := ownP_length l x9
 have hO := openP_len l
 have hF : (ofP l x2).length ≤ l.length := List.length_filter_le _ _
 unfold tailF audit_Life.f audit_Open.f
 rw [if_pos hn, if_pos hn]
 simp only [Option.bind_some]
 refine Ev.bind (f := fun k t315 => _) (rlife_ev l (by omega)) ?_
 simp only [if_true]
 refine Ev.bind (f := fun k t316 => _) (own_ev l x9 x10 (by omega)) ?_
 refine Ev.bind (f := fun k t317 => _) (rown_ev l x9 x10 (by omega)) ?_
 simp only [beq_self_eq_true, if_true]
 unfold audit_Owned.f audit_own.f
 rw [if_pos (by omega)]
 simp only [Option.bind_some]
 refine Ev.bind (f := fun k t321 => _) (rowned_ev l x9 (by omega)) ?_
 refine Ev.bind (f := fun k t324 => _) (sames_ev (ownP l x9) (by omega)) ?_
 simp only [if_true]
 refine Ev.bind (f := fun k t325 => _) (aof_ev l x2 (by omega)) ?_
 refine Ev.bind (f := fun k t328 => _) (rof_ev l x2 (by omega)) ?_
 refine Ev.bind (f := fun k t331 => _) (samen_ev (ofP l x2) (by omega)) ?_
 simp only [if_true]
 unfold outlawref23_Open.f
 rw [if_pos (by omega)]
 simp only [Option.bind_some]
 refine Ev.bind (f := fun k t338 => _) (samei_ev (openP l) (by omega)) ?_
 simp only [if_true]
 rw [text_is hok hl]
 simp only [Option.bind_some]
 refine Ev.bind (f := fun k t340 => _) (rtext_ev l hl hok) ?_
 refine Ev.congr (f := fun _ => some true) (fun k => ?_) (Ev.now _)
 rw [beq_self_eq_true]
end Go.Proofs.YtlmhgnkkdjpkcaaDoorG
