/- The law ScriptWrong: what script.Check names first stands, and nothing before it. -/
import Derived.Test.YtfgibjkgiolonaaTm
import Derived.Test.YtfgibjkgiolonaaPAx7
import Derived.Test.YtfgibjkgiolonaaPAx9
set_option linter.unusedVariables false
set_option linter.unusedSimpArgs false
namespace Go.Proofs.YtfgibjkgiolonaaS
open Go.RowKit Go.Proofs.YtfgibjkgiolonaaW.PrintWords Go.Proofs.YtfgibjkgiolonaaW.PrintLast Go.Proofs.YtfgibjkgiolonaaW.PrintMore Go.Proofs.YtfgibjkgiolonaaX Go.Proofs.Ytfgibjkgiolonaa.PA Go.Proofs.YtfgibjkgiolonaaG Go.Proofs.YtfgibjkgiolonaaI
theorem own_int (x : List Int) (h : x.length ≤ 40) : outlawkit_Own_int.f x = some x := by
 unfold outlawkit_Own_int.f
 simp only [Option.bind_some, List.length_nil, List.nil_append]
 rw [if_pos (by omega)]
theorem set_same (l : List S45) (i : Nat) (hlt : i < l.length) : l.set i (⟨(l[i]).f0, (⟨(l[i]).f1.f0, (l[i]).f1.f1, (l[i]).f1.f2, (l[i]).f1.f3, (l[i]).f1.f4⟩ : S42), (l[i]).f2⟩ : S45) = l := List.set_getElem_self hlt
theorem own_step (bot : ByteArray) (sec : Int) (l : List S45) (k : Nat) (x : Int) (h : x < (l.length : Int)) (h0 : 0 ≤ x) (hf : (rd_T45 l x).f2.length ≤ 40) (hs : l.set x.toNat (⟨(rd_T45 l x).f0, (⟨(rd_T45 l x).f1.f0, (rd_T45 l x).f1.f1, (rd_T45 l x).f1.f2, (rd_T45 l x).f1.f3, (rd_T45 l x).f1.f4⟩ : S42), (rd_T45 l x).f2⟩ : S45) = l) : outlawlaw25_own.l0 (k + 1) x bot sec l = outlawlaw25_own.l0 k (wrap64 (x + 1)) bot sec l := by
 rw [outlawlaw25_own.l0, if_pos h, if_pos h0, own_int _ hf, Option.bind_some, hs]
theorem own_loop (bot : ByteArray) (sec : Int) (l : List S45) (hl : l.length ≤ 310) (hf : ∀ x ∈ l, x.f2.length ≤ 40) : ∀ (d m i : Nat), l.length - i = d → i ≤ l.length → outlawlaw25_own.l0 (m + d + 1) (i : Int) bot sec l = some (bot, sec, l) := by
 intro d
 induction d with
 | zero =>
  intro m i hd hi
  obtain rfl : i = l.length := by omega
  simp only [outlawlaw25_own.l0]
  rw [if_neg (by omega)]
 | succ d ih =>
  intro m i hd hi
  have hlt : i < l.length := by omega
  have hrd : rd_T45 l (i : Int) = l[i] := by
   unfold rd_T45
   simp [List.getD_eq_getElem?_getD, List.getElem?_eq_getElem hlt]
  rw [show m + (d + 1) + 1 = (m + d + 1) + 1 by omega]
  rw [own_step bot sec l (m + d + 1) (i : Int) (by omega) (by omega) (by rw [hrd]; exact hf _ (List.getElem_mem hlt)) (by rw [hrd]; exact set_same l i hlt), show wrap64 ((i : Int) + 1) = ((i + 1 : Nat) : Int) by unfold wrap64; omega]
  exact ih m (i + 1) (by omega) (by omega)
theorem own_ev (bot : ByteArray) (sec : Int) (l : List S45) (hl : l.length ≤ 310) (hf : ∀ x ∈ l, x.f2.length ≤ 40) : EvS (fun k => outlawlaw25_own.f k bot sec l) (bot, sec, l) := by
 refine ⟨l.length + 1, fun k hk => ?_⟩
 obtain ⟨m, rfl⟩ : ∃ m, k = m + l.length + 1 := ⟨k - (l.length + 1), by omega⟩
 show outlawlaw25_own.f _ bot sec l = _
 unfold outlawlaw25_own.f api_Step.f
 simp only [Option.bind_some, List.length_nil, List.nil_append]
 rw [if_pos (by omega)]
 exact own_loop bot sec l hl hf l.length m 0 (by omega) (Nat.zero_le _)
theorem firstBad_cases (l : List S45) : ∀ (n : Nat), firstBad n l = (0, 0) ∧ (∀ x ∈ l, wrongS x = 0) ∨ ∃ i, ∃ h : i < l.length, firstBad n l = (((n + i : Nat) : Int), wrongS l[i]) ∧ wrongS l[i] ≠ 0 ∧ ∀ x ∈ l.take i, wrongS x = 0 := by
 induction l with
 | nil => intro n; exact .inl ⟨rfl, fun x hx => nomatch hx⟩
 | cons x r ih =>
  intro n
  unfold firstBad
  by_cases hw : wrongS x = 0
  ·rw [if_pos hw]
   rcases ih (n + 1) with ⟨h1, h2⟩ | ⟨i, hi, h1, h2, h3⟩
   ·refine .inl ⟨h1, fun y hy => ?_⟩
    rcases List.mem_cons.1 hy with rfl | hy
    ·exact hw
    ·exact h2 y hy
   ·refine .inr ⟨i + 1, by simp; omega, ?_, h2, fun y hy => ?_⟩
    ·rw [h1]
     simp only [List.getElem_cons_succ]
     congr 2
     omega
    ·rw [List.take_succ_cons] at hy
     rcases List.mem_cons.1 hy with rfl | hy
     ·exact hw
     ·exact h3 y hy
  ·rw [if_neg hw]
   exact .inr ⟨0, by simp, rfl, hw, fun y hy => by simp at hy⟩
theorem firstBad_none : ∀ (l : List S45) (n : Nat), (∀ x ∈ l, wrongS x = 0) → firstBad n l = (0, 0)
 | [], _, _ => rfl
 | x :: r, n, h => by
  unfold firstBad
  rw [if_pos (h x (List.mem_cons_self))]
  exact firstBad_none r (n + 1) fun y hy => h y (List.mem_cons_of_mem _ hy)
theorem headS_small {bot : ByteArray} {sec : Int} {n m : Nat} (h : headS bot sec n = 0) (hm : m ≤ 300) : headS bot sec m = 0 := by
 unfold headS at h ⊢
 split at h
 ·cases h
 ·rename_i h1
  rw [if_neg h1]
  split at h
  ·cases h
  ·rename_i h2
   rw [if_neg h2, if_neg (by omega)]
theorem headS_le {bot : ByteArray} {sec : Int} {n : Nat} (h : headS bot sec n = 0) : n ≤ 300 := by
 unfold headS at h
 split at h
 ·cases h
 ·split at h
  ·cases h
  ·split at h
   ·cases h
   ·omega
theorem headS_or {bot : ByteArray} {sec : Int} {n : Nat} (h : headS bot sec n ≠ 0) : headS bot sec 0 = headS bot sec n ∨ headS bot sec 0 = 0 ∧ headS bot sec n = 4 ∧ 300 < n := by
 unfold headS at h ⊢
 by_cases h1 : userI bot = false
 ·refine .inl ?_
  rw [if_pos h1, if_pos h1]
 ·simp only [if_neg h1] at h ⊢
  by_cases h2 : sec < 1 ∨ 1024 < sec
  ·refine .inl ?_
   rw [if_pos h2, if_pos h2]
  ·simp only [if_neg h2] at h ⊢
   by_cases h3 : 300 < n
   ·exact .inr ⟨rfl, if_pos h3, h3⟩
   ·rw [if_neg h3] at h
    exact absurd rfl h
theorem wrap_up (i : Nat) (h : i ≤ 1000) : wrap64 ((i : Int) + 1) = ((i + 1 : Nat) : Int) := by unfold wrap64; omega
theorem j2_at (k : Nat) (x y : Int) (bot : ByteArray) (sec : Int) (l : List S45) (hl : (l.length : Int) ≠ 0) (ho : outlawlaw25_own.f k bot sec l = some (bot, sec, l)) (h0 : 0 ≤ x) (hx : x ≤ (l.length : Int)) (hw : x ≤ wrap64 (x + 1)) (hw2 : wrap64 (x + 1) ≤ (l.length : Int))
  (c1 : script_Check.f k bot sec (l.take x.toNat) = some (0, 0)) (c2 : script_Check.f k bot sec ((l.take (wrap64 (x + 1)).toNat).drop x.toNat) = some (0, y)) : outlawlaw25_ScriptWrong.j2 (k + 1) x y 0 false bot sec l = some true := by
 rw [outlawlaw25_ScriptWrong.j2, if_neg (by decide), if_neg hl, ho]
 simp only [Option.bind_some]
 rw [if_pos h0, if_pos hx, c1]
 simp only [Option.bind_some]
 rw [if_pos hw, if_pos hw2, c2]
 simp only [Option.bind_some, if_true, beq_self_eq_true]
theorem scriptWrong (bot : ByteArray) (sec : Int) (l : List S45) : EvS (fun k => outlawlaw25_ScriptWrong.f k bot sec l) true := by
 obtain ⟨K0, hK0⟩ := lives_ev
 obtain ⟨b, ⟨K1, hK1⟩, hb⟩ := light_ev bot sec l
 cases b with
 | false =>
  refine ⟨max K0 K1, fun k hk => ?_⟩
  show outlawlaw25_ScriptWrong.f k bot sec l = some true
  unfold outlawlaw25_ScriptWrong.f
  rw [show outlawlaw25_lives.f k = _ from hK0 k (by omega)]
  simp only [Option.bind_some, if_true]
  rw [show outlawlaw25_light.f k bot sec l = _ from hK1 k (by omega)]
  simp only [Option.bind_some]
  rfl
 | true =>
  obtain ⟨hl, hbot, hcuts⟩ := hb rfl
  have hfew : fewCuts l := fun x hx => by have := hcuts x hx; omega
  obtain ⟨K2, hK2⟩ := own_ev bot sec l hl hcuts
  refine ⟨max (max K0 K1) (max K2 302) + 3, fun k hk => ?_⟩
  show outlawlaw25_ScriptWrong.f k bot sec l = some true
  obtain ⟨q, rfl⟩ : ∃ q, k = q + 3 := ⟨k - 3, by omega⟩
  have C : ∀ (m : Nat) (x : List S45), fewCuts x → 302 ≤ m → script_Check.f m bot sec x = some (checkS bot sec x) := fun m x hx hm => check_val m bot sec x hx (by omega) hm
  have nilFew : fewCuts ([] : List S45) := fun x hx => nomatch hx
  unfold outlawlaw25_ScriptWrong.f
  rw [show outlawlaw25_lives.f (q + 3) = _ from hK0 _ (by omega)]
  simp only [Option.bind_some, if_true]
  rw [show outlawlaw25_light.f (q + 3) bot sec l = _ from hK1 _ (by omega)]
  simp only [Option.bind_some, if_true]
  rw [C _ l hfew (by omega)]
  simp only [Option.bind_some]
  have hnil : checkS bot sec [] = (0, headS bot sec 0) := by
   unfold checkS
   split
   ·rename_i h
    rw [show headS bot sec 0 = 0 from h]
    rfl
   ·rfl
  by_cases hh : headS bot sec l.length = 0
  ·have hlen := headS_le hh
   have h0 := headS_small hh (Nat.zero_le 300)
   have hcl : checkS bot sec l = firstBad 0 l := by unfold checkS; rw [if_pos hh]
   rcases firstBad_cases l 0 with ⟨h1, _⟩ | ⟨i, hi, h1, h2, h3⟩
   ·rw [hcl, h1]
    rfl
   ·rw [hcl, h1]
    simp only [Nat.zero_add]
    rw [if_neg h2, if_neg (by omega), if_neg (by omega), if_neg (by omega)]
    simp only [outlawlaw25_ScriptWrong.j0]
    rw [if_neg (by decide), if_neg (by omega)]
    simp only [outlawlaw25_ScriptWrong.j1]
    rw [if_neg (by decide), C _ [] nilFew (by omega), hnil, h0]
    simp only [Option.bind_some, if_true]
    rw [decide_eq_false (by omega)]
    have ht : (l.take (i + 1)).drop i = [l[i]] := by
     rw [List.drop_take, Nat.add_sub_cancel_left, List.drop_eq_getElem_cons hi]
     rfl
    have c1 : checkS bot sec (l.take i) = (0, 0) := by
     unfold checkS
     rw [if_pos (headS_small hh (by rw [List.length_take]; omega))]
     exact firstBad_none _ _ h3
    have c2 : checkS bot sec [l[i]] = (0, wrongS l[i]) := by
     unfold checkS
     rw [if_pos (headS_small hh (by simp))]
     unfold firstBad
     rw [if_neg h2]
     rfl
    have t1 : (wrap64 ((i : Int) + 1)) = ((i + 1 : Nat) : Int) := wrap_up i (by omega)
    have t2 : (wrap64 ((i : Int) + 1)).toNat = i + 1 := by rw [t1]; exact Int.toNat_natCast _
    have t3 : ((i : Int)).toNat = i := Int.toNat_natCast i
    refine j2_at q (i : Int) (wrongS l[i]) bot sec l (by omega) (hK2 q (by omega)) (by omega) (by omega) (by rw [t1]; omega) (by rw [t1]; omega) ?_ ?_
    ·rw [t3, C _ (l.take i) (fun x hx => hfew x (List.mem_of_mem_take hx)) (by omega), c1]
    ·rw [t2, t3, ht, C _ [l[i]] (fun x hx => by rcases List.mem_singleton.1 hx with rfl; exact hfew _ (List.getElem_mem hi)) (by omega), c2]
  ·have hcl : checkS bot sec l = (0, headS bot sec l.length) := by unfold checkS; rw [if_neg hh]
   rw [hcl]
   simp only []
   rw [if_neg hh, if_neg (by omega), if_neg (by omega)]
   have j0s : outlawlaw25_ScriptWrong.j0 (q + 3) 0 (headS bot sec l.length) false bot sec l = some true := by
    have j1s : outlawlaw25_ScriptWrong.j1 (q + 2) 0 (headS bot sec l.length) false bot sec l = some true := by
     simp only [outlawlaw25_ScriptWrong.j1]
     rw [if_neg (by decide), C _ [] nilFew (by omega), hnil]
     simp only [Option.bind_some]
     rcases headS_or hh with e | ⟨e0, e4, eb⟩
     ·rw [e, if_neg hh]
      simp only [outlawlaw25_ScriptWrong.j2, if_true]
      rw [if_neg hh]
      simp
     ·rw [e0, if_pos rfl, decide_eq_true (by omega), e4]
      simp only [outlawlaw25_ScriptWrong.j2, if_true]
    simp only [outlawlaw25_ScriptWrong.j0]
    rw [if_neg (by decide)]
    have hz : ((0 : Int) != 0) = false := by decide
    rw [hz, ite_self]
    exact j1s
   have hz : ((0 : Int) != 0) = false := by decide
   rw [hz, ite_self]
   exact j0s
end Go.Proofs.YtfgibjkgiolonaaS
