/- Every function that works on scripts answers as the document's own does: for every two light scripts and bytes. -/
import Derived.Test.YtfgibjkgiolonaaTm
import Derived.Test.YtfgibjkgiolonaaT6
import Derived.Test.YtfgibjkgiolonaaSc
import Derived.Test.YtfgibjkgiolonaaPAx14
set_option linter.unusedVariables false
set_option linter.unusedSimpArgs false
namespace Go.Proofs.YtfgibjkgiolonaaS
open Go.RowKit Go.Proofs.YtfgibjkgiolonaaW.PrintWords Go.Proofs.YtfgibjkgiolonaaX Go.Proofs.Ytfgibjkgiolonaa.PA Go.Proofs.YtfgibjkgiolonaaG Go.Proofs.YtfgibjkgiolonaaQ Go.Proofs.YtfgibjkgiolonaaI
theorem fewC {l : List S45} (h : ∀ x ∈ l, x.f2.length ≤ 40) : fewCuts l := fun x hx => Nat.le_trans (h x hx) (by decide)
theorem gather_ev (l : List S45) (hl : l.length ≤ 310) : ∀ (d i : Nat) (x : List S42), l.length - i = d → i ≤ l.length → x.length + d ≤ 1000 → EvS (fun k => script_Inputs.l0 k x l (l.length : Int) (i : Int)) (x ++ (l.drop i).map (fun y => y.f1)) := by
 intro d
 induction d with
 | zero =>
  intro i x hd hi hx
  obtain rfl : i = l.length := by omega
  refine ⟨1, fun k hk => ?_⟩
  obtain ⟨k, rfl⟩ : ∃ q, k = q + 1 := ⟨k - 1, by omega⟩
  simp only [script_Inputs.l0]
  rw [if_neg (by omega), List.drop_length]
  simp
 | succ d ih =>
  intro i x hd hi hx
  have hlt : i < l.length := by omega
  have H := ih (i + 1) (x ++ [l[i].f1]) (by omega) (by omega) (by simp; omega)
  rw [List.append_assoc, show [l[i].f1] ++ (l.drop (i + 1)).map (fun y => y.f1) = (l.drop i).map (fun y => y.f1) by rw [List.drop_eq_getElem_cons hlt]; rfl] at H
  have hrd : rd_T45 l (i : Int) = l[i] := by unfold rd_T45; simp [List.getD_eq_getElem?_getD, List.getElem?_eq_getElem hlt]
  refine H.step fun k => ?_
  rw [script_Inputs.l0, if_pos (by omega), if_pos (by omega), if_pos (by omega), if_pos (by omega), hrd, show wrap64 ((i : Int) + 1) = ((i + 1 : Nat) : Int) by unfold wrap64; omega]
theorem like_ev (xs : List S42) (hl : xs.length ≤ 1000) : ∀ (d i : Nat), xs.length - i = d → i ≤ xs.length → EvS (fun k => api_Input.l0 k xs xs (i : Int)) true := by
 intro d
 induction d with
 | zero =>
  intro i hd hi
  obtain rfl : i = xs.length := by omega
  refine ⟨1, fun k hk => ?_⟩
  obtain ⟨k, rfl⟩ : ∃ q, k = q + 1 := ⟨k - 1, by omega⟩
  simp only [api_Input.l0]
  rw [if_neg (by omega)]
 | succ d ih =>
  intro i hd hi
  refine (ih (i + 1) (by omega) (by omega)).step fun k => ?_
  rw [api_Input.l0, if_pos (by omega), if_pos (by omega), if_pos (by omega), if_neg (by simp), show wrap64 ((i : Int) + 1) = ((i + 1 : Nat) : Int) by unfold wrap64; omega]
theorem read_few (s : ByteArray) : fewCuts (readS s).2.2.1 ∧ (readS s).2.2.1.length ≤ 1000 := by
 unfold readS
 cases hp : scriptP s with
 | bad x => exact ⟨(fun x hx => nomatch hx), by simp⟩
 | ok y r =>
  simp only
  by_cases hc : (checkS y.bot y.sectors y.steps).2 = 0
  ·rw [if_pos hc]
   obtain ⟨_, _, _, _, h3, hx⟩ := check_zero hc
   exact ⟨fun x hm => Nat.le_trans (wrong_zero (hx x hm)).2.2.1 (by decide), Nat.le_trans h3 (by decide)⟩
  ·rw [if_neg hc]
   exact ⟨(fun x hx => nomatch hx), by simp⟩
theorem scriptCalls (b1 : ByteArray) (s1 : Int) (l : List S45) (b2 : ByteArray) (s2 : Int) (m : List S45) (s : ByteArray) : EvS (fun k => outlawlaw25_ScriptCalls.f k b1 s1 l b2 s2 m s) true := by
 obtain ⟨K0, hK0⟩ := lives_ev
 obtain ⟨p, ⟨K1, hK1⟩, hp⟩ := light_ev b1 s1 l
 obtain ⟨q, ⟨K2, hK2⟩, hq⟩ := light_ev b2 s2 m
 have yes : ∀ k, outlawlaw25_ScriptCalls.j0 (k + 1) s true b1 s1 l b2 s2 m = some true := fun k => by simp only [outlawlaw25_ScriptCalls.j0, if_true]
 have hf : ∀ k, max K0 (max K1 K2) ≤ k → outlawlaw25_ScriptCalls.f k b1 s1 l b2 s2 m s = if p = true then (if q = true then outlawlaw25_ScriptCalls.j0 k s (decide ((s.size : Int) > 40000)) b1 s1 l b2 s2 m else outlawlaw25_ScriptCalls.j0 k s true b1 s1 l b2 s2 m) else outlawlaw25_ScriptCalls.j0 k s true b1 s1 l b2 s2 m := fun k hk => by
  unfold outlawlaw25_ScriptCalls.f
  rw [show outlawlaw25_lives.f k = _ from hK0 k (by omega)]
  simp only [Option.bind_some, if_true]
  rw [show outlawlaw25_light.f k b1 s1 l = _ from hK1 k (by omega)]
  simp only [Option.bind_some]
  rw [show outlawlaw25_light.f k b2 s2 m = _ from hK2 k (by omega)]
  simp only [Option.bind_some]
 have over : (∀ k, max K0 (max K1 K2) ≤ k → outlawlaw25_ScriptCalls.f k b1 s1 l b2 s2 m s = outlawlaw25_ScriptCalls.j0 k s true b1 s1 l b2 s2 m) → EvS (fun k => outlawlaw25_ScriptCalls.f k b1 s1 l b2 s2 m s) true := fun hh => by
  refine ⟨max K0 (max K1 K2) + 1, fun k hk => ?_⟩
  obtain ⟨k, rfl⟩ : ∃ q, k = q + 1 := ⟨k - 1, by omega⟩
  exact (hh _ (by omega)).trans (yes k)
 by_cases h1 : ¬ p = true
 ·exact over fun k hk => by rw [hf k hk, if_neg h1]
 replace h1 : p = true := Decidable.not_not.mp h1
 by_cases h2 : ¬ q = true
 ·exact over fun k hk => by rw [hf k hk, if_pos h1, if_neg h2]
 replace h2 : q = true := Decidable.not_not.mp h2
 by_cases h3 : (s.size : Int) > 40000
 ·exact over fun k hk => by rw [hf k hk, if_pos h1, if_pos h2, decide_eq_true h3]
 obtain ⟨hl, hb1, hcut⟩ := hp h1
 obtain ⟨hm, hb2, hcut2⟩ := hq h2
 have hfew := fewC hcut
 obtain ⟨K3, hK3⟩ := own_ev b1 s1 l hl hcut
 obtain ⟨K4, hK4⟩ := refcheck_ev b1 s1 l hfew (by omega)
 obtain ⟨K5, hK5⟩ := bytes_ev b1 s1 l hfew (by omega)
 obtain ⟨K6, hK6⟩ := gather_ev l hl l.length 0 [] (by omega) (Nat.zero_le _) (by simp; omega)
 obtain ⟨K7, hK7⟩ := inputs_ev b1 s1 l hl l.length 0 [] (by omega) (Nat.zero_le _) (by simp; omega)
 simp only [List.nil_append, List.drop_zero] at hK6 hK7
 obtain ⟨K8, hK8⟩ := like_ev (l.map (fun y => y.f1)) (by simp; omega) _ 0 rfl (Nat.zero_le _)
 obtain ⟨hr1, hr2⟩ := read_few s
 refine ⟨max (max K0 (max K1 K2)) (max 302 (max (max K3 K4) (max (max K5 K6) (max K7 K8)))) + 1, fun k hk => ?_⟩
 obtain ⟨k, rfl⟩ : ∃ q, k = q + 1 := ⟨k - 1, by omega⟩
 refine (hf _ (by omega)).trans ?_
 rw [if_pos h1, if_pos h2, decide_eq_false h3]
 have E3 : outlawlaw25_own.f k b1 s1 l = some (b1, s1, l) := hK3 k (by omega)
 have E4 : outlawref25_Check.f k b1 s1 l = some (checkS b1 s1 l) := hK4 k (by omega)
 have E5 : script_Bytes.f k b1 s1 l = some (bytesS b1 s1 l) := hK5 k (by omega)
 have E6 : script_Inputs.f k b1 s1 l = some (l.map (fun y => y.f1)) := hK6 k (by omega)
 have E7 : outlawlaw25_inputs.f k b1 s1 l = some (l.map (fun y => y.f1)) := hK7 k (by omega)
 have E8 : api_Input.f k (l.map (fun y => y.f1)) (l.map (fun y => y.f1)) = some true := by unfold api_Input.f; rw [if_pos rfl]; exact hK8 k (by omega)
 rw [outlawlaw25_ScriptCalls.j0, if_neg (by decide), E3]
 simp only [Option.bind_some]
 rw [check_val k b1 s1 l hfew (by omega) (by omega), E4]
 simp only [Option.bind_some]
 rw [E5, show outlawref25_Bytes.f b1 s1 l = some (bytesS b1 s1 l) from if_pos ⟨hfew, by omega⟩, show script_Read.f s = some (readS s) from rfl, show outlawref25_Read.f s = some (readS s) from rfl]
 simp only [Option.bind_some, if_true]
 rw [show outlawref25_Same.f (readS s).1 (readS s).2.1 (readS s).2.2.1 (readS s).1 (readS s).2.1 (readS s).2.2.1 = some true by unfold outlawref25_Same.f; rw [if_pos ⟨hr1, by omega, by omega⟩, same_refl]]
 simp only [Option.bind_some, if_true]
 rw [show script_Same.f b1 s1 l b2 s2 m = some (sameS b1 s1 l b2 s2 m) from if_pos ⟨hfew, by omega, by omega⟩, show outlawref25_Same.f b1 s1 l b2 s2 m = some (sameS b1 s1 l b2 s2 m) from if_pos ⟨hfew, by omega, by omega⟩]
 simp only [Option.bind_some, beq_self_eq_true, if_true]
 rw [show script_Same.f b1 s1 l b1 s1 l = some true by unfold script_Same.f; rw [if_pos ⟨hfew, by omega, by omega⟩, same_refl]]
 simp only [Option.bind_some, if_true]
 rw [E6, E7]
 simp only [Option.bind_some]
 rw [E8]
 rfl
end Go.Proofs.YtfgibjkgiolonaaS
