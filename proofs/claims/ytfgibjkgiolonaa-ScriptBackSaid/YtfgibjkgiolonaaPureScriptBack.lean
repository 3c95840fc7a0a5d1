/- A valid script is read from its bytes; what is read is valid, and has exactly these bytes: for every script and bytes, no condition. -/
import Derived.Test.YtfgibjkgiolonaaTm
import Derived.Test.YtfgibjkgiolonaaPAx6
set_option linter.unusedVariables false
set_option linter.unusedSimpArgs false
namespace Go.Proofs.YtfgibjkgiolonaaS
open Go.RowKit Go.Proofs.YtfgibjkgiolonaaW.PrintWords Go.Proofs.YtfgibjkgiolonaaX Go.Proofs.Ytfgibjkgiolonaa.PA Go.Proofs.YtfgibjkgiolonaaG Go.Proofs.YtfgibjkgiolonaaQ Go.Proofs.YtfgibjkgiolonaaI
theorem few40 {l : List S45} (h : ∀ x ∈ l, x.f2.length ≤ 40) : fewCuts l := fun x hx => Nat.le_trans (h x hx) (by decide)
theorem back_j2 (s : ByteArray) (hs : s.size ≤ 40000) : EvS (fun k => outlawlaw25_ScriptBack.j2 k s) true := by
 cases hr : readS s with
 | mk bot y =>
  obtain ⟨sec, l, e⟩ := y
  by_cases he : e = 0
  ·subst he
   obtain ⟨hc, rfl, hf, hb⟩ := read_inv hr
   obtain ⟨K, hK⟩ := bytes_ev bot sec l hf (Nat.le_trans hb (by decide))
   refine EvS.from (h := fun _ => some true) ⟨0, fun _ _ => rfl⟩ (max K 302) fun k hk => ?_
   have hB := hK k (by omega)
   unfold bytesS at hB
   rw [if_pos hc] at hB
   show outlawlaw25_ScriptBack.j2 (k + 1) _ = some true
   rw [outlawlaw25_ScriptBack.j2, show script_Read.f (strOfNums (scrL bot sec l)) = some _ from congrArg some hr]
   simp only [Option.bind_some, if_true]
   rw [check_val k bot sec l hf (Nat.le_trans hb (by decide)) (by omega), (check_zero hc).1]
   simp only [Option.bind_some]
   rw [show script_Bytes.f k bot sec l = _ from hB]
   simp
  ·refine EvS.from (h := fun _ => some true) ⟨0, fun _ _ => rfl⟩ 0 fun k hk => ?_
   show outlawlaw25_ScriptBack.j2 (k + 1) s = some true
   rw [outlawlaw25_ScriptBack.j2, show script_Read.f s = some _ from congrArg some hr]
   simp only [Option.bind_some]
   rw [if_neg he]
   have hz : bot = ⟨#[]⟩ ∧ sec = 0 ∧ l = [] := by
    unfold readS at hr
    cases hp : scriptP s with
    | bad x =>
     rw [hp] at hr
     simp only [Prod.mk.injEq] at hr
     exact ⟨hr.1.symm, hr.2.1.symm, hr.2.2.1.symm⟩
    | ok y r =>
     rw [hp] at hr
     simp only at hr
     by_cases hc : (checkS y.bot y.sectors y.steps).2 = 0
     ·rw [if_pos hc] at hr
      simp only [Prod.mk.injEq] at hr
      exact absurd hr.2.2.2.symm he
     ·rw [if_neg hc] at hr
      simp only [Prod.mk.injEq] at hr
      exact ⟨hr.1.symm, hr.2.1.symm, hr.2.2.1.symm⟩
   obtain ⟨rfl, rfl, rfl⟩ := hz
   unfold script_Same.f
   rw [if_pos ⟨(fun x hx => nomatch hx), by decide, by decide⟩, same_refl]
   rfl
theorem scriptBack (bot : ByteArray) (sec : Int) (l : List S45) (s : ByteArray) : EvS (fun k => outlawlaw25_ScriptBack.f k bot sec l s) true := by
 obtain ⟨K0, hK0⟩ := lives_ev
 obtain ⟨b, ⟨K1, hK1⟩, hb⟩ := light_ev bot sec l
 have yes : ∀ k, outlawlaw25_ScriptBack.j0 (k + 1) s true bot sec l = some true := fun k => by simp only [outlawlaw25_ScriptBack.j0, if_true]
 have hf : ∀ k, max K0 K1 ≤ k → outlawlaw25_ScriptBack.f k bot sec l s = if b = true then outlawlaw25_ScriptBack.j0 k s (decide ((s.size : Int) > 40000)) bot sec l else outlawlaw25_ScriptBack.j0 k s true bot sec l := fun k hk => by
  unfold outlawlaw25_ScriptBack.f
  rw [show outlawlaw25_lives.f k = _ from hK0 k (by omega)]
  simp only [Option.bind_some, if_true]
  rw [show outlawlaw25_light.f k bot sec l = _ from hK1 k (by omega)]
  simp only [Option.bind_some]
 cases b with
 | false =>
  refine ⟨max K0 K1 + 1, fun k hk => ?_⟩
  obtain ⟨k, rfl⟩ : ∃ q, k = q + 1 := ⟨k - 1, by omega⟩
  exact (hf _ (by omega)).trans (yes k)
 | true =>
  by_cases hs : (s.size : Int) > 40000
  ·refine ⟨max K0 K1 + 1, fun k hk => ?_⟩
   obtain ⟨k, rfl⟩ : ∃ q, k = q + 1 := ⟨k - 1, by omega⟩
   refine (hf _ (by omega)).trans ?_
   rw [if_pos rfl, decide_eq_true hs]
   exact yes k
  obtain ⟨hl, hbot, hcuts⟩ := hb rfl
  have hfew := few40 hcuts
  obtain ⟨K2, hK2⟩ := bytes_ev bot sec l hfew (by omega)
  obtain ⟨K3, hK3⟩ := back_j2 s (by omega)
  refine ⟨max (max (max K0 K1) (max K2 302)) K3 + 3, fun k hk => ?_⟩
  obtain ⟨k, rfl⟩ : ∃ q, k = q + 2 := ⟨k - 2, by omega⟩
  refine (hf _ (by omega)).trans ?_
  rw [if_pos rfl, decide_eq_false hs]
  show outlawlaw25_ScriptBack.j0 (k + 1 + 1) s false bot sec l = some true
  have hB := hK2 (k + 1) (by omega)
  unfold bytesS at hB
  rw [outlawlaw25_ScriptBack.j0, if_neg (by decide), check_val (k + 1) bot sec l hfew (by omega) (by omega)]
  simp only [Option.bind_some]
  by_cases hc : (checkS bot sec l).2 = 0
  ·rw [if_pos hc] at hB
   rw [show script_Bytes.f (k + 1) bot sec l = _ from hB]
   simp only [Option.bind_some, hc, if_true]
   rw [outlawlaw25_ScriptBack.j1, if_neg (by decide), if_pos rfl, show script_Read.f (strOfNums (scrL bot sec l)) = some _ from congrArg some (read_back hc)]
   simp only [Option.bind_some, if_true]
   unfold script_Same.f
   rw [if_pos ⟨hfew, by omega, by omega⟩, same_refl]
   simp only [Option.bind_some, if_true]
   exact hK3 k (by omega)
  ·rw [if_neg hc] at hB
   rw [show script_Bytes.f (k + 1) bot sec l = _ from hB]
   simp only [Option.bind_some, if_true]
   rw [if_neg hc]
   have hn : (((⟨#[]⟩ : ByteArray).toList != ([] : List UInt8)) = false) := by rw [ByteArray.toList_eq]; rfl
   rw [hn, outlawlaw25_ScriptBack.j1, if_neg (by decide), if_neg hc]
   exact hK3 k (by omega)
end Go.Proofs.YtfgibjkgiolonaaS
