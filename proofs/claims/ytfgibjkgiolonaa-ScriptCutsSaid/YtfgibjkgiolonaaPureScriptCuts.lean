/- The law ScriptCuts: bytes cut short are too short, a byte more is bad, a step less has fewer bytes. -/
import Derived.Test.YtfgibjkgiolonaaT5
import Derived.Test.YtfgibjkgiolonaaPAx7
import Derived.Test.YtfgibjkgiolonaaPAx8
import Derived.Test.YtfgibjkgiolonaaT6
set_option linter.unusedVariables false
set_option linter.unusedSimpArgs false
namespace Go.Proofs.YtfgibjkgiolonaaS
open Go.RowKit Go.Proofs.YtfgibjkgiolonaaW.PrintWords Go.Proofs.YtfgibjkgiolonaaW.PrintLast Go.Proofs.YtfgibjkgiolonaaW.PrintMore Go.Proofs.YtfgibjkgiolonaaX Go.Proofs.Ytfgibjkgiolonaa.PA Go.Proofs.YtfgibjkgiolonaaG Go.Proofs.YtfgibjkgiolonaaQ Go.Proofs.YtfgibjkgiolonaaI
theorem wrap_in (x : Int) (h : 0 ≤ x) (h2 : x ≤ 1000000000000) : wrap64 x = x := by unfold wrap64; omega
theorem pick_in (a b : Int) (h1 : 1 ≤ b) (h2 : b ≤ 1000000000000) : ∃ t : Nat, outlawkit_Pick.f a b = some (t : Int) ∧ (t : Int) < b := by
  unfold outlawkit_Pick.f
  rw [if_neg (by omega), if_neg (by omega)]
  have hlt := Int.tmod_lt_of_pos a (show 0 < b by omega)
  have hgt := Int.lt_tmod_of_pos a (show 0 < b by omega)
  generalize Int.tmod a b = m at *
  by_cases h : m < 0
  · rw [if_pos h, wrap_in _ (by omega) (by omega)]
    exact ⟨(m + b).toNat, by rw [Int.toNat_of_nonneg (by omega)], by omega⟩
  · rw [if_neg h]
    exact ⟨m.toNat, by rw [Int.toNat_of_nonneg (by omega)], by omega⟩
theorem str_app (a b : List Int) : strOfNums (a ++ b) = strOfNums a ++ strOfNums b := by
  apply bytes_ext
  simp [strOfNums]
theorem stepsL_cons (x : S45) (l : List S45) : stepsL (x :: l) = stepL x ++ stepsL l := by simp [stepsL]
theorem stepsL_len : ∀ (l : List S45), (∀ x ∈ l, wrongS x = 0) → (stepsL l).length ≤ 5000 * l.length
  | [], _ => by simp [stepsL]
  | x :: l, h => by
    have h1 := step_length (h x List.mem_cons_self)
    have h2 := stepsL_len l fun y hy => h y (List.mem_cons_of_mem _ hy)
    rw [stepsL_cons, List.length_append, List.length_cons]
    omega
theorem stepsL_erase : ∀ (l : List S45) (t : Nat), t < l.length → (stepsL (l.eraseIdx t)).length < (stepsL l).length
  | [], t, h => absurd h (by simp)
  | x :: l, 0, h => by
    rw [List.eraseIdx_zero, List.tail_cons, stepsL_cons, List.length_append]
    have : 1 ≤ (stepL x).length := by unfold stepL; simp
    omega
  | x :: l, t + 1, h => by
    rw [List.eraseIdx_cons_succ, stepsL_cons, stepsL_cons, List.length_append, List.length_append]
    have := stepsL_erase l t (by simp at h; omega)
    omega
theorem scr_len (bot : ByteArray) (sec : Int) (l : List S45) : (scrL bot sec l).length = 5 + bot.size + (stepsL l).length := by
  unfold scrL
  simp only [List.length_cons, List.length_append, bytesOf_length, twoL, List.length_nil]
  omega
theorem check_of {bot : ByteArray} {sec : Int} {l : List S45} (hu : userI bot = true) (h1 : 1 ≤ sec) (h2 : sec ≤ 1024) (h3 : l.length ≤ 300) (hx : ∀ x ∈ l, wrongS x = 0) : (checkS bot sec l).2 = 0 := by
  have hh : headS bot sec l.length = 0 := by
    unfold headS
    rw [if_neg (by rw [hu]; decide), if_neg (by omega), if_neg (by omega)]
  unfold checkS
  rw [if_pos hh, first_of l 0 hx]
theorem few_of {l : List S45} (h : ∀ x ∈ l, wrongS x = 0) : fewCuts l := fun x hx => by
  have := (wrong_zero (h x hx)).2.2.1
  omega
theorem same_empty : script_Same.f (⟨#[]⟩ : ByteArray) 0 ([] : List S45) (⟨#[]⟩ : ByteArray) 0 ([] : List S45) = some true := by
  unfold script_Same.f
  rw [if_pos ⟨(fun x hx => nomatch hx), by decide, by decide⟩, same_refl]
theorem cuts_head (k : Nat) (bot : ByteArray) (sec : Int) (l : List S45) (cut b : Int) (hb : 0 ≤ b ∧ b ≤ 255) (hc : (checkS bot sec l).2 = 0) (h1 : outlawlaw25_lives.f k = some true) (h2 : outlawlaw25_light.f k bot sec l = some true) (h3 : script_Bytes.f k bot sec l = some (strOfNums (scrL bot sec l), 0)) :
    outlawlaw25_ScriptCuts.f k bot sec l cut b = outlawlaw25_ScriptCuts.j0 k cut (strOfNums (scrL bot sec l)) false bot sec l := by
  obtain ⟨_, hu, hs1, hs2, hl, hx⟩ := check_zero hc
  have hus := user_size hu
  have hlen := scr_len bot sec l
  have hst := stepsL_len l hx
  have hsz : (strOfNums (scrL bot sec l)).size = (scrL bot sec l).length := str_size _
  obtain ⟨t, ht, htl⟩ := pick_in cut ((strOfNums (scrL bot sec l)).size : Int) (by omega) (by omega)
  have hno : ¬ (strOfNums (scrL bot sec l)).toList = ([] : List UInt8) := fun e => by
    have := congrArg List.length e
    rw [ByteArray.toList_eq] at this
    simp at this
    rw [this] at hsz
    have h0 : (ByteArray.empty).size = 0 := rfl
    omega
  have r1 : script_Read.f ((strOfNums (scrL bot sec l)).extract 0 ((t : Int)).toNat) = some ((⟨#[]⟩ : ByteArray), 0, ([] : List S45), 3) := by
    rw [Int.toNat_natCast, str_extract, List.drop_zero]
    exact congrArg some (cut_short hc t (by omega))
  have r2 : script_Read.f (strOfNums (scrL bot sec l) ++ strOfNums [b]) = some ((⟨#[]⟩ : ByteArray), 0, ([] : List S45), 5) := by
    rw [← str_app]
    exact congrArg some (more_bad hc b hb)
  have hb1 : (strOfNums [b]).size = 1 := str_size _
  unfold outlawlaw25_ScriptCuts.f
  rw [h1]
  simp only [Option.bind_some, if_true]
  rw [h2]
  simp only [Option.bind_some, if_true]
  rw [h3]
  simp only [Option.bind_some, if_true]
  rw [if_neg hno, ht]
  simp only [Option.bind_some]
  rw [if_pos (by omega), if_pos (by omega), r1]
  simp only [Option.bind_some]
  rw [if_pos (by omega), r2]
  simp only [Option.bind_some, if_true]
  rw [same_empty]
  simp only [Option.bind_some, if_true]
  rfl
theorem cuts_tail (k : Nat) (bot : ByteArray) (sec : Int) (l : List S45) (cut : Int) (s : ByteArray) (t : Nat) (m : List S45) (hm : m = l.eraseIdx t) (hl : l.length ≤ 300) (hz : (l.length : Int) ≠ 0) (ht : t < l.length) (hp : outlawkit_Pick.f cut (l.length : Int) = some (t : Int)) (ho : outlawlaw25_own.f k bot sec l = some (bot, sec, l)) (B : ByteArray) (hB : script_Bytes.f k bot sec m = some (B, 0)) (hlt : (B.size : Int) < (s.size : Int))
    (hw : wrap64 ((t : Int) + 1) = (t : Int) + 1) (hs : script_Same.f bot sec m bot sec l = some false) : outlawlaw25_ScriptCuts.j0 (k + 1) cut s false bot sec l = some true := by
  rw [outlawlaw25_ScriptCuts.j0, if_neg (by decide), if_neg hz, ho]
  simp only [Option.bind_some]
  rw [hp]
  simp only [Option.bind_some]
  rw [if_pos (by omega), if_pos (by omega), hw, if_pos (by omega), if_pos (by omega), Int.toNat_natCast, ← hm, hB]
  simp only [Option.bind_some, if_true]
  rw [if_pos hlt, hs]
  rfl
theorem scriptCuts (bot : ByteArray) (sec : Int) (l : List S45) (cut b : Int) (hb : 0 ≤ b ∧ b ≤ 255) : EvS (fun k => outlawlaw25_ScriptCuts.f k bot sec l cut b) true := by
  obtain ⟨K0, hK0⟩ := lives_ev
  obtain ⟨bb, ⟨K1, hK1⟩, hbb⟩ := light_ev bot sec l
  cases bb with
  | false =>
    refine ⟨max K0 K1, fun k hk => ?_⟩
    show outlawlaw25_ScriptCuts.f k bot sec l cut b = some true
    unfold outlawlaw25_ScriptCuts.f
    rw [show outlawlaw25_lives.f k = _ from hK0 k (by omega)]
    simp only [Option.bind_some, if_true]
    rw [show outlawlaw25_light.f k bot sec l = _ from hK1 k (by omega)]
    rfl
  | true =>
    obtain ⟨hl, hbot, hcuts⟩ := hbb rfl
    have hfew : fewCuts l := fun x hx => by have := hcuts x hx; omega
    obtain ⟨K2, hK2⟩ := bytes_ev bot sec l hfew (by omega)
    by_cases hc : (checkS bot sec l).2 = 0
    · have hbs : bytesS bot sec l = (strOfNums (scrL bot sec l), 0) := if_pos hc
      rw [hbs] at hK2
      have head : ∀ k, max (max K0 K1) K2 ≤ k → outlawlaw25_ScriptCuts.f k bot sec l cut b = outlawlaw25_ScriptCuts.j0 k cut (strOfNums (scrL bot sec l)) false bot sec l := fun k hk =>
        cuts_head k bot sec l cut b hb hc (hK0 k (by omega)) (hK1 k (by omega)) (hK2 k (by omega))
      obtain ⟨_, hu, hs1, hs2, hl3, hx⟩ := check_zero hc
      by_cases hz : (l.length : Int) = 0
      · refine ⟨max (max K0 K1) K2 + 1, fun k hk => ?_⟩
        obtain ⟨q, rfl⟩ : ∃ q, k = q + 1 := ⟨k - 1, by omega⟩
        refine (head _ (by omega)).trans ?_
        rw [outlawlaw25_ScriptCuts.j0, if_neg (by decide), if_pos hz]
      · obtain ⟨t, ht, htl⟩ := pick_in cut (l.length : Int) (by omega) (by omega)
        obtain ⟨K3, hK3⟩ := own_ev bot sec l hl hcuts
        obtain ⟨m, hm⟩ : ∃ m, m = l.eraseIdx t := ⟨_, rfl⟩
        have hml : m.length = l.length - 1 := by rw [hm, List.length_eraseIdx, if_pos (by omega)]
        have hmx : ∀ x ∈ m, wrongS x = 0 := fun x h => hx x (by rw [hm] at h; exact List.mem_of_mem_eraseIdx h)
        have hcm := check_of (l := m) hu hs1 hs2 (by omega) hmx
        obtain ⟨K4, hK4⟩ := bytes_ev bot sec m (few_of hmx) (by omega)
        have hbm : bytesS bot sec m = (strOfNums (scrL bot sec m), 0) := if_pos hcm
        rw [hbm] at hK4
        have hsame : script_Same.f bot sec m bot sec l = some false := by
          unfold script_Same.f
          rw [if_pos ⟨few_of hmx, by omega, by omega⟩]
          have : sameSteps m l = false := by
            cases e : sameSteps m l with
            | false => rfl
            | true => have := sameSteps_len e; omega
          unfold sameS
          rw [this, Bool.and_false]
        have hlt : ((strOfNums (scrL bot sec m)).size : Int) < ((strOfNums (scrL bot sec l)).size : Int) := by
          have := stepsL_erase l t (by omega)
          rw [str_size, str_size, scr_len, scr_len, hm]
          omega
        refine ⟨max (max (max K0 K1) K2) (max K3 K4) + 1, fun k hk => ?_⟩
        obtain ⟨q, rfl⟩ : ∃ q, k = q + 1 := ⟨k - 1, by omega⟩
        refine (head _ (by omega)).trans ?_
        exact cuts_tail q bot sec l cut _ t m hm hl3 hz (by omega) ht (hK3 q (by omega)) _ (hK4 q (by omega)) hlt (wrap_in _ (by omega) (by omega)) hsame
    · have hbs : bytesS bot sec l = (⟨#[]⟩, (checkS bot sec l).2) := if_neg hc
      rw [hbs] at hK2
      refine ⟨max (max K0 K1) K2, fun k hk => ?_⟩
      show outlawlaw25_ScriptCuts.f k bot sec l cut b = some true
      unfold outlawlaw25_ScriptCuts.f
      rw [show outlawlaw25_lives.f k = _ from hK0 k (by omega)]
      simp only [Option.bind_some, if_true]
      rw [show outlawlaw25_light.f k bot sec l = _ from hK1 k (by omega)]
      simp only [Option.bind_some, if_true]
      rw [show script_Bytes.f k bot sec l = _ from hK2 k (by omega)]
      simp only [Option.bind_some]
      rw [if_neg hc]
end Go.Proofs.YtfgibjkgiolonaaS
