/- Bytes cut short are too short; a byte more is bad: the reader goes the same way over more bytes. -/
import Derived.Test.YtfgibjkgiolonaaTm
set_option linter.unusedVariables false
set_option linter.unusedSimpArgs false
namespace Go.Proofs.YtfgibjkgiolonaaS
open Go.RowKit Go.Proofs.YtfgibjkgiolonaaW.PrintWords Go.Proofs.YtfgibjkgiolonaaX Go.Proofs.Ytfgibjkgiolonaa.PA Go.Proofs.YtfgibjkgiolonaaG Go.Proofs.YtfgibjkgiolonaaQ Go.Proofs.YtfgibjkgiolonaaI
def bindP {α β : Type} (P : ByteArray → Res α) (Q : α → ByteArray → Res β) (s : ByteArray) : Res β :=
  match P s with
  | .bad e => .bad e
  | .ok x r => Q x r
theorem bindP_bad {α β : Type} {P : ByteArray → Res α} {Q : α → ByteArray → Res β} {s : ByteArray} {e : Int} (h : P s = .bad e) : bindP P Q s = .bad e := by unfold bindP; rw [h]
theorem bindP_ok {α β : Type} {P : ByteArray → Res α} {Q : α → ByteArray → Res β} {s r : ByteArray} {x : α} (h : P s = .ok x r) : bindP P Q s = Q x r := by unfold bindP; rw [h]
/-- Over more bytes the reader answers as before, or it was short of bytes. -/
def Mono {α : Type} (P : ByteArray → Res α) : Prop := ∀ L M : List Int, isB L → isB M →
  (∀ x r, P (strOfNums L) = .ok x r → ∃ R, isB R ∧ r = strOfNums R ∧ P (strOfNums (L ++ M)) = .ok x (strOfNums (R ++ M))) ∧ (∀ e, P (strOfNums L) = .bad e → e ≠ 3 → P (strOfNums (L ++ M)) = .bad e)
theorem Mono.bind {α β : Type} {P : ByteArray → Res α} {Q : α → ByteArray → Res β} (hP : Mono P) (hQ : ∀ x, Mono (Q x)) : Mono (bindP P Q) := fun L M hL hM => by
  cases hp : P (strOfNums L) with
  | bad e =>
    refine ⟨fun y r h => ?_, fun e2 h he => ?_⟩
    · rw [bindP_bad hp] at h; cases h
    · rw [bindP_bad hp] at h
      cases h
      exact bindP_bad ((hP L M hL hM).2 _ hp he)
  | ok x r1 =>
    obtain ⟨R, hR, rfl, h2⟩ := (hP L M hL hM).1 x r1 hp
    refine ⟨fun y r h => ?_, fun e2 h he => ?_⟩
    · rw [bindP_ok hp] at h
      obtain ⟨R2, hR2, rfl, h3⟩ := (hQ x R M hR hM).1 y r h
      exact ⟨R2, hR2, rfl, by rw [bindP_ok h2]; exact h3⟩
    · rw [bindP_ok hp] at h
      rw [bindP_ok h2]
      exact (hQ x R M hR hM).2 e2 h he
theorem Mono.fail {α : Type} (e : Int) : Mono (fun _ => (.bad e : Res α)) := fun L M hL hM => ⟨fun x r h => (nomatch h), fun e2 h _ => h⟩
theorem Mono.pure {α : Type} (y : α) : Mono (fun s => (.ok y s : Res α)) := fun L M hL hM => ⟨fun x r h => (by cases h; exact ⟨L, hL, rfl, rfl⟩), fun e2 h _ => (nomatch h)⟩
theorem Mono.ite {α : Type} {P Q : ByteArray → Res α} (c : Prop) [Decidable c] (hP : Mono P) (hQ : Mono Q) : Mono (fun s => if c then P s else Q s) := by
  by_cases h : c
  · simp only [if_pos h]; exact hP
  · simp only [if_neg h]; exact hQ
theorem Mono.of {α : Type} {P Q : ByteArray → Res α} (h : Mono Q) (e : ∀ s, P s = Q s) : Mono P := by
  rw [show P = Q from funext e]; exact h
theorem mono_small : Mono smallP := fun L M hL hM => by
  match L with
  | [] => exact ⟨fun x r h => (by rw [small_nil] at h; cases h), fun e h he => (by rw [small_nil] at h; cases h; exact absurd rfl he)⟩
  | y :: r0 =>
    refine ⟨fun x r h => ?_, fun e h he => ?_⟩
    · rw [small_cons hL] at h
      cases h
      exact ⟨r0, fun z hz => hL z (List.mem_cons_of_mem _ hz), rfl, small_cons (isB_app hL hM)⟩
    · rw [small_cons hL] at h; cases h
theorem mono_great : Mono greatP := fun L M hL hM => by
  match L with
  | [] => exact ⟨fun x r h => (by rw [great_short0 (by simp)] at h; cases h), fun e h he => (by rw [great_short0 (by simp)] at h; cases h; exact absurd rfl he)⟩
  | [y] => exact ⟨fun x r h => (by rw [great_short0 (by simp)] at h; cases h), fun e h he => (by rw [great_short0 (by simp)] at h; cases h; exact absurd rfl he)⟩
  | y :: z :: r0 =>
    refine ⟨fun x r h => ?_, fun e h he => ?_⟩
    · rw [great_cons hL] at h
      cases h
      exact ⟨r0, fun u hu => hL u (List.mem_cons_of_mem _ (List.mem_cons_of_mem _ hu)), rfl, great_cons (isB_app hL hM)⟩
    · rw [great_cons hL] at h; cases h
theorem mono_takeN (n : Nat) : Mono (fun s => takeP s (n : Int)) := fun L M hL hM => by
  by_cases hn : L.length < n
  · refine ⟨fun x r h => ?_, fun e h he => ?_⟩
    · have h2 := take_short0 (l := L) (n := (n : Int)) (by omega)
      replace h := h2.symm.trans h
      cases h
    · have h2 := take_short0 (l := L) (n := (n : Int)) (by omega)
      replace h := h2.symm.trans h
      cases h
      exact absurd rfl he
  · have hl : (L.take n).length = n := by rw [List.length_take]; omega
    have h1 := take_app (L.take n) (L.drop n)
    have h2 := take_app (L.take n) (L.drop n ++ M)
    rw [List.take_append_drop, hl] at h1
    rw [← List.append_assoc, List.take_append_drop, hl] at h2
    refine ⟨fun x r h => ?_, fun e h he => ?_⟩
    · replace h := h1.symm.trans h
      cases h
      exact ⟨L.drop n, fun u hu => hL u (List.mem_of_mem_drop hu), rfl, h2⟩
    · replace h := h1.symm.trans h
      cases h
theorem mono_take (n : Int) : Mono (fun s => takeP s n) := by
  by_cases h : 0 ≤ n
  · obtain ⟨m, rfl⟩ := Int.eq_ofNat_of_zero_le h
    exact mono_takeN m
  · refine (mono_takeN 0).of fun s => ?_
    unfold takeP
    rw [if_neg (by omega), if_neg (by omega), show n.toNat = 0 by omega]
    rfl
theorem mono_text {f : ByteArray → Res Int} (hf : Mono f) : Mono (textP f) := (hf.bind fun n => mono_take n).of fun s => by
  unfold textP bindP
  cases f s <;> rfl
theorem mono_many : ∀ (k : Nat) (acc : List Int), Mono (manyA acc k)
  | 0, acc => (Mono.pure acc).of fun s => rfl
  | k + 1, acc => (mono_great.bind fun n => mono_many k (acc ++ [n])).of fun s => by
    unfold bindP
    rw [manyA]
    cases greatP s <;> rfl
theorem mono_step : Mono stepP := by
  refine (mono_small.bind (Q := fun flag s => if 1 < flag then .bad 5 else bindP (textP greatP) (fun rec s => if (readG rec).2.2.2.2.2 = 0 then (if flag = 1 then bindP smallP (fun n s => bindP (manyA [] n.toNat) (fun cuts s => .ok ⟨true, inG (readG rec), cuts⟩ s) s) s else .ok ⟨false, inG (readG rec), []⟩ s) else .bad (readG rec).2.2.2.2.2) s)
    fun flag => Mono.ite _ (Mono.fail 5) ((mono_text mono_great).bind fun rec => Mono.ite _ (Mono.ite _ (mono_small.bind fun n => (mono_many n.toNat []).bind fun cuts => Mono.pure _) (Mono.pure _)) (Mono.fail _))).of fun s => ?_
  unfold stepP bindP
  cases smallP s with
  | bad e => rfl
  | ok flag r =>
    simp only
    split
    · rfl
    · cases textP greatP r with
      | bad e => rfl
      | ok rec r2 =>
        simp only
        split
        · split
          · cases smallP r2 with
            | bad e => rfl
            | ok n r3 =>
              simp only
              cases manyA [] n.toNat r3 <;> rfl
          · rfl
        · rfl
theorem mono_steps : ∀ (k : Nat) (acc : List S45), Mono (stepsA acc k)
  | 0, acc => (Mono.pure acc).of fun s => rfl
  | k + 1, acc => (mono_step.bind fun n => mono_steps k (acc ++ [n])).of fun s => by
    unfold bindP
    rw [stepsA]
    cases stepP s <;> rfl
/-- The script's parts, before the look at what is left over. -/
def partsP : ByteArray → Res Scr := bindP (textP smallP) fun bot => bindP greatP fun sec => bindP greatP fun n => bindP (stepsA [] n.toNat) fun l s => .ok ⟨bot, sec, l⟩ s
theorem mono_parts : Mono partsP := (mono_text mono_small).bind fun bot => mono_great.bind fun sec => mono_great.bind fun n => (mono_steps n.toNat []).bind fun l => Mono.pure _
theorem script_parts (s : ByteArray) : scriptP s = match partsP s with
    | .bad e => .bad e
    | .ok x r => if r.size = 0 then .ok x r else .bad 5 := by
  unfold scriptP partsP bindP
  cases textP smallP s with
  | bad e => rfl
  | ok bot r =>
    simp only
    cases greatP r with
    | bad e => rfl
    | ok sec r2 =>
      simp only
      cases greatP r2 with
      | bad e => rfl
      | ok n r3 =>
        simp only
        cases stepsA [] n.toNat r3 <;> rfl
theorem parts_of {bot : ByteArray} {sec : Int} {l : List S45} (h : (checkS bot sec l).2 = 0) : partsP (strOfNums (scrL bot sec l)) = .ok ⟨bot, sec, l⟩ (strOfNums []) := by
  have hs := script_app h
  rw [script_parts] at hs
  cases hp : partsP (strOfNums (scrL bot sec l)) with
  | bad e => rw [hp] at hs; cases hs
  | ok x r =>
    rw [hp] at hs
    simp only at hs
    split at hs
    · exact hs
    · cases hs
theorem isB_scr {bot : ByteArray} {sec : Int} {l : List S45} (h : (checkS bot sec l).2 = 0) : isB (scrL bot sec l) := by
  obtain ⟨_, hu, h1, h2, h3, hx⟩ := check_zero h
  unfold scrL
  exact isB_cons (by omega) (by omega) (isB_app (isB_bytesOf bot) (isB_app (isB_two _) (isB_app (isB_two _) (isB_steps hx))))
theorem cut_short {bot : ByteArray} {sec : Int} {l : List S45} (h : (checkS bot sec l).2 = 0) (n : Nat) (hn : n < (scrL bot sec l).length) : readS (strOfNums ((scrL bot sec l).take n)) = (⟨#[]⟩, 0, [], 3) := by
  have hB := isB_scr h
  have hp := parts_of h
  have hm := mono_parts ((scrL bot sec l).take n) ((scrL bot sec l).drop n) (fun x hx => hB x (List.mem_of_mem_take hx)) (fun x hx => hB x (List.mem_of_mem_drop hx))
  rw [List.take_append_drop, hp] at hm
  have key : partsP (strOfNums ((scrL bot sec l).take n)) = .bad 3 := by
    cases hq : partsP (strOfNums ((scrL bot sec l).take n)) with
    | bad e =>
      by_cases he : e = 3
      · rw [he]
      · exact nomatch hm.2 e hq he
    | ok x r =>
      obtain ⟨R, _, _, h3⟩ := hm.1 x r hq
      simp only [Res.ok.injEq] at h3
      have h4 := congrArg ByteArray.size h3.2
      rw [str_size, str_size, List.length_append, List.length_drop] at h4
      simp at h4
      omega
  unfold readS
  rw [script_parts, key]
theorem more_bad {bot : ByteArray} {sec : Int} {l : List S45} (h : (checkS bot sec l).2 = 0) (b : Int) (hb : 0 ≤ b ∧ b ≤ 255) : readS (strOfNums (scrL bot sec l ++ [b])) = (⟨#[]⟩, 0, [], 5) := by
  have hB := isB_scr h
  have hm := (mono_parts (scrL bot sec l) [b] hB (isB_cons hb.1 (by omega) isB_nil)).1 _ _ (parts_of h)
  obtain ⟨R, hR, hr, h2⟩ := hm
  unfold readS
  rw [script_parts, h2]
  simp only
  rw [if_neg (by rw [str_size, List.length_append]; simp)]
end Go.Proofs.YtfgibjkgiolonaaS
