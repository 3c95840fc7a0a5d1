/- Plain lemmas: the reference's named, User, Room, EventID, ServerOf and Kind answer what the program's contracts say. -/
import Derived.Test.YtppgoppkciakgaaL1
set_option linter.unusedVariables false
set_option linter.unusedSimpArgs false
namespace Go.Proofs.YtppgoppkciakgaaL
open Go.RowKit Go.Proofs.Ytppgoppkciakgaa.PA Go.Proofs.YtppgoppkciakgaaW.PrintWords Go.Proofs.YtppgoppkciakgaaG Go.Proofs.YtppgoppkciakgaaX
def bigI (c : Int) : Bool := decide (65 ≤ c) && decide (c ≤ 90)
/-- What the reference asks of a name's byte. -/
def nameR (b : Bool) (more : ByteArray) (c : Int) : Bool := setR more c && !(bigI c && b)
theorem named_loop (s more : ByteArray) (b : Bool) (i0 : Nat) (hn : s.size ≤ 140737488351232) (hm : more.size ≤ 140737488351232) (hi0 : i0 ≤ s.size) (h1 : 1 ≤ i0) :
    Ev (fun k => outlawref04_named.l0 k s b more (i0 : Int) 1) (allSeg (nameR b more) s 1 i0) := by
  have ha := fun c => among_ev c more hm
  have key : ∀ i : Nat, i < i0 → ∃ f, (∀ k, outlawref04_named.l0 (k + 1 + 1) s b more (i0 : Int) (i : Int) = f k) ∧
      (nameR b more (bt s i) = true → ∀ r, Ev (fun k => outlawref04_named.l0 k s b more (i0 : Int) ((i + 1 : Nat) : Int)) r → Ev f r) ∧ (nameR b more (bt s i) = false → Ev f false) := by
    intro i hi
    have hlt : i < s.size := by omega
    have hl : ∀ k, outlawref04_named.l0 (k + 1 + 1) s b more (i0 : Int) (i : Int) = outlawref04_named.j2 (k + 1) s b more (i0 : Int) (i : Int) (bigI (bt s i)) := by
      intro k
      rw [outlawref04_named.l0]
      rw [if_pos (by omega), if_pos (by omega), if_pos (by omega)]
      unfold bigI
      by_cases h : bt s i ≥ 65
      · rw [if_pos h, decide_eq_true h, Bool.true_and]
      · rw [if_neg h, decide_eq_false h, Bool.false_and]
    refine ⟨fun k => (some (letterI (bt s i))).bind fun t129 => if t129 = true then (if bigI (bt s i) = true then (if b = true then some false else outlawref04_named.l0 k s b more i0 ((i + 1 : Nat) : Int)) else outlawref04_named.l0 k s b more i0 ((i + 1 : Nat) : Int)) else
      (some (digitI (bt s i))).bind fun t130 => if t130 = true then (if bigI (bt s i) = true then (if b = true then some false else outlawref04_named.l0 k s b more i0 ((i + 1 : Nat) : Int)) else outlawref04_named.l0 k s b more i0 ((i + 1 : Nat) : Int)) else
      (outlawref04_among.f k (bt s i) more).bind fun t131 => if t131 = true then (if bigI (bt s i) = true then (if b = true then some false else outlawref04_named.l0 k s b more i0 ((i + 1 : Nat) : Int)) else outlawref04_named.l0 k s b more i0 ((i + 1 : Nat) : Int)) else some false, ?_, ?_, ?_⟩
    · intro k
      rw [hl]
      simp only [outlawref04_named.j2]
      rw [if_pos (by omega), if_pos (by omega), letter_f, digit_f, wrap_succ hlt hn]
    · intro hp r hr
      unfold nameR setR at hp
      rw [Bool.and_eq_true] at hp
      obtain ⟨hs, hb⟩ := hp
      have hgo : ∀ k, (if bigI (bt s i) = true then (if b = true then some false else outlawref04_named.l0 k s b more i0 ((i + 1 : Nat) : Int)) else outlawref04_named.l0 k s b more i0 ((i + 1 : Nat) : Int)) = outlawref04_named.l0 k s b more i0 ((i + 1 : Nat) : Int) := by
        intro k
        cases h1 : bigI (bt s i) <;> cases b <;> simp_all
      simp only [Option.bind_some, hgo]
      cases h1 : letterI (bt s i) with
      | true => simpa using hr
      | false =>
        cases h2 : digitI (bt s i) with
        | true => simpa using hr
        | false =>
          rw [h1, h2] at hs
          simp only [Bool.false_or] at hs
          simp only [Bool.false_eq_true, if_false]
          exact Ev.bind (ha _) (by rw [hs]; simpa using hr)
    · intro hp
      unfold nameR setR at hp
      rw [Bool.and_eq_false_iff] at hp
      rcases hp with hp | hp
      · rw [Bool.or_eq_false_iff, Bool.or_eq_false_iff] at hp
        obtain ⟨h1, h2, h3⟩ := hp
        simp only [Option.bind_some, h1, h2, Bool.false_eq_true, if_false]
        exact Ev.bind (ha _) (by rw [h3]; simpa using Ev.now false)
      · rw [Bool.not_eq_false', Bool.and_eq_true] at hp
        obtain ⟨hb1, rfl⟩ := hp
        simp only [Option.bind_some, hb1, if_true]
        cases h1 : letterI (bt s i) with
        | true => simpa using Ev.now false
        | false =>
          cases h2 : digitI (bt s i) with
          | true => simpa using Ev.now false
          | false =>
            simp only [Bool.false_eq_true, if_false]
            refine Ev.bind (ha _) ?_
            cases inSet more (bt s i) <;> simpa using Ev.now false
  have h := scan (g := fun k i => outlawref04_named.l0 k s b more (i0 : Int) i) (P := nameR b more) (s := s) (m := i0) (fin := true) hi0 ?_ ?_ ?_ _ 1 rfl h1
  · rw [Bool.and_true] at h
    exact h
  · refine Ev.step (f := fun _ => some true) (fun k => ?_) (Ev.now _)
    simp only [outlawref04_named.l0]
    rw [if_neg (by omega)]
  · intro i hi hp r hr
    obtain ⟨f, hf, hy, _⟩ := key i hi
    exact Ev.step (f := fun k => outlawref04_named.l0 (k + 1) s b more (i0 : Int) (i : Int)) (fun k => rfl) (Ev.step hf (hy hp r hr))
  · intro i hi hp
    obtain ⟨f, hf, _, hno⟩ := key i hi
    exact Ev.step (f := fun k => outlawref04_named.l0 (k + 1) s b more (i0 : Int) (i : Int)) (fun k => rfl) (Ev.step hf (hno hp))
/-- What the reference's named answers. -/
def namedR (s : ByteArray) (sign : Int) (b : Bool) (more : ByteArray) : Bool :=
  if 255 < s.size then false else if Lib.indexByte s.data.toList 58 < 2 then false else if bt s 0 = sign then
    (serverI (s.extract ((Lib.indexByte s.data.toList 58).toNat + 1) s.size) && allSeg (nameR b more) s 1 (Lib.indexByte s.data.toList 58).toNat) else false
theorem named_j0 (s more : ByteArray) (b : Bool) (x : Int) : Ev (fun k => outlawref04_named.j0 k s b more x true) false := by
  refine Ev.step (f := fun _ => some false) (fun k => ?_) (Ev.now _)
  simp only [outlawref04_named.j0]
  rw [if_pos trivial]
theorem named_ev (s : ByteArray) (sign : Int) (b : Bool) (more : ByteArray) (hn : s.size ≤ 140737488351232) (hm : more.size ≤ 140737488351232) : Ev (fun k => outlawref04_named.f k s sign b more) (namedR s sign b more) := by
  unfold outlawref04_named.f namedR
  refine Ev.bind (colon_ev s hn) ?_
  by_cases h : 255 < s.size
  · rw [if_pos h]
    exact Ev.congr (fun k => by rw [if_pos (by omega)]) (named_j0 s more b _)
  · rw [if_neg h]
    rcases index_cases s 58 with hix | ⟨i, hix, hi⟩
    · rw [hix, if_pos (by omega)]
      exact Ev.congr (fun k => by rw [if_neg (by omega), if_pos (by omega)]) (named_j0 s more b _)
    · rw [hix]
      by_cases h2 : i < 2
      · rw [if_pos (by omega)]
        exact Ev.congr (fun k => by rw [if_neg (by omega), if_pos (by omega)]) (named_j0 s more b _)
      · rw [if_neg (by omega)]
        by_cases h3 : bt s 0 = sign
        · rw [if_pos h3]
          have he2 : (s.extract (i + 1) s.size).size ≤ 140737488351232 := by rw [ByteArray.size_extract]; omega
          have hw := wrap_succ hi hn
          refine Ev.congr (fun k => by rw [if_neg (by omega), if_neg (by omega), if_pos (by omega), if_pos h3, hw, if_pos (by omega), if_pos (by omega), Int.toNat_natCast]) ?_
          refine Ev.bind (server_ev _ he2) ?_
          rw [Int.toNat_natCast]
          cases serverI (s.extract (i + 1) s.size) with
          | false => exact named_j0 s more b _
          | true =>
            rw [Bool.true_and]
            refine Ev.step (f := fun k => outlawref04_named.l0 k s b more (i : Int) 1) (fun k => ?_) (named_loop s more b i hn hm (by omega) (by omega))
            simp only [outlawref04_named.j0]
            rw [if_neg (by simp)]
        · rw [if_neg h3]
          exact Ev.congr (fun k => by rw [if_neg (by omega), if_neg (by omega), if_pos (by omega), if_neg h3]) (named_j0 s more b _)
theorem namedI_hit {s sgn : ByteArray} {p : Int → Bool} {i : Nat} (hix : Lib.indexByte s.data.toList 58 = i) (h : ¬ 255 < s.size) :
    namedI s sgn p = (serverI (s.extract (i + 1) s.size) && (signed (s.extract 0 i) sgn && allI p (restS (s.extract 0 i) sgn) s.size)) := by
  unfold namedI
  rw [cutS_hit hix]
  simp only [if_neg h]
  cases serverI (s.extract (i + 1) s.size) <;> cases signed (s.extract 0 i) sgn <;> simp
theorem namedR_hit {s more : ByteArray} {sg : Int} {b : Bool} {i : Nat} (hix : Lib.indexByte s.data.toList 58 = i) (h : ¬ 255 < s.size) :
    namedR s sg b more = (serverI (s.extract (i + 1) s.size) && (decide (2 ≤ i) && (decide (bt s 0 = sg) && allSeg (nameR b more) s 1 i))) := by
  unfold namedR
  rw [if_neg h, hix, Int.toNat_natCast]
  by_cases h2 : 2 ≤ i
  · rw [if_neg (by omega), decide_eq_true h2, Bool.true_and]
    by_cases h3 : bt s 0 = sg
    · rw [if_pos h3, decide_eq_true h3, Bool.true_and]
    · rw [if_neg h3, decide_eq_false h3, Bool.false_and, Bool.and_false]
  · rw [if_pos (by omega), decide_eq_false h2, Bool.false_and, Bool.and_false]
theorem take_head {s : ByteArray} {i : Nat} (h : i < s.size) : ∃ h0 : 0 < s.size, s.data.toList.take (i + 1) = s[0] :: (s.data.toList.take (i + 1)).drop 1 := by
  refine ⟨by omega, ?_⟩
  have h0 : 0 < s.size := by omega
  have hb := bt_list (s := s) (i := 0) h0
  cases hl : s.data.toList with
  | nil => rw [hl] at hb; simp at hb
  | cons x l =>
    rw [hl] at hb
    simp only [List.getElem?_cons_zero, Option.some.injEq] at hb
    rw [hb]
    rfl
/-- The program's named and the reference's answer alike. -/
theorem named_is (s : ByteArray) (sg : UInt8) (b : Bool) (more : ByteArray) (p : Int → Bool) (hp : ∀ n, n < 256 → nameR b more ((n : Nat) : Int) = p ((n : Nat) : Int)) : namedR s (sg.toNat : Int) b more = namedI s ⟨#[sg]⟩ p := by
  by_cases h : 255 < s.size
  · have h1 : namedR s (sg.toNat : Int) b more = false := by unfold namedR; rw [if_pos h]
    have h2 : namedI s ⟨#[sg]⟩ p = false := by unfold namedI; rw [if_pos h, ite_self]
    rw [h1, h2]
  · rcases index_cases s 58 with hix | ⟨i, hix, hi⟩
    · have h1 : namedR s (sg.toNat : Int) b more = false := by unfold namedR; rw [if_neg h, hix]; rfl
      have h2 : namedI s ⟨#[sg]⟩ p = false := by unfold namedI; rw [cutS_miss hix]; rfl
      rw [h1, h2]
    · rw [namedI_hit hix h, namedR_hit hix h]
      congr 1
      have hx : (s.extract 0 i).data.toList = s.data.toList.take i := Lib.extract_from_zero s i
      unfold signed restS Lib.trimPrefix Lib.hasPrefix
      rw [hx]
      cases i with
      | zero =>
        show (decide (2 ≤ 0) && _) = (List.isPrefixOf [sg] (s.data.toList.take 0) && _)
        rw [List.take_zero]
        rfl
      | succ i =>
        obtain ⟨hz, h0⟩ := take_head (s := s) (i := i) (by omega)
        have hb0 : bt s 0 = (s[0].toNat : Int) := bt_nat (i := 0) hz
        have hpre : List.isPrefixOf [sg] (s.data.toList.take (i + 1)) = (sg == s[0]) := by rw [h0]; simp [List.isPrefixOf]
        show _ = (List.isPrefixOf [sg] (s.data.toList.take (i + 1)) && allI p ⟨(if List.isPrefixOf [sg] (s.data.toList.take (i + 1)) = true then (s.data.toList.take (i + 1)).drop 1 else s.data.toList.take (i + 1)).toArray⟩ s.size)
        rw [hpre, hb0]
        by_cases e : sg = s[0]
        · have e1 : (sg == s[0]) = true := beq_iff_eq.2 e
          have e2 : decide ((s[0].toNat : Int) = (sg.toNat : Int)) = true := decide_eq_true (by rw [e])
          rw [e1, e2, if_pos rfl, Bool.true_and, Bool.true_and]
          have hl : ((s.data.toList.take (i + 1)).drop 1).length = i := by rw [List.length_drop, List.length_take, size_list]; omega
          have hsz : ((⟨((s.data.toList.take (i + 1)).drop 1).toArray⟩ : ByteArray).size : Int) ≤ s.size := by
            show ((((s.data.toList.take (i + 1)).drop 1).toArray.size : Nat) : Int) ≤ _
            rw [List.size_toArray, hl]; omega
          unfold allI
          rw [decide_eq_true hsz, Bool.and_true, allSeg_congr hp]
          show (decide (2 ≤ i + 1) && ((s.data.toList.take (i + 1)).drop 1).all fun b => p b.toNat) = ((((s.data.toList.take (i + 1)).drop 1).all fun b => p b.toNat) && !((s.data.toList.take (i + 1)).drop 1).isEmpty)
          have he : (!((s.data.toList.take (i + 1)).drop 1).isEmpty) = decide (2 ≤ i + 1) := by
            cases hq : (s.data.toList.take (i + 1)).drop 1 with
            | nil => rw [hq] at hl; simp at hl; simp [← hl]
            | cons x l => rw [hq] at hl; simp at hl; rw [decide_eq_true (by omega)]; rfl
          rw [he, Bool.and_comm]
        · have e1 : (sg == s[0]) = false := beq_eq_false_iff_ne.2 e
          have e2 : decide ((s[0].toNat : Int) = (sg.toNat : Int)) = false := decide_eq_false (fun h => e (UInt8.toNat_inj.1 (by omega)))
          rw [e1, e2, Bool.false_and, Bool.false_and, Bool.and_false]
end Go.Proofs.YtppgoppkciakgaaL
