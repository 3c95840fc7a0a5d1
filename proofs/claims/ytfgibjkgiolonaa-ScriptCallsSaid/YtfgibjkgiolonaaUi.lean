/- The document's User is the code's: plain lemmas (turned from the seat of chapter 4). -/
import Derived.Test.YtfgibjkgiolonaaPAx11
import Derived.Test.YtfgibjkgiolonaaPAx10
set_option linter.unusedVariables false
set_option linter.unusedSimpArgs false
namespace Go.Proofs.YtfgibjkgiolonaaU
open Go.RowKit Go.Proofs.YtfgibjkgiolonaaW.PrintWords Go.Proofs.YtfgibjkgiolonaaI Go.Proofs.Ytfgibjkgiolonaa.PA
theorem bneNil_ (l : List UInt8) : (l != []) = !l.isEmpty := by cases l <;> rfl
theorem wrap_succ {i n : Nat} (h : i < n) (hn : n ≤ 140737488351232) : wrap64 ((i : Int) + 1) = ((i + 1 : Nat) : Int) := by unfold wrap64; omega
theorem bt_nat {s : ByteArray} {i : Nat} (h : i < s.size) : bt s (i : Int) = (s[i].toNat : Int) := (bt_at s (i : Int) h).symm
theorem bt_list {s : ByteArray} {i : Nat} (h : i < s.size) : s.data.toList[i]? = some s[i] := by
 have hd : i < s.data.size := h
 rw [Array.getElem?_toList, Array.getElem?_eq_getElem hd]
 rfl
def allSeg (P : Int → Bool) (s : ByteArray) (i m : Nat) : Bool := ((s.data.toList.take m).drop i).all fun b => P b.toNat
theorem allSeg_end (P : Int → Bool) (s : ByteArray) (m : Nat) : allSeg P s m m = true := by
 unfold allSeg
 rw [List.drop_eq_nil_of_le (by rw [List.length_take]; omega)]
 rfl
theorem allSeg_step (P : Int → Bool) (s : ByteArray) {i m : Nat} (h : i < m) (hm : m ≤ s.size) : allSeg P s i m = (P (bt s i) && allSeg P s (i + 1) m) := by
 unfold allSeg
 have hl : (s.data.toList.take m).length = m := by rw [List.length_take, Array.length_toList]; exact Nat.min_eq_left hm
 rw [List.drop_eq_getElem_cons (by rw [hl]; exact h), List.all_cons, bt_nat (by omega : i < s.size)]
 congr 2
 rw [List.getElem_take]
 have := bt_list (s := s) (i := i) (by omega)
 rw [List.getElem?_eq_getElem (by rw [Array.length_toList]; exact Nat.lt_of_lt_of_le h hm)] at this
 rw [Option.some.inj this]
theorem allSeg_zero (P : Int → Bool) (s : ByteArray) : allSeg P s 0 s.size = s.data.toList.all fun b => P b.toNat := by
 unfold allSeg
 rw [List.take_of_length_le (by rw [Array.length_toList]; exact Nat.le_refl _), List.drop_zero]
theorem allSeg_congr {P Q : Int → Bool} (h : ∀ n, n < 256 → P ((n : Nat) : Int) = Q ((n : Nat) : Int)) (s : ByteArray) (i m : Nat) : allSeg P s i m = allSeg Q s i m := by
 unfold allSeg
 congr 1
 funext b
 exact h b.toNat b.toNat_lt
theorem scan {g : Nat → Int → Option Bool} {P : Int → Bool} {s : ByteArray} {m : Nat} {fin : Bool} (hm : m ≤ s.size)
  (hend : Ev (fun k => g k (m : Int)) fin)
  (hyes : ∀ i : Nat, i < m → P (bt s i) = true → ∀ r, Ev (fun k => g k ((i + 1 : Nat) : Int)) r → Ev (fun k => g k (i : Int)) r)
  (hno : ∀ i : Nat, i < m → P (bt s i) = false → Ev (fun k => g k (i : Int)) false) : ∀ d i : Nat, m - i = d → i ≤ m → Ev (fun k => g k (i : Int)) (allSeg P s i m && fin) := by
 intro d
 induction d with
 | zero =>
  intro i hd hi
  obtain rfl : i = m := by omega
  rw [allSeg_end, Bool.true_and]
  exact hend
 | succ d ih =>
  intro i hd hi
  have hlt : i < m := by omega
  rw [allSeg_step P s hlt hm]
  cases hp : P (bt s i) with
  | true =>
   rw [Bool.true_and]
   exact hyes i hlt hp _ (ih (i + 1) (by omega) (by omega))
  | false =>
   rw [Bool.false_and, Bool.false_and]
   exact hno i hlt hp
theorem indexByte_is {l : List UInt8} {c : UInt8} {i : Nat} (h : l[i]? = some c) (h' : ∀ j, j < i → l[j]? ≠ some c) : Lib.indexByte l c = i := by
 have hg := Lib.indexByte_ge l c
 by_cases h0 : 0 ≤ Lib.indexByte l c
 ·obtain ⟨o, ho⟩ := Int.eq_ofNat_of_zero_le h0
  obtain ⟨h1, h2⟩ := Lib.indexByte_some ho
  rw [ho]
  rcases Nat.lt_trichotomy o i with hl | rfl | hl
  ·exact absurd h1 (h' o hl)
  ·rfl
  ·exact absurd h (h2 i hl)
 ·exact absurd h (Lib.indexByte_none (by omega) i)
theorem indexByte_no {l : List UInt8} {c : UInt8} (h' : ∀ j, j < l.length → l[j]? ≠ some c) : Lib.indexByte l c = -1 := by
 have hg := Lib.indexByte_ge l c
 by_cases h0 : 0 ≤ Lib.indexByte l c
 ·obtain ⟨o, ho⟩ := Int.eq_ofNat_of_zero_le h0
  obtain ⟨h1, h2⟩ := Lib.indexByte_some ho
  exact absurd h1 (h' o (List.getElem?_eq_some_iff.1 h1).1)
 ·omega
theorem size_list (s : ByteArray) : s.data.toList.length = s.size := by rw [Array.length_toList]; rfl
theorem byte_eq {s : ByteArray} {i : Nat} (h : i < s.size) (c : UInt8) : bt s (i : Int) = (c.toNat : Int) ↔ s.data.toList[i]? = some c := by
 rw [bt_nat h, bt_list h]
 constructor
 ·intro e
  have : s[i].toNat = c.toNat := by omega
  rw [UInt8.toNat_inj.1 this]
 ·intro e
  rw [Option.some.inj e]
theorem find {g : Nat → Int → Option Int} {s : ByteArray} {c : UInt8}
  (hend : Ev (fun k => g k (s.size : Int)) (-1))
  (hyes : ∀ i : Nat, i < s.size → bt s i = (c.toNat : Int) → Ev (fun k => g k (i : Int)) i)
  (hno : ∀ i : Nat, i < s.size → bt s i ≠ (c.toNat : Int) → ∀ r, Ev (fun k => g k ((i + 1 : Nat) : Int)) r → Ev (fun k => g k (i : Int)) r) :
  ∀ d i : Nat, s.size - i = d → i ≤ s.size → (∀ j, j < i → s.data.toList[j]? ≠ some c) → Ev (fun k => g k (i : Int)) (Lib.indexByte s.data.toList c) := by
 intro d
 induction d with
 | zero =>
  intro i hd hi hj
  obtain rfl : i = s.size := by omega
  rw [indexByte_no (fun j h => hj j (by rw [size_list] at h; exact h))]
  exact hend
 | succ d ih =>
  intro i hd hi hj
  have hlt : i < s.size := by omega
  by_cases e : bt s i = (c.toNat : Int)
  ·rw [indexByte_is ((byte_eq hlt c).1 e) hj]
   exact hyes i hlt e
  ·refine hno i hlt e _ (ih (i + 1) (by omega) (by omega) fun j hj' => ?_)
   by_cases h : j = i
   ·subst h
    exact fun h => e ((byte_eq hlt c).2 h)
   ·exact hj j (by omega)
theorem scanAny {g : Nat → Int → Option Bool} {P : Int → Bool} {s : ByteArray} {m : Nat} (hm : m ≤ s.size)
  (hend : Ev (fun k => g k (m : Int)) false)
  (hyes : ∀ i : Nat, i < m → P (bt s i) = true → Ev (fun k => g k (i : Int)) true)
  (hno : ∀ i : Nat, i < m → P (bt s i) = false → ∀ r, Ev (fun k => g k ((i + 1 : Nat) : Int)) r → Ev (fun k => g k (i : Int)) r) : ∀ d i : Nat, m - i = d → i ≤ m → Ev (fun k => g k (i : Int)) (!allSeg (fun c => !P c) s i m) := by
 intro d
 induction d with
 | zero =>
  intro i hd hi
  obtain rfl : i = m := by omega
  rw [allSeg_end]
  exact hend
 | succ d ih =>
  intro i hd hi
  have hlt : i < m := by omega
  rw [allSeg_step _ s hlt hm]
  cases hp : P (bt s i) with
  | true =>
   simp only [hp, Bool.not_true, Bool.false_and, Bool.not_false]
   exact hyes i hlt hp
  | false =>
   simp only [hp, Bool.not_false, Bool.true_and]
   exact hno i hlt hp _ (ih (i + 1) (by omega) (by omega))
def letterI (c : Int) : Bool := (decide (97 ≤ c) && decide (c ≤ 122)) || (decide (65 ≤ c) && decide (c ≤ 90))
theorem letter_f (c : Int) : outlawref04_letter.f c = some (letterI c) := by
 unfold outlawref04_letter.f letterI
 by_cases h1 : 97 ≤ c <;> by_cases h2 : c ≤ 122 <;> by_cases h3 : 65 ≤ c <;> by_cases h4 : c ≤ 90 <;> simp [h1, h2, h3, h4]
theorem digit_f (c : Int) : outlawref04_digit.f c = some (digitI c) := by
 unfold outlawref04_digit.f digitI
 by_cases h1 : 48 ≤ c <;> by_cases h2 : c ≤ 57 <;> simp [h1, h2]
def inSet (more : ByteArray) (c : Int) : Bool := !allSeg (fun b => !(b == c)) more 0 more.size
theorem among_ev (c : Int) (more : ByteArray) (hn : more.size ≤ 140737488351232) : Ev (fun k => outlawref04_among.f k c more) (inSet more c) := by
 refine scanAny (g := fun k i => outlawref04_among.l0 k c more i) (P := fun b => b == c) (Nat.le_refl _) ?_ ?_ ?_ _ 0 rfl (Nat.zero_le _)
 ·refine Ev.step (f := fun _ => some false) (fun k => ?_) (Ev.now _)
  simp only [outlawref04_among.l0]
  rw [if_neg (by omega)]
 ·intro i hi hp
  refine Ev.step (f := fun _ => some true) (fun k => ?_) (Ev.now _)
  simp only [outlawref04_among.l0]
  rw [if_pos (by omega), if_pos (by omega), if_pos (beq_iff_eq.1 hp)]
 ·intro i hi hp r hr
  refine Ev.step (f := fun k => outlawref04_among.l0 k c more ((i + 1 : Nat) : Int)) (fun k => ?_) hr
  simp only [outlawref04_among.l0]
  rw [if_pos (by omega), if_pos (by omega), if_neg (by simpa using hp), wrap_succ hi hn]
theorem colon_ev (s : ByteArray) (hn : s.size ≤ 140737488351232) : Ev (fun k => outlawref04_colon.f k s) (Lib.indexByte s.data.toList 58) := by
 refine find (g := fun k i => outlawref04_colon.l0 k s i) ?_ ?_ ?_ _ 0 rfl (Nat.zero_le _) (fun j hj => absurd hj (Nat.not_lt_zero _))
 ·refine Ev.step (f := fun _ => some (-1)) (fun k => ?_) (Ev.now _)
  simp only [outlawref04_colon.l0]
  rw [if_neg (by omega)]
 ·intro i hi hp
  refine Ev.step (f := fun _ => some (i : Int)) (fun k => ?_) (Ev.now _)
  simp only [outlawref04_colon.l0]
  rw [if_pos (by omega), if_pos (by omega), if_pos (show bt s i = 58 from hp)]
 ·intro i hi hp r hr
  refine Ev.step (f := fun k => outlawref04_colon.l0 k s ((i + 1 : Nat) : Int)) (fun k => ?_) hr
  simp only [outlawref04_colon.l0]
  rw [if_pos (by omega), if_pos (by omega), if_neg (show ¬ bt s i = 58 from hp), wrap_succ hi hn]
def setR (more : ByteArray) (c : Int) : Bool := letterI c || (digitI c || inSet more c)
theorem host_ev (s : ByteArray) (hn : s.size ≤ 140737488351232) : Ev (fun k => outlawref04_host.f k s) (allSeg (setR ⟨#[46, 45]⟩) s 0 s.size && (s.toList != [])) := by
 have hm := fun c => among_ev c ⟨#[46, 45]⟩ (by decide)
 refine scan (g := fun k i => outlawref04_host.l0 k s i) (P := setR ⟨#[46, 45]⟩) (Nat.le_refl _) ?_ ?_ ?_ _ 0 rfl (Nat.zero_le _)
 ·refine Ev.step (f := fun _ => some (s.toList != [])) (fun k => ?_) (Ev.now _)
  simp only [outlawref04_host.l0]
  rw [if_neg (by omega)]
 ·intro i hi hp r hr
  apply Ev.step
  ·intro k
   simp only [outlawref04_host.l0]
   rw [if_pos (by omega), if_pos (by omega), letter_f, digit_f, wrap_succ hi hn]
  ·simp only [Option.bind_some]
   unfold setR at hp
   cases h1 : letterI (bt s i) with
   | true => simpa using hr
   | false =>
    cases h2 : digitI (bt s i) with
    | true => simpa using hr
    | false =>
     rw [h1, h2] at hp
     simp only [Bool.false_or] at hp
     simp only [Bool.false_eq_true, if_false]
     exact Ev.bind (hm _) (by rw [hp]; simpa using hr)
 ·intro i hi hp
  apply Ev.step
  ·intro k
   simp only [outlawref04_host.l0]
   rw [if_pos (by omega), if_pos (by omega), letter_f, digit_f, wrap_succ hi hn]
  ·simp only [Option.bind_some]
   unfold setR at hp
   rw [Bool.or_eq_false_iff, Bool.or_eq_false_iff] at hp
   obtain ⟨h1, h2, h3⟩ := hp
   rw [h1, h2]
   simp only [Bool.false_eq_true, if_false]
   exact Ev.bind (hm _) (by rw [h3]; simpa using Ev.now false)
theorem port_ev (s : ByteArray) (hn : s.size ≤ 140737488351232) : Ev (fun k => outlawref04_port.f k s) (allSeg digitI s 0 s.size && (decide (1 ≤ s.size) && decide (s.size ≤ 5))) := by
 refine scan (g := fun k i => outlawref04_port.l0 k s i) (P := digitI) (Nat.le_refl _) ?_ ?_ ?_ _ 0 rfl (Nat.zero_le _)
 ·refine Ev.step (f := fun _ => some (decide (1 ≤ s.size) && decide (s.size ≤ 5))) (fun k => ?_) (Ev.now _)
  simp only [outlawref04_port.l0]
  rw [if_neg (by omega)]
  by_cases h : 1 ≤ s.size
  ·rw [if_pos (by omega)]
   congr 1
   rw [decide_eq_true h, Bool.true_and]
   exact decide_eq_decide.2 (by omega)
  ·rw [if_neg (by omega), decide_eq_false h, Bool.false_and]
 ·intro i hi hp r hr
  refine Ev.step (f := fun k => outlawref04_port.l0 k s ((i + 1 : Nat) : Int)) (fun k => ?_) hr
  simp only [outlawref04_port.l0]
  rw [if_pos (by omega), if_pos (by omega), digit_f, hp, wrap_succ hi hn]
  rfl
 ·intro i hi hp
  refine Ev.step (f := fun _ => some false) (fun k => ?_) (Ev.now _)
  simp only [outlawref04_port.l0]
  rw [if_pos (by omega), if_pos (by omega), digit_f, hp]
  rfl
theorem host_set : ∀ n, n < 256 → setR ⟨#[46, 45]⟩ ((n : Nat) : Int) = orI greatI hostM ((n : Nat) : Int) := by decide +kernel
theorem allI_seg (P : Int → Bool) (s : ByteArray) (most : Int) : allI P s most = (allSeg P s 0 s.size && (!s.data.toList.isEmpty && decide ((s.size : Int) ≤ most))) := by
 unfold allI
 rw [allSeg_zero, Bool.and_assoc]
theorem host_is (s : ByteArray) : (allSeg (setR ⟨#[46, 45]⟩) s 0 s.size && (s.toList != [])) = allI (orI greatI hostM) s s.size := by
 rw [allI_seg, allSeg_congr host_set, decide_eq_true (Int.le_refl _), Bool.and_true, bneNil_, ByteArray.toList_eq]
theorem isEmpty_size (s : ByteArray) : (!s.data.toList.isEmpty) = decide (1 ≤ s.size) := by
 rw [← size_list]
 cases s.data.toList <;> simp
theorem port_is (s : ByteArray) : (allSeg digitI s 0 s.size && (decide (1 ≤ s.size) && decide (s.size ≤ 5))) = allI digitI s 5 := by
 rw [allI_seg, isEmpty_size]
 congr 2
 exact decide_eq_decide.2 (by omega)
theorem server_ev (s : ByteArray) (hn : s.size ≤ 140737488351232) : Ev (fun k => outlawref04_Server.f k s) (serverI s) := by
 unfold outlawref04_Server.f serverI
 by_cases h : 128 < s.size
 ·simp only [if_pos h]
  exact Ev.congr (fun k => if_pos (by omega)) (Ev.now false)
 ·simp only [if_neg h]
  refine Ev.congr (fun k => if_neg (by omega)) ?_
  refine Ev.bind (colon_ev s hn) ?_
  rcases index_cases s 58 with hix | ⟨i, hix, hi⟩
  ·rw [cutS_miss hix, hix]
   simp only [Bool.false_eq_true, if_false]
   refine Ev.congr (fun k => if_pos (by decide)) ?_
   rw [← host_is]
   exact Ev.bind (host_ev s hn) (Ev.now _)
  ·rw [cutS_hit hix, hix]
   simp only [if_true]
   have he : ((s.extract 0 i).size : Int) ≤ s.size := by rw [ByteArray.size_extract]; omega
   have he1 : (s.extract 0 i).size ≤ 140737488351232 := by omega
   have he2 : (s.extract (i + 1) s.size).size ≤ 140737488351232 := by rw [ByteArray.size_extract]; omega
   have hw := wrap_succ hi hn
   refine Ev.congr (fun k => by rw [if_neg (by omega), if_pos (by omega), if_pos (by omega), hw, Int.toNat_natCast, Int.toNat_natCast]) ?_
   have hhost : allI (orI greatI hostM) (s.extract 0 i) s.size = allI (orI greatI hostM) (s.extract 0 i) (s.extract 0 i).size := by
    unfold allI
    rw [decide_eq_true he, decide_eq_true (Int.le_refl _)]
   rw [hhost, ← host_is, ← port_is]
   refine Ev.bind (host_ev _ he1) ?_
   cases (allSeg (setR ⟨#[46, 45]⟩) (s.extract 0 i) 0 (s.extract 0 i).size && ((s.extract 0 i).toList != [])) with
   | false => exact Ev.congr (fun k => if_neg (by simp)) (Ev.now _)
   | true =>
    rw [Bool.true_and]
    refine Ev.congr (fun k => by rw [if_pos rfl, if_pos (by omega), if_pos (by omega)]) ?_
    exact Ev.bind (port_ev _ he2) (Ev.now _)
def bigI (c : Int) : Bool := decide (65 ≤ c) && decide (c ≤ 90)
def nameR (b : Bool) (more : ByteArray) (c : Int) : Bool := setR more c && !(bigI c && b)
theorem named_loop (s more : ByteArray) (b : Bool) (i0 : Nat) (hn : s.size ≤ 140737488351232) (hm : more.size ≤ 140737488351232) (hi0 : i0 ≤ s.size) (h1 : 1 ≤ i0) :
  Ev (fun k => outlawref04_named.l0 k s b more (i0 : Int) 1) (allSeg (nameR b more) s 1 i0) := by
 have ha := fun c => among_ev c more hm
 have key : ∀ i : Nat, i < i0 → ∃ f, (∀ k, outlawref04_named.l0 (k + 1 + 1) s b more (i0 : Int) (i : Int) = f k) ∧
   (nameR b more (bt s i) = true → ∀ r, Ev (fun k => outlawref04_named.l0 k s b more (i0 : Int) ((i + 1 : Nat) : Int)) r → Ev f r) ∧ (nameR b more (bt s i) = false → Ev f false) := by
  intro i hi
  have hlt : i < s.size := by omega
  have hl : ∀ k, outlawref04_named.l0 (k + 1 + 1) s b more (i0 : Int) (i : Int) = outlawref04_named.j2 (k + 1) s b more (i0 : Int) (i : Int) (bigI (bt s i)) := by
   intro k
   rw [outlawref04_named.l0]
   rw [if_pos (by omega), if_pos (by omega), if_pos (by omega)]
   unfold bigI
   by_cases h : bt s i ≥ 65
   ·rw [if_pos h, decide_eq_true h, Bool.true_and]
   ·rw [if_neg h, decide_eq_false h, Bool.false_and]
  refine ⟨fun k => (some (letterI (bt s i))).bind fun t129 => if t129 = true then (if bigI (bt s i) = true then (if b = true then some false else outlawref04_named.l0 k s b more i0 ((i + 1 : Nat) : Int)) else outlawref04_named.l0 k s b more i0 ((i + 1 : Nat) : Int)) else
   (some (digitI (bt s i))).bind fun t130 => if t130 = true then (if bigI (bt s i) = true then (if b = true then some false else outlawref04_named.l0 k s b more i0 ((i + 1 : Nat) : Int)) else outlawref04_named.l0 k s b more i0 ((i + 1 : Nat) : Int)) else
   (outlawref04_among.f k (bt s i) more).bind fun t131 => if t131 = true then (if bigI (bt s i) = true then (if b = true then some false else outlawref04_named.l0 k s b more i0 ((i + 1 : Nat) : Int)) else outlawref04_named.l0 k s b more i0 ((i + 1 : Nat) : Int)) else some false, ?_, ?_, ?_⟩
  ·intro k
   rw [hl]
   simp only [outlawref04_named.j2]
   rw [if_pos (by omega), if_pos (by omega), letter_f, digit_f, wrap_succ hlt hn]
  ·intro hp r hr
   unfold nameR setR at hp
   rw [Bool.and_eq_true] at hp
   obtain ⟨hs, hb⟩ := hp
   have hgo : ∀ k, (if bigI (bt s i) = true then (if b = true then some false else outlawref04_named.l0 k s b more i0 ((i + 1 : Nat) : Int)) else outlawref04_named.l0 k s b more i0 ((i + 1 : Nat) : Int)) = outlawref04_named.l0 k s b more i0 ((i + 1 : Nat) : Int) := by
    intro k
    cases h1 : bigI (bt s i) <;> cases b <;> simp_all
   simp only [Option.bind_some, hgo]
   cases h1 : letterI (bt s i) with
   | true => simpa using hr
   | false =>
    cases h2 : digitI (bt s i) with
    | true => simpa using hr
    | false =>
     rw [h1, h2] at hs
     simp only [Bool.false_or] at hs
     simp only [Bool.false_eq_true, if_false]
     exact Ev.bind (ha _) (by rw [hs]; simpa using hr)
  ·intro hp
   unfold nameR setR at hp
   rw [Bool.and_eq_false_iff] at hp
   rcases hp with hp | hp
   ·rw [Bool.or_eq_false_iff, Bool.or_eq_false_iff] at hp
    obtain ⟨h1, h2, h3⟩ := hp
    simp only [Option.bind_some, h1, h2, Bool.false_eq_true, if_false]
    exact Ev.bind (ha _) (by rw [h3]; simpa using Ev.now false)
   ·rw [Bool.not_eq_false', Bool.and_eq_true] at hp
    obtain ⟨hb1, rfl⟩ := hp
    simp only [Option.bind_some, hb1, if_true]
    cases h1 : letterI (bt s i) with
    | true => simpa using Ev.now false
    | false =>
     cases h2 : digitI (bt s i) with
     | true => simpa using Ev.now false
     | false =>
      simp only [Bool.false_eq_true, if_false]
      refine Ev.bind (ha _) ?_
      cases inSet more (bt s i) <;> simpa using Ev.now false
 have h := scan (g := fun k i => outlawref04_named.l0 k s b more (i0 : Int) i) (P := nameR b more) (s := s) (m := i0) (fin := true) hi0 ?_ ?_ ?_ _ 1 rfl h1
 ·rw [Bool.and_true] at h
  exact h
 ·refine Ev.step (f := fun _ => some true) (fun k => ?_) (Ev.now _)
  simp only [outlawref04_named.l0]
  rw [if_neg (by omega)]
 ·intro i hi hp r hr
  obtain ⟨f, hf, hy, _⟩ := key i hi
  exact Ev.step (f := fun k => outlawref04_named.l0 (k + 1) s b more (i0 : Int) (i : Int)) (fun k => rfl) (Ev.step hf (hy hp r hr))
 ·intro i hi hp
  obtain ⟨f, hf, _, hno⟩ := key i hi
  exact Ev.step (f := fun k => outlawref04_named.l0 (k + 1) s b more (i0 : Int) (i : Int)) (fun k => rfl) (Ev.step hf (hno hp))
def namedR (s : ByteArray) (sign : Int) (b : Bool) (more : ByteArray) : Bool :=
 if 255 < s.size then false else if Lib.indexByte s.data.toList 58 < 2 then false else if bt s 0 = sign then
  (serverI (s.extract ((Lib.indexByte s.data.toList 58).toNat + 1) s.size) && allSeg (nameR b more) s 1 (Lib.indexByte s.data.toList 58).toNat) else false
theorem named_j0 (s more : ByteArray) (b : Bool) (x : Int) : Ev (fun k => outlawref04_named.j0 k s b more x true) false := by
 refine Ev.step (f := fun _ => some false) (fun k => ?_) (Ev.now _)
 simp only [outlawref04_named.j0]
 rw [if_pos trivial]
theorem named_ev (s : ByteArray) (sign : Int) (b : Bool) (more : ByteArray) (hn : s.size ≤ 140737488351232) (hm : more.size ≤ 140737488351232) : Ev (fun k => outlawref04_named.f k s sign b more) (namedR s sign b more) := by
 unfold outlawref04_named.f namedR
 refine Ev.bind (colon_ev s hn) ?_
 by_cases h : 255 < s.size
 ·rw [if_pos h]
  exact Ev.congr (fun k => by rw [if_pos (by omega)]) (named_j0 s more b _)
 ·rw [if_neg h]
  rcases index_cases s 58 with hix | ⟨i, hix, hi⟩
  ·rw [hix, if_pos (by omega)]
   exact Ev.congr (fun k => by rw [if_neg (by omega), if_pos (by omega)]) (named_j0 s more b _)
  ·rw [hix]
   by_cases h2 : i < 2
   ·rw [if_pos (by omega)]
    exact Ev.congr (fun k => by rw [if_neg (by omega), if_pos (by omega)]) (named_j0 s more b _)
   ·rw [if_neg (by omega)]
    by_cases h3 : bt s 0 = sign
    ·rw [if_pos h3]
     have he2 : (s.extract (i + 1) s.size).size ≤ 140737488351232 := by rw [ByteArray.size_extract]; omega
     have hw := wrap_succ hi hn
     refine Ev.congr (fun k => by rw [if_neg (by omega), if_neg (by omega), if_pos (by omega), if_pos h3, hw, if_pos (by omega), if_pos (by omega), Int.toNat_natCast]) ?_
     refine Ev.bind (server_ev _ he2) ?_
     rw [Int.toNat_natCast]
     cases serverI (s.extract (i + 1) s.size) with
     | false => exact named_j0 s more b _
     | true =>
      rw [Bool.true_and]
      refine Ev.step (f := fun k => outlawref04_named.l0 k s b more (i : Int) 1) (fun k => ?_) (named_loop s more b i hn hm (by omega) (by omega))
      simp only [outlawref04_named.j0]
      rw [if_neg (by simp)]
    ·rw [if_neg h3]
     exact Ev.congr (fun k => by rw [if_neg (by omega), if_neg (by omega), if_pos (by omega), if_neg h3]) (named_j0 s more b _)
theorem namedI_hit {s sgn : ByteArray} {p : Int → Bool} {i : Nat} (hix : Lib.indexByte s.data.toList 58 = i) (h : ¬ 255 < s.size) :
  namedI s sgn p = (serverI (s.extract (i + 1) s.size) && (signed (s.extract 0 i) sgn && allI p (restS (s.extract 0 i) sgn) s.size)) := by
 unfold namedI
 rw [cutS_hit hix]
 simp only [if_neg h]
 cases serverI (s.extract (i + 1) s.size) <;> cases signed (s.extract 0 i) sgn <;> simp
theorem namedR_hit {s more : ByteArray} {sg : Int} {b : Bool} {i : Nat} (hix : Lib.indexByte s.data.toList 58 = i) (h : ¬ 255 < s.size) :
  namedR s sg b more = (serverI (s.extract (i + 1) s.size) && (decide (2 ≤ i) && (decide (bt s 0 = sg) && allSeg (nameR b more) s 1 i))) := by
 unfold namedR
 rw [if_neg h, hix, Int.toNat_natCast]
 by_cases h2 : 2 ≤ i
 ·rw [if_neg (by omega), decide_eq_true h2, Bool.true_and]
  by_cases h3 : bt s 0 = sg
  ·rw [if_pos h3, decide_eq_true h3, Bool.true_and]
  ·rw [if_neg h3, decide_eq_false h3, Bool.false_and, Bool.and_false]
 ·rw [if_pos (by omega), decide_eq_false h2, Bool.false_and, Bool.and_false]
theorem take_head {s : ByteArray} {i : Nat} (h : i < s.size) : ∃ h0 : 0 < s.size, s.data.toList.take (i + 1) = s[0] :: (s.data.toList.take (i + 1)).drop 1 := by
 refine ⟨by omega, ?_⟩
 have h0 : 0 < s.size := by omega
 have hb := bt_list (s := s) (i := 0) h0
 cases hl : s.data.toList with
 | nil => rw [hl] at hb; simp at hb
 | cons x l =>
  rw [hl] at hb
  simp only [List.getElem?_cons_zero, Option.some.injEq] at hb
  rw [hb]
  rfl
theorem named_is (s : ByteArray) (sg : UInt8) (b : Bool) (more : ByteArray) (p : Int → Bool) (hp : ∀ n, n < 256 → nameR b more ((n : Nat) : Int) = p ((n : Nat) : Int)) : namedR s (sg.toNat : Int) b more = namedI s ⟨#[sg]⟩ p := by
 by_cases h : 255 < s.size
 ·have h1 : namedR s (sg.toNat : Int) b more = false := by unfold namedR; rw [if_pos h]
  have h2 : namedI s ⟨#[sg]⟩ p = false := by unfold namedI; rw [if_pos h, ite_self]
  rw [h1, h2]
 ·rcases index_cases s 58 with hix | ⟨i, hix, hi⟩
  ·have h1 : namedR s (sg.toNat : Int) b more = false := by unfold namedR; rw [if_neg h, hix]; rfl
   have h2 : namedI s ⟨#[sg]⟩ p = false := by unfold namedI; rw [cutS_miss hix]; rfl
   rw [h1, h2]
  ·rw [namedI_hit hix h, namedR_hit hix h]
   congr 1
   have hx : (s.extract 0 i).data.toList = s.data.toList.take i := Lib.extract_from_zero s i
   unfold signed restS Lib.trimPrefix Lib.hasPrefix
   rw [hx]
   cases i with
   | zero =>
    show (decide (2 ≤ 0) && _) = (List.isPrefixOf [sg] (s.data.toList.take 0) && _)
    rw [List.take_zero]
    rfl
   | succ i =>
    obtain ⟨hz, h0⟩ := take_head (s := s) (i := i) (by omega)
    have hb0 : bt s 0 = (s[0].toNat : Int) := bt_nat (i := 0) hz
    have hpre : List.isPrefixOf [sg] (s.data.toList.take (i + 1)) = (sg == s[0]) := by rw [h0]; simp [List.isPrefixOf]
    show _ = (List.isPrefixOf [sg] (s.data.toList.take (i + 1)) && allI p ⟨(if List.isPrefixOf [sg] (s.data.toList.take (i + 1)) = true then (s.data.toList.take (i + 1)).drop 1 else s.data.toList.take (i + 1)).toArray⟩ s.size)
    rw [hpre, hb0]
    by_cases e : sg = s[0]
    ·have e1 : (sg == s[0]) = true := beq_iff_eq.2 e
     have e2 : decide ((s[0].toNat : Int) = (sg.toNat : Int)) = true := decide_eq_true (by rw [e])
     rw [e1, e2, if_pos rfl, Bool.true_and, Bool.true_and]
     have hl : ((s.data.toList.take (i + 1)).drop 1).length = i := by rw [List.length_drop, List.length_take, size_list]; omega
     have hsz : ((⟨((s.data.toList.take (i + 1)).drop 1).toArray⟩ : ByteArray).size : Int) ≤ s.size := by
      show ((((s.data.toList.take (i + 1)).drop 1).toArray.size : Nat) : Int) ≤ _
      rw [List.size_toArray, hl]; omega
     unfold allI
     rw [decide_eq_true hsz, Bool.and_true, allSeg_congr hp]
     show (decide (2 ≤ i + 1) && ((s.data.toList.take (i + 1)).drop 1).all fun b => p b.toNat) = ((((s.data.toList.take (i + 1)).drop 1).all fun b => p b.toNat) && !((s.data.toList.take (i + 1)).drop 1).isEmpty)
     have he : (!((s.data.toList.take (i + 1)).drop 1).isEmpty) = decide (2 ≤ i + 1) := by
      cases hq : (s.data.toList.take (i + 1)).drop 1 with
      | nil => rw [hq] at hl; simp at hl; simp [← hl]
      | cons x l => rw [hq] at hl; simp at hl; rw [decide_eq_true (by omega)]; rfl
     rw [he, Bool.and_comm]
    ·have e1 : (sg == s[0]) = false := beq_eq_false_iff_ne.2 e
     have e2 : decide ((s[0].toNat : Int) = (sg.toNat : Int)) = false := decide_eq_false (fun h => e (UInt8.toNat_inj.1 (by omega)))
     rw [e1, e2, Bool.false_and, Bool.false_and, Bool.and_false]
theorem user_set : ∀ n, n < 256 → nameR true userM ((n : Nat) : Int) = orI smallI userM ((n : Nat) : Int) := by decide +kernel
theorem user_ev (s : ByteArray) (hn : s.size ≤ 140737488351232) : Ev (fun k => outlawref04_User.f k s) (userI s) := by
 unfold outlawref04_User.f userI
 rw [← named_is s 64 true userM _ user_set]
 exact Ev.bind (named_ev s 64 true userM hn (by decide)) (Ev.now _)
end Go.Proofs.YtfgibjkgiolonaaU
