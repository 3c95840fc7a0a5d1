/- outlawref25's reader, plainly: its steps are those of script's reader; an error is kept in the state. -/
import Derived.Test.YtfgibjkgiolonaaPAv2
import Derived.Test.YtfgibjkgiolonaaS7
set_option linter.unusedVariables false
set_option linter.unusedSimpArgs false
namespace Go.Proofs.YtfgibjkgiolonaaS
open Go.RowKit Go.Proofs.YtfgibjkgiolonaaW.PrintWords Go.Proofs.YtfgibjkgiolonaaW.PrintLast Go.Proofs.YtfgibjkgiolonaaW.PrintMore Go.Proofs.YtfgibjkgiolonaaX Go.Proofs.Ytfgibjkgiolonaa.PA Go.Proofs.YtfgibjkgiolonaaG
open Go.Proofs.Ytfgibjkgiolonaa.PR (outlawref21_Number.f outlawref21_Number.l0)
def kept {α : Type} (z : α) (s : ByteArray) (e : Int) (R : Res α) : α × ByteArray × Int :=
 if e = 0 then match R with
  | .ok n r => (n, r, 0)
  | .bad x => (z, s, x)
 else (z, s, e)
theorem kept_on {α : Type} {z : α} {s : ByteArray} {R : Res α} {n : α} {r : ByteArray} (h : R = .ok n r) : kept z s 0 R = (n, r, 0) := by unfold kept; rw [h]; rfl
theorem kept_bad {α : Type} {z : α} {s : ByteArray} {R : Res α} {x : Int} (h : R = .bad x) : kept z s 0 R = (z, s, x) := by unfold kept; rw [h]; rfl
theorem kept_off {α : Type} {z : α} {s : ByteArray} {R : Res α} {e : Int} (h : e ≠ 0) : kept z s e R = (z, s, e) := by unfold kept; rw [if_neg h]
theorem w0 : wrap64 0 = 0 := by unfold wrap64; rfl
theorem take_val (k : Nat) (s : ByteArray) (e n : Int) (h0 : 0 ≤ n) : outlawref25_reader_take.f (k + 1) s e n = some (kept ⟨#[]⟩ s e (takeP s n)) := by
 unfold outlawref25_reader_take.f kept takeP
 by_cases he : e = 0
 ·subst he
  rw [if_pos rfl, if_pos rfl]
  by_cases hn : (s.size : Int) < n
  ·rw [if_pos hn, show decide ((s.size : Int) < n) = true from by simpa using hn]
   simp [outlawref25_reader_take.j0]
  ·rw [if_neg hn, show decide ((s.size : Int) < n) = false from by simpa using hn]
   simp only [outlawref25_reader_take.j0]
   rw [if_neg (by decide), if_pos trivial, if_pos h0, if_pos (by omega)]
 ·rw [if_neg he, if_neg he]
  simp only [outlawref25_reader_take.j0]
  rw [if_neg (by decide), if_neg he]
theorem num_stepW (t : ByteArray) (i k : Nat) (hi : i < t.size) (h8 : i < 8) : outlawref21_Number.l0 (k + 1) t (numP t i) (i : Int) = outlawref21_Number.l0 k t (numP t (i + 1)) ((i + 1 : Nat) : Int) := by
 simp only [outlawref21_Number.l0]
 have hr := numP_range t i
 have hp : (256 : Int) ^ i ≤ 72057594037927936 := by
  have : i = 0 ∨ i = 1 ∨ i = 2 ∨ i = 3 ∨ i = 4 ∨ i = 5 ∨ i = 6 ∨ i = 7 := by omega
  rcases this with rfl | rfl | rfl | rfl | rfl | rfl | rfl | rfl <;> decide
 have hb := bt_range t i
 rw [if_pos (by omega), if_pos (by omega), or_step _ _ hr.1 (by omega) hb.1 (by omega)]
 have hw : wrap64 ((i : Int) + 1) = ((i + 1 : Nat) : Int) := by unfold wrap64; omega
 rw [hw]
 rfl
theorem num_0 (m : Nat) (t : ByteArray) (h : t.size = 0) : outlawref21_Number.f (m + 1) t = some 0 := by
 unfold outlawref21_Number.f
 simp only [outlawref21_Number.l0]
 rw [if_neg (by rw [h]; decide)]
theorem num_1 (m : Nat) (t : ByteArray) (h : t.size = 1) : outlawref21_Number.f (m + 2) t = some (numP t 1) := by
 unfold outlawref21_Number.f
 refine (num_stepW t 0 (m + 1) (by omega) (by decide)).trans ?_
 simp only [outlawref21_Number.l0]
 rw [if_neg (by rw [h]; decide)]
theorem num_2 (m : Nat) (t : ByteArray) (h : t.size = 2) : outlawref21_Number.f (m + 3) t = some (numP t 2) := by
 unfold outlawref21_Number.f
 refine (num_stepW t 0 (m + 2) (by omega) (by decide)).trans ((num_stepW t 1 (m + 1) (by omega) (by decide)).trans ?_)
 simp only [outlawref21_Number.l0]
 rw [if_neg (by rw [h]; decide)]
theorem bt_extract (s : ByteArray) (n i : Nat) (hi : i < n) (hn : n ≤ s.size) : bt (s.extract 0 n) (i : Int) = bt s (i : Int) := by
 unfold bt
 simp [ByteArray.getElem_extract, show i < s.size by omega, show i < min n s.size by omega]
theorem number_1 (k : Nat) (s : ByteArray) (e : Int) : outlawref25_reader_number.f (k + 10) s e 1 = some (kept 0 s e (smallP s)) := by
 unfold outlawref25_reader_number.f
 rw [show k + 10 = (k + 9) + 1 from rfl, take_val _ _ _ _ (by decide), Option.bind_some]
 by_cases he : e = 0
 ·subst he
  by_cases h : 0 < s.size
  ·rw [kept_on (show takeP s 1 = .ok _ _ from if_neg (by omega)), kept_on (show smallP s = .ok _ _ from if_pos h)]
   have hz : (s.extract 0 (1 : Int).toNat).size = 1 := by rw [ByteArray.size_extract]; show min 1 s.size - 0 = 1; omega
   show (outlawref21_Number.f (k + 9 + 1) (s.extract 0 (1 : Int).toNat)).bind _ = _
   rw [show k + 9 + 1 = (k + 8) + 2 from rfl, num_1 _ _ hz, Option.bind_some]
   have hv : numP (s.extract 0 (1 : Int).toNat) 1 = bt s 0 := by
    show (0 : Int) * 256 + bt _ ((0 : Nat) : Int) = _
    rw [show (1 : Int).toNat = 1 from rfl, bt_extract s 1 0 (by decide) h]
    show (0 : Int) * 256 + bt s 0 = bt s 0
    omega
   have hr := bt_range s 0
   rw [hv, show wrap64 (bt s 0) = bt s 0 by unfold wrap64; omega]
   rfl
  ·rw [kept_bad (show takeP s 1 = .bad 3 from if_pos (by omega)), kept_bad (show smallP s = .bad 3 from if_neg h)]
   show (outlawref21_Number.f (k + 9 + 1) (⟨#[]⟩ : ByteArray)).bind _ = _
   rw [num_0 _ _ rfl, Option.bind_some, w0]
 ·rw [kept_off he, kept_off he]
  show (outlawref21_Number.f (k + 9 + 1) (⟨#[]⟩ : ByteArray)).bind _ = _
  rw [num_0 _ _ rfl, Option.bind_some, w0]
theorem number_2 (k : Nat) (s : ByteArray) (e : Int) : outlawref25_reader_number.f (k + 10) s e 2 = some (kept 0 s e (greatP s)) := by
 unfold outlawref25_reader_number.f
 rw [show k + 10 = (k + 9) + 1 from rfl, take_val _ _ _ _ (by decide), Option.bind_some]
 by_cases he : e = 0
 ·subst he
  by_cases h : 1 < s.size
  ·rw [kept_on (show takeP s 2 = .ok _ _ from if_neg (by omega)), kept_on (show greatP s = .ok _ _ from if_pos h)]
   have hz : (s.extract 0 (2 : Int).toNat).size = 2 := by rw [ByteArray.size_extract]; show min 2 s.size - 0 = 2; omega
   show (outlawref21_Number.f (k + 9 + 1) (s.extract 0 (2 : Int).toNat)).bind _ = _
   rw [show k + 9 + 1 = (k + 7) + 3 from rfl, num_2 _ _ hz, Option.bind_some]
   have hv : numP (s.extract 0 (2 : Int).toNat) 2 = bt s 0 * 256 + bt s 1 := by
    show ((0 : Int) * 256 + bt _ ((0 : Nat) : Int)) * 256 + bt _ ((1 : Nat) : Int) = _
    rw [show (2 : Int).toNat = 2 from rfl, bt_extract s 2 0 (by decide) h, bt_extract s 2 1 (by decide) h]
    show ((0 : Int) * 256 + bt s 0) * 256 + bt s 1 = _
    omega
   have hr := bt_range s 0
   have hr1 := bt_range s 1
   rw [hv, show wrap64 (bt s 0 * 256 + bt s 1) = bt s 0 * 256 + bt s 1 by unfold wrap64; omega]
   rfl
  ·rw [kept_bad (show takeP s 2 = .bad 3 from if_pos (by omega)), kept_bad (show greatP s = .bad 3 from if_neg h)]
   show (outlawref21_Number.f (k + 9 + 1) (⟨#[]⟩ : ByteArray)).bind _ = _
   rw [num_0 _ _ rfl, Option.bind_some, w0]
 ·rw [kept_off he, kept_off he]
  show (outlawref21_Number.f (k + 9 + 1) (⟨#[]⟩ : ByteArray)).bind _ = _
  rw [num_0 _ _ rfl, Option.bind_some, w0]
theorem small_bad {s : ByteArray} {x : Int} (h : smallP s = .bad x) : x = 3 := by
 unfold smallP at h; split at h <;> simp at h; exact h.symm
theorem great_bad {s : ByteArray} {x : Int} (h : greatP s = .bad x) : x = 3 := by
 unfold greatP at h; split at h <;> simp at h; exact h.symm
theorem takeP_bad {s : ByteArray} {n x : Int} (h : takeP s n = .bad x) : x = 3 := by
 unfold takeP at h; split at h <;> simp at h; exact h.symm
theorem many_l0 (c0 : Bool) (c1 c2 c3 : Int) (c4 : Bool) (c5 : ByteArray) : ∀ (n m : Nat) (acc : List Int) (s : ByteArray), n ≤ 255 → acc.length + n ≤ 1000 →
  match manyA acc n s with
  | .ok l r => outlawref25_reader_step.l0 (m + n + 11) (n : Int) s 0 c0 c1 c2 c3 c4 c5 acc = some (c0, c1, c2, c3, c4, c5, l, r, 0)
  | .bad x => x ≠ 0 ∧ ∃ l s', l.length ≤ 1000 ∧ outlawref25_reader_step.l0 (m + n + 11) (n : Int) s 0 c0 c1 c2 c3 c4 c5 acc = some (c0, c1, c2, c3, c4, c5, l, s', x)
 | 0, m, acc, s, _, _ => by
  show outlawref25_reader_step.l0 (m + 10 + 1) (0 : Int) s 0 c0 c1 c2 c3 c4 c5 acc = _
  simp only [outlawref25_reader_step.l0]
  rw [if_neg (by decide)]
 | n + 1, m, acc, s, hn, ha => by
  have hw : wrap64 (((n + 1 : Nat) : Int) - 1) = (n : Int) := by unfold wrap64; omega
  have h0 : outlawref25_reader_step.l0 (m + (n + 1) + 11) ((n + 1 : Nat) : Int) s 0 c0 c1 c2 c3 c4 c5 acc = outlawref25_reader_step.l0 (m + n + 11) (n : Int) (kept 0 s 0 (greatP s)).2.1 (kept 0 s 0 (greatP s)).2.2 c0 c1 c2 c3 c4 c5 (acc ++ [(kept 0 s 0 (greatP s)).1]) := by
   rw [show m + (n + 1) + 11 = (m + n + 11) + 1 by omega]
   rw [outlawref25_reader_step.l0]
   rw [if_pos (by omega), if_pos rfl, show m + n + 11 = (m + n + 1) + 10 by omega, number_2, Option.bind_some, if_pos (by omega), hw]
  rw [h0]
  cases hg : greatP s with
  | bad x =>
   have hx := great_bad hg
   subst hx
   rw [show manyA acc (n + 1) s = .bad 3 from manyA_bad hg, kept_bad rfl]
   refine ⟨by decide, acc ++ [0], s, by rw [List.length_append]; show acc.length + 1 ≤ 1000; omega, ?_⟩
   show outlawref25_reader_step.l0 (m + n + 10 + 1) (n : Int) s 3 c0 c1 c2 c3 c4 c5 (acc ++ [0]) = _
   simp only [outlawref25_reader_step.l0]
   by_cases hz : (n : Int) > 0
   ·rw [if_pos hz, if_neg (by decide)]
   ·rw [if_neg hz]
  | ok v r =>
   rw [manyA_ok hg, kept_on rfl]
   exact many_l0 c0 c1 c2 c3 c4 c5 n m (acc ++ [v]) r (by omega) (by rw [List.length_append]; show acc.length + 1 + n ≤ 1000; omega)
theorem cuts_val (k : Nat) (s : ByteArray) (e f : Int) : outlawref25_cuts.f (k + 10) s e f = some (if f = 0 ∨ e ≠ 0 then (0, s, e) else kept 0 s 0 (smallP s)) := by
 unfold outlawref25_cuts.f
 by_cases hf : f = 0
 ·rw [if_pos hf, if_pos (Or.inl hf)]
 ·rw [if_neg hf]
  by_cases he : e = 0
  ·subst he
   rw [if_pos rfl, number_1, Option.bind_some, if_neg (by rintro (h | h); exact hf h; exact h rfl)]
  ·rw [if_neg he, if_pos (Or.inr he)]
theorem readR_val {t : ByteArray} (h : t.size ≤ 65535) : outlawref21_Read.f t = some (readG t) := by unfold outlawref21_Read.f; rw [if_pos (by omega)]
def Fails (s : ByteArray) (x : Int) : Prop := x ≠ 0 ∧ ∃ (y : S45) (s' : ByteArray), y.f2.length ≤ 1000 ∧ outlawref25_reader_step.f 600 s 0 = some (y.f0, y.f1.f0, y.f1.f1, y.f1.f2, y.f1.f3, y.f1.f4, y.f2, s', x)
def Gives (s : ByteArray) (y : S45) (r : ByteArray) : Prop := outlawref25_reader_step.f 600 s 0 = some (y.f0, y.f1.f0, y.f1.f1, y.f1.f2, y.f1.f3, y.f1.f4, y.f2, r, 0)
theorem j1_off (k : Nat) (f : Int) (s : ByteArray) (e : Int) (he : e ≠ 0) : outlawref25_reader_step.j1 (k + 11) f s e = some (false, 0, 0, 0, false, ⟨#[]⟩, [], s, e) := by
 rw [outlawref25_reader_step.j1, number_2, Option.bind_some, kept_off he]
 show (outlawref25_reader_take.f (k + 9 + 1) s e 0).bind _ = _
 rw [take_val _ _ _ _ (by decide), Option.bind_some, kept_off he, if_neg he]
theorem l0_stop (k : Nat) (s : ByteArray) (e : Int) (c0 : Bool) (c1 c2 c3 : Int) (c4 : Bool) (c5 : ByteArray) (acc : List Int) : outlawref25_reader_step.l0 (k + 1) 0 s e c0 c1 c2 c3 c4 c5 acc = some (c0, c1, c2, c3, c4, c5, acc, s, e) := by
 rw [outlawref25_reader_step.l0, if_neg (by decide)]
theorem step_val (s : ByteArray) : match stepP s with | .ok y r => Gives s y r | .bad x => Fails s x := by
 have h0 : outlawref25_reader_step.f 600 s 0 = (if (kept 0 s 0 (smallP s)).2.2 = 0 then (outlawref25_reader_step.j0 600 (kept 0 s 0 (smallP s)).1 (decide ((kept 0 s 0 (smallP s)).1 > 1)) (kept 0 s 0 (smallP s)).2.1 (kept 0 s 0 (smallP s)).2.2) else (outlawref25_reader_step.j0 600 (kept 0 s 0 (smallP s)).1 false (kept 0 s 0 (smallP s)).2.1 (kept 0 s 0 (smallP s)).2.2)) := by
  unfold outlawref25_reader_step.f
  rw [show (600 : Nat) = 590 + 10 from rfl, number_1, Option.bind_some]
 have j0f : ∀ (f : Int) (t : ByteArray) (e : Int), outlawref25_reader_step.j0 600 f false t e = outlawref25_reader_step.j1 599 f t e := fun f t e => by
  rw [show (600 : Nat) = 599 + 1 from rfl, outlawref25_reader_step.j0, if_neg (by decide)]
 have j0t : ∀ (f : Int) (t : ByteArray) (e : Int), outlawref25_reader_step.j0 600 f true t e = outlawref25_reader_step.j1 599 f t 5 := fun f t e => by
  rw [show (600 : Nat) = 599 + 1 from rfl, outlawref25_reader_step.j0, if_pos rfl]
 cases h1 : smallP s with
 | bad x =>
  have hx := small_bad h1
  subst hx
  rw [stepP_1 h1]
  rw [h1, kept_bad rfl] at h0
  refine ⟨by decide, ⟨false, ⟨0, 0, 0, false, ⟨#[]⟩⟩, []⟩, s, by decide, ?_⟩
  rw [h0, if_neg (show ¬ (3 : Int) = 0 by decide), j0f, show (599 : Nat) = 588 + 11 from rfl, j1_off _ _ _ _ (show (3 : Int) ≠ 0 by decide)]
 | ok f r =>
  rw [h1, kept_on rfl, if_pos rfl] at h0
  by_cases hf : 1 < f
  ·rw [stepP_2 h1 hf]
   refine ⟨by decide, ⟨false, ⟨0, 0, 0, false, ⟨#[]⟩⟩, []⟩, r, by decide, ?_⟩
   rw [h0, show decide (f > 1) = true from by simpa using hf, j0t, show (599 : Nat) = 588 + 11 from rfl, j1_off _ _ _ _ (by decide)]
  rw [show decide (f > 1) = false from by simpa using hf, j0f] at h0
  have hfr := smallP_range h1
  cases h2 : greatP r with
  | bad x =>
   have hx := great_bad h2
   subst hx
   rw [stepP_3 h1 hf (show textP greatP r = .bad 3 by unfold textP; rw [h2])]
   refine ⟨by decide, ⟨false, ⟨0, 0, 0, false, ⟨#[]⟩⟩, []⟩, r, by decide, ?_⟩
   rw [h0, show (599 : Nat) = 588 + 11 from rfl, outlawref25_reader_step.j1, number_2, Option.bind_some, h2, kept_bad rfl]
   show (outlawref25_reader_take.f (588 + 9 + 1) r 3 0).bind _ = _
   rw [take_val _ _ _ _ (by decide), Option.bind_some, kept_off (by decide), if_neg (show ¬ (3 : Int) = 0 by decide)]
  | ok n r1 =>
   have hn := greatP_range h2
   have h3 : outlawref25_reader_step.f 600 s 0 = (outlawref25_reader_take.f (588 + 9 + 1) r1 0 n).bind _ := h0.trans (by rw [show (599 : Nat) = 588 + 11 from rfl, outlawref25_reader_step.j1, number_2, Option.bind_some, h2, kept_on rfl])
   rw [take_val _ _ _ _ hn.1, Option.bind_some] at h3
   cases h4 : takeP r1 n with
   | bad x =>
    have hx := takeP_bad h4
    subst hx
    rw [stepP_3 h1 hf (show textP greatP r = .bad 3 by unfold textP; rw [h2]; exact h4)]
    refine ⟨by decide, ⟨false, ⟨0, 0, 0, false, ⟨#[]⟩⟩, []⟩, r1, by decide, ?_⟩
    rw [h3, h4, kept_bad rfl, if_neg (show ¬ (3 : Int) = 0 by decide)]
   | ok rec r2 =>
    have ht : textP greatP r = .ok rec r2 := by unfold textP; rw [h2]; exact h4
    have hz := (textP_size ht).1
    rw [h4, kept_on rfl, if_pos rfl, readR_val hz, Option.bind_some, show (588 + 9 + 1 : Nat) = 588 + 10 from rfl, cuts_val, Option.bind_some] at h3
    by_cases hg : (readG rec).2.2.2.2.2 = 0
    ·by_cases hf1 : f = 1
     ·subst hf1
      rw [hg, if_neg (by rintro (h | h); exact absurd h (show ¬ (1 : Int) = 0 by decide); exact h rfl)] at h3
      cases h5 : smallP r2 with
      | bad x =>
       have hx := small_bad h5
       subst hx
       rw [stepP_6 h1 hf ht hg rfl h5]
       rw [h5, kept_bad rfl] at h3
       refine ⟨by decide, ⟨true, inG (readG rec), []⟩, r2, by show 0 ≤ 1000; decide, ?_⟩
       rw [h3]
       exact l0_stop _ _ _ _ _ _ _ _ _ _
      | ok c r3 =>
       have hc := smallP_range h5
       obtain ⟨q, rfl⟩ := Int.eq_ofNat_of_zero_le hc.1
       rw [h5, kept_on rfl] at h3
       have hm := many_l0 (decide True) (readG rec).1 (readG rec).2.1 (readG rec).2.2.1 (readG rec).2.2.2.1 (readG rec).2.2.2.2.1 q (587 - q) [] r3 (by omega) (by show 0 + q ≤ 1000; omega)
       rw [show 587 - q + q + 11 = 588 + 10 by omega] at hm
       cases h6 : manyA [] q r3 with
       | bad x =>
        rw [h6] at hm
        rw [stepP_7 h1 hf ht hg rfl h5 (by exact h6)]
        obtain ⟨hx0, l, s', hll, hl⟩ := hm
        exact ⟨hx0, ⟨true, inG (readG rec), l⟩, s', hll, h3.trans hl⟩
       | ok l r4 =>
        rw [h6] at hm
        rw [stepP_8 h1 hf ht hg rfl h5 (by exact h6)]
        exact h3.trans hm
     ·have hf0 : f = 0 := by omega
      subst hf0
      rw [stepP_5 h1 hf ht hg hf1]
      rw [hg, if_pos (Or.inl rfl)] at h3
      exact h3.trans (l0_stop _ _ _ _ _ _ _ _ _ _)
    ·rw [stepP_4 h1 hf ht hg]
     rw [if_pos (Or.inr hg)] at h3
     exact ⟨hg, ⟨(f == 1), inG (readG rec), []⟩, r2, by show 0 ≤ 1000; decide, h3.trans (l0_stop _ _ _ _ _ _ _ _ _ _)⟩
end Go.Proofs.YtfgibjkgiolonaaS
