import Derived.Test.YtfgibjkgiolonaaS7
import Derived.Test.YtfgibjkgiolonaaQm
import Derived.Test.YtfgibjkgiolonaaSh
import Derived.Test.YtfgibjkgiolonaaPAx3
import Derived.Test.YtfgibjkgiolonaaPAx4
import Derived.Test.YtfgibjkgiolonaaPAx5
set_option linter.unusedVariables false
set_option linter.unusedSimpArgs false
namespace Go.Proofs.YtfgibjkgiolonaaS
open Go.RowKit Go.Proofs.YtfgibjkgiolonaaW.PrintWords Go.Proofs.YtfgibjkgiolonaaX Go.Proofs.Ytfgibjkgiolonaa.PA Go.Proofs.YtfgibjkgiolonaaG Go.Proofs.YtfgibjkgiolonaaQ Go.Proofs.YtfgibjkgiolonaaI
def twoL (n : Int) : List Int := [n / 256 % 256, n % 256]
def cutsL (l : List Int) : List Int := l.flatMap twoL
def recS (x : S42) : List Int := recL x.f0 x.f1 x.f2 x.f3 x.f4
def stepL (x : S45) : List Int := (if x.f0 = true then 1 else 0) :: (twoL ((recS x.f1).length : Int) ++ (recS x.f1 ++ (if x.f0 = true then ((x.f2.length : Int) % 256) :: cutsL x.f2 else [])))
def stepsL (l : List S45) : List Int := l.flatMap stepL
def scrL (bot : ByteArray) (sec : Int) (l : List S45) : List Int := ((bot.size : Int) % 256) :: (bytesOf bot ++ (twoL sec ++ (twoL (l.length : Int) ++ stepsL l)))
theorem isB_two (n : Int) : isB (twoL n) := fun x hx => by
 simp only [twoL, List.mem_cons, List.not_mem_nil, or_false] at hx
 rcases hx with rfl | rfl <;> omega
theorem isB_nil : isB [] := fun x hx => by cases hx
theorem isB_cuts (l : List Int) : isB (cutsL l) := fun x hx => by
 obtain ⟨y, _, hy⟩ := List.mem_flatMap.1 hx
 exact isB_two y x hy
theorem isB_recL {k c n : Int} {ok : Bool} {t : ByteArray} (h : checkI k c n ok t = 0) : isB (recL k c n ok t) := by
 rcases check_ok h with ⟨rfl, _⟩ | ⟨rfl, _⟩ | ⟨rfl, _⟩ | ⟨rfl, _⟩ | ⟨rfl, h0, h1, _⟩ | ⟨rfl, _⟩
 ·exact isB_cons (by decide) (by decide) (isB_bytesOf t)
 ·exact isB_cons (by decide) (by decide) (isB_app (isB_eight n) (by cases ok <;> exact isB_one (by decide) (by decide)))
 ·exact isB_cons (by decide) (by decide) (isB_eight n)
 ·exact isB_cons (by decide) (by decide) (isB_eight n)
 ·exact isB_cons (by decide) (by decide) (isB_cons (by omega) (by omega) (isB_bytesOf t))
 ·exact isB_one (by decide) (by decide)
theorem small_cons {x : Int} {r : List Int} (h : isB (x :: r)) : smallP (strOfNums (x :: r)) = .ok x (strOfNums r) := by
 unfold smallP
 rw [if_pos (by rw [str_size]; simp)]
 have h1 : bt (strOfNums (x :: r)) 0 = x := by have := str_bt h 0 (by simp); simpa using this
 have h2 : (strOfNums (x :: r)).extract 1 (strOfNums (x :: r)).size = strOfNums r := ext_one_rest x r
 rw [h1, h2]
theorem great_cons {x y : Int} {r : List Int} (h : isB (x :: y :: r)) : greatP (strOfNums (x :: y :: r)) = .ok (x * 256 + y) (strOfNums r) := by
 unfold greatP
 rw [if_pos (by rw [str_size]; simp)]
 have h1 : bt (strOfNums (x :: y :: r)) 0 = x := by have := str_bt h 0 (by simp); simpa using this
 have h2 : bt (strOfNums (x :: y :: r)) 1 = y := by have := str_bt h 1 (by simp); simpa using this
 have h3 : (strOfNums (x :: y :: r)).extract 2 (strOfNums (x :: y :: r)).size = strOfNums r := by
  rw [str_extract, str_size, List.take_length]
  rfl
 rw [h1, h2, h3]
theorem great_two {n : Int} {r : List Int} (h0 : 0 ≤ n) (h1 : n ≤ 65535) (h : isB r) : greatP (strOfNums (twoL n ++ r)) = .ok n (strOfNums r) := by
 have hb : isB (n / 256 % 256 :: n % 256 :: r) := isB_cons (by omega) (by omega) (isB_cons (by omega) (by omega) h)
 have := great_cons hb
 rw [show n / 256 % 256 * 256 + n % 256 = n by omega] at this
 exact this
theorem take_app (a r : List Int) : takeP (strOfNums (a ++ r)) (a.length : Int) = .ok (strOfNums a) (strOfNums r) := by
 unfold takeP
 rw [if_neg (by rw [str_size, List.length_append]; omega), str_extract, str_extract, str_size, Int.toNat_natCast, List.take_length, List.drop_left, List.take_left, List.drop_zero]
theorem text_small_app {a r : List Int} (ha : a.length ≤ 255) (h : isB (a ++ r)) : textP smallP (strOfNums ((a.length : Int) % 256 :: (a ++ r))) = .ok (strOfNums a) (strOfNums r) := by
 unfold textP
 rw [small_cons (isB_cons (by omega) (by omega) h), show (a.length : Int) % 256 = a.length by omega]
 exact take_app a r
theorem text_great_app {a r : List Int} (ha : a.length ≤ 65535) (h : isB (a ++ r)) : textP greatP (strOfNums (twoL (a.length : Int) ++ (a ++ r))) = .ok (strOfNums a) (strOfNums r) := by
 unfold textP
 rw [great_two (by omega) (by omega) h]
 exact take_app a r
theorem many_app : ∀ (l acc : List Int) (r : List Int), isB r → (∀ n ∈ l, 0 ≤ n ∧ n ≤ 65535) → manyA acc l.length (strOfNums (cutsL l ++ r)) = .ok (acc ++ l) (strOfNums r)
 | [], acc, r, hr, hl => by simp [manyA, cutsL]
 | n :: l, acc, r, hr, hl => by
  have hn := hl n (List.mem_cons_self)
  rw [List.length_cons, show cutsL (n :: l) ++ r = twoL n ++ (cutsL l ++ r) by simp [cutsL]]
  rw [manyA_ok (great_two hn.1 hn.2 (isB_app (isB_cuts l) hr)), many_app l (acc ++ [n]) r hr (fun m hm => hl m (List.mem_cons_of_mem _ hm))]
  simp
theorem wrong_zero {x : S45} (h : wrongS x = 0) : checkI x.f1.f0 x.f1.f1 x.f1.f2 x.f1.f3 x.f1.f4 = 0 ∧ (x.f0 = false → x.f2 = []) ∧ x.f2.length ≤ 16 ∧ ∀ n ∈ x.f2, 0 ≤ n ∧ n ≤ 600 := by
 unfold wrongS wrongI at h
 by_cases hc : checkI x.f1.f0 x.f1.f1 x.f1.f2 x.f1.f3 x.f1.f4 = 0
 ·rw [if_pos hc] at h
  unfold errCuts at h
  by_cases h1 : x.f0 = false ∧ 0 < x.f2.length
  ·rw [if_pos h1] at h; exact absurd h (by decide)
  rw [if_neg h1] at h
  by_cases h2 : 16 < x.f2.length
  ·rw [if_pos h2] at h; exact absurd h (by decide)
  rw [if_neg h2] at h
  by_cases h3 : x.f2.any badCut = true
  ·rw [if_pos h3] at h; exact absurd h (by decide)
  refine ⟨hc, fun hf => ?_, by omega, fun n hn => ?_⟩
  ·exact List.length_eq_zero_iff.1 (Nat.eq_zero_of_not_pos fun hp => h1 ⟨hf, hp⟩)
  ·have h4 : badCut n = false := by
    cases hb : badCut n with
    | false => rfl
    | true => exact absurd (List.any_eq_true.2 ⟨n, hn, hb⟩) h3
   simp [badCut] at h4
   omega
 ·rw [if_neg hc] at h; exact absurd h hc
theorem isB_step {x : S45} (h : wrongS x = 0) : isB (stepL x) := by
 have hw := wrong_zero h
 unfold stepL
 refine isB_cons (by split <;> decide) (by split <;> decide) (isB_app (isB_two _) (isB_app (isB_recL hw.1) ?_))
 split
 ·exact isB_cons (by omega) (by omega) (isB_cuts _)
 ·exact isB_nil
theorem isB_steps {l : List S45} (h : ∀ x ∈ l, wrongS x = 0) : isB (stepsL l) := fun y hy => by
 obtain ⟨x, hx, hy⟩ := List.mem_flatMap.1 hy
 exact isB_step (h x hx) y hy
theorem read_rec {x : S42} (h : checkI x.f0 x.f1 x.f2 x.f3 x.f4 = 0) : readG (strOfNums (recS x)) = (x.f0, x.f1, x.f2, x.f3, x.f4, 0) := by
 unfold readG recS
 rw [back _ _ _ _ _ h]
 simp only
 rw [if_pos h]
theorem step_app {x : S45} {r : List Int} (h : wrongS x = 0) (hr : isB r) : stepP (strOfNums (stepL x ++ r)) = .ok x (strOfNums r) := by
 obtain ⟨hc, hn, hl, hcu⟩ := wrong_zero h
 have hrl : (recS x.f1).length ≤ 4097 := (recL_size hc).1
 have hrb : isB (recS x.f1) := isB_recL hc
 have hrd := read_rec hc
 cases hf : x.f0 with
 | false =>
  have e : stepL x ++ r = 0 :: (twoL ((recS x.f1).length : Int) ++ (recS x.f1 ++ r)) := by unfold stepL; simp [hf]
  rw [e, stepP_5 (small_cons (isB_cons (by decide) (by decide) (isB_app (isB_two _) (isB_app hrb hr)))) (by decide) (text_great_app (by omega) (isB_app hrb hr)) (by rw [hrd]) (by decide), hrd]
  congr 1
  rw [← hn hf, ← hf]
  rfl
 | true =>
  have e : stepL x ++ r = 1 :: (twoL ((recS x.f1).length : Int) ++ (recS x.f1 ++ (((x.f2.length : Int) % 256) :: (cutsL x.f2 ++ r)))) := by unfold stepL; simp [hf]
  have hb1 : isB (((x.f2.length : Int) % 256) :: (cutsL x.f2 ++ r)) := isB_cons (by omega) (by omega) (isB_app (isB_cuts _) hr)
  have hm := many_app x.f2 [] r hr (fun n hn => by have := hcu n hn; omega)
  rw [e, stepP_8 (small_cons (isB_cons (by decide) (by decide) (isB_app (isB_two _) (isB_app hrb hb1)))) (by decide) (text_great_app (by omega) (isB_app hrb hb1)) (by rw [hrd]) rfl (small_cons hb1)
   (by rw [show ((x.f2.length : Int) % 256).toNat = x.f2.length by omega]; exact hm), hrd]
  congr 1
  rw [← hf]
  rfl
theorem steps_app : ∀ (l acc : List S45) (r : List Int), isB r → (∀ x ∈ l, wrongS x = 0) → stepsA acc l.length (strOfNums (stepsL l ++ r)) = .ok (acc ++ l) (strOfNums r)
 | [], acc, r, hr, hl => by simp [stepsA, stepsL]
 | x :: l, acc, r, hr, hl => by
  have hx := hl x (List.mem_cons_self)
  have hl' : ∀ y ∈ l, wrongS y = 0 := fun y hy => hl y (List.mem_cons_of_mem _ hy)
  rw [List.length_cons, show stepsL (x :: l) ++ r = stepL x ++ (stepsL l ++ r) by simp [stepsL]]
  rw [stepsA_ok (step_app hx (isB_app (isB_steps hl') hr)), steps_app l (acc ++ [x]) r hr hl']
  simp
theorem first_zero : ∀ (l : List S45) (i : Nat), (firstBad i l).2 = 0 → ∀ x ∈ l, wrongS x = 0
 | [], i, h, x, hx => by cases hx
 | y :: l, i, h, x, hx => by
  unfold firstBad at h
  by_cases hy : wrongS y = 0
  ·rw [if_pos hy] at h
   rcases List.mem_cons.1 hx with rfl | hx
   ·exact hy
   ·exact first_zero l (i + 1) h x hx
  ·rw [if_neg hy] at h
   exact absurd h hy
theorem first_of : ∀ (l : List S45) (i : Nat), (∀ x ∈ l, wrongS x = 0) → firstBad i l = (0, 0)
 | [], i, h => rfl
 | y :: l, i, h => by
  unfold firstBad
  rw [if_pos (h y (List.mem_cons_self))]
  exact first_of l (i + 1) (fun x hx => h x (List.mem_cons_of_mem _ hx))
theorem check_zero {bot : ByteArray} {sec : Int} {l : List S45} (h : (checkS bot sec l).2 = 0) : checkS bot sec l = (0, 0) ∧ userI bot = true ∧ 1 ≤ sec ∧ sec ≤ 1024 ∧ l.length ≤ 300 ∧ ∀ x ∈ l, wrongS x = 0 := by
 unfold checkS at h ⊢
 by_cases hh : headS bot sec l.length = 0
 ·rw [if_pos hh] at h ⊢
  have hx := first_zero l 0 h
  unfold headS at hh
  by_cases h1 : userI bot = false
  ·rw [if_pos h1] at hh; exact absurd hh (by decide)
  rw [if_neg h1] at hh
  by_cases h2 : sec < 1 ∨ 1024 < sec
  ·rw [if_pos h2] at hh; exact absurd hh (by decide)
  rw [if_neg h2] at hh
  by_cases h3 : 300 < l.length
  ·rw [if_pos h3] at hh; exact absurd hh (by decide)
  exact ⟨first_of l 0 hx, by simpa using h1, by omega, by omega, by omega, hx⟩
 ·rw [if_neg hh] at h
  exact absurd h hh
theorem user_size {s : ByteArray} (h : userI s = true) : s.size ≤ 255 := by
 unfold userI Go.Proofs.YtfgibjkgiolonaaI.namedI at h
 by_cases h1 : (Go.Proofs.YtfgibjkgiolonaaI.cutS s 58).2.2 = false
 ·rw [if_pos h1] at h; cases h
 rw [if_neg h1] at h
 by_cases h2 : 255 < s.size
 ·rw [if_pos h2] at h; cases h
 ·omega
theorem script_app {bot : ByteArray} {sec : Int} {l : List S45} (h : (checkS bot sec l).2 = 0) : scriptP (strOfNums (scrL bot sec l)) = .ok ⟨bot, sec, l⟩ (strOfNums []) := by
 obtain ⟨_, hu, h1, h2, h3, hx⟩ := check_zero h
 have hs := user_size hu
 have hb := isB_bytesOf bot
 have hl := isB_steps hx
 have e : scrL bot sec l = (((bytesOf bot).length : Int) % 256) :: (bytesOf bot ++ (twoL sec ++ (twoL (l.length : Int) ++ (stepsL l ++ [])))) := by unfold scrL; rw [bytesOf_length, List.append_nil]
 rw [e, scriptP_6 (text_small_app (by rw [bytesOf_length]; exact hs) (isB_app hb (isB_app (isB_two _) (isB_app (isB_two _) (isB_app hl isB_nil))))) (great_two (by omega) (by omega) (isB_app (isB_two _) (isB_app hl isB_nil))) (great_two (n := (l.length : Int)) (by omega) (by omega) (isB_app hl isB_nil)) (l := [] ++ l) (by rw [Int.toNat_natCast]; exact steps_app l [] [] isB_nil hx) (by rw [str_size]; rfl), str_bytesOf]
 rfl
end Go.Proofs.YtfgibjkgiolonaaS
set_option linter.unusedVariables false
set_option linter.unusedSimpArgs false
namespace Go.Proofs.YtfgibjkgiolonaaS
open Go.RowKit Go.Proofs.YtfgibjkgiolonaaW.PrintWords Go.Proofs.YtfgibjkgiolonaaX Go.Proofs.Ytfgibjkgiolonaa.PA Go.Proofs.YtfgibjkgiolonaaG Go.Proofs.YtfgibjkgiolonaaQ Go.Proofs.YtfgibjkgiolonaaI
end Go.Proofs.YtfgibjkgiolonaaS
set_option linter.unusedVariables false
set_option linter.unusedSimpArgs false
namespace Go.Proofs.YtfgibjkgiolonaaS
open Go.RowKit Go.Proofs.YtfgibjkgiolonaaW.PrintWords Go.Proofs.YtfgibjkgiolonaaX Go.Proofs.Ytfgibjkgiolonaa.PA Go.Proofs.YtfgibjkgiolonaaG Go.Proofs.YtfgibjkgiolonaaQ Go.Proofs.YtfgibjkgiolonaaI
def EvS {α : Type} (g : Nat → Option α) (r : α) : Prop := ∃ K, ∀ k, K ≤ k → g k = some r
theorem EvS.step {α : Type} {g h : Nat → Option α} {r : α} (H : EvS h r) (hg : ∀ k, g (k + 1) = h k) : EvS g r := by
 obtain ⟨K, hK⟩ := H
 refine ⟨K + 1, fun k hk => ?_⟩
 obtain ⟨k, rfl⟩ : ∃ q, k = q + 1 := ⟨k - 1, by omega⟩
 rw [hg]
 exact hK k (by omega)
theorem EvS.from {α : Type} {g h : Nat → Option α} {r : α} (H : EvS h r) (m : Nat) (hg : ∀ k, m ≤ k → g (k + 1) = h k) : EvS g r := by
 obtain ⟨K, hK⟩ := H
 refine ⟨max K m + 1, fun k hk => ?_⟩
 obtain ⟨k, rfl⟩ : ∃ q, k = q + 1 := ⟨k - 1, by omega⟩
 rw [hg k (by omega)]
 exact hK k (by omega)
theorem two_val (x : List Int) (n : Int) (h : x.length ≤ 100000000000) : script_two.f x n = some (x ++ twoL n) := by
 unfold script_two.f
 simp only [Option.bind_some]
 rw [if_pos (by simp; omega)]
 rfl
theorem recbytes_val (m : Nat) (x : S42) (h : checkI x.f0 x.f1 x.f2 x.f3 x.f4 = 0) : record_Bytes.f (m + 1) x.f0 x.f1 x.f2 x.f3 x.f4 = some (strOfNums (recS x), 0) := by
 obtain ⟨k, c, n, ok, t⟩ := x
 unfold record_Bytes.f record_Check.f recS
 simp only at h ⊢
 simp only [Option.bind_some]
 rw [if_pos h]
 have hl := bytesOf_length t
 have h8 : ∀ n, (eightL n).length = 8 := fun _ => rfl
 have ev : ∀ {n : Int}, 0 ≤ n → n ≤ 1152921504606846976 → record_eight.f n = some (strOfNums (eightL n)) := fun h0 h1 => if_pos ⟨by omega, by omega⟩
 rcases check_ok h with ⟨rfl, rfl, rfl, rfl, h1⟩ | ⟨rfl, rfl, h0, h1, h2⟩ | ⟨rfl, rfl, h0, h1, rfl, h2⟩ | ⟨rfl, rfl, h0, h1, rfl, h2⟩ | ⟨rfl, h0, h1, rfl, rfl, h2⟩ | ⟨rfl, rfl, rfl, rfl, h2⟩
 ·simp [record_Bytes.j0, recL]
  omega
 ·simp [record_Bytes.j0, recL, ev h0 h1, str_size, h8, bytesOf_str (isB_eight n)]
  cases ok <;> simp
 ·simp [record_Bytes.j0, recL, ev h0 h1, str_size, h8, bytesOf_str (isB_eight n)]
 ·simp [record_Bytes.j0, recL, ev (show 0 ≤ n by omega) (show n ≤ 1152921504606846976 by omega), str_size, h8, bytesOf_str (isB_eight n)]
 ·simp [record_Bytes.j0, recL]
  omega
 ·simp [record_Bytes.j0, recL]
theorem cuts_ev (L : List S45) (N : Int) (i : Nat) (hi : i ≤ 1000) (cs : List Int) (r : ByteArray × Int) : ∀ (d j : Nat) (x : List Int), cs.length - j = d → j ≤ cs.length → cs.length ≤ 1000 → x.length + 2 * d ≤ 10000000000 →
  EvS (fun k => script_Bytes.l0 k (x ++ cutsL (cs.drop j)) L N ((i + 1 : Nat) : Int)) r → EvS (fun k => script_Bytes.l1 k x L N (i : Int) cs (cs.length : Int) (j : Int)) r := by
 intro d
 induction d with
 | zero =>
  intro j x hd hj hc hx H
  obtain rfl : j = cs.length := by omega
  rw [List.drop_length] at H
  refine H.step fun k => ?_
  simp only [script_Bytes.l1]
  rw [if_neg (by omega), show wrap64 ((i : Int) + 1) = ((i + 1 : Nat) : Int) by unfold wrap64; omega]
  simp [cutsL]
 | succ d ih =>
  intro j x hd hj hc hx H
  have hlt : j < cs.length := by omega
  rw [List.drop_eq_getElem_cons hlt, show cutsL (cs[j] :: cs.drop (j + 1)) = twoL cs[j] ++ cutsL (cs.drop (j + 1)) from rfl, ← List.append_assoc] at H
  have H2 := ih (j + 1) (x ++ twoL cs[j]) (by omega) (by omega) hc (by simp [twoL]; omega) H
  refine H2.step fun k => ?_
  have hrd : rd cs (j : Int) = cs[j] := by unfold rd; simp [List.getD_eq_getElem?_getD, List.getElem?_eq_getElem hlt]
  show script_Bytes.l1 (k + 1) x L N (i : Int) cs (cs.length : Int) (j : Int) = script_Bytes.l1 k (x ++ twoL cs[j]) L N (i : Int) cs (cs.length : Int) ((j + 1 : Nat) : Int)
  rw [script_Bytes.l1, if_pos (by omega), if_pos (by omega), if_pos (by omega), hrd, two_val _ _ (by omega)]
  simp only [Option.bind_some]
  rw [show wrap64 ((j : Int) + 1) = ((j + 1 : Nat) : Int) by unfold wrap64; omega]
theorem step_length {x : S45} (h : wrongS x = 0) : (stepL x).length ≤ 5000 := by
 obtain ⟨hc, _, hl, _⟩ := wrong_zero h
 have h2 : (recS x.f1).length ≤ 4097 := (recL_size hc).1
 have h3 : (cutsL x.f2).length = 2 * x.f2.length := by
  unfold cutsL
  rw [List.length_flatMap]
  induction x.f2 with
  | nil => rfl
  | cons a l ih => simp [twoL] at ih ⊢; omega
 unfold stepL
 cases x.f0 <;> simp [twoL, h3] <;> omega
theorem one_ev (L : List S45) (N : Int) (i : Nat) (hi : i ≤ 1000) (y : S45) (hy : wrongS y = 0) (x : List Int) (hx : x.length ≤ 1000000000) (r : ByteArray × Int)
  (H : EvS (fun k => script_Bytes.l0 k (x ++ stepL y) L N ((i + 1 : Nat) : Int)) r) : EvS (fun k => script_Bytes.j1 k x (if y.f0 = true then 1 else 0) L N (i : Int) y.f0 y.f1.f0 y.f1.f1 y.f1.f2 y.f1.f3 y.f1.f4 y.f2) r := by
 obtain ⟨hc, hn, hl, _⟩ := wrong_zero hy
 have h2 : (recS y.f1).length ≤ 4097 := (recL_size hc).1
 have hb : bytesOf (strOfNums (recS y.f1)) = recS y.f1 := bytesOf_str (isB_recL hc)
 cases hf : y.f0 with
 | true =>
  have e : x ++ stepL y = (x ++ [1] ++ twoL ((recS y.f1).length : Int) ++ recS y.f1 ++ [(y.f2.length : Int) % 256]) ++ cutsL (y.f2.drop 0) := by unfold stepL; simp [hf]
  rw [e] at H
  have H2 := cuts_ev L N i hi y.f2 r y.f2.length 0 _ (by omega) (Nat.zero_le _) (by omega) (by simp [twoL]; omega) H
  refine H2.from 1 fun k hk => ?_
  obtain ⟨k, rfl⟩ : ∃ q, k = q + 1 := ⟨k - 1, by omega⟩
  show script_Bytes.j1 (k + 1 + 1) _ _ _ _ _ _ _ _ _ _ _ _ = _
  rw [script_Bytes.j1, recbytes_val k y.f1 hc]
  simp only [Option.bind_some, if_true]
  rw [if_pos (by omega), two_val _ _ (by simp; omega)]
  simp only [Option.bind_some]
  rw [str_size, hb, if_pos (by simp [twoL]; omega)]
  rw [if_pos (by simp [twoL]; omega)]
  rfl
 | false =>
  have e : x ++ stepL y = x ++ [0] ++ twoL ((recS y.f1).length : Int) ++ recS y.f1 := by unfold stepL; simp [hf]
  rw [e] at H
  refine H.from 1 fun k hk => ?_
  obtain ⟨k, rfl⟩ : ∃ q, k = q + 1 := ⟨k - 1, by omega⟩
  show script_Bytes.j1 (k + 1 + 1) _ _ _ _ _ _ _ _ _ _ _ _ = _
  rw [script_Bytes.j1, recbytes_val k y.f1 hc]
  simp only [Option.bind_some, Bool.false_eq_true, if_false]
  rw [if_pos (by omega), two_val _ _ (by simp; omega)]
  simp only [Option.bind_some]
  rw [str_size, hb, if_pos (by simp [twoL]; omega)]
  rw [show wrap64 ((i : Int) + 1) = ((i + 1 : Nat) : Int) by unfold wrap64; omega]
theorem all_ev (L : List S45) (hL : ∀ x ∈ L, wrongS x = 0) (hl : L.length ≤ 300) : ∀ (d i : Nat) (x : List Int), L.length - i = d → i ≤ L.length → x.length + 5000 * d ≤ 100000000 →
  EvS (fun k => script_Bytes.l0 k x L (L.length : Int) (i : Int)) (strOfNums (x ++ stepsL (L.drop i)), 0) := by
 intro d
 induction d with
 | zero =>
  intro i x hd hi hx
  obtain rfl : i = L.length := by omega
  refine ⟨1, fun k hk => ?_⟩
  obtain ⟨k, rfl⟩ : ∃ q, k = q + 1 := ⟨k - 1, by omega⟩
  simp only [script_Bytes.l0]
  rw [if_neg (by omega), List.drop_length]
  simp [stepsL]
 | succ d ih =>
  intro i x hd hi hx
  have hlt : i < L.length := by omega
  have hw := hL _ (List.getElem_mem hlt)
  have hsl := step_length hw
  have H := ih (i + 1) (x ++ stepL L[i]) (by omega) (by omega) (by rw [List.length_append]; omega)
  rw [List.append_assoc, show stepL L[i] ++ stepsL (L.drop (i + 1)) = stepsL (L.drop i) by rw [List.drop_eq_getElem_cons hlt]; rfl] at H
  have H2 := one_ev L (L.length : Int) i (by omega) L[i] hw x (by omega) _ H
  have hrd : rd_T45 L (i : Int) = L[i] := by unfold rd_T45; simp [List.getD_eq_getElem?_getD, List.getElem?_eq_getElem hlt]
  refine H2.step fun k => ?_
  rw [script_Bytes.l0, if_pos (by omega), if_pos (by omega), if_pos (by omega), hrd]
  cases hf : L[i].f0 <;> simp
def bytesS (bot : ByteArray) (sec : Int) (l : List S45) : ByteArray × Int := if (checkS bot sec l).2 = 0 then (strOfNums (scrL bot sec l), 0) else (⟨#[]⟩, (checkS bot sec l).2)
theorem bytes_ev (bot : ByteArray) (sec : Int) (l : List S45) (hf : fewCuts l) (hb : bot.size ≤ 140737488351232) : EvS (fun k => script_Bytes.f k bot sec l) (bytesS bot sec l) := by
 unfold bytesS
 by_cases h : (checkS bot sec l).2 = 0
 ·obtain ⟨hc, hu, h1, h2, h3, hx⟩ := check_zero h
  have hs := user_size hu
  rw [if_pos h]
  have H := all_ev l hx h3 l.length 0 ([(bot.size : Int) % 256] ++ bytesOf bot ++ twoL sec ++ twoL (l.length : Int)) (by omega) (Nat.zero_le _) (by simp [twoL, bytesOf_length]; omega)
  obtain ⟨K, hK⟩ := H
  refine ⟨max K 302, fun k hk => ?_⟩
  show script_Bytes.f k bot sec l = _
  unfold script_Bytes.f
  rw [check_val k bot sec l hf hb (by omega), hc]
  simp only [Option.bind_some, if_true]
  rw [if_pos (by simp; omega), two_val _ _ (by simp [bytesOf_length]; omega)]
  simp only [Option.bind_some]
  rw [two_val _ _ (by simp [bytesOf_length, twoL]; omega)]
  simp only [Option.bind_some]
  have := hK k (by omega)
  simp only [List.drop_zero] at this
  refine this.trans ?_
  unfold scrL
  simp
 ·rw [if_neg h]
  refine ⟨302, fun k hk => ?_⟩
  show script_Bytes.f k bot sec l = _
  unfold script_Bytes.f
  rw [check_val k bot sec l hf hb hk]
  simp only [Option.bind_some]
  rw [if_neg h]
end Go.Proofs.YtfgibjkgiolonaaS
set_option linter.unusedVariables false
set_option linter.unusedSimpArgs false
namespace Go.Proofs.YtfgibjkgiolonaaS
open Go.RowKit Go.Proofs.YtfgibjkgiolonaaW.PrintWords Go.Proofs.YtfgibjkgiolonaaX Go.Proofs.Ytfgibjkgiolonaa.PA Go.Proofs.YtfgibjkgiolonaaG Go.Proofs.YtfgibjkgiolonaaQ Go.Proofs.YtfgibjkgiolonaaI
theorem read_back {bot : ByteArray} {sec : Int} {l : List S45} (h : (checkS bot sec l).2 = 0) : readS (strOfNums (scrL bot sec l)) = (bot, sec, l, 0) := by
 unfold readS
 rw [script_app h]
 simp only
 rw [if_pos h]
theorem sameStep_refl (x : S45) : sameStep x x = true := by unfold sameStep sameIn; simp
theorem sameSteps_refl : ∀ l : List S45, sameSteps l l = true
 | [] => rfl
 | x :: l => by simp [sameSteps, sameStep_refl, sameSteps_refl l]
theorem same_refl (b : ByteArray) (s : Int) (l : List S45) : sameS b s l b s l = true := by unfold sameS; simp [sameSteps_refl]
theorem one_ok : (checkS ⟨#[64, 98, 58, 120]⟩ 8 [⟨false, ⟨6, 0, 0, false, ⟨#[]⟩⟩, []⟩]).2 = 0 := by decide +kernel
theorem lives_ev : EvS (fun k => outlawlaw25_lives.f k) true := by
 have hfew : fewCuts [(⟨false, ⟨6, 0, 0, false, ⟨#[]⟩⟩, []⟩ : S45)] := by decide
 obtain ⟨K, hK⟩ := bytes_ev ⟨#[64, 98, 58, 120]⟩ 8 [⟨false, ⟨6, 0, 0, false, ⟨#[]⟩⟩, []⟩] hfew (by decide)
 refine ⟨K, fun k hk => ?_⟩
 have hB := hK k hk
 unfold bytesS at hB
 rw [if_pos one_ok] at hB
 simp only at hB
 show outlawlaw25_lives.f k = some true
 unfold outlawlaw25_lives.f outlawlaw25_one.f
 simp only [Option.bind_some]
 rw [hB]
 simp only [Option.bind_some]
 rw [show script_Read.f (strOfNums (scrL ⟨#[64, 98, 58, 120]⟩ 8 [⟨false, ⟨6, 0, 0, false, ⟨#[]⟩⟩, []⟩])) = some _ from congrArg some (read_back one_ok)]
 simp only [Option.bind_some, if_true]
 rw [if_pos (by rw [ByteArray.toList_eq]; decide +kernel)]
 unfold script_Same.f
 rw [if_pos ⟨hfew, by decide, by decide⟩, same_refl]
 rfl
theorem inputs_ev (bot : ByteArray) (sec : Int) (l : List S45) (hl : l.length ≤ 310) : ∀ (d i : Nat) (x : List S42), l.length - i = d → i ≤ l.length → x.length + d ≤ 1000 → EvS (fun k => outlawlaw25_inputs.l0 k x (i : Int) bot sec l) (x ++ (l.drop i).map (fun y => y.f1)) := by
 intro d
 induction d with
 | zero =>
  intro i x hd hi hx
  obtain rfl : i = l.length := by omega
  refine ⟨1, fun k hk => ?_⟩
  obtain ⟨k, rfl⟩ : ∃ q, k = q + 1 := ⟨k - 1, by omega⟩
  simp only [outlawlaw25_inputs.l0]
  rw [if_neg (by omega), List.drop_length]
  simp
 | succ d ih =>
  intro i x hd hi hx
  have hlt : i < l.length := by omega
  have H := ih (i + 1) (x ++ [l[i].f1]) (by omega) (by omega) (by simp; omega)
  rw [List.append_assoc, show [l[i].f1] ++ (l.drop (i + 1)).map (fun y => y.f1) = (l.drop i).map (fun y => y.f1) by rw [List.drop_eq_getElem_cons hlt]; rfl] at H
  have hrd : rd_T45 l (i : Int) = l[i] := by unfold rd_T45; simp [List.getD_eq_getElem?_getD, List.getElem?_eq_getElem hlt]
  refine H.step fun k => ?_
  rw [outlawlaw25_inputs.l0, if_pos (by omega), if_pos (by omega), if_pos (by omega), hrd, show wrap64 ((i : Int) + 1) = ((i + 1 : Nat) : Int) by unfold wrap64; omega]
theorem lightIn_ev (xs : List S42) (hl : xs.length ≤ 1000) : ∀ (d i : Nat) (n : Int), xs.length - i = d → i ≤ xs.length → ∃ b, EvS (fun k => outlawkit_LightInputs.l0 k xs 310 n (i : Int)) b := by
 intro d
 induction d with
 | zero =>
  intro i n hd hi
  obtain rfl : i = xs.length := by omega
  refine ⟨decide ((xs.length : Int) ≤ 310), 1, fun k hk => ?_⟩
  obtain ⟨k, rfl⟩ : ∃ q, k = q + 1 := ⟨k - 1, by omega⟩
  simp only [outlawkit_LightInputs.l0]
  rw [if_neg (by omega)]
 | succ d ih =>
  intro i n hd hi
  have hlt : i < xs.length := by omega
  by_cases hb : (wrap64 (n + (mn (((rd_T42 xs (i : Int)).f4).size : Int) 30001))) > 30000
  ·refine ⟨false, 1, fun k hk => ?_⟩
   obtain ⟨k, rfl⟩ : ∃ q, k = q + 1 := ⟨k - 1, by omega⟩
   simp only [outlawkit_LightInputs.l0]
   rw [if_pos (by omega), if_pos (by omega), if_pos hb]
  ·obtain ⟨b, H⟩ := ih (i + 1) (wrap64 (n + (mn (((rd_T42 xs (i : Int)).f4).size : Int) 30001))) (by omega) (by omega)
   refine ⟨b, H.step fun k => ?_⟩
   rw [outlawkit_LightInputs.l0, if_pos (by omega), if_pos (by omega), if_neg hb, show wrap64 ((i : Int) + 1) = ((i + 1 : Nat) : Int) by unfold wrap64; omega]
theorem lightL_ev (bot : ByteArray) (sec : Int) (l : List S45) (hl : l.length ≤ 310) : ∀ (d i : Nat), l.length - i = d → i ≤ l.length → ∃ b, EvS (fun k => outlawlaw25_light.l0 k (i : Int) bot sec l) b ∧ (b = true → ∀ x ∈ l.drop i, x.f2.length ≤ 40) := by
 intro d
 induction d with
 | zero =>
  intro i hd hi
  obtain rfl : i = l.length := by omega
  refine ⟨true, ⟨1, fun k hk => ?_⟩, fun _ x hx => by rw [List.drop_length] at hx; cases hx⟩
  obtain ⟨k, rfl⟩ : ∃ q, k = q + 1 := ⟨k - 1, by omega⟩
  simp only [outlawlaw25_light.l0]
  rw [if_neg (by omega)]
 | succ d ih =>
  intro i hd hi
  have hlt : i < l.length := by omega
  have hrd : rd_T45 l (i : Int) = l[i] := by unfold rd_T45; simp [List.getD_eq_getElem?_getD, List.getElem?_eq_getElem hlt]
  by_cases hb : (l[i].f2.length : Int) > 40
  ·refine ⟨false, ⟨1, fun k hk => ?_⟩, fun h => by cases h⟩
   obtain ⟨k, rfl⟩ : ∃ q, k = q + 1 := ⟨k - 1, by omega⟩
   simp only [outlawlaw25_light.l0]
   rw [if_pos (by omega), if_pos (by omega), hrd, if_pos hb]
  ·obtain ⟨b, H, hH⟩ := ih (i + 1) (by omega) (by omega)
   refine ⟨b, H.step fun k => ?_, fun h x hx => ?_⟩
   ·rw [outlawlaw25_light.l0, if_pos (by omega), if_pos (by omega), hrd, if_neg hb, show wrap64 ((i : Int) + 1) = ((i + 1 : Nat) : Int) by unfold wrap64; omega]
   ·rw [List.drop_eq_getElem_cons hlt] at hx
    rcases List.mem_cons.1 hx with rfl | hx
    ·omega
    ·exact hH h x hx
theorem light_ev (bot : ByteArray) (sec : Int) (l : List S45) : ∃ b, EvS (fun k => outlawlaw25_light.f k bot sec l) b ∧ (b = true → l.length ≤ 310 ∧ bot.size ≤ 400 ∧ ∀ x ∈ l, x.f2.length ≤ 40) := by
 have no : ∀ k, outlawlaw25_light.j0 (k + 1) true bot sec l = some false := fun k => by simp only [outlawlaw25_light.j0, if_true]
 have nof : (∀ k, outlawlaw25_light.f k bot sec l = outlawlaw25_light.j0 k true bot sec l) → ∃ b, EvS (fun k => outlawlaw25_light.f k bot sec l) b ∧ (b = true → l.length ≤ 310 ∧ bot.size ≤ 400 ∧ ∀ x ∈ l, x.f2.length ≤ 40) := fun hh =>
  ⟨false, ⟨1, fun k hk => by obtain ⟨k, rfl⟩ : ∃ q, k = q + 1 := ⟨k - 1, by omega⟩; exact (hh _).trans (no k)⟩, fun h => by cases h⟩
 by_cases h1 : (l.length : Int) > 310
 ·exact nof fun k => by unfold outlawlaw25_light.f; rw [if_pos h1]
 by_cases h2 : (bot.size : Int) > 400
 ·exact nof fun k => by unfold outlawlaw25_light.f; rw [if_neg h1, if_pos h2]
 obtain ⟨K1, hK1⟩ := inputs_ev bot sec l (by omega) l.length 0 [] (by omega) (Nat.zero_le _) (by simp; omega)
 simp only [List.nil_append, List.drop_zero] at hK1
 obtain ⟨b2, K2, hK2⟩ := lightIn_ev (l.map (fun y => y.f1)) (by simp; omega) _ 0 0 rfl (Nat.zero_le _)
 have hf : ∀ k, max K1 K2 ≤ k → outlawlaw25_light.f k bot sec l = outlawlaw25_light.j0 k (!b2) bot sec l := fun k hk => by
  unfold outlawlaw25_light.f outlawlaw25_inputs.f outlawkit_LightInputs.f
  rw [if_neg h1, if_neg h2, show outlawlaw25_inputs.l0 k [] 0 bot sec l = _ from hK1 k (by omega)]
  simp only [Option.bind_some]
  rw [show outlawkit_LightInputs.l0 k (l.map (fun y => y.f1)) 310 0 0 = _ from hK2 k (by omega)]
  simp only [Option.bind_some]
 cases b2 with
 | false =>
  refine ⟨false, ⟨max K1 K2 + 1, fun k hk => ?_⟩, fun h => by cases h⟩
  obtain ⟨k, rfl⟩ : ∃ q, k = q + 1 := ⟨k - 1, by omega⟩
  exact (hf _ (by omega)).trans (no k)
 | true =>
  obtain ⟨b, ⟨K3, hK3⟩, hb⟩ := lightL_ev bot sec l (by omega) l.length 0 (by omega) (Nat.zero_le _)
  refine ⟨b, ⟨max (max K1 K2) K3 + 1, fun k hk => ?_⟩, fun h => ⟨by omega, by omega, fun x hx => hb h x (by simpa using hx)⟩⟩
  obtain ⟨k, rfl⟩ : ∃ q, k = q + 1 := ⟨k - 1, by omega⟩
  refine (hf _ (by omega)).trans ?_
  simp only [outlawlaw25_light.j0]
  rw [if_neg (by decide)]
  exact hK3 k (by omega)
end Go.Proofs.YtfgibjkgiolonaaS
