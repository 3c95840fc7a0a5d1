import Derived.Test.YtfgibjkgiolonaaShelf
import Derived.Test.YtfgibjkgiolonaaWm
import Derived.WalkKit
import Derived.Deep.QuietTactic
import Derived.BigQuiet
import Derived.Lib.Hide
import Derived.WalkLawsBesides
import Derived.WalkSpells
import Derived.Lib.CutLaws
import Derived.Lib.IndexLaws
import Derived.Lib.Strings
import Derived.RegionTactic
import Derived.Deep.Draws
import Derived.Laws.Strings3
import Derived.Test.YtfgibjkgiolonaaX2
namespace Go.Proofs.YtfgibjkgiolonaaI
open Go.RowKit Go.Proofs.YtfgibjkgiolonaaW.PrintWords
def digitI (c : Int) : Bool := decide (48 ≤ c) && decide (c ≤ 57)
def smallI (c : Int) : Bool := (decide (97 ≤ c) && decide (c ≤ 122)) || digitI c
def greatI (c : Int) : Bool := (decide (65 ≤ c) && decide (c ≤ 90)) || smallI c
set_option maxHeartbeats 400000 in
theorem digit_any (c : Int) (w : World) : Calls Try.prog 64 #[.int .u8 c] w fun e w' => e = .returned (.bool (digitI c)) ∧ w' = w := by
 go_enter Try.func64, Try.ntmps64
 go_wp2
 all_goals (go_ret; refine ⟨?_, rfl⟩; first | (simp [digitI, *]; done) | (simp [digitI]; omega))
set_option maxHeartbeats 400000 in
theorem small_any (c : Int) (w : World) : Calls Try.prog 44 #[.int .u8 c] w fun e w' => e = .returned (.bool (smallI c)) ∧ w' = w := by
 go_enter Try.func44, Try.ntmps44
 go_wp2_with (go_at_call 64; refine (digit_any _ _).mono ?_; rintro e w' ⟨rfl, rfl⟩)
 all_goals (go_ret; refine ⟨?_, rfl⟩; first | (simp [smallI, *]; done) | (simp [smallI, *]; omega))
set_option maxHeartbeats 400000 in
theorem great_any (c : Int) (w : World) : Calls Try.prog 78 #[.int .u8 c] w fun e w' => e = .returned (.bool (greatI c)) ∧ w' = w := by
 go_enter Try.func78, Try.ntmps78
 go_wp2_with (go_at_call 44; refine (small_any _ _).mono ?_; rintro e w' ⟨rfl, rfl⟩)
 all_goals (go_ret; refine ⟨?_, rfl⟩; first | (simp [greatI, *]; done) | (simp [greatI, *]; omega))
structure Tells (G : Nat) (p : Int → Bool) : Prop where
 enters : ∀ args w, (callFunc G args).run Try.prog w = .ok (.enter G args) w
 calls : ∀ (c : Int) (w : World), Calls Try.prog G #[.int .u8 c] w fun e w' => e = .returned (.bool (p c)) ∧ w' = w
theorem tells_digit : Tells 64 digitI := ⟨enters_of Try.func64 (by kernel_rfl) rfl, digit_any⟩
theorem tells_small : Tells 44 smallI := ⟨enters_of Try.func44 (by kernel_rfl) rfl, small_any⟩
theorem tells_great : Tells 78 greatI := ⟨enters_of Try.func78 (by kernel_rfl) rfl, great_any⟩
def orI (p : Int → Bool) (more : ByteArray) (c : Int) : Bool := p c || decide (0 ≤ Lib.indexByte more.data.toList c.toNat.toUInt8)
set_option maxHeartbeats 400000 in
theorem or1_any (G : Nat) (p : Int → Bool) (hg : Tells G p) (more : ByteArray) (B C : Nat) (c : Int) (w : World)
  (hf : w.cell? ⟨B, 0, none⟩ = some (.func (.func G) #[] #[])) (hm : w.cell? ⟨C, 0, none⟩ = some (.string more)) :
  Calls Try.prog 65 #[.int .u8 c, .pointer (some ⟨B, 0, none⟩), .pointer (some ⟨C, 0, none⟩)] w fun e w' => e = .returned (.bool (orI p more c)) ∧ w' = w := by
 have he := hg.enters
 have hi := Lib.hid hg.calls
 clear hg
 go_enter Try.func65, Try.ntmps65
 go_wp2_with (first | (go_at_call 66; refine (Try.strings_IndexByte _ _ _).mono ?_; rintro e w' ⟨rfl, rfl⟩) | (go_at_fn G; refine (hi.out _ _).mono ?_; rintro e w' ⟨rfl, rfl⟩))
 all_goals (go_ret; refine ⟨?_, rfl⟩; simp [orI, *])
set_option maxHeartbeats 400000 in
theorem or_any (G : Nat) (more : ByteArray) (w : World) :
  Calls Try.prog 45 #[.func (.func G) #[] #[], .string more] w fun e w' => e = .returned (.func (.func 65) #[] #[.pointer (some ⟨w.heap.size, 0, none⟩), .pointer (some ⟨w.heap.size + 1, 0, none⟩)]) ∧ w' = (w.alloc (.cells #[.func (.func G) #[] #[]] 72)).alloc (.cells #[.string more] 9) := by
 have hmf : ∀ (fn : Fn) (first cap : Array Value) (w : World), (Instr.makeFunc fn first cap).run Try.prog w = .ok (.func fn first cap) w := fun _ _ _ _ => rfl
 go_enter Try.func45, Try.ntmps45
 go_wp2
 go_ret
 exact ⟨rfl, rfl⟩
structure TellsAt (G : Nat) (lb : Array Value) (p : Int → Bool) (w : World) : Prop where
 enters : ∀ args w, (callFunc G args).run Try.prog w = .ok (.enter G args) w
 calls : ∀ (c : Int), Calls Try.prog G (#[.int .u8 c] ++ lb) w fun e w' => e = .returned (.bool (p c)) ∧ w' = w
def allI (p : Int → Bool) (s : ByteArray) (most : Int) : Bool := (s.data.toList.all fun b => p b.toNat) && !s.data.toList.isEmpty && decide ((s.size : Int) ≤ most)
theorem allI_no {p : Int → Bool} {s : ByteArray} {most : Int} {k : Nat} (hk : k < s.size) (h : p s[k].toNat = false) : allI p s most = false := by
 unfold allI
 have : (s.data.toList.all fun b => p b.toNat) = false := by
  rw [List.all_eq_false]
  exact ⟨s[k], by rw [Array.mem_toList_iff]; exact Array.getElem_mem hk, by simp [h]⟩
 rw [this]; rfl
theorem allI_end {p : Int → Bool} {s : ByteArray} {most : Int} (h : ∀ j, j < s.size → ∀ h : j < s.size, p s[j].toNat = true) : allI p s most = (!s.data.toList.isEmpty && decide ((s.size : Int) ≤ most)) := by
 unfold allI
 have : (s.data.toList.all fun b => p b.toNat) = true := by
  rw [List.all_eq_true]
  intro b hb
  rw [Array.mem_toList_iff] at hb
  obtain ⟨j, hj, rfl⟩ := Array.mem_iff_getElem.1 hb
  exact h j hj hj
 rw [this, Bool.true_and]
set_option maxHeartbeats 400000 in
theorem all_any (G : Nat) (lb : Array Value) (p : Int → Bool) (s : ByteArray) (most : Int) (w : World) (hs : s.size ≤ 140737488351232) (hg : TellsAt G lb p w) :
  Calls Try.prog 63 #[.func (.func G) #[] lb, .string s, .int .i64 most] w fun e w' => e = .returned (.bool (allI p s most)) ∧ w' = w := by
 have he := hg.enters
 have hi := Lib.hid hg.calls
 clear hg
 go_enter Try.func63, Try.ntmps63
 go_wp2
 go_loop [10] (fun i => ∃ k : Nat, k ≤ s.size ∧ i = .int .i64 k ∧ Hid (∀ j, j < k → ∀ h : j < s.size, p s[j].toNat = true)) (fun i => s.size - (intOf i).toNat)
 case atStart => exact ⟨0, Nat.zero_le _, rfl, fun j h => absurd h (by omega)⟩
 case round =>
  obtain ⟨k, hk, rfl, hA⟩ := hrel
  by_cases hlt : k < s.size
  ·cases hp : p s[k].toNat with
   | true =>
    have HP := Lib.hid hp
    clear hp
    go_wp2_with (go_at_fn G; refine (hi.out _).mono ?_; rintro e w' ⟨rfl, rfl⟩; rw [HP.out])
    go_round
    case rel => exact ⟨k + 1, by omega, by go_num, fun j hj h => if e : j = k then by subst e; exact HP.out else hA.out j (by omega) h⟩
    case measure => simp [intOf]; omega
   | false =>
    have HP := Lib.hid (allI_no (most := most) hlt hp)
    have HQ := Lib.hid hp
    clear hp
    go_wp2_with (go_at_fn G; refine (hi.out _).mono ?_; rintro e w' ⟨rfl, rfl⟩; rw [HQ.out])
    go_ret
    rw [HP.out]
    exact ⟨rfl, rfl⟩
  ·obtain rfl : k = s.size := by omega
   have HE := Lib.hid (allI_end (most := most) hA.out)
   clear hA
   go_wp2
   all_goals
    go_ret
    rw [HE.out, ← ByteArray.toList_eq]
    refine ⟨?_, rfl⟩
    simp [*]
end Go.Proofs.YtfgibjkgiolonaaI
namespace Go.Proofs.YtfgibjkgiolonaaI
open Go.RowKit Go.Proofs.YtfgibjkgiolonaaW.PrintWords
def cutS (s : ByteArray) (c : UInt8) : ByteArray × ByteArray × Bool :=
 if 0 ≤ Lib.indexByte s.data.toList c then (s.extract 0 (Lib.indexByte s.data.toList c).toNat, s.extract ((Lib.indexByte s.data.toList c).toNat + 1) s.size, true) else (s, ⟨#[]⟩, false)
theorem index_cases (s : ByteArray) (c : UInt8) : Lib.indexByte s.data.toList c = -1 ∨ ∃ i : Nat, Lib.indexByte s.data.toList c = i ∧ i < s.size := by
 have h := Lib.indexByte_ge s.data.toList c
 by_cases h0 : 0 ≤ Lib.indexByte s.data.toList c
 ·obtain ⟨i, hi⟩ := Int.eq_ofNat_of_zero_le h0
  refine .inr ⟨i, hi, ?_⟩
  have := (Lib.indexByte_some (l := s.data.toList) (c := c) (o := i) hi).1
  have := (List.getElem?_eq_some_iff.1 this).1
  simpa using this
 ·exact .inl (by omega)
theorem cutS_miss {s : ByteArray} {c : UInt8} (h : Lib.indexByte s.data.toList c = -1) : cutS s c = (s, ⟨#[]⟩, false) := by unfold cutS; rw [h]; rfl
theorem cutS_hit {s : ByteArray} {c : UInt8} {i : Nat} (h : Lib.indexByte s.data.toList c = i) : cutS s c = (s.extract 0 i, s.extract (i + 1) s.size, true) := by unfold cutS; rw [h, if_pos (by omega)]; rfl
set_option maxHeartbeats 2000000 in
set_option maxRecDepth 100000 in
theorem stringslite_Cut (s : ByteArray) (c : UInt8) (w : World) (hs : s.size ≤ 140737488351232) :
  Calls Try.prog 77 #[.string s, .string ⟨#[c]⟩] w fun e w' => e = .returned (.tuple #[.string (cutS s c).1, .string (cutS s c).2.1, .bool (cutS s c).2.2]) ∧ ∃ n, w' = w.drewN n := by
 rcases index_cases s c with hix | ⟨i, hix, hi⟩
 ·rw [cutS_miss hix]
  have HX := Lib.hid hix
  clear hix
  go_enter Try.func77, Try.ntmps77
  go_wp2_with (go_at_call 85; refine (Try.stringslite_Index_one _ _ _).mono ?_; rintro e w' ⟨rfl, rfl⟩; rw [HX.out])
  go_ret3
  exact ⟨rfl, 0, rfl⟩
 ·rw [cutS_hit hix]
  have HX := Lib.hid hix
  clear hix
  have c1 : (0 : Int) ≤ ↑i := by omega
  have c2 : (↑i : Int) ≤ ↑s.size := by omega
  have c3 : (0 : Int) ≤ ↑i + 1 := by omega
  have c4 : (↑i + 1 : Int) ≤ ↑s.size := by omega
  go_enter Try.func77, Try.ntmps77
  go_wp2_with (go_at_call 85; refine (Try.stringslite_Index_one _ _ _).mono ?_; rintro e w' ⟨rfl, rfl⟩; rw [HX.out])
  go_region
  go_wp2
  go_ret3
  exact ⟨rfl, 1, rfl⟩
set_option maxHeartbeats 1000000 in
theorem strings_Cut (s : ByteArray) (c : UInt8) (w : World) (hs : s.size ≤ 140737488351232) :
  Calls Try.prog 60 #[.string s, .string ⟨#[c]⟩] w fun e w' => e = .returned (.tuple #[.string (cutS s c).1, .string (cutS s c).2.1, .bool (cutS s c).2.2]) ∧ ∃ n, w' = w.drewN n := by
 go_enter Try.func60, Try.ntmps60
 go_wp2_with (go_at_call 77; refine (stringslite_Cut _ _ _ hs).mono ?_; rintro e w' ⟨rfl, n, rfl⟩)
 go_ret3
 exact ⟨rfl, n, rfl⟩
theorem tellsAt_or {G : Nat} {p : Int → Bool} (hg : Tells G p) (more : ByteArray) (B C : Nat) (w : World)
  (hf : w.cell? ⟨B, 0, none⟩ = some (.func (.func G) #[] #[])) (hm : w.cell? ⟨C, 0, none⟩ = some (.string more)) : TellsAt 65 #[.pointer (some ⟨B, 0, none⟩), .pointer (some ⟨C, 0, none⟩)] (orI p more) w :=
 ⟨enters_of Try.func65 (by kernel_rfl) rfl, fun c => or1_any G p hg more B C c w hf hm⟩
theorem Tells.at {G : Nat} {p : Int → Bool} (hg : Tells G p) (w : World) : TellsAt G #[] p w := ⟨hg.enters, fun c => hg.calls c w⟩
def hostM : ByteArray := ⟨#[46, 45]⟩
def serverI (s : ByteArray) : Bool :=
 if 128 < s.size then false else
 if (cutS s 58).2.2 = true then allI (orI greatI hostM) (cutS s 58).1 s.size && allI digitI (cutS s 58).2.1 5 else allI (orI greatI hostM) s s.size
theorem cutS_le (s : ByteArray) (c : UInt8) : (cutS s c).1.size ≤ s.size ∧ (cutS s c).2.1.size ≤ s.size := by
 unfold cutS
 split
 ·constructor
  ·simp only [ByteArray.size_extract]; omega
  ·simp only [ByteArray.size_extract]; omega
 ·exact ⟨Nat.le_refl _, Nat.zero_le _⟩
theorem two_cells (w : World) (a b : Value) (s t : TypeId) : ((w.alloc (.cells #[a] s)).alloc (.cells #[b] t)).cell? ⟨w.heap.size, 0, none⟩ = some a ∧ ((w.alloc (.cells #[a] s)).alloc (.cells #[b] t)).cell? ⟨w.heap.size + 1, 0, none⟩ = some b := by
 constructor <;> simp
theorem below_two (w : World) (n : Nat) (o p : Obj) : Below w.heap.size w (((w.drewN n).alloc o).alloc p) :=
 ((Drawn0.below ⟨n, rfl⟩).alloc (Nat.le_refl _) o).alloc (by simp) p
set_option maxHeartbeats 1000000 in
theorem server_any (s : ByteArray) (w : World) (hs : s.size ≤ 140737488351232) :
  Calls Try.prog 61 #[.string s] w fun e w' => e = .returned (.bool (serverI s)) ∧ Below w.heap.size w w' := by
 by_cases h1 : 128 < s.size
 ·have HE := Lib.hid (show serverI s = false from if_pos h1)
  have h1' : (128 : Int) < (s.size : Int) := by omega
  go_enter Try.func61, Try.ntmps61
  go_wp2
  go_ret
  rw [HE.out]
  exact ⟨rfl, Below.refl _ _⟩
 ·have h1' : ¬ (128 : Int) < (s.size : Int) := by omega
  have hl := cutS_le s 58
  generalize hc : cutS s 58 = c at hl
  obtain ⟨host, port, is⟩ := c
  have HC := Lib.hid hc
  clear hc
  have hl1 : host.size ≤ 140737488351232 := Nat.le_trans hl.1 hs
  have hl2 : port.size ≤ 140737488351232 := Nat.le_trans hl.2 hs
  clear hl
  cases is with
  | true =>
   cases ha : allI (orI greatI hostM) host s.size with
   | true =>
    have HA := Lib.hid ha
    have HE := Lib.hid (show serverI s = allI digitI port 5 from by unfold serverI; rw [if_neg h1, HC.out]; show (allI (orI greatI hostM) host s.size && allI digitI port 5) = _; rw [ha]; rfl)
    clear ha
    go_enter Try.func61, Try.ntmps61
    go_wp2_with (go_at_call 60; refine (strings_Cut s 58 _ hs).mono ?_; rintro e w' ⟨rfl, n, rfl⟩; rw [HC.out])
    refine (or_any _ _ _).mono ?_
    rintro e w' ⟨rfl, rfl⟩
    go_wp2_with fail
    refine (all_any _ _ (orI greatI hostM) _ _ _ hl1 (tellsAt_or tells_great _ _ _ _ (two_cells (w.drewN _) _ _ _ _).1 (two_cells (w.drewN _) _ _ _ _).2)).mono ?_
    rintro e w' ⟨rfl, rfl⟩
    rw [HA.out]
    go_wp2_with fail
    refine (all_any _ _ digitI _ _ _ hl2 (tells_digit.at _)).mono ?_
    rintro e w' ⟨rfl, rfl⟩
    rw [← HE.out]
    go_wp2
    go_ret
    exact ⟨rfl, below_two _ _ _ _⟩
   | false =>
    have HA := Lib.hid ha
    have HE := Lib.hid (show serverI s = false from by unfold serverI; rw [if_neg h1, HC.out]; show (allI (orI greatI hostM) host s.size && allI digitI port 5) = _; rw [ha]; rfl)
    clear ha
    go_enter Try.func61, Try.ntmps61
    go_wp2_with (go_at_call 60; refine (strings_Cut s 58 _ hs).mono ?_; rintro e w' ⟨rfl, n, rfl⟩; rw [HC.out])
    refine (or_any _ _ _).mono ?_
    rintro e w' ⟨rfl, rfl⟩
    go_wp2_with fail
    refine (all_any _ _ (orI greatI hostM) _ _ _ hl1 (tellsAt_or tells_great _ _ _ _ (two_cells (w.drewN _) _ _ _ _).1 (two_cells (w.drewN _) _ _ _ _).2)).mono ?_
    rintro e w' ⟨rfl, rfl⟩
    rw [HA.out]
    go_wp2_with fail
    go_ret
    rw [HE.out]
    exact ⟨rfl, below_two _ _ _ _⟩
  | false =>
   have HE := Lib.hid (show serverI s = allI (orI greatI hostM) s s.size from by unfold serverI; rw [if_neg h1, HC.out]; rfl)
   go_enter Try.func61, Try.ntmps61
   go_wp2_with (go_at_call 60; refine (strings_Cut s 58 _ hs).mono ?_; rintro e w' ⟨rfl, n, rfl⟩; rw [HC.out])
   refine (or_any _ _ _).mono ?_
   rintro e w' ⟨rfl, rfl⟩
   go_wp2_with fail
   refine (all_any _ _ (orI greatI hostM) _ _ _ hs (tellsAt_or tells_great _ _ _ _ (two_cells (w.drewN _) _ _ _ _).1 (two_cells (w.drewN _) _ _ _ _).2)).mono ?_
   rintro e w' ⟨rfl, rfl⟩
   rw [← HE.out]
   go_wp2
   go_ret
   exact ⟨rfl, below_two _ _ _ _⟩
end Go.Proofs.YtfgibjkgiolonaaI
set_option linter.unusedVariables false
set_option linter.unusedSimpArgs false
namespace Go.Proofs.YtfgibjkgiolonaaI
open Go.RowKit Go.Proofs.YtfgibjkgiolonaaW.PrintWords Go.Proofs.YtfgibjkgiolonaaX
def restS (s sign : ByteArray) : ByteArray := ⟨(Lib.trimPrefix s.data.toList sign.data.toList).toArray⟩
def signed (s sign : ByteArray) : Bool := Lib.hasPrefix s.data.toList sign.data.toList
theorem restS_le (s sign : ByteArray) : (restS s sign).size ≤ s.size := by
 have := Lib.trimPrefix_le s.data.toList sign.data.toList
 show (Lib.trimPrefix s.data.toList sign.data.toList).toArray.size ≤ s.data.size
 simpa using this
def namedI (s sign : ByteArray) (p : Int → Bool) : Bool :=
 if (cutS s 58).2.2 = false then false else if 255 < s.size then false else if serverI (cutS s 58).2.1 = false then false
 else if signed (cutS s 58).1 sign = false then false else allI p (restS (cutS s 58).1 sign) s.size
theorem below_drewN {B : Nat} {w w' : World} (h : Below B w w') (n : Nat) : Below B w (w'.drewN n) := ⟨h.os, h.tape, h.output, h.size, h.block⟩
set_option maxHeartbeats 1000000 in
theorem named_any (G : Nat) (lb : Array Value) (p : Int → Bool) (s sign : ByteArray) (w : World) (hs : s.size ≤ 140737488351232) (hf : ∀ W, Below w.heap.size w W → TellsAt G lb p W) :
  Calls Try.prog 43 #[.string s, .string sign, .func (.func G) #[] lb] w fun e w' => e = .returned (.bool (namedI s sign p)) ∧ Below w.heap.size w w' := by
 have hl := cutS_le s 58
 have HF := Lib.hid hf
 clear hf
 generalize hc : cutS s 58 = c at hl
 obtain ⟨name, server, is⟩ := c
 have HC := Lib.hid hc
 clear hc
 have hl1 : name.size ≤ 140737488351232 := Nat.le_trans hl.1 hs
 have hl2 : server.size ≤ 140737488351232 := Nat.le_trans hl.2 hs
 clear hl
 have hl3 : (restS name sign).size ≤ 140737488351232 := Nat.le_trans (restS_le _ _) hl1
 cases is with
 | false =>
  have HE := Lib.hid (show namedI s sign p = false from by unfold namedI; rw [HC.out]; rfl)
  go_enter Try.func43, Try.ntmps43
  go_wp2_with (go_at_call 60; refine (strings_Cut s 58 _ hs).mono ?_; rintro e w' ⟨rfl, n, rfl⟩; rw [HC.out])
  go_ret
  rw [HE.out]
  exact ⟨rfl, below_drewN (Below.refl _ _) _⟩
 | true =>
  by_cases h1 : 255 < s.size
  ·have HE := Lib.hid (show namedI s sign p = false from by unfold namedI; rw [HC.out, if_neg (by simp), if_pos h1])
   have h1' : (255 : Int) < (s.size : Int) := by omega
   go_enter Try.func43, Try.ntmps43
   go_wp2_with (go_at_call 60; refine (strings_Cut s 58 _ hs).mono ?_; rintro e w' ⟨rfl, n, rfl⟩; rw [HC.out])
   go_ret
   rw [HE.out]
   exact ⟨rfl, below_drewN (Below.refl _ _) _⟩
  ·have h1' : ¬ (255 : Int) < (s.size : Int) := by omega
   cases hv : serverI server with
   | false =>
    have HV := Lib.hid hv
    have HE := Lib.hid (show namedI s sign p = false from by unfold namedI; rw [HC.out, if_neg (by simp), if_neg h1, if_pos hv])
    clear hv
    go_enter Try.func43, Try.ntmps43
    go_wp2_with (go_at_call 60; refine (strings_Cut s 58 _ hs).mono ?_; rintro e w' ⟨rfl, n, rfl⟩; rw [HC.out])
    refine (server_any _ _ hl2).mono ?_
    rintro e w' ⟨rfl, hb⟩
    rw [HV.out]
    go_wp2_with fail
    go_ret
    rw [HE.out]
    exact ⟨rfl, (below_drewN (Below.refl _ w) _).trans hb⟩
   | true =>
    have HV := Lib.hid hv
    cases hg : signed name sign with
    | false =>
     have HG := Lib.hid hg
     have HE := Lib.hid (show namedI s sign p = false from by unfold namedI; rw [HC.out, if_neg (by simp), if_neg h1, if_neg (by rw [hv]; decide), if_pos hg])
     clear hv hg
     go_enter Try.func43, Try.ntmps43
     go_wp2_with (go_at_call 60; refine (strings_Cut s 58 _ hs).mono ?_; rintro e w' ⟨rfl, n, rfl⟩; rw [HC.out])
     refine (server_any _ _ hl2).mono ?_
     rintro e w' ⟨rfl, hb⟩
     rw [HV.out]
     go_wp2_with fail
     refine (Try.strings_CutPrefix _ _ _).mono ?_
     rintro e w' ⟨rfl, rfl⟩
     rw [show Lib.hasPrefix name.data.toList sign.data.toList = false from HG.out]
     go_wp2_with fail
     go_ret
     rw [HE.out]
     exact ⟨rfl, (below_drewN (Below.refl _ w) _).trans hb⟩
    | true =>
     have HG := Lib.hid hg
     have HE := Lib.hid (show namedI s sign p = allI p (restS name sign) s.size from by unfold namedI; rw [HC.out, if_neg (by simp), if_neg h1, if_neg (by rw [hv]; decide), if_neg (by rw [hg]; decide)])
     clear hv hg
     go_enter Try.func43, Try.ntmps43
     go_wp2_with (go_at_call 60; refine (strings_Cut s 58 _ hs).mono ?_; rintro e w' ⟨rfl, n, rfl⟩; rw [HC.out])
     refine (server_any _ _ hl2).mono ?_
     rintro e w' ⟨rfl, hb⟩
     rw [HV.out]
     go_wp2_with fail
     refine (Try.strings_CutPrefix _ _ _).mono ?_
     rintro e w' ⟨rfl, rfl⟩
     rw [show Lib.hasPrefix name.data.toList sign.data.toList = true from HG.out]
     rw [show (⟨(Lib.trimPrefix name.data.toList sign.data.toList).toArray⟩ : ByteArray) = restS name sign from rfl]
     go_wp2_with fail
     refine (all_any _ _ p _ _ _ hl3 (HF.out _ ((below_drewN (Below.refl _ w) _).trans hb))).mono ?_
     rintro e w' ⟨rfl, rfl⟩
     rw [← HE.out]
     go_wp2_with fail
     go_ret
     exact ⟨rfl, (below_drewN (Below.refl _ w) _).trans hb⟩
def userM : ByteArray := ⟨#[46, 95, 61, 45, 47, 43]⟩
def roomM : ByteArray := ⟨#[46, 95, 45]⟩
def eventM : ByteArray := ⟨#[95, 45, 46, 126, 47]⟩
def userI (s : ByteArray) : Bool := namedI s ⟨#[64]⟩ (orI smallI userM)
def roomI (s : ByteArray) : Bool := namedI s ⟨#[33]⟩ (orI greatI roomM)
def eventI (s : ByteArray) : Bool := if signed s ⟨#[36]⟩ = false then false else allI (orI greatI eventM) (restS s ⟨#[36]⟩) 64
theorem tellsAt_later {G : Nat} {p : Int → Bool} (hg : Tells G p) (more : ByteArray) (w : World) (s t : TypeId) :
  ∀ W, Below ((w.alloc (.cells #[.func (.func G) #[] #[]] s)).alloc (.cells #[.string more] t)).heap.size ((w.alloc (.cells #[.func (.func G) #[] #[]] s)).alloc (.cells #[.string more] t)) W →
   TellsAt 65 #[.pointer (some ⟨w.heap.size, 0, none⟩), .pointer (some ⟨w.heap.size + 1, 0, none⟩)] (orI p more) W := fun W hb =>
 tellsAt_or hg more _ _ W ((hb.cell (p := ⟨w.heap.size, 0, none⟩) (by simp; omega)).trans (two_cells w _ _ _ _).1) ((hb.cell (p := ⟨w.heap.size + 1, 0, none⟩) (by simp)).trans (two_cells w _ _ _ _).2)
theorem below_allocs (w : World) (o p : Obj) {w' : World} (h : Below ((w.alloc o).alloc p).heap.size ((w.alloc o).alloc p) w') : Below w.heap.size w w' :=
 (((Below.refl _ _).alloc (Nat.le_refl _) o).alloc (by simp) p).trans (h.mono (by simp; omega))
set_option maxHeartbeats 400000 in
theorem user_any (s : ByteArray) (w : World) (hs : s.size ≤ 140737488351232) :
  Calls Try.prog 25 #[.string s] w fun e w' => e = .returned (.bool (userI s)) ∧ Below w.heap.size w w' := by
 go_enter Try.func25, Try.ntmps25
 go_wp2_with fail
 refine (or_any _ _ _).mono ?_
 rintro e w' ⟨rfl, rfl⟩
 go_wp2_with fail
 refine (named_any _ _ (orI smallI userM) _ _ _ hs (tellsAt_later tells_small userM w _ _)).mono ?_
 rintro e w' ⟨rfl, hb⟩
 go_wp2_with fail
 go_ret
 exact ⟨rfl, below_allocs _ _ _ hb⟩
end Go.Proofs.YtfgibjkgiolonaaI
set_option linter.unusedVariables false
namespace Go.Proofs.YtfgibjkgiolonaaI
open Go.RowKit
def small47 (a : ByteArray) : Prop := a.size ≤ 140737488351232
instance (a : ByteArray) : Decidable (small47 a) := inferInstanceAs (Decidable (a.size ≤ _))
theorem of_small {α : Type} {a : ByteArray} {x r : α} (h : (if small47 a then some x else none) = some r) : a.size ≤ 140737488351232 ∧ x = r := by
 by_cases hs : small47 a
 ·rw [if_pos hs] at h
  exact ⟨hs, Option.some.inj h⟩
 ·rw [if_neg hs] at h
  exact absurd h (by simp)
def ident_User.f (a0 : ByteArray) : Option Bool := if small47 a0 then some (userI a0) else none
theorem ident_User.calls (a0 : ByteArray) (r : Bool) (w : World) (h : ident_User.f a0 = some r) :
  Calls Try.prog 25 #[.string a0] w fun e w' => e = .returned (.bool r) ∧ Below w.heap.size w w' := by
 obtain ⟨hs, rfl⟩ := of_small h
 exact user_any a0 w hs
end Go.Proofs.YtfgibjkgiolonaaI
