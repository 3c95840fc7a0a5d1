-- Written by a program of this session (gprint.py, a turned print with given contracts).
import Derived.Test.YtlmhgnkkdjpkcaaDoorWm
import Derived.Test.YtlmhgnkkdjpkcaaDoorPAx0m
import Derived.Test.YtlmhgnkkdjpkcaaDoorPAx10
namespace Go.Proofs.YtlmhgnkkdjpkcaaDoor.PA
open Go.RowKit Go.Proofs.YtlmhgnkkdjpkcaaDoorW.PrintWords Go.Proofs.YtlmhgnkkdjpkcaaDoorW.PrintLast Go.Proofs.YtlmhgnkkdjpkcaaDoorW.PrintMore
attribute [local go_sem] max2_int min2_int max_two min_two max_three min_three max_four min_four   -- for this text's walks alone
set_option linter.unusedVariables false
set_option linter.unusedSimpArgs false

attribute [local go_sem high] eqA30
theorem szPAx18.one_ (x : UInt8) : (⟨#[x]⟩ : ByteArray).size = 1 := rfl
theorem szPAx18.two_ (x y : UInt8) : (⟨#[x, y]⟩ : ByteArray).size = 2 := rfl
theorem szPAx18.three_ (x y z : UInt8) : (⟨#[x, y, z]⟩ : ByteArray).size = 3 := rfl
/-! ### api_Note: function 22 -/
def api_Note.l0 : Nat → List (S30) → List (S30) → Int → Option (Bool)
 | 0, _, _, _ => none
 | k + 1, x0, x1, x5 => if x5 < (x0.length : Int) then (if 0 ≤ x5 then (if x5 < (x1.length : Int) then (if (!(((rd_T30 x0 x5).f0) == ((rd_T30 x1 x5).f0)) || (!(((rd_T30 x0 x5).f1) == ((rd_T30 x1 x5).f1)) || ((!(((rd_T30 x0 x5).f2.f0) == ((rd_T30 x1 x5).f2.f0)) || (!((((rd_T30 x0 x5).f2.f1).toList) == (((rd_T30 x1 x5).f2.f1).toList)) || (!((((rd_T30 x0 x5).f2.f2).toList) == (((rd_T30 x1 x5).f2.f2).toList)) || (!((((rd_T30 x0 x5).f2.f3).toList) == (((rd_T30 x1 x5).f2.f3).toList)) || (!((((rd_T30 x0 x5).f2.f4).toList) == (((rd_T30 x1 x5).f2.f4).toList))))))) || (!(((rd_T30 x0 x5).f3) == ((rd_T30 x1 x5).f3)) || (!((((rd_T30 x0 x5).f4).toList) == (((rd_T30 x1 x5).f4).toList))))))) = true then (some false) else (api_Note.l0 k x0 x1 (wrap64 (x5 + 1)))) else (none)) else (none)) else (some true)
def api_Note.f (k : Nat) (l0 : List (S30)) (l1 : List (S30)) : Option (Bool) := if (l0.length : Int) = (l1.length : Int) then (api_Note.l0 k l0 l1 0) else (some false)
theorem api_Note.mono_l : ∀ k, (∀ y0 y1 y2, LeO (api_Note.l0 k y0 y1 y2) (api_Note.l0 (k + 1) y0 y1 y2))
 | 0 => fun _ _ _ r h => by simp [api_Note.l0] at h
 | k + 1 => by
  have ih0 := api_Note.mono_l k
  ·intro y0 y1 y2
   unfold api_Note.l0
   repeat' first
   | (with_reducible exact ih0 _ _ _)
   | (with_reducible exact LeO.refl _)
   | (with_reducible exact LeO.none _)
   | (with_reducible refine LeO.ite ?_ ?_)
   | (with_reducible refine LeO.bind ?_ (fun _ => ?_))
   | refine LeO.ite ?_ ?_
   | refine LeO.bind ?_ (fun _ => ?_)
theorem api_Note.mono : ∀ a0 a1 k, LeO (api_Note.f k a0 a1) (api_Note.f (k + 1) a0 a1) := by
 intro a0 a1 k
 have ih0 := api_Note.mono_l k
 unfold api_Note.f
 repeat' first
   | (with_reducible exact ih0 _ _ _)
   | (with_reducible exact LeO.refl _)
   | (with_reducible exact LeO.none _)
   | (with_reducible refine LeO.ite ?_ ?_)
   | (with_reducible refine LeO.bind ?_ (fun _ => ?_))
   | refine LeO.ite ?_ ?_
   | refine LeO.bind ?_ (fun _ => ?_)
set_option maxHeartbeats 8000000 in
set_option maxRecDepth 100000 in
theorem api_Note.calls (k : Nat) (A0 : Option Addr) (c0 : Nat) (l0 : List (S30)) (A1 : Option Addr) (c1 : Nat) (l1 : List (S30)) (r : Bool) (w : World) (hr0 : Kd.C k30 w A0 l0.length l0) (hc0 : l0.length ≤ c0) (hr1 : Kd.C k30 w A1 l1.length l1) (hc1 : l1.length ≤ c1) (h : api_Note.f k l0 l1 = some r) :
  Calls Tryd.prog 22 #[.slice A0 l0.length c0, .slice A1 l1.length c1] w fun e w' => e = .returned (.bool r) ∧ Drawn0 w w' := by
 have hu30 := Tryd.underlying30
 have HR0 := Aside0.mk hr0
 have HC0 := Aside0.mk hc0
 clear hr0 hc0
 have HR1 := Aside0.mk hr1
 have HC1 := Aside0.mk hc1
 clear hr1 hc1
 have H : (if (l0.length : Int) = (l1.length : Int) then (api_Note.l0 k l0 l1 0) else (some false)) = some r := h
 clear h
 by_cases c3 : (l0.length : Int) = (l1.length : Int)
 ·rw [if_pos c3] at H
  have c3b0 : ((l0.length : Int) == (l1.length : Int)) = true := beq_iff_eq.mpr c3
  have c3b1 : ((l0.length : Int) != (l1.length : Int)) = false := bne_eq_false_iff_eq.mpr c3
  have c3b2 : (l0.length == l1.length) = true := by first | simpa using c3 | (simp at c3 ⊢; omega)
  clear c3
  have H' := Aside0.mk H
  clear H
  go_enter Tryd.func22, Tryd.ntmps22
  go_wp2
  repeat (go_quiet (fail); try go_wp2)
  go_loopg [5] k (fun kq v5 w' => ∃ (x5_1 : Int), v5 = .int .i64 x5_1 ∧ Aside0 (api_Note.l0 kq l0 l1 x5_1 = some r) ∧ Aside0 (kq ≤ k) ∧ Drawn0 w w')
  case atStart => exact ⟨(0), (by first | rfl | (simp; done) | (simp [*]; done)), H', ⟨Nat.le_refl _⟩, by repeat (first | exact Drawn0.refl _ | apply Drawn0.step)⟩
  case round =>
   clear H'
   try clear c1
   try clear c2
   try clear p2
   try clear c3
   try clear c3b0
   try clear c3b1
   try clear c3b2
   obtain ⟨x5_1, rfl, HA, HK1, ⟨m1, rfl⟩⟩ := hrel
   cases gk with
   | zero => exact absurd HA.out (by simp [api_Note.l0])
   | succ k1 =>
    have H := HA.out
    clear HA
    simp only [api_Note.l0] at H
    by_cases c4 : x5_1 < (l0.length : Int)
    ·rw [if_pos c4] at H
     have c4b0 : decide (x5_1 < (l0.length : Int)) = true := decide_eq_true c4
     clear c4
     by_cases c5 : 0 ≤ x5_1
     ·rw [if_pos c5] at H
      have c5b0 : decide (0 ≤ x5_1) = true := decide_eq_true c5
      clear c5
      by_cases c6 : x5_1 < (l1.length : Int)
      ·rw [if_pos c6] at H
       have c6b0 : decide (x5_1 < (l1.length : Int)) = true := decide_eq_true c6
       clear c6
       by_cases c7 : (!(((rd_T30 l0 x5_1).f0) == ((rd_T30 l1 x5_1).f0)) || (!(((rd_T30 l0 x5_1).f1) == ((rd_T30 l1 x5_1).f1)) || ((!(((rd_T30 l0 x5_1).f2.f0) == ((rd_T30 l1 x5_1).f2.f0)) || (!((((rd_T30 l0 x5_1).f2.f1).toList) == (((rd_T30 l1 x5_1).f2.f1).toList)) || (!((((rd_T30 l0 x5_1).f2.f2).toList) == (((rd_T30 l1 x5_1).f2.f2).toList)) || (!((((rd_T30 l0 x5_1).f2.f3).toList) == (((rd_T30 l1 x5_1).f2.f3).toList)) || (!((((rd_T30 l0 x5_1).f2.f4).toList) == (((rd_T30 l1 x5_1).f2.f4).toList))))))) || (!(((rd_T30 l0 x5_1).f3) == ((rd_T30 l1 x5_1).f3)) || (!((((rd_T30 l0 x5_1).f4).toList) == (((rd_T30 l1 x5_1).f4).toList))))))) = true
       ·rw [if_pos c7] at H
        have c7b0 : (!(((rd_T30 l0 x5_1).f0) == ((rd_T30 l1 x5_1).f0)) || (!(((rd_T30 l0 x5_1).f1) == ((rd_T30 l1 x5_1).f1)) || ((!(((rd_T30 l0 x5_1).f2.f0) == ((rd_T30 l1 x5_1).f2.f0)) || (!((((rd_T30 l0 x5_1).f2.f1).toList) == (((rd_T30 l1 x5_1).f2.f1).toList)) || (!((((rd_T30 l0 x5_1).f2.f2).toList) == (((rd_T30 l1 x5_1).f2.f2).toList)) || (!((((rd_T30 l0 x5_1).f2.f3).toList) == (((rd_T30 l1 x5_1).f2.f3).toList)) || (!((((rd_T30 l0 x5_1).f2.f4).toList) == (((rd_T30 l1 x5_1).f2.f4).toList))))))) || (!(((rd_T30 l0 x5_1).f3) == ((rd_T30 l1 x5_1).f3)) || (!((((rd_T30 l0 x5_1).f4).toList) == (((rd_T30 l1 x5_1).f4).toList))))))) = true := c7
        clear c7
        obtain rfl := Option.some.inj H
        have p250 : 0 ≤ (x5_1 : Int) := of_decide_eq_true (by first | (with_reducible assumption) | assumption)
        have q250 : x5_1 < (l0.length : Int) := of_decide_eq_true (by first | (with_reducible assumption) | assumption)
        obtain ⟨ad250, e250, hx250_0, hx250_1, hx250_2, hx250_3, hx250_4, hx250_5, hx250_6, hx250_7, hx250_8⟩ := at_T30 HR0.out x5_1 p250 q250
        cases e250
        replace p250 := eq_true p250
        replace q250 := eq_true q250
        have p251 : 0 ≤ (x5_1 : Int) := of_decide_eq_true (by first | (with_reducible assumption) | assumption)
        have q251 : x5_1 < (l1.length : Int) := of_decide_eq_true (by first | (with_reducible assumption) | assumption)
        obtain ⟨ad251, e251, hx251_0, hx251_1, hx251_2, hx251_3, hx251_4, hx251_5, hx251_6, hx251_7, hx251_8⟩ := at_T30 HR1.out x5_1 p251 q251
        cases e251
        replace p251 := eq_true p251
        replace q251 := eq_true q251
        go_wp2
        repeat (go_quiet (fail); try go_wp2)
        go_ret
        exact ⟨by first | rfl | (simp; done) | (simp [*]; done), by repeat (first | exact Drawn0.refl _ | apply Drawn0.step)⟩
       ·rw [if_neg c7] at H
        have c7b0 : (!(((rd_T30 l0 x5_1).f0) == ((rd_T30 l1 x5_1).f0)) || (!(((rd_T30 l0 x5_1).f1) == ((rd_T30 l1 x5_1).f1)) || ((!(((rd_T30 l0 x5_1).f2.f0) == ((rd_T30 l1 x5_1).f2.f0)) || (!((((rd_T30 l0 x5_1).f2.f1).toList) == (((rd_T30 l1 x5_1).f2.f1).toList)) || (!((((rd_T30 l0 x5_1).f2.f2).toList) == (((rd_T30 l1 x5_1).f2.f2).toList)) || (!((((rd_T30 l0 x5_1).f2.f3).toList) == (((rd_T30 l1 x5_1).f2.f3).toList)) || (!((((rd_T30 l0 x5_1).f2.f4).toList) == (((rd_T30 l1 x5_1).f2.f4).toList))))))) || (!(((rd_T30 l0 x5_1).f3) == ((rd_T30 l1 x5_1).f3)) || (!((((rd_T30 l0 x5_1).f4).toList) == (((rd_T30 l1 x5_1).f4).toList))))))) = false := by simpa using c7
        clear c7
        have H' := Aside0.mk H
        clear H
        have p250 : 0 ≤ (x5_1 : Int) := of_decide_eq_true (by first | (with_reducible assumption) | assumption)
        have q250 : x5_1 < (l0.length : Int) := of_decide_eq_true (by first | (with_reducible assumption) | assumption)
        obtain ⟨ad250, e250, hx250_0, hx250_1, hx250_2, hx250_3, hx250_4, hx250_5, hx250_6, hx250_7, hx250_8⟩ := at_T30 HR0.out x5_1 p250 q250
        cases e250
        replace p250 := eq_true p250
        replace q250 := eq_true q250
        have p251 : 0 ≤ (x5_1 : Int) := of_decide_eq_true (by first | (with_reducible assumption) | assumption)
        have q251 : x5_1 < (l1.length : Int) := of_decide_eq_true (by first | (with_reducible assumption) | assumption)
        obtain ⟨ad251, e251, hx251_0, hx251_1, hx251_2, hx251_3, hx251_4, hx251_5, hx251_6, hx251_7, hx251_8⟩ := at_T30 HR1.out x5_1 p251 q251
        cases e251
        replace p251 := eq_true p251
        replace q251 := eq_true q251
        go_wp2
        repeat (go_quiet (fail); try go_wp2)
        go_roundg k1
        case measure => have := HK1.out; omega
        case rel => exact ⟨(wrap64 (x5_1 + 1)), (by first | rfl | (simp; done) | (simp [*]; done)), H', ⟨by have := HK1.out; omega⟩, by repeat (first | exact Drawn0.refl _ | apply Drawn0.step)⟩
      ·rw [if_neg c6] at H
       exact absurd H (by simp)
     ·rw [if_neg c5] at H
      exact absurd H (by simp)
    ·rw [if_neg c4] at H
     have c4b0 : decide (x5_1 < (l0.length : Int)) = false := decide_eq_false c4
     clear c4
     obtain rfl := Option.some.inj H
     go_wp2
     repeat (go_quiet (fail); try go_wp2)
     go_ret
     exact ⟨by first | rfl | (simp; done) | (simp [*]; done), by repeat (first | exact Drawn0.refl _ | apply Drawn0.step)⟩
 ·rw [if_neg c3] at H
  have c3b0 : ((l0.length : Int) == (l1.length : Int)) = false := beq_eq_false_iff_ne.mpr c3
  have c3b1 : ((l0.length : Int) != (l1.length : Int)) = true := bne_iff_ne.mpr c3
  have c3b2 : (l0.length == l1.length) = false := by first | simpa using c3 | (simp at c3 ⊢; omega)
  obtain rfl := Option.some.inj H
  go_enter Tryd.func22, Tryd.ntmps22
  go_wp2
  repeat (go_quiet (fail); try go_wp2)
  go_ret
  exact ⟨by first | rfl | (simp; done) | (simp [*]; done), by repeat (first | exact Drawn0.refl _ | apply Drawn0.step)⟩

/-! ### outlawref23_Text: function 27 -/
def outlawref23_Text.l0 : Nat → List (S30) → ByteArray → Int → Option (ByteArray)
 | 0, _, _, _ => none
 | k + 1, x0, x3, x4 => if x4 < (x0.length : Int) then (if 0 ≤ x4 then ((outlawref23_Line.f k ((rd_T30 x0 x4).f0) ((rd_T30 x0 x4).f1) ((rd_T30 x0 x4).f2.f0) ((rd_T30 x0 x4).f2.f1) ((rd_T30 x0 x4).f2.f2) ((rd_T30 x0 x4).f2.f3) ((rd_T30 x0 x4).f2.f4) ((rd_T30 x0 x4).f3) ((rd_T30 x0 x4).f4)).bind fun t253 => (if x3.size + t253.size ≤ 9223372036854775807 then (if (x3 ++ t253).size + 1 ≤ 9223372036854775807 then (outlawref23_Text.l0 k x0 ((x3 ++ t253) ++ (⟨#[10]⟩ : ByteArray)) (wrap64 (x4 + 1))) else (none)) else (none))) else (none)) else (some x3)
def outlawref23_Text.f (k : Nat) (l0 : List (S30)) : Option (ByteArray) := outlawref23_Text.l0 k l0 (⟨#[]⟩ : ByteArray) 0
theorem outlawref23_Text.mono_l : ∀ k, (∀ y0 y1 y2, LeO (outlawref23_Text.l0 k y0 y1 y2) (outlawref23_Text.l0 (k + 1) y0 y1 y2))
 | 0 => fun _ _ _ r h => by simp [outlawref23_Text.l0] at h
 | k + 1 => by
  have ih0 := outlawref23_Text.mono_l k
  ·intro y0 y1 y2
   unfold outlawref23_Text.l0
   repeat' first
   | (with_reducible exact ih0 _ _ _)
   | (with_reducible exact outlawref23_Line.mono _ _ _ _ _ _ _ _ _ _)
   | (with_reducible exact LeO.refl _)
   | (with_reducible exact LeO.none _)
   | (with_reducible refine LeO.ite ?_ ?_)
   | (with_reducible refine LeO.bind ?_ (fun _ => ?_))
   | refine LeO.ite ?_ ?_
   | refine LeO.bind ?_ (fun _ => ?_)
theorem outlawref23_Text.mono : ∀ a0 k, LeO (outlawref23_Text.f k a0) (outlawref23_Text.f (k + 1) a0) := by
 intro a0 k
 have ih0 := outlawref23_Text.mono_l k
 unfold outlawref23_Text.f
 repeat' first
   | (with_reducible exact ih0 _ _ _)
   | (with_reducible exact outlawref23_Line.mono _ _ _ _ _ _ _ _ _ _)
   | (with_reducible exact LeO.refl _)
   | (with_reducible exact LeO.none _)
   | (with_reducible refine LeO.ite ?_ ?_)
   | (with_reducible refine LeO.bind ?_ (fun _ => ?_))
   | refine LeO.ite ?_ ?_
   | refine LeO.bind ?_ (fun _ => ?_)
set_option maxHeartbeats 8000000 in
set_option maxRecDepth 100000 in
theorem outlawref23_Text.calls (k : Nat) (A0 : Option Addr) (c0 : Nat) (l0 : List (S30)) (r : ByteArray) (w : World) (hr0 : Kd.C k30 w A0 l0.length l0) (hc0 : l0.length ≤ c0) (h : outlawref23_Text.f k l0 = some r) :
  Calls Tryd.prog 27 #[.slice A0 l0.length c0] w fun e w' => e = .returned (.string r) ∧ Below w.heap.size w w' := by
 have hu30 := Tryd.underlying30
 have HR0 := Aside0.mk hr0
 have HC0 := Aside0.mk hc0
 clear hr0 hc0
 have HB := Aside0.mk (Below.refl w.heap.size w)
 have H : (outlawref23_Text.l0 k l0 (⟨#[]⟩ : ByteArray) 0) = some r := h
 clear h
 have H' := Aside0.mk H
 clear H
 go_enter Tryd.func27, Tryd.ntmps27
 go_wp2
 go_loopg [3, 4] k (fun kq v3 v4 w' => ∃ (x3_1 : ByteArray) (x4_1 : Int), v3 = .string x3_1 ∧ v4 = .int .i64 x4_1 ∧ Aside0 (outlawref23_Text.l0 kq l0 x3_1 x4_1 = some r) ∧ Aside0 (kq ≤ k) ∧ Aside0 (Below w.heap.size w w'))
 case atStart => exact ⟨((⟨#[]⟩ : ByteArray)), (0), (by first | rfl | (simp; done) | (simp [*]; done)), (by first | rfl | (simp; done) | (simp [*]; done)), H', ⟨Nat.le_refl _⟩, ⟨by repeat (first | (with_reducible first | exact HB.out | apply a1_ | apply a2_ | apply a3_) | exact HB.out)⟩⟩
 case round =>
  clear H'
  obtain ⟨x3_1, x4_1, rfl, rfl, HA, HK1, HB⟩ := hrel
  cases gk with
  | zero => exact absurd HA.out (by simp [outlawref23_Text.l0])
  | succ k1 =>
   have H := HA.out
   clear HA
   simp only [outlawref23_Text.l0] at H
   by_cases c2 : x4_1 < (l0.length : Int)
   ·rw [if_pos c2] at H
    have c2b0 : decide (x4_1 < (l0.length : Int)) = true := decide_eq_true c2
    clear c2
    by_cases c3 : 0 ≤ x4_1
    ·rw [if_pos c3] at H
     have c3b0 : decide (0 ≤ x4_1) = true := decide_eq_true c3
     clear c3
     replace H := Option.bind_eq_some_iff.mp H
     obtain ⟨t253, A40, H⟩ := H
     have A4 := Aside0.mk A40
     clear A40
     by_cases c5 : x3_1.size + t253.size ≤ 9223372036854775807
     ·rw [if_pos c5] at H
      have c5b0 := eq_true c5
      have c5b1 : decide (x3_1.size + t253.size ≤ 9223372036854775807) = true := decide_eq_true c5
      try have c5b2 : (9223372036854775807 < x3_1.size + t253.size) = False := eq_false (Nat.not_lt.2 c5)
      (try (have c5b2n := c5b2; simp only [ByteArray.size_append, szPAx18.one_, szPAx18.two_, szPAx18.three_] at c5b2n))
      by_cases c6 : (x3_1 ++ t253).size + 1 ≤ 9223372036854775807
      ·rw [if_pos c6] at H
       have c6b0 := eq_true c6
       have c6b1 : decide ((x3_1 ++ t253).size + 1 ≤ 9223372036854775807) = true := decide_eq_true c6
       try have c6b2 : (9223372036854775807 < (x3_1 ++ t253).size + 1) = False := eq_false (Nat.not_lt.2 c6)
       (try (have c6b2n := c6b2; simp only [ByteArray.size_append, szPAx18.one_, szPAx18.two_, szPAx18.three_] at c6b2n))
       have H' := Aside0.mk H
       clear H
       have p252 : 0 ≤ (x4_1 : Int) := of_decide_eq_true (by first | (with_reducible assumption) | assumption)
       have q252 : x4_1 < (l0.length : Int) := of_decide_eq_true (by first | (with_reducible assumption) | assumption)
       obtain ⟨ad252, e252, hx252_0, hx252_1, hx252_2, hx252_3, hx252_4, hx252_5, hx252_6, hx252_7, hx252_8⟩ := at_T30 HR0.out x4_1 p252 q252
       cases e252
       replace hx252_0 := up_ HB.out hx252_0
       replace hx252_1 := up_ HB.out hx252_1
       replace hx252_2 := up_ HB.out hx252_2
       replace hx252_3 := up_ HB.out hx252_3
       replace hx252_4 := up_ HB.out hx252_4
       replace hx252_5 := up_ HB.out hx252_5
       replace hx252_6 := up_ HB.out hx252_6
       replace hx252_7 := up_ HB.out hx252_7
       replace hx252_8 := up_ HB.out hx252_8
       replace p252 := eq_true p252
       replace q252 := eq_true q252
       go_wp2_with (first | ((with_reducible refine gate_callee (f := 18) rfl ?_); refine goesL_ (some 16) rfl rfl Tryd.func18 (by kernel_rfl) rfl #[.agg #[.int .i64 ((rd_T30 l0 x4_1).f0), .int .i64 ((rd_T30 l0 x4_1).f1), .int .i64 ((rd_T30 l0 x4_1).f2.f0), .string ((rd_T30 l0 x4_1).f2.f1), .string ((rd_T30 l0 x4_1).f2.f2), .string ((rd_T30 l0 x4_1).f2.f3), .string ((rd_T30 l0 x4_1).f2.f4), .int .i64 ((rd_T30 l0 x4_1).f3), .string ((rd_T30 l0 x4_1).f4)]] rfl (by (try simp only [List.map_toArray, List.map_cons, List.map_nil]); first | done | rfl | (simp only [List.length_drop, List.length_take]; rfl)) ?_; (with_reducible refine (outlawref23_Line.calls k1 ((rd_T30 l0 x4_1).f0) ((rd_T30 l0 x4_1).f1) ((rd_T30 l0 x4_1).f2.f0) ((rd_T30 l0 x4_1).f2.f1) ((rd_T30 l0 x4_1).f2.f2) ((rd_T30 l0 x4_1).f2.f3) ((rd_T30 l0 x4_1).f2.f4) ((rd_T30 l0 x4_1).f3) ((rd_T30 l0 x4_1).f4) t253 _ A4.out).mono ?_); rintro e w7 ⟨rfl, hb⟩; refine ⟨_, rfl, ?_⟩; have n0_ := Aside0.mk (below_step (by repeat (first | (with_reducible first | exact HB.out | apply a1_ | apply a2_ | apply a3_) | exact HB.out)) hb); clear HB; have HB := n0_; clear n0_; (try clear hb); (try clear hk)))
       go_roundg k1
       case measure => have := HK1.out; omega
       case rel => exact ⟨((x3_1 ++ t253) ++ (⟨#[10]⟩ : ByteArray)), (wrap64 (x4_1 + 1)), (by first | rfl | (simp; done) | (simp [*]; done)), (by first | rfl | (simp; done) | (simp [*]; done)), H', ⟨by have := HK1.out; omega⟩, ⟨by repeat (first | (with_reducible first | exact HB.out | apply a1_ | apply a2_ | apply a3_) | exact HB.out)⟩⟩
      ·rw [if_neg c6] at H
       exact absurd H (by simp)
     ·rw [if_neg c5] at H
      exact absurd H (by simp)
    ·rw [if_neg c3] at H
     exact absurd H (by simp)
   ·rw [if_neg c2] at H
    have c2b0 : decide (x4_1 < (l0.length : Int)) = false := decide_eq_false c2
    clear c2
    obtain rfl := Option.some.inj H
    go_wp2
    go_ret
    exact ⟨by first | rfl | (simp [errW_none, errW_some] <;> rfl) | (simp [*, errW_none, errW_some] <;> rfl), by repeat (first | (with_reducible first | exact HB.out | apply a1_ | apply a2_ | apply a3_) | exact HB.out)⟩

end Go.Proofs.YtlmhgnkkdjpkcaaDoor.PA
