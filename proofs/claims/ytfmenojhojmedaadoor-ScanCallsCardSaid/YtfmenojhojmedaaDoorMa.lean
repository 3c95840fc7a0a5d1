import Derived.Test.YtfmenojhojmedaaDoorProg
import Derived.Below
import Derived.Deep.Draws
import Derived.Deep.AppendLies
import Derived.Maps.AppendAt
import Derived.OwnWalk
import Derived.Laws.BytesArg
import Derived.Laws.MakeOwn
import Derived.Laws.OwnMore
import Derived.Deep.OwnRows
import Derived.Tactics
import Derived.Lib.ConvBytes
import Derived.Laws.Slices
import Derived.WalkKit
import Derived.KernelRfl
import Derived.RowKit3
import Derived.Deep.LoopGhost
import Derived.Deep.QuietTactic
import Derived.BigQuiet
import Derived.WideLaws
import Derived.Deep.DeepCutAuto
import Derived.Deep.CutBlock
import Derived.Deep.RegionHeld3
import Derived.Laws.Rows
import Derived.Lib.AppendStr
import Derived.ArgAppend
import Derived.Laws.IdiomCopy
import Derived.OrdersHeld
import Derived.Laws.BitsLemmas
import Derived.RowKit
import Derived.Test.YtfmenojhojmedaaDoorG0
import Derived.Test.YtfmenojhojmedaaDoorC7
import Derived.Test.YtfmenojhojmedaaDoorC3
import Derived.Test.YtfmenojhojmedaaDoorC8
import Derived.Test.YtfmenojhojmedaaDoorWWords
import Derived.Test.YtfmenojhojmedaaDoorWLast
import Derived.Test.YtfmenojhojmedaaDoorWTab
import Derived.Test.YtfmenojhojmedaaDoorWFour
import Derived.Test.YtfmenojhojmedaaDoorWQPut
import Derived.Test.YtfmenojhojmedaaDoorWApart
import Derived.Test.YtfmenojhojmedaaDoorWArr
import Derived.Test.YtfmenojhojmedaaDoorWZeros
import Derived.Test.YtfmenojhojmedaaDoorWFoot
import Derived.Test.YtfmenojhojmedaaDoorWKept
import Derived.Test.YtfmenojhojmedaaDoorWShare
import Derived.Test.YtfmenojhojmedaaDoorWN
import Derived.Test.YtfmenojhojmedaaDoorWFootNe
import Derived.Test.YtfmenojhojmedaaDoorWAt
import Derived.Test.YtfmenojhojmedaaDoorWEqStruct
import Derived.Test.YtfmenojhojmedaaDoorWRepsOne
import Derived.Test.YtfmenojhojmedaaDoorWInv
import Derived.Test.YtfmenojhojmedaaDoorWInvWords
import Derived.Test.YtfmenojhojmedaaDoorWGuard
import Derived.Test.YtfmenojhojmedaaDoorWNEv
import Derived.Test.YtfmenojhojmedaaDoorWMore
-- Written by a program of this session (gprint.py, a turned print with given contracts).
namespace Go.Proofs.YtfmenojhojmedaaDoor.PB
open Go.RowKit Go.Proofs.YtfmenojhojmedaaDoorW.PrintWords Go.Proofs.YtfmenojhojmedaaDoorW.PrintLast Go.Proofs.YtfmenojhojmedaaDoorW.PrintMore Go.Proofs.YtfmenojhojmedaaDoorG Go.Proofs.YtfmenojhojmedaaDoorX
attribute [local go_sem] max2_int min2_int max_two min_two max_three min_three max_four min_four   -- for this text's walks alone
set_option linter.unusedVariables false
set_option linter.unusedSimpArgs false



def errW : Option Int → Value
  | none => .nilIface
  | some c => .iface 0 (.int .i64 c)
theorem errW_none : errW none = .nilIface := rfl
theorem errW_some (c : Int) : errW (some c) = .iface 0 (.int .i64 c) := rfl

theorem info3 : (Tryd.prog.info? 3).map (fun i => (i.zero, i.size, i.bytes)) = some (some (.int .i64 0), 1, 8) := by kernel_rfl
theorem info5 : (Tryd.prog.info? 5).map (fun i => (i.zero, i.size, i.bytes)) = some (some (.int .u8 0), 1, 1) := by kernel_rfl
theorem info9 : (Tryd.prog.info? 9).map (fun i => (i.zero, i.size, i.bytes)) = some (some (.string ⟨#[]⟩), 1, 16) := by kernel_rfl
-- the values' own types

end Go.Proofs.YtfmenojhojmedaaDoor.PB
-- Written by a program of this session (gprint.py, a turned print with given contracts).
namespace Go.Proofs.YtfmenojhojmedaaDoor.PB
open Go.RowKit Go.Proofs.YtfmenojhojmedaaDoorW.PrintWords Go.Proofs.YtfmenojhojmedaaDoorW.PrintLast Go.Proofs.YtfmenojhojmedaaDoorW.PrintMore Go.Proofs.YtfmenojhojmedaaDoorG Go.Proofs.YtfmenojhojmedaaDoorX
attribute [local go_sem] max2_int min2_int max_two min_two max_three min_three max_four min_four   -- for this text's walks alone
set_option linter.unusedVariables false
set_option linter.unusedSimpArgs false

/-! ### outlawlaw01_lives: function 9 -/
def outlawlaw01_lives.f  : Option (Bool) := (scan_Quote.f (⟨#[97, 10, 34]⟩ : ByteArray)).bind fun bt101 => (if bt101.2 = 0 then (some (bt101.1.toList == ([34, 97, 92, 110, 92, 34, 34] : List UInt8))) else (some false))
set_option maxHeartbeats 8000000 in
set_option maxRecDepth 100000 in
theorem outlawlaw01_lives.calls  (r : Bool) (w : World) (htTabU_ : TabU w) (h : outlawlaw01_lives.f  = some r) :
    Calls Tryd.prog 9 #[] w fun e w' => e = .returned (.bool r) ∧ Below w.heap.size w w' := by
  have HTTabU_ := Aside0.mk htTabU_
  clear htTabU_
  have HB := Aside0.mk (Below.refl w.heap.size w)
  have H : ((scan_Quote.f (⟨#[97, 10, 34]⟩ : ByteArray)).bind fun bt101 => (if bt101.2 = 0 then (some (bt101.1.toList == ([34, 97, 92, 110, 92, 34, 34] : List UInt8))) else (some false))) = some r := h
  clear h
  replace H := Option.bind_eq_some_iff.mp H
  obtain ⟨⟨t101, t102⟩, A10, H⟩ := H
  replace H : (if t102 = 0 then (some (t101.toList == ([34, 97, 92, 110, 92, 34, 34] : List UInt8))) else (some false)) = some r := H
  have A1 := Aside0.mk A10
  clear A10
  by_cases c2 : t102 = 0
  · rw [if_pos c2] at H
    have c2b0 : (t102 == 0) = true := beq_iff_eq.mpr c2
    have c2b1 : (t102 != 0) = false := bne_eq_false_iff_eq.mpr c2
    clear c2
    obtain rfl := Option.some.inj H
    go_enter Tryd.func9, Tryd.ntmps9
    go_wp2_with (first | ((with_reducible refine gate_callee (f := 10) rfl ?_); refine goesL_ (some 4) rfl rfl Tryd.func10 (by kernel_rfl) rfl #[.string (⟨#[97, 10, 34]⟩ : ByteArray)] rfl (by (try simp only [List.map_toArray, List.map_cons, List.map_nil]); first | done | rfl | (simp only [List.length_drop, List.length_take]; rfl)) ?_; (with_reducible refine (scan_Quote.calls (⟨#[97, 10, 34]⟩ : ByteArray) t101 t102 _ ?side1 A1.out).mono ?_); (case side1 => exact TabU.at HTTabU_.out (by repeat (first | (with_reducible first | exact HB.out | apply below_alloc | apply pw_below_drewN | apply below_drew1) | exact HB.out))); rintro e w3 ⟨rfl, hb⟩; refine ⟨_, rfl, ?_⟩; have n0_ := Aside0.mk (below_step (by repeat (first | (with_reducible first | exact HB.out | apply below_alloc | apply pw_below_drewN | apply below_drew1) | exact HB.out)) hb); clear HB; have HB := n0_; clear n0_; (try clear hb); (try clear hb2); (try clear hk); (try clear hi)))
    go_ret
    exact ⟨by first | rfl | (simp [errW_none, errW_some] <;> rfl) | (simp [*, errW_none, errW_some] <;> rfl), by repeat (first | (with_reducible first | exact HB.out | apply below_alloc | apply pw_below_drewN | apply below_drew1) | exact HB.out)⟩
  · rw [if_neg c2] at H
    have c2b0 : (t102 == 0) = false := beq_eq_false_iff_ne.mpr c2
    have c2b1 : (t102 != 0) = true := bne_iff_ne.mpr c2
    obtain rfl := Option.some.inj H
    go_enter Tryd.func9, Tryd.ntmps9
    go_wp2_with (first | ((with_reducible refine gate_callee (f := 10) rfl ?_); refine goesL_ (some 4) rfl rfl Tryd.func10 (by kernel_rfl) rfl #[.string (⟨#[97, 10, 34]⟩ : ByteArray)] rfl (by (try simp only [List.map_toArray, List.map_cons, List.map_nil]); first | done | rfl | (simp only [List.length_drop, List.length_take]; rfl)) ?_; (with_reducible refine (scan_Quote.calls (⟨#[97, 10, 34]⟩ : ByteArray) t101 t102 _ ?side1 A1.out).mono ?_); (case side1 => exact TabU.at HTTabU_.out (by repeat (first | (with_reducible first | exact HB.out | apply below_alloc | apply pw_below_drewN | apply below_drew1) | exact HB.out))); rintro e w4 ⟨rfl, hb⟩; refine ⟨_, rfl, ?_⟩; have n0_ := Aside0.mk (below_step (by repeat (first | (with_reducible first | exact HB.out | apply below_alloc | apply pw_below_drewN | apply below_drew1) | exact HB.out)) hb); clear HB; have HB := n0_; clear n0_; (try clear hb); (try clear hb2); (try clear hk); (try clear hi)))
    go_ret
    exact ⟨by first | rfl | (simp [errW_none, errW_some] <;> rfl) | (simp [*, errW_none, errW_some] <;> rfl), by repeat (first | (with_reducible first | exact HB.out | apply below_alloc | apply pw_below_drewN | apply below_drew1) | exact HB.out)⟩

/-! ### scan_Number: function 16 -/
def scan_Number.f (a0 : Int) : Option (ByteArray × Int) := if a0 < (-9007199254740991) then (some ((⟨#[]⟩ : ByteArray), 2)) else (if a0 > 9007199254740991 then (some ((⟨#[]⟩ : ByteArray), 2)) else ((strconv_FormatInt.f a0 10).bind fun t103 => (some (t103, 0))))
set_option maxHeartbeats 8000000 in
set_option maxRecDepth 100000 in
theorem scan_Number.calls (a0 : Int) (r1 : ByteArray) (r2 : Int) (w : World) (htTabN_ : TabN w) (h : scan_Number.f a0 = some (r1, r2)) :
    Calls Tryd.prog 16 #[.int .i64 a0] w fun e w' => e = .returned (.tuple #[.string r1, .int .i64 r2]) ∧ Below w.heap.size w w' := by
  have HTTabN_ := Aside0.mk htTabN_
  clear htTabN_
  have HB := Aside0.mk (Below.refl w.heap.size w)
  have H : (if a0 < (-9007199254740991) then (some ((⟨#[]⟩ : ByteArray), 2)) else (if a0 > 9007199254740991 then (some ((⟨#[]⟩ : ByteArray), 2)) else ((strconv_FormatInt.f a0 10).bind fun t103 => (some (t103, 0))))) = some (r1, r2) := h
  clear h
  by_cases c2 : a0 < (-9007199254740991)
  · rw [if_pos c2] at H
    have c2b0 : decide (a0 < (-9007199254740991)) = true := decide_eq_true c2
    clear c2
    simp only [Option.some.injEq, Prod.mk.injEq] at H
    obtain ⟨rfl, rfl⟩ := H
    go_enter Tryd.func16, Tryd.ntmps16
    go_wp2
    go_ret2
    exact ⟨by first | rfl | (simp [errW_none, errW_some] <;> rfl) | (simp [*, errW_none, errW_some] <;> rfl), by repeat (first | (with_reducible first | exact HB.out | apply below_alloc | apply pw_below_drewN | apply below_drew1) | exact HB.out)⟩
  · rw [if_neg c2] at H
    have c2b0 : decide (a0 < (-9007199254740991)) = false := decide_eq_false c2
    clear c2
    by_cases c3 : a0 > 9007199254740991
    · rw [if_pos c3] at H
      have c3b0 : decide (9007199254740991 < a0) = true := decide_eq_true c3
      clear c3
      simp only [Option.some.injEq, Prod.mk.injEq] at H
      obtain ⟨rfl, rfl⟩ := H
      go_enter Tryd.func16, Tryd.ntmps16
      go_wp2
      go_ret2
      exact ⟨by first | rfl | (simp [errW_none, errW_some] <;> rfl) | (simp [*, errW_none, errW_some] <;> rfl), by repeat (first | (with_reducible first | exact HB.out | apply below_alloc | apply pw_below_drewN | apply below_drew1) | exact HB.out)⟩
    · rw [if_neg c3] at H
      have c3b0 : decide (9007199254740991 < a0) = false := decide_eq_false c3
      clear c3
      replace H := Option.bind_eq_some_iff.mp H
      obtain ⟨t103, A40, H⟩ := H
      replace H : (some (t103, 0)) = some (r1, r2) := H
      have A4 := Aside0.mk A40
      clear A40
      simp only [Option.some.injEq, Prod.mk.injEq] at H
      obtain ⟨rfl, rfl⟩ := H
      go_enter Tryd.func16, Tryd.ntmps16
      go_wp2_with (first | ((with_reducible refine gate_callee (f := 35) rfl ?_); refine goesL_ (some 11) rfl rfl Tryd.func35 (by kernel_rfl) rfl #[.int .i64 a0, .int .i64 10] rfl (by (try simp only [List.map_toArray, List.map_cons, List.map_nil]); first | done | rfl | (simp only [List.length_drop, List.length_take]; rfl)) ?_; (with_reducible refine (strconv_FormatInt.calls a0 10 t103 _ ?side1 A4.out).mono ?_); (case side1 => exact TabN.at HTTabN_.out (by repeat (first | (with_reducible first | exact HB.out | apply below_alloc | apply pw_below_drewN | apply below_drew1) | exact HB.out))); rintro e w5 ⟨rfl, hb⟩; refine ⟨_, rfl, ?_⟩; have n0_ := Aside0.mk (below_step (by repeat (first | (with_reducible first | exact HB.out | apply below_alloc | apply pw_below_drewN | apply below_drew1) | exact HB.out)) hb); clear HB; have HB := n0_; clear n0_; (try clear hb); (try clear hb2); (try clear hk); (try clear hi)))
      go_ret2
      exact ⟨by first | rfl | (simp [errW_none, errW_some] <;> rfl) | (simp [*, errW_none, errW_some] <;> rfl), by repeat (first | (with_reducible first | exact HB.out | apply below_alloc | apply pw_below_drewN | apply below_drew1) | exact HB.out)⟩

end Go.Proofs.YtfmenojhojmedaaDoor.PB
-- Written by a program of this session (gprint.py, a turned print with given contracts).
namespace Go.Proofs.YtfmenojhojmedaaDoor.PB
open Go.RowKit Go.Proofs.YtfmenojhojmedaaDoorW.PrintWords Go.Proofs.YtfmenojhojmedaaDoorW.PrintLast Go.Proofs.YtfmenojhojmedaaDoorW.PrintMore Go.Proofs.YtfmenojhojmedaaDoorG Go.Proofs.YtfmenojhojmedaaDoorX
attribute [local go_sem] max2_int min2_int max_two min_two max_three min_three max_four min_four   -- for this text's walks alone
set_option linter.unusedVariables false
set_option linter.unusedSimpArgs false

/-! ### scan_Valid: function 11 -/
def scan_Valid.f (a0 : ByteArray) : Option (Bool) := (utf8_ValidString.f a0).bind fun t112 => (some t112)
set_option maxHeartbeats 8000000 in
set_option maxRecDepth 100000 in
theorem scan_Valid.calls (a0 : ByteArray) (r : Bool) (w : World) (htTabU_ : TabU w) (h : scan_Valid.f a0 = some r) :
    Calls Tryd.prog 11 #[.string a0] w fun e w' => e = .returned (.bool r) ∧ Below w.heap.size w w' := by
  have HTTabU_ := Aside0.mk htTabU_
  clear htTabU_
  have HB := Aside0.mk (Below.refl w.heap.size w)
  have H : ((utf8_ValidString.f a0).bind fun t112 => (some t112)) = some r := h
  clear h
  replace H := Option.bind_eq_some_iff.mp H
  obtain ⟨t112, A20, H⟩ := H
  replace H : (some t112) = some r := H
  have A2 := Aside0.mk A20
  clear A20
  obtain rfl := Option.some.inj H
  go_enter Tryd.func11, Tryd.ntmps11
  go_wp2_with (first | ((with_reducible refine gate_callee (f := 31) rfl ?_); refine goesL_ (some 4) rfl rfl Tryd.func31 (by kernel_rfl) rfl #[.string a0] rfl (by (try simp only [List.map_toArray, List.map_cons, List.map_nil]); first | done | rfl | (simp only [List.length_drop, List.length_take]; rfl)) ?_; (with_reducible refine (utf8_ValidString.calls a0 t112 _ ?side1 A2.out).mono ?_); (case side1 => exact TabU.at HTTabU_.out (by repeat (first | (with_reducible first | exact HB.out | apply below_alloc | apply pw_below_drewN | apply below_drew1) | exact HB.out))); rintro e w3 ⟨rfl, hb⟩; refine ⟨_, rfl, ?_⟩; have n0_ := Aside0.mk (below_step (by repeat (first | (with_reducible first | exact HB.out | apply below_alloc | apply pw_below_drewN | apply below_drew1) | exact HB.out)) hb); clear HB; have HB := n0_; clear n0_; (try clear hb); (try clear hb2); (try clear hk); (try clear hi)))
  go_ret
  exact ⟨by first | rfl | (simp [errW_none, errW_some] <;> rfl) | (simp [*, errW_none, errW_some] <;> rfl), by repeat (first | (with_reducible first | exact HB.out | apply below_alloc | apply pw_below_drewN | apply below_drew1) | exact HB.out)⟩

/-! ### scan_Space: function 18 -/
def scan_Space.f (a0 : ByteArray) : Option (Int) := (strings_TrimLeft.f a0 (⟨#[9, 10, 13, 32]⟩ : ByteArray)).bind fun t113 => (some (wrap64 ((a0.size : Int) - (t113.size : Int))))
set_option maxHeartbeats 8000000 in
set_option maxRecDepth 100000 in
theorem scan_Space.calls (a0 : ByteArray) (r : Int) (w : World) (h : scan_Space.f a0 = some r) :
    Calls Tryd.prog 18 #[.string a0] w fun e w' => e = .returned (.int .i64 r) ∧ Below w.heap.size w w' := by
  have HB := Aside0.mk (Below.refl w.heap.size w)
  have H : ((strings_TrimLeft.f a0 (⟨#[9, 10, 13, 32]⟩ : ByteArray)).bind fun t113 => (some (wrap64 ((a0.size : Int) - (t113.size : Int))))) = some r := h
  clear h
  replace H := Option.bind_eq_some_iff.mp H
  obtain ⟨t113, A20, H⟩ := H
  replace H : (some (wrap64 ((a0.size : Int) - (t113.size : Int)))) = some r := H
  have A2 := Aside0.mk A20
  clear A20
  obtain rfl := Option.some.inj H
  go_enter Tryd.func18, Tryd.ntmps18
  go_wp2_with (first | ((with_reducible refine gate_callee (f := 37) rfl ?_); refine goesL_ (some 6) rfl rfl Tryd.func37 (by kernel_rfl) rfl #[.string a0, .string (⟨#[9, 10, 13, 32]⟩ : ByteArray)] rfl (by (try simp only [List.map_toArray, List.map_cons, List.map_nil]); first | done | rfl | (simp only [List.length_drop, List.length_take]; rfl)) ?_; (with_reducible refine (strings_TrimLeft.calls a0 (⟨#[9, 10, 13, 32]⟩ : ByteArray) t113 _ A2.out).mono ?_); rintro e w3 ⟨rfl, hb⟩; refine ⟨_, rfl, ?_⟩; have n0_ := Aside0.mk (below_step (by repeat (first | (with_reducible first | exact HB.out | apply below_alloc | apply pw_below_drewN | apply below_drew1) | exact HB.out)) hb); clear HB; have HB := n0_; clear n0_; (try clear hb); (try clear hb2); (try clear hk); (try clear hi)))
  go_ret
  exact ⟨by first | rfl | (simp [errW_none, errW_some] <;> rfl) | (simp [*, errW_none, errW_some] <;> rfl), by repeat (first | (with_reducible first | exact HB.out | apply below_alloc | apply pw_below_drewN | apply below_drew1) | exact HB.out)⟩

/-! ### outlawlaw01_ScanNames: function 7 -/
def outlawlaw01_ScanNames.f (k : Nat)  : Option (Bool) := (scan_Unquote.f k (⟨#[34, 92, 117, 48, 48, 52, 49, 92, 117, 100, 56, 51, 100, 92, 117, 100, 101, 48, 48, 34, 120]⟩ : ByteArray)).bind fun bt114 => ((scan_ReadNumber.f (⟨#[45, 49, 50, 44]⟩ : ByteArray)).bind fun bt117 => ((scan_ReadNumber.f (⟨#[48, 49]⟩ : ByteArray)).bind fun bt120 => ((scan_ReadNumber.f (⟨#[45, 48]⟩ : ByteArray)).bind fun bt123 => ((scan_Unquote.f k (⟨#[34, 92, 117, 100, 99, 48, 48, 34]⟩ : ByteArray)).bind fun bt126 => ((scan_Unquote.f k (⟨#[34, 92, 117, 100, 56, 51, 100, 34]⟩ : ByteArray)).bind fun bt129 => ((scan_Unquote.f k (⟨#[34, 97]⟩ : ByteArray)).bind fun bt132 => ((outlawlaw01_lives.f).bind fun t135 => (if t135 = true then (if bt114.2.2 = 0 then (if bt114.1.toList = ([65, 240, 159, 152, 128] : List UInt8) then (if bt114.2.1 = 20 then (if bt117.2.2 = 0 then (if bt117.1 = (-12) then (if bt117.2.1 = 3 then (if bt120.2.2 = 5 then (if bt123.2.2 = 5 then (if bt126.2.2 = 6 then (if bt129.2.2 = 6 then (if bt132.2.2 = 3 then ((scan_Space.f (⟨#[32, 9, 13, 10, 120]⟩ : ByteArray)).bind fun t136 => (if t136 = 4 then ((scan_Word.f (⟨#[116, 114, 117, 101, 120]⟩ : ByteArray)).bind fun t137 => (if t137.toList = ([116, 114, 117, 101] : List UInt8) then ((scan_Word.f (⟨#[116, 114, 117]⟩ : ByteArray)).bind fun t138 => (if t138.toList = ([] : List UInt8) then ((scan_Valid.f (⟨#[192, 128]⟩ : ByteArray)).bind fun t139 => (some (!t139))) else (some false))) else (some false))) else (some false))) else (some false)) else (some false)) else (some false)) else (some false)) else (some false)) else (some false)) else (some false)) else (some false)) else (some false)) else (some false)) else (some false)) else (some false)))))))))
theorem outlawlaw01_ScanNames.mono : ∀ k, LeO (outlawlaw01_ScanNames.f k ) (outlawlaw01_ScanNames.f (k + 1) ) := by
  intro  k
  unfold outlawlaw01_ScanNames.f
  repeat' first
      | (with_reducible exact scan_Unquote.mono _ _)
      | (with_reducible exact LeO.refl _)
      | (with_reducible exact LeO.none _)
      | (with_reducible refine LeO.ite ?_ ?_)
      | (with_reducible refine LeO.bind ?_ (fun _ => ?_))
      | exact scan_Unquote.mono _ _
      | exact LeO.none _
      | refine LeO.ite ?_ ?_
      | refine LeO.bind ?_ (fun _ => ?_)
set_option maxHeartbeats 8000000 in
set_option maxRecDepth 100000 in
theorem outlawlaw01_ScanNames.calls (k : Nat)  (r : Bool) (w : World) (hr_ : Aside0 (r = true)) (htTabU_ : TabU w) (h : outlawlaw01_ScanNames.f k  = some r) :
    Calls Tryd.prog 7 #[] w fun e w' => e = .returned (.bool r) ∧ Below w.heap.size w w' := by
  have HTTabU_ := Aside0.mk htTabU_
  clear htTabU_
  have HB := Aside0.mk (Below.refl w.heap.size w)
  have H : ((scan_Unquote.f k (⟨#[34, 92, 117, 48, 48, 52, 49, 92, 117, 100, 56, 51, 100, 92, 117, 100, 101, 48, 48, 34, 120]⟩ : ByteArray)).bind fun bt114 => ((scan_ReadNumber.f (⟨#[45, 49, 50, 44]⟩ : ByteArray)).bind fun bt117 => ((scan_ReadNumber.f (⟨#[48, 49]⟩ : ByteArray)).bind fun bt120 => ((scan_ReadNumber.f (⟨#[45, 48]⟩ : ByteArray)).bind fun bt123 => ((scan_Unquote.f k (⟨#[34, 92, 117, 100, 99, 48, 48, 34]⟩ : ByteArray)).bind fun bt126 => ((scan_Unquote.f k (⟨#[34, 92, 117, 100, 56, 51, 100, 34]⟩ : ByteArray)).bind fun bt129 => ((scan_Unquote.f k (⟨#[34, 97]⟩ : ByteArray)).bind fun bt132 => ((outlawlaw01_lives.f).bind fun t135 => (if t135 = true then (if bt114.2.2 = 0 then (if bt114.1.toList = ([65, 240, 159, 152, 128] : List UInt8) then (if bt114.2.1 = 20 then (if bt117.2.2 = 0 then (if bt117.1 = (-12) then (if bt117.2.1 = 3 then (if bt120.2.2 = 5 then (if bt123.2.2 = 5 then (if bt126.2.2 = 6 then (if bt129.2.2 = 6 then (if bt132.2.2 = 3 then ((scan_Space.f (⟨#[32, 9, 13, 10, 120]⟩ : ByteArray)).bind fun t136 => (if t136 = 4 then ((scan_Word.f (⟨#[116, 114, 117, 101, 120]⟩ : ByteArray)).bind fun t137 => (if t137.toList = ([116, 114, 117, 101] : List UInt8) then ((scan_Word.f (⟨#[116, 114, 117]⟩ : ByteArray)).bind fun t138 => (if t138.toList = ([] : List UInt8) then ((scan_Valid.f (⟨#[192, 128]⟩ : ByteArray)).bind fun t139 => (some (!t139))) else (some false))) else (some false))) else (some false))) else (some false)) else (some false)) else (some false)) else (some false)) else (some false)) else (some false)) else (some false)) else (some false)) else (some false)) else (some false)) else (some false)) else (some false)))))))))) = some r := h
  clear h
  replace H := Option.bind_eq_some_iff.mp H
  obtain ⟨⟨t114, t115, t116⟩, A10, H⟩ := H
  replace H : ((scan_ReadNumber.f (⟨#[45, 49, 50, 44]⟩ : ByteArray)).bind fun bt117 => ((scan_ReadNumber.f (⟨#[48, 49]⟩ : ByteArray)).bind fun bt120 => ((scan_ReadNumber.f (⟨#[45, 48]⟩ : ByteArray)).bind fun bt123 => ((scan_Unquote.f k (⟨#[34, 92, 117, 100, 99, 48, 48, 34]⟩ : ByteArray)).bind fun bt126 => ((scan_Unquote.f k (⟨#[34, 92, 117, 100, 56, 51, 100, 34]⟩ : ByteArray)).bind fun bt129 => ((scan_Unquote.f k (⟨#[34, 97]⟩ : ByteArray)).bind fun bt132 => ((outlawlaw01_lives.f).bind fun t135 => (if t135 = true then (if t116 = 0 then (if t114.toList = ([65, 240, 159, 152, 128] : List UInt8) then (if t115 = 20 then (if bt117.2.2 = 0 then (if bt117.1 = (-12) then (if bt117.2.1 = 3 then (if bt120.2.2 = 5 then (if bt123.2.2 = 5 then (if bt126.2.2 = 6 then (if bt129.2.2 = 6 then (if bt132.2.2 = 3 then ((scan_Space.f (⟨#[32, 9, 13, 10, 120]⟩ : ByteArray)).bind fun t136 => (if t136 = 4 then ((scan_Word.f (⟨#[116, 114, 117, 101, 120]⟩ : ByteArray)).bind fun t137 => (if t137.toList = ([116, 114, 117, 101] : List UInt8) then ((scan_Word.f (⟨#[116, 114, 117]⟩ : ByteArray)).bind fun t138 => (if t138.toList = ([] : List UInt8) then ((scan_Valid.f (⟨#[192, 128]⟩ : ByteArray)).bind fun t139 => (some (!t139))) else (some false))) else (some false))) else (some false))) else (some false)) else (some false)) else (some false)) else (some false)) else (some false)) else (some false)) else (some false)) else (some false)) else (some false)) else (some false)) else (some false)) else (some false))))))))) = some r := H
  have A1 := Aside0.mk A10
  clear A10
  replace H := Option.bind_eq_some_iff.mp H
  obtain ⟨⟨t117, t118, t119⟩, A20, H⟩ := H
  replace H : ((scan_ReadNumber.f (⟨#[48, 49]⟩ : ByteArray)).bind fun bt120 => ((scan_ReadNumber.f (⟨#[45, 48]⟩ : ByteArray)).bind fun bt123 => ((scan_Unquote.f k (⟨#[34, 92, 117, 100, 99, 48, 48, 34]⟩ : ByteArray)).bind fun bt126 => ((scan_Unquote.f k (⟨#[34, 92, 117, 100, 56, 51, 100, 34]⟩ : ByteArray)).bind fun bt129 => ((scan_Unquote.f k (⟨#[34, 97]⟩ : ByteArray)).bind fun bt132 => ((outlawlaw01_lives.f).bind fun t135 => (if t135 = true then (if t116 = 0 then (if t114.toList = ([65, 240, 159, 152, 128] : List UInt8) then (if t115 = 20 then (if t119 = 0 then (if t117 = (-12) then (if t118 = 3 then (if bt120.2.2 = 5 then (if bt123.2.2 = 5 then (if bt126.2.2 = 6 then (if bt129.2.2 = 6 then (if bt132.2.2 = 3 then ((scan_Space.f (⟨#[32, 9, 13, 10, 120]⟩ : ByteArray)).bind fun t136 => (if t136 = 4 then ((scan_Word.f (⟨#[116, 114, 117, 101, 120]⟩ : ByteArray)).bind fun t137 => (if t137.toList = ([116, 114, 117, 101] : List UInt8) then ((scan_Word.f (⟨#[116, 114, 117]⟩ : ByteArray)).bind fun t138 => (if t138.toList = ([] : List UInt8) then ((scan_Valid.f (⟨#[192, 128]⟩ : ByteArray)).bind fun t139 => (some (!t139))) else (some false))) else (some false))) else (some false))) else (some false)) else (some false)) else (some false)) else (some false)) else (some false)) else (some false)) else (some false)) else (some false)) else (some false)) else (some false)) else (some false)) else (some false)))))))) = some r := H
  have A2 := Aside0.mk A20
  clear A20
  replace H := Option.bind_eq_some_iff.mp H
  obtain ⟨⟨t120, t121, t122⟩, A30, H⟩ := H
  replace H : ((scan_ReadNumber.f (⟨#[45, 48]⟩ : ByteArray)).bind fun bt123 => ((scan_Unquote.f k (⟨#[34, 92, 117, 100, 99, 48, 48, 34]⟩ : ByteArray)).bind fun bt126 => ((scan_Unquote.f k (⟨#[34, 92, 117, 100, 56, 51, 100, 34]⟩ : ByteArray)).bind fun bt129 => ((scan_Unquote.f k (⟨#[34, 97]⟩ : ByteArray)).bind fun bt132 => ((outlawlaw01_lives.f).bind fun t135 => (if t135 = true then (if t116 = 0 then (if t114.toList = ([65, 240, 159, 152, 128] : List UInt8) then (if t115 = 20 then (if t119 = 0 then (if t117 = (-12) then (if t118 = 3 then (if t122 = 5 then (if bt123.2.2 = 5 then (if bt126.2.2 = 6 then (if bt129.2.2 = 6 then (if bt132.2.2 = 3 then ((scan_Space.f (⟨#[32, 9, 13, 10, 120]⟩ : ByteArray)).bind fun t136 => (if t136 = 4 then ((scan_Word.f (⟨#[116, 114, 117, 101, 120]⟩ : ByteArray)).bind fun t137 => (if t137.toList = ([116, 114, 117, 101] : List UInt8) then ((scan_Word.f (⟨#[116, 114, 117]⟩ : ByteArray)).bind fun t138 => (if t138.toList = ([] : List UInt8) then ((scan_Valid.f (⟨#[192, 128]⟩ : ByteArray)).bind fun t139 => (some (!t139))) else (some false))) else (some false))) else (some false))) else (some false)) else (some false)) else (some false)) else (some false)) else (some false)) else (some false)) else (some false)) else (some false)) else (some false)) else (some false)) else (some false)) else (some false))))))) = some r := H
  have A3 := Aside0.mk A30
  clear A30
  replace H := Option.bind_eq_some_iff.mp H
  obtain ⟨⟨t123, t124, t125⟩, A40, H⟩ := H
  replace H : ((scan_Unquote.f k (⟨#[34, 92, 117, 100, 99, 48, 48, 34]⟩ : ByteArray)).bind fun bt126 => ((scan_Unquote.f k (⟨#[34, 92, 117, 100, 56, 51, 100, 34]⟩ : ByteArray)).bind fun bt129 => ((scan_Unquote.f k (⟨#[34, 97]⟩ : ByteArray)).bind fun bt132 => ((outlawlaw01_lives.f).bind fun t135 => (if t135 = true then (if t116 = 0 then (if t114.toList = ([65, 240, 159, 152, 128] : List UInt8) then (if t115 = 20 then (if t119 = 0 then (if t117 = (-12) then (if t118 = 3 then (if t122 = 5 then (if t125 = 5 then (if bt126.2.2 = 6 then (if bt129.2.2 = 6 then (if bt132.2.2 = 3 then ((scan_Space.f (⟨#[32, 9, 13, 10, 120]⟩ : ByteArray)).bind fun t136 => (if t136 = 4 then ((scan_Word.f (⟨#[116, 114, 117, 101, 120]⟩ : ByteArray)).bind fun t137 => (if t137.toList = ([116, 114, 117, 101] : List UInt8) then ((scan_Word.f (⟨#[116, 114, 117]⟩ : ByteArray)).bind fun t138 => (if t138.toList = ([] : List UInt8) then ((scan_Valid.f (⟨#[192, 128]⟩ : ByteArray)).bind fun t139 => (some (!t139))) else (some false))) else (some false))) else (some false))) else (some false)) else (some false)) else (some false)) else (some false)) else (some false)) else (some false)) else (some false)) else (some false)) else (some false)) else (some false)) else (some false)) else (some false)))))) = some r := H
  have A4 := Aside0.mk A40
  clear A40
  replace H := Option.bind_eq_some_iff.mp H
  obtain ⟨⟨t126, t127, t128⟩, A50, H⟩ := H
  replace H : ((scan_Unquote.f k (⟨#[34, 92, 117, 100, 56, 51, 100, 34]⟩ : ByteArray)).bind fun bt129 => ((scan_Unquote.f k (⟨#[34, 97]⟩ : ByteArray)).bind fun bt132 => ((outlawlaw01_lives.f).bind fun t135 => (if t135 = true then (if t116 = 0 then (if t114.toList = ([65, 240, 159, 152, 128] : List UInt8) then (if t115 = 20 then (if t119 = 0 then (if t117 = (-12) then (if t118 = 3 then (if t122 = 5 then (if t125 = 5 then (if t128 = 6 then (if bt129.2.2 = 6 then (if bt132.2.2 = 3 then ((scan_Space.f (⟨#[32, 9, 13, 10, 120]⟩ : ByteArray)).bind fun t136 => (if t136 = 4 then ((scan_Word.f (⟨#[116, 114, 117, 101, 120]⟩ : ByteArray)).bind fun t137 => (if t137.toList = ([116, 114, 117, 101] : List UInt8) then ((scan_Word.f (⟨#[116, 114, 117]⟩ : ByteArray)).bind fun t138 => (if t138.toList = ([] : List UInt8) then ((scan_Valid.f (⟨#[192, 128]⟩ : ByteArray)).bind fun t139 => (some (!t139))) else (some false))) else (some false))) else (some false))) else (some false)) else (some false)) else (some false)) else (some false)) else (some false)) else (some false)) else (some false)) else (some false)) else (some false)) else (some false)) else (some false)) else (some false))))) = some r := H
  have A5 := Aside0.mk A50
  clear A50
  replace H := Option.bind_eq_some_iff.mp H
  obtain ⟨⟨t129, t130, t131⟩, A60, H⟩ := H
  replace H : ((scan_Unquote.f k (⟨#[34, 97]⟩ : ByteArray)).bind fun bt132 => ((outlawlaw01_lives.f).bind fun t135 => (if t135 = true then (if t116 = 0 then (if t114.toList = ([65, 240, 159, 152, 128] : List UInt8) then (if t115 = 20 then (if t119 = 0 then (if t117 = (-12) then (if t118 = 3 then (if t122 = 5 then (if t125 = 5 then (if t128 = 6 then (if t131 = 6 then (if bt132.2.2 = 3 then ((scan_Space.f (⟨#[32, 9, 13, 10, 120]⟩ : ByteArray)).bind fun t136 => (if t136 = 4 then ((scan_Word.f (⟨#[116, 114, 117, 101, 120]⟩ : ByteArray)).bind fun t137 => (if t137.toList = ([116, 114, 117, 101] : List UInt8) then ((scan_Word.f (⟨#[116, 114, 117]⟩ : ByteArray)).bind fun t138 => (if t138.toList = ([] : List UInt8) then ((scan_Valid.f (⟨#[192, 128]⟩ : ByteArray)).bind fun t139 => (some (!t139))) else (some false))) else (some false))) else (some false))) else (some false)) else (some false)) else (some false)) else (some false)) else (some false)) else (some false)) else (some false)) else (some false)) else (some false)) else (some false)) else (some false)) else (some false)))) = some r := H
  have A6 := Aside0.mk A60
  clear A60
  replace H := Option.bind_eq_some_iff.mp H
  obtain ⟨⟨t132, t133, t134⟩, A70, H⟩ := H
  replace H : ((outlawlaw01_lives.f).bind fun t135 => (if t135 = true then (if t116 = 0 then (if t114.toList = ([65, 240, 159, 152, 128] : List UInt8) then (if t115 = 20 then (if t119 = 0 then (if t117 = (-12) then (if t118 = 3 then (if t122 = 5 then (if t125 = 5 then (if t128 = 6 then (if t131 = 6 then (if t134 = 3 then ((scan_Space.f (⟨#[32, 9, 13, 10, 120]⟩ : ByteArray)).bind fun t136 => (if t136 = 4 then ((scan_Word.f (⟨#[116, 114, 117, 101, 120]⟩ : ByteArray)).bind fun t137 => (if t137.toList = ([116, 114, 117, 101] : List UInt8) then ((scan_Word.f (⟨#[116, 114, 117]⟩ : ByteArray)).bind fun t138 => (if t138.toList = ([] : List UInt8) then ((scan_Valid.f (⟨#[192, 128]⟩ : ByteArray)).bind fun t139 => (some (!t139))) else (some false))) else (some false))) else (some false))) else (some false)) else (some false)) else (some false)) else (some false)) else (some false)) else (some false)) else (some false)) else (some false)) else (some false)) else (some false)) else (some false)) else (some false))) = some r := H
  have A7 := Aside0.mk A70
  clear A70
  replace H := Option.bind_eq_some_iff.mp H
  obtain ⟨t135, A80, H⟩ := H
  replace H : (if t135 = true then (if t116 = 0 then (if t114.toList = ([65, 240, 159, 152, 128] : List UInt8) then (if t115 = 20 then (if t119 = 0 then (if t117 = (-12) then (if t118 = 3 then (if t122 = 5 then (if t125 = 5 then (if t128 = 6 then (if t131 = 6 then (if t134 = 3 then ((scan_Space.f (⟨#[32, 9, 13, 10, 120]⟩ : ByteArray)).bind fun t136 => (if t136 = 4 then ((scan_Word.f (⟨#[116, 114, 117, 101, 120]⟩ : ByteArray)).bind fun t137 => (if t137.toList = ([116, 114, 117, 101] : List UInt8) then ((scan_Word.f (⟨#[116, 114, 117]⟩ : ByteArray)).bind fun t138 => (if t138.toList = ([] : List UInt8) then ((scan_Valid.f (⟨#[192, 128]⟩ : ByteArray)).bind fun t139 => (some (!t139))) else (some false))) else (some false))) else (some false))) else (some false)) else (some false)) else (some false)) else (some false)) else (some false)) else (some false)) else (some false)) else (some false)) else (some false)) else (some false)) else (some false)) else (some false)) = some r := H
  have A8 := Aside0.mk A80
  clear A80
  by_cases c9 : t135 = true
  · subst c9
    have H1 : (if t116 = 0 then (if t114.toList = ([65, 240, 159, 152, 128] : List UInt8) then (if t115 = 20 then (if t119 = 0 then (if t117 = (-12) then (if t118 = 3 then (if t122 = 5 then (if t125 = 5 then (if t128 = 6 then (if t131 = 6 then (if t134 = 3 then ((scan_Space.f (⟨#[32, 9, 13, 10, 120]⟩ : ByteArray)).bind fun t136 => (if t136 = 4 then ((scan_Word.f (⟨#[116, 114, 117, 101, 120]⟩ : ByteArray)).bind fun t137 => (if t137.toList = ([116, 114, 117, 101] : List UInt8) then ((scan_Word.f (⟨#[116, 114, 117]⟩ : ByteArray)).bind fun t138 => (if t138.toList = ([] : List UInt8) then ((scan_Valid.f (⟨#[192, 128]⟩ : ByteArray)).bind fun t139 => (some (!t139))) else (some false))) else (some false))) else (some false))) else (some false)) else (some false)) else (some false)) else (some false)) else (some false)) else (some false)) else (some false)) else (some false)) else (some false)) else (some false)) else (some false)) = some r := by rw [if_pos rfl] at H; exact H
    clear H
    have H := H1
    clear H1
    by_cases c10 : t116 = 0
    · rw [if_pos c10] at H
      have c10b0 : (t116 == 0) = true := beq_iff_eq.mpr c10
      have c10b1 : (t116 != 0) = false := bne_eq_false_iff_eq.mpr c10
      clear c10
      by_cases c11 : t114.toList = ([65, 240, 159, 152, 128] : List UInt8)
      · rw [if_pos c11] at H
        have c11b0 : (t114.toList == ([65, 240, 159, 152, 128] : List UInt8)) = true := beq_iff_eq.mpr c11
        have c11b1 : (t114.toList != ([65, 240, 159, 152, 128] : List UInt8)) = false := bne_eq_false_iff_eq.mpr c11
        clear c11
        by_cases c12 : t115 = 20
        · rw [if_pos c12] at H
          have c12b0 : (t115 == 20) = true := beq_iff_eq.mpr c12
          have c12b1 : (t115 != 20) = false := bne_eq_false_iff_eq.mpr c12
          clear c12
          by_cases c13 : t119 = 0
          · rw [if_pos c13] at H
            have c13b0 : (t119 == 0) = true := beq_iff_eq.mpr c13
            have c13b1 : (t119 != 0) = false := bne_eq_false_iff_eq.mpr c13
            clear c13
            by_cases c14 : t117 = (-12)
            · rw [if_pos c14] at H
              have c14b0 : (t117 == (-12)) = true := beq_iff_eq.mpr c14
              have c14b1 : (t117 != (-12)) = false := bne_eq_false_iff_eq.mpr c14
              clear c14
              by_cases c15 : t118 = 3
              · rw [if_pos c15] at H
                have c15b0 : (t118 == 3) = true := beq_iff_eq.mpr c15
                have c15b1 : (t118 != 3) = false := bne_eq_false_iff_eq.mpr c15
                clear c15
                by_cases c16 : t122 = 5
                · rw [if_pos c16] at H
                  have c16b0 : (t122 == 5) = true := beq_iff_eq.mpr c16
                  have c16b1 : (t122 != 5) = false := bne_eq_false_iff_eq.mpr c16
                  clear c16
                  by_cases c17 : t125 = 5
                  · rw [if_pos c17] at H
                    have c17b0 : (t125 == 5) = true := beq_iff_eq.mpr c17
                    have c17b1 : (t125 != 5) = false := bne_eq_false_iff_eq.mpr c17
                    clear c17
                    by_cases c18 : t128 = 6
                    · rw [if_pos c18] at H
                      have c18b0 : (t128 == 6) = true := beq_iff_eq.mpr c18
                      have c18b1 : (t128 != 6) = false := bne_eq_false_iff_eq.mpr c18
                      clear c18
                      by_cases c19 : t131 = 6
                      · rw [if_pos c19] at H
                        have c19b0 : (t131 == 6) = true := beq_iff_eq.mpr c19
                        have c19b1 : (t131 != 6) = false := bne_eq_false_iff_eq.mpr c19
                        clear c19
                        by_cases c20 : t134 = 3
                        · rw [if_pos c20] at H
                          have c20b0 : (t134 == 3) = true := beq_iff_eq.mpr c20
                          have c20b1 : (t134 != 3) = false := bne_eq_false_iff_eq.mpr c20
                          clear c20
                          replace H := Option.bind_eq_some_iff.mp H
                          obtain ⟨t136, A210, H⟩ := H
                          replace H : (if t136 = 4 then ((scan_Word.f (⟨#[116, 114, 117, 101, 120]⟩ : ByteArray)).bind fun t137 => (if t137.toList = ([116, 114, 117, 101] : List UInt8) then ((scan_Word.f (⟨#[116, 114, 117]⟩ : ByteArray)).bind fun t138 => (if t138.toList = ([] : List UInt8) then ((scan_Valid.f (⟨#[192, 128]⟩ : ByteArray)).bind fun t139 => (some (!t139))) else (some false))) else (some false))) else (some false)) = some r := H
                          have A21 := Aside0.mk A210
                          clear A210
                          by_cases c22 : t136 = 4
                          · rw [if_pos c22] at H
                            have c22b0 : (t136 == 4) = true := beq_iff_eq.mpr c22
                            have c22b1 : (t136 != 4) = false := bne_eq_false_iff_eq.mpr c22
                            clear c22
                            replace H := Option.bind_eq_some_iff.mp H
                            obtain ⟨t137, A230, H⟩ := H
                            replace H : (if t137.toList = ([116, 114, 117, 101] : List UInt8) then ((scan_Word.f (⟨#[116, 114, 117]⟩ : ByteArray)).bind fun t138 => (if t138.toList = ([] : List UInt8) then ((scan_Valid.f (⟨#[192, 128]⟩ : ByteArray)).bind fun t139 => (some (!t139))) else (some false))) else (some false)) = some r := H
                            have A23 := Aside0.mk A230
                            clear A230
                            by_cases c24 : t137.toList = ([116, 114, 117, 101] : List UInt8)
                            · rw [if_pos c24] at H
                              have c24b0 : (t137.toList == ([116, 114, 117, 101] : List UInt8)) = true := beq_iff_eq.mpr c24
                              have c24b1 : (t137.toList != ([116, 114, 117, 101] : List UInt8)) = false := bne_eq_false_iff_eq.mpr c24
                              clear c24
                              replace H := Option.bind_eq_some_iff.mp H
                              obtain ⟨t138, A250, H⟩ := H
                              replace H : (if t138.toList = ([] : List UInt8) then ((scan_Valid.f (⟨#[192, 128]⟩ : ByteArray)).bind fun t139 => (some (!t139))) else (some false)) = some r := H
                              have A25 := Aside0.mk A250
                              clear A250
                              by_cases c26 : t138.toList = ([] : List UInt8)
                              · rw [if_pos c26] at H
                                have c26b0 : (t138.toList == ([] : List UInt8)) = true := beq_iff_eq.mpr c26
                                have c26b1 : (t138.toList != ([] : List UInt8)) = false := bne_eq_false_iff_eq.mpr c26
                                clear c26
                                replace H := Option.bind_eq_some_iff.mp H
                                obtain ⟨t139, A270, H⟩ := H
                                replace H : (some (!t139)) = some r := H
                                have A27 := Aside0.mk A270
                                clear A270
                                obtain rfl := Option.some.inj H
                                go_enter Tryd.func7, Tryd.ntmps7
                                go_wp2_with (first | ((with_reducible refine gate_callee (f := 12) rfl ?_); refine goesL_ (some 23) rfl rfl Tryd.func12 (by kernel_rfl) rfl #[.string (⟨#[34, 92, 117, 48, 48, 52, 49, 92, 117, 100, 56, 51, 100, 92, 117, 100, 101, 48, 48, 34, 120]⟩ : ByteArray)] rfl (by (try simp only [List.map_toArray, List.map_cons, List.map_nil]); first | done | rfl | (simp only [List.length_drop, List.length_take]; rfl)) ?_; (with_reducible refine (scan_Unquote.calls k (⟨#[34, 92, 117, 48, 48, 52, 49, 92, 117, 100, 56, 51, 100, 92, 117, 100, 101, 48, 48, 34, 120]⟩ : ByteArray) t114 t115 t116 _ ?side1 A1.out).mono ?_); (case side1 => exact TabU.at HTTabU_.out (by repeat (first | (with_reducible first | exact HB.out | apply below_alloc | apply pw_below_drewN | apply below_drew1) | exact HB.out))); rintro e w28 ⟨rfl, hb⟩; refine ⟨_, rfl, ?_⟩; have n0_ := Aside0.mk (below_step (by repeat (first | (with_reducible first | exact HB.out | apply below_alloc | apply pw_below_drewN | apply below_drew1) | exact HB.out)) hb); clear HB; have HB := n0_; clear n0_; (try clear hb); (try clear hb2); (try clear hk); (try clear hi)) | ((with_reducible refine gate_callee (f := 17) rfl ?_); refine goesL_ (some 28) rfl rfl Tryd.func17 (by kernel_rfl) rfl #[.string (⟨#[45, 49, 50, 44]⟩ : ByteArray)] rfl (by (try simp only [List.map_toArray, List.map_cons, List.map_nil]); first | done | rfl | (simp only [List.length_drop, List.length_take]; rfl)) ?_; (with_reducible refine (scan_ReadNumber.calls (⟨#[45, 49, 50, 44]⟩ : ByteArray) t117 t118 t119 _ A2.out).mono ?_); rintro e w' ⟨rfl, ⟨nd, rfl⟩⟩; refine ⟨_, rfl, ?_⟩) | ((with_reducible refine gate_callee (f := 17) rfl ?_); refine goesL_ (some 33) rfl rfl Tryd.func17 (by kernel_rfl) rfl #[.string (⟨#[48, 49]⟩ : ByteArray)] rfl (by (try simp only [List.map_toArray, List.map_cons, List.map_nil]); first | done | rfl | (simp only [List.length_drop, List.length_take]; rfl)) ?_; (with_reducible refine (scan_ReadNumber.calls (⟨#[48, 49]⟩ : ByteArray) t120 t121 t122 _ A3.out).mono ?_); rintro e w' ⟨rfl, ⟨nd, rfl⟩⟩; refine ⟨_, rfl, ?_⟩) | ((with_reducible refine gate_callee (f := 17) rfl ?_); refine goesL_ (some 38) rfl rfl Tryd.func17 (by kernel_rfl) rfl #[.string (⟨#[45, 48]⟩ : ByteArray)] rfl (by (try simp only [List.map_toArray, List.map_cons, List.map_nil]); first | done | rfl | (simp only [List.length_drop, List.length_take]; rfl)) ?_; (with_reducible refine (scan_ReadNumber.calls (⟨#[45, 48]⟩ : ByteArray) t123 t124 t125 _ A4.out).mono ?_); rintro e w' ⟨rfl, ⟨nd, rfl⟩⟩; refine ⟨_, rfl, ?_⟩) | ((with_reducible refine gate_callee (f := 12) rfl ?_); refine goesL_ (some 43) rfl rfl Tryd.func12 (by kernel_rfl) rfl #[.string (⟨#[34, 92, 117, 100, 99, 48, 48, 34]⟩ : ByteArray)] rfl (by (try simp only [List.map_toArray, List.map_cons, List.map_nil]); first | done | rfl | (simp only [List.length_drop, List.length_take]; rfl)) ?_; (with_reducible refine (scan_Unquote.calls k (⟨#[34, 92, 117, 100, 99, 48, 48, 34]⟩ : ByteArray) t126 t127 t128 _ ?side1 A5.out).mono ?_); (case side1 => exact TabU.at HTTabU_.out (by repeat (first | (with_reducible first | exact HB.out | apply below_alloc | apply pw_below_drewN | apply below_drew1) | exact HB.out))); rintro e w29 ⟨rfl, hb⟩; refine ⟨_, rfl, ?_⟩; have n0_ := Aside0.mk (below_step (by repeat (first | (with_reducible first | exact HB.out | apply below_alloc | apply pw_below_drewN | apply below_drew1) | exact HB.out)) hb); clear HB; have HB := n0_; clear n0_; (try clear hb); (try clear hb2); (try clear hk); (try clear hi)) | ((with_reducible refine gate_callee (f := 12) rfl ?_); refine goesL_ (some 48) rfl rfl Tryd.func12 (by kernel_rfl) rfl #[.string (⟨#[34, 92, 117, 100, 56, 51, 100, 34]⟩ : ByteArray)] rfl (by (try simp only [List.map_toArray, List.map_cons, List.map_nil]); first | done | rfl | (simp only [List.length_drop, List.length_take]; rfl)) ?_; (with_reducible refine (scan_Unquote.calls k (⟨#[34, 92, 117, 100, 56, 51, 100, 34]⟩ : ByteArray) t129 t130 t131 _ ?side1 A6.out).mono ?_); (case side1 => exact TabU.at HTTabU_.out (by repeat (first | (with_reducible first | exact HB.out | apply below_alloc | apply pw_below_drewN | apply below_drew1) | exact HB.out))); rintro e w30 ⟨rfl, hb⟩; refine ⟨_, rfl, ?_⟩; have n0_ := Aside0.mk (below_step (by repeat (first | (with_reducible first | exact HB.out | apply below_alloc | apply pw_below_drewN | apply below_drew1) | exact HB.out)) hb); clear HB; have HB := n0_; clear n0_; (try clear hb); (try clear hb2); (try clear hk); (try clear hi)) | ((with_reducible refine gate_callee (f := 12) rfl ?_); refine goesL_ (some 53) rfl rfl Tryd.func12 (by kernel_rfl) rfl #[.string (⟨#[34, 97]⟩ : ByteArray)] rfl (by (try simp only [List.map_toArray, List.map_cons, List.map_nil]); first | done | rfl | (simp only [List.length_drop, List.length_take]; rfl)) ?_; (with_reducible refine (scan_Unquote.calls k (⟨#[34, 97]⟩ : ByteArray) t132 t133 t134 _ ?side1 A7.out).mono ?_); (case side1 => exact TabU.at HTTabU_.out (by repeat (first | (with_reducible first | exact HB.out | apply below_alloc | apply pw_below_drewN | apply below_drew1) | exact HB.out))); rintro e w31 ⟨rfl, hb⟩; refine ⟨_, rfl, ?_⟩; have n0_ := Aside0.mk (below_step (by repeat (first | (with_reducible first | exact HB.out | apply below_alloc | apply pw_below_drewN | apply below_drew1) | exact HB.out)) hb); clear HB; have HB := n0_; clear n0_; (try clear hb); (try clear hb2); (try clear hk); (try clear hi)) | ((with_reducible refine gate_callee (f := 9) rfl ?_); refine goesL_ (some 57) rfl rfl Tryd.func9 (by kernel_rfl) rfl #[] rfl (by (try simp only [List.map_toArray, List.map_cons, List.map_nil]); first | done | rfl | (simp only [List.length_drop, List.length_take]; rfl)) ?_; (with_reducible refine (outlawlaw01_lives.calls  true _ ?side1 A8.out).mono ?_); (case side1 => exact TabU.at HTTabU_.out (by repeat (first | (with_reducible first | exact HB.out | apply below_alloc | apply pw_below_drewN | apply below_drew1) | exact HB.out))); rintro e w32 ⟨rfl, hb⟩; refine ⟨_, rfl, ?_⟩; have n0_ := Aside0.mk (below_step (by repeat (first | (with_reducible first | exact HB.out | apply below_alloc | apply pw_below_drewN | apply below_drew1) | exact HB.out)) hb); clear HB; have HB := n0_; clear n0_; (try clear hb); (try clear hb2); (try clear hk); (try clear hi)) | (go_at_call 18; (with_reducible refine (scan_Space.calls (⟨#[32, 9, 13, 10, 120]⟩ : ByteArray) t136 _ A21.out).mono ?_); rintro e w33 ⟨rfl, hb⟩; have n0_ := Aside0.mk (below_step (by repeat (first | (with_reducible first | exact HB.out | apply below_alloc | apply pw_below_drewN | apply below_drew1) | exact HB.out)) hb); clear HB; have HB := n0_; clear n0_; (try clear hb); (try clear hb2); (try clear hk); (try clear hi)) | (go_at_call 19; (with_reducible refine (scan_Word.calls (⟨#[116, 114, 117, 101, 120]⟩ : ByteArray) t137 _ A23.out).mono ?_); rintro e w' ⟨rfl, ⟨nd, rfl⟩⟩) | (go_at_call 19; (with_reducible refine (scan_Word.calls (⟨#[116, 114, 117]⟩ : ByteArray) t138 _ A25.out).mono ?_); rintro e w' ⟨rfl, ⟨nd, rfl⟩⟩) | (go_at_call 11; (with_reducible refine (scan_Valid.calls (⟨#[192, 128]⟩ : ByteArray) t139 _ ?side1 A27.out).mono ?_); (case side1 => exact TabU.at HTTabU_.out (by repeat (first | (with_reducible first | exact HB.out | apply below_alloc | apply pw_below_drewN | apply below_drew1) | exact HB.out))); rintro e w34 ⟨rfl, hb⟩; have n0_ := Aside0.mk (below_step (by repeat (first | (with_reducible first | exact HB.out | apply below_alloc | apply pw_below_drewN | apply below_drew1) | exact HB.out)) hb); clear HB; have HB := n0_; clear n0_; (try clear hb); (try clear hb2); (try clear hk); (try clear hi)))
                                go_ret
                                exact ⟨by first | rfl | (simp [errW_none, errW_some] <;> rfl) | (simp [*, errW_none, errW_some] <;> rfl), by repeat (first | (with_reducible first | exact HB.out | apply below_alloc | apply pw_below_drewN | apply below_drew1) | exact HB.out)⟩
                              · rw [if_neg c26] at H
                                have c26b0 : (t138.toList == ([] : List UInt8)) = false := beq_eq_false_iff_ne.mpr c26
                                have c26b1 : (t138.toList != ([] : List UInt8)) = true := bne_iff_ne.mpr c26
                                exact absurd ((Option.some.inj H).trans hr_.out) (by decide)
                            · rw [if_neg c24] at H
                              have c24b0 : (t137.toList == ([116, 114, 117, 101] : List UInt8)) = false := beq_eq_false_iff_ne.mpr c24
                              have c24b1 : (t137.toList != ([116, 114, 117, 101] : List UInt8)) = true := bne_iff_ne.mpr c24
                              exact absurd ((Option.some.inj H).trans hr_.out) (by decide)
                          · rw [if_neg c22] at H
                            have c22b0 : (t136 == 4) = false := beq_eq_false_iff_ne.mpr c22
                            have c22b1 : (t136 != 4) = true := bne_iff_ne.mpr c22
                            exact absurd ((Option.some.inj H).trans hr_.out) (by decide)
                        · rw [if_neg c20] at H
                          have c20b0 : (t134 == 3) = false := beq_eq_false_iff_ne.mpr c20
                          have c20b1 : (t134 != 3) = true := bne_iff_ne.mpr c20
                          exact absurd ((Option.some.inj H).trans hr_.out) (by decide)
                      · rw [if_neg c19] at H
                        have c19b0 : (t131 == 6) = false := beq_eq_false_iff_ne.mpr c19
                        have c19b1 : (t131 != 6) = true := bne_iff_ne.mpr c19
                        exact absurd ((Option.some.inj H).trans hr_.out) (by decide)
                    · rw [if_neg c18] at H
                      have c18b0 : (t128 == 6) = false := beq_eq_false_iff_ne.mpr c18
                      have c18b1 : (t128 != 6) = true := bne_iff_ne.mpr c18
                      exact absurd ((Option.some.inj H).trans hr_.out) (by decide)
                  · rw [if_neg c17] at H
                    have c17b0 : (t125 == 5) = false := beq_eq_false_iff_ne.mpr c17
                    have c17b1 : (t125 != 5) = true := bne_iff_ne.mpr c17
                    exact absurd ((Option.some.inj H).trans hr_.out) (by decide)
                · rw [if_neg c16] at H
                  have c16b0 : (t122 == 5) = false := beq_eq_false_iff_ne.mpr c16
                  have c16b1 : (t122 != 5) = true := bne_iff_ne.mpr c16
                  exact absurd ((Option.some.inj H).trans hr_.out) (by decide)
              · rw [if_neg c15] at H
                have c15b0 : (t118 == 3) = false := beq_eq_false_iff_ne.mpr c15
                have c15b1 : (t118 != 3) = true := bne_iff_ne.mpr c15
                exact absurd ((Option.some.inj H).trans hr_.out) (by decide)
            · rw [if_neg c14] at H
              have c14b0 : (t117 == (-12)) = false := beq_eq_false_iff_ne.mpr c14
              have c14b1 : (t117 != (-12)) = true := bne_iff_ne.mpr c14
              exact absurd ((Option.some.inj H).trans hr_.out) (by decide)
          · rw [if_neg c13] at H
            have c13b0 : (t119 == 0) = false := beq_eq_false_iff_ne.mpr c13
            have c13b1 : (t119 != 0) = true := bne_iff_ne.mpr c13
            exact absurd ((Option.some.inj H).trans hr_.out) (by decide)
        · rw [if_neg c12] at H
          have c12b0 : (t115 == 20) = false := beq_eq_false_iff_ne.mpr c12
          have c12b1 : (t115 != 20) = true := bne_iff_ne.mpr c12
          exact absurd ((Option.some.inj H).trans hr_.out) (by decide)
      · rw [if_neg c11] at H
        have c11b0 : (t114.toList == ([65, 240, 159, 152, 128] : List UInt8)) = false := beq_eq_false_iff_ne.mpr c11
        have c11b1 : (t114.toList != ([65, 240, 159, 152, 128] : List UInt8)) = true := bne_iff_ne.mpr c11
        exact absurd ((Option.some.inj H).trans hr_.out) (by decide)
    · rw [if_neg c10] at H
      have c10b0 : (t116 == 0) = false := beq_eq_false_iff_ne.mpr c10
      have c10b1 : (t116 != 0) = true := bne_iff_ne.mpr c10
      exact absurd ((Option.some.inj H).trans hr_.out) (by decide)
  · replace c9 := Bool.eq_false_iff.mpr c9
    subst c9
    have H1 : (some false) = some r := by rw [if_neg (show ¬ (false = true) by decide)] at H; exact H
    clear H
    have H := H1
    clear H1
    exact absurd ((Option.some.inj H).trans hr_.out) (by decide)

/-- THE ONE PURE STATEMENT of outlawlaw01_ScanNames: yours. -/
def outlawlaw01_ScanNames.Pure : Prop := ∃ k, outlawlaw01_ScanNames.f k  = some true
theorem outlawlaw01_ScanNames.walk (P : outlawlaw01_ScanNames.Pure)  (w : World) (htTabU_ : TabU w)  :
    Calls Tryd.prog 7 #[] w fun e w' => e = .returned (.bool true) ∧ Below w.heap.size w w' := by
  obtain ⟨k, h⟩ := P  
  refine (outlawlaw01_ScanNames.calls k  true w ⟨rfl⟩ htTabU_ h).mono ?_
  rintro e w' ⟨rfl, hd⟩
  exact ⟨rfl, hd⟩

end Go.Proofs.YtfmenojhojmedaaDoor.PB
