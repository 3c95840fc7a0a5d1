-- Written by a program of this session (gprint.py, a turned print with given contracts).
import Derived.Test.YtfmenojhojmedaaDoorMa
import Derived.Test.YtfmenojhojmedaaDoorMb
import Derived.Test.YtfmenojhojmedaaDoorMd
import Derived.Test.YtfmenojhojmedaaDoorMc
namespace Go.Proofs.YtfmenojhojmedaaDoor.PB
open Go.RowKit Go.Proofs.YtfmenojhojmedaaDoorW.PrintWords Go.Proofs.YtfmenojhojmedaaDoorW.PrintLast Go.Proofs.YtfmenojhojmedaaDoorW.PrintMore Go.Proofs.YtfmenojhojmedaaDoorG Go.Proofs.YtfmenojhojmedaaDoorX
attribute [local go_sem] max2_int min2_int max_two min_two max_three min_three max_four min_four   -- for this text's walks alone
set_option linter.unusedVariables false
set_option linter.unusedSimpArgs false

/-! ### outlawlaw01_ScanCalls: function 8 -/
def outlawlaw01_ScanCalls.f (k : Nat) (a0 : ByteArray) (a1 : Int) : Option (Bool) := (outlawlaw01_lives.f).bind fun t217 => (if t217 = true then (if (a0.size : Int) > 2000 then (some true) else ((scan_Quote.f a0).bind fun bt218 => ((outlawref01_Quote.f k a0).bind fun bt220 => ((scan_Unquote.f k a0).bind fun bt222 => ((outlawref01_Unquote.f k a0).bind fun bt225 => ((scan_ReadNumber.f a0).bind fun bt228 => ((outlawref01_ReadNumber.f k a0).bind fun bt231 => ((scan_Number.f a1).bind fun bt234 => ((outlawref01_Number.f k a1).bind fun bt236 => (if bt218.1.toList = bt220.1.toList then (if bt218.2 = bt220.2 then (if bt222.1.toList = bt225.1.toList then (if bt222.2.1 = bt225.2.1 then (if bt222.2.2 = bt225.2.2 then (if bt228.1 = bt231.1 then (if bt228.2.1 = bt231.2.1 then (if bt228.2.2 = bt231.2.2 then (if bt234.1.toList = bt236.1.toList then (if bt234.2 = bt236.2 then ((scan_Space.f a0).bind fun t238 => ((outlawref01_Space.f k a0).bind fun t239 => (if t238 = t239 then ((scan_Word.f a0).bind fun t240 => ((outlawref01_Word.f k a0).bind fun t241 => (if t240.toList = t241.toList then ((scan_Valid.f a0).bind fun t242 => ((outlawref01_Valid.f k a0).bind fun t243 => (some (t242 == t243)))) else (some false)))) else (some false)))) else (some false)) else (some false)) else (some false)) else (some false)) else (some false)) else (some false)) else (some false)) else (some false)) else (some false)) else (some false))))))))))) else (some false))
theorem outlawlaw01_ScanCalls.mono : ∀ a0 a1 k, LeO (outlawlaw01_ScanCalls.f k a0 a1) (outlawlaw01_ScanCalls.f (k + 1) a0 a1) := by
  intro a0 a1 k
  unfold outlawlaw01_ScanCalls.f
  repeat' first
      | (with_reducible exact outlawref01_Number.mono _ _)
      | (with_reducible exact outlawref01_Quote.mono _ _)
      | (with_reducible exact outlawref01_ReadNumber.mono _ _)
      | (with_reducible exact outlawref01_Space.mono _ _)
      | (with_reducible exact outlawref01_Unquote.mono _ _)
      | (with_reducible exact outlawref01_Valid.mono _ _)
      | (with_reducible exact outlawref01_Word.mono _ _)
      | (with_reducible exact scan_Unquote.mono _ _)
      | (with_reducible exact LeO.refl _)
      | (with_reducible exact LeO.none _)
      | (with_reducible refine LeO.ite ?_ ?_)
      | (with_reducible refine LeO.bind ?_ (fun _ => ?_))
      | exact outlawref01_Number.mono _ _
      | exact outlawref01_Quote.mono _ _
      | exact outlawref01_ReadNumber.mono _ _
      | exact outlawref01_Space.mono _ _
      | exact outlawref01_Unquote.mono _ _
      | exact outlawref01_Valid.mono _ _
      | exact outlawref01_Word.mono _ _
      | exact scan_Unquote.mono _ _
      | exact LeO.none _
      | refine LeO.ite ?_ ?_
      | refine LeO.bind ?_ (fun _ => ?_)
set_option maxHeartbeats 8000000 in
set_option maxRecDepth 100000 in
theorem outlawlaw01_ScanCalls.calls (k : Nat) (a0 : ByteArray) (a1 : Int) (r : Bool) (w : World) (hr_ : Aside0 (r = true)) (htTabN_ : TabN w) (htTabU_ : TabU w) (h : outlawlaw01_ScanCalls.f k a0 a1 = some r) :
    Calls Tryd.prog 8 #[.string a0, .int .i64 a1] w fun e w' => e = .returned (.bool r) ∧ Below w.heap.size w w' := by
  have HTTabN_ := Aside0.mk htTabN_
  clear htTabN_
  have HTTabU_ := Aside0.mk htTabU_
  clear htTabU_
  have HB := Aside0.mk (Below.refl w.heap.size w)
  have H : ((outlawlaw01_lives.f).bind fun t217 => (if t217 = true then (if (a0.size : Int) > 2000 then (some true) else ((scan_Quote.f a0).bind fun bt218 => ((outlawref01_Quote.f k a0).bind fun bt220 => ((scan_Unquote.f k a0).bind fun bt222 => ((outlawref01_Unquote.f k a0).bind fun bt225 => ((scan_ReadNumber.f a0).bind fun bt228 => ((outlawref01_ReadNumber.f k a0).bind fun bt231 => ((scan_Number.f a1).bind fun bt234 => ((outlawref01_Number.f k a1).bind fun bt236 => (if bt218.1.toList = bt220.1.toList then (if bt218.2 = bt220.2 then (if bt222.1.toList = bt225.1.toList then (if bt222.2.1 = bt225.2.1 then (if bt222.2.2 = bt225.2.2 then (if bt228.1 = bt231.1 then (if bt228.2.1 = bt231.2.1 then (if bt228.2.2 = bt231.2.2 then (if bt234.1.toList = bt236.1.toList then (if bt234.2 = bt236.2 then ((scan_Space.f a0).bind fun t238 => ((outlawref01_Space.f k a0).bind fun t239 => (if t238 = t239 then ((scan_Word.f a0).bind fun t240 => ((outlawref01_Word.f k a0).bind fun t241 => (if t240.toList = t241.toList then ((scan_Valid.f a0).bind fun t242 => ((outlawref01_Valid.f k a0).bind fun t243 => (some (t242 == t243)))) else (some false)))) else (some false)))) else (some false)) else (some false)) else (some false)) else (some false)) else (some false)) else (some false)) else (some false)) else (some false)) else (some false)) else (some false))))))))))) else (some false))) = some r := h
  clear h
  replace H := Option.bind_eq_some_iff.mp H
  obtain ⟨t217, A30, H⟩ := H
  replace H : (if t217 = true then (if (a0.size : Int) > 2000 then (some true) else ((scan_Quote.f a0).bind fun bt218 => ((outlawref01_Quote.f k a0).bind fun bt220 => ((scan_Unquote.f k a0).bind fun bt222 => ((outlawref01_Unquote.f k a0).bind fun bt225 => ((scan_ReadNumber.f a0).bind fun bt228 => ((outlawref01_ReadNumber.f k a0).bind fun bt231 => ((scan_Number.f a1).bind fun bt234 => ((outlawref01_Number.f k a1).bind fun bt236 => (if bt218.1.toList = bt220.1.toList then (if bt218.2 = bt220.2 then (if bt222.1.toList = bt225.1.toList then (if bt222.2.1 = bt225.2.1 then (if bt222.2.2 = bt225.2.2 then (if bt228.1 = bt231.1 then (if bt228.2.1 = bt231.2.1 then (if bt228.2.2 = bt231.2.2 then (if bt234.1.toList = bt236.1.toList then (if bt234.2 = bt236.2 then ((scan_Space.f a0).bind fun t238 => ((outlawref01_Space.f k a0).bind fun t239 => (if t238 = t239 then ((scan_Word.f a0).bind fun t240 => ((outlawref01_Word.f k a0).bind fun t241 => (if t240.toList = t241.toList then ((scan_Valid.f a0).bind fun t242 => ((outlawref01_Valid.f k a0).bind fun t243 => (some (t242 == t243)))) else (some false)))) else (some false)))) else (some false)) else (some false)) else (some false)) else (some false)) else (some false)) else (some false)) else (some false)) else (some false)) else (some false)) else (some false))))))))))) else (some false)) = some r := H
  have A3 := Aside0.mk A30
  clear A30
  by_cases c4 : t217 = true
  · subst c4
    have H1 : (if (a0.size : Int) > 2000 then (some true) else ((scan_Quote.f a0).bind fun bt218 => ((outlawref01_Quote.f k a0).bind fun bt220 => ((scan_Unquote.f k a0).bind fun bt222 => ((outlawref01_Unquote.f k a0).bind fun bt225 => ((scan_ReadNumber.f a0).bind fun bt228 => ((outlawref01_ReadNumber.f k a0).bind fun bt231 => ((scan_Number.f a1).bind fun bt234 => ((outlawref01_Number.f k a1).bind fun bt236 => (if bt218.1.toList = bt220.1.toList then (if bt218.2 = bt220.2 then (if bt222.1.toList = bt225.1.toList then (if bt222.2.1 = bt225.2.1 then (if bt222.2.2 = bt225.2.2 then (if bt228.1 = bt231.1 then (if bt228.2.1 = bt231.2.1 then (if bt228.2.2 = bt231.2.2 then (if bt234.1.toList = bt236.1.toList then (if bt234.2 = bt236.2 then ((scan_Space.f a0).bind fun t238 => ((outlawref01_Space.f k a0).bind fun t239 => (if t238 = t239 then ((scan_Word.f a0).bind fun t240 => ((outlawref01_Word.f k a0).bind fun t241 => (if t240.toList = t241.toList then ((scan_Valid.f a0).bind fun t242 => ((outlawref01_Valid.f k a0).bind fun t243 => (some (t242 == t243)))) else (some false)))) else (some false)))) else (some false)) else (some false)) else (some false)) else (some false)) else (some false)) else (some false)) else (some false)) else (some false)) else (some false)) else (some false))))))))))) = some r := by rw [if_pos rfl] at H; exact H
    clear H
    have H := H1
    clear H1
    by_cases c5 : (a0.size : Int) > 2000
    · rw [if_pos c5] at H
      have c5b0 : decide (2000 < (a0.size : Int)) = true := decide_eq_true c5
      have c5b1 : decide (2000 < a0.size) = true := decide_eq_true (by omega)
      clear c5
      obtain rfl := Option.some.inj H
      go_enter Tryd.func8, Tryd.ntmps8
      go_wp2_with (first | ((with_reducible refine gate_callee (f := 9) rfl ?_); refine goesL_ (some 25) rfl rfl Tryd.func9 (by kernel_rfl) rfl #[] rfl (by (try simp only [List.map_toArray, List.map_cons, List.map_nil]); first | done | rfl | (simp only [List.length_drop, List.length_take]; rfl)) ?_; (with_reducible refine (outlawlaw01_lives.calls  true _ ?side1 A3.out).mono ?_); (case side1 => exact TabU.at HTTabU_.out (by repeat (first | (with_reducible first | exact HB.out | apply below_alloc | apply pw_below_drewN | apply below_drew1) | exact HB.out))); rintro e w6 ⟨rfl, hb⟩; refine ⟨_, rfl, ?_⟩; have n0_ := Aside0.mk (below_step (by repeat (first | (with_reducible first | exact HB.out | apply below_alloc | apply pw_below_drewN | apply below_drew1) | exact HB.out)) hb); clear HB; have HB := n0_; clear n0_; (try clear hb); (try clear hb2); (try clear hk); (try clear hi)))
      go_ret
      exact ⟨by first | rfl | (simp [errW_none, errW_some] <;> rfl) | (simp [*, errW_none, errW_some] <;> rfl), by repeat (first | (with_reducible first | exact HB.out | apply below_alloc | apply pw_below_drewN | apply below_drew1) | exact HB.out)⟩
    · rw [if_neg c5] at H
      have c5b0 : decide (2000 < (a0.size : Int)) = false := decide_eq_false c5
      have c5b1 : decide (2000 < a0.size) = false := decide_eq_false (by omega)
      clear c5
      replace H := Option.bind_eq_some_iff.mp H
      obtain ⟨⟨t218, t219⟩, A70, H⟩ := H
      replace H : ((outlawref01_Quote.f k a0).bind fun bt220 => ((scan_Unquote.f k a0).bind fun bt222 => ((outlawref01_Unquote.f k a0).bind fun bt225 => ((scan_ReadNumber.f a0).bind fun bt228 => ((outlawref01_ReadNumber.f k a0).bind fun bt231 => ((scan_Number.f a1).bind fun bt234 => ((outlawref01_Number.f k a1).bind fun bt236 => (if t218.toList = bt220.1.toList then (if t219 = bt220.2 then (if bt222.1.toList = bt225.1.toList then (if bt222.2.1 = bt225.2.1 then (if bt222.2.2 = bt225.2.2 then (if bt228.1 = bt231.1 then (if bt228.2.1 = bt231.2.1 then (if bt228.2.2 = bt231.2.2 then (if bt234.1.toList = bt236.1.toList then (if bt234.2 = bt236.2 then ((scan_Space.f a0).bind fun t238 => ((outlawref01_Space.f k a0).bind fun t239 => (if t238 = t239 then ((scan_Word.f a0).bind fun t240 => ((outlawref01_Word.f k a0).bind fun t241 => (if t240.toList = t241.toList then ((scan_Valid.f a0).bind fun t242 => ((outlawref01_Valid.f k a0).bind fun t243 => (some (t242 == t243)))) else (some false)))) else (some false)))) else (some false)) else (some false)) else (some false)) else (some false)) else (some false)) else (some false)) else (some false)) else (some false)) else (some false)) else (some false))))))))) = some r := H
      have A7 := Aside0.mk A70
      clear A70
      replace H := Option.bind_eq_some_iff.mp H
      obtain ⟨⟨t220, t221⟩, A80, H⟩ := H
      replace H : ((scan_Unquote.f k a0).bind fun bt222 => ((outlawref01_Unquote.f k a0).bind fun bt225 => ((scan_ReadNumber.f a0).bind fun bt228 => ((outlawref01_ReadNumber.f k a0).bind fun bt231 => ((scan_Number.f a1).bind fun bt234 => ((outlawref01_Number.f k a1).bind fun bt236 => (if t218.toList = t220.toList then (if t219 = t221 then (if bt222.1.toList = bt225.1.toList then (if bt222.2.1 = bt225.2.1 then (if bt222.2.2 = bt225.2.2 then (if bt228.1 = bt231.1 then (if bt228.2.1 = bt231.2.1 then (if bt228.2.2 = bt231.2.2 then (if bt234.1.toList = bt236.1.toList then (if bt234.2 = bt236.2 then ((scan_Space.f a0).bind fun t238 => ((outlawref01_Space.f k a0).bind fun t239 => (if t238 = t239 then ((scan_Word.f a0).bind fun t240 => ((outlawref01_Word.f k a0).bind fun t241 => (if t240.toList = t241.toList then ((scan_Valid.f a0).bind fun t242 => ((outlawref01_Valid.f k a0).bind fun t243 => (some (t242 == t243)))) else (some false)))) else (some false)))) else (some false)) else (some false)) else (some false)) else (some false)) else (some false)) else (some false)) else (some false)) else (some false)) else (some false)) else (some false)))))))) = some r := H
      have A8 := Aside0.mk A80
      clear A80
      replace H := Option.bind_eq_some_iff.mp H
      obtain ⟨⟨t222, t223, t224⟩, A90, H⟩ := H
      replace H : ((outlawref01_Unquote.f k a0).bind fun bt225 => ((scan_ReadNumber.f a0).bind fun bt228 => ((outlawref01_ReadNumber.f k a0).bind fun bt231 => ((scan_Number.f a1).bind fun bt234 => ((outlawref01_Number.f k a1).bind fun bt236 => (if t218.toList = t220.toList then (if t219 = t221 then (if t222.toList = bt225.1.toList then (if t223 = bt225.2.1 then (if t224 = bt225.2.2 then (if bt228.1 = bt231.1 then (if bt228.2.1 = bt231.2.1 then (if bt228.2.2 = bt231.2.2 then (if bt234.1.toList = bt236.1.toList then (if bt234.2 = bt236.2 then ((scan_Space.f a0).bind fun t238 => ((outlawref01_Space.f k a0).bind fun t239 => (if t238 = t239 then ((scan_Word.f a0).bind fun t240 => ((outlawref01_Word.f k a0).bind fun t241 => (if t240.toList = t241.toList then ((scan_Valid.f a0).bind fun t242 => ((outlawref01_Valid.f k a0).bind fun t243 => (some (t242 == t243)))) else (some false)))) else (some false)))) else (some false)) else (some false)) else (some false)) else (some false)) else (some false)) else (some false)) else (some false)) else (some false)) else (some false)) else (some false))))))) = some r := H
      have A9 := Aside0.mk A90
      clear A90
      replace H := Option.bind_eq_some_iff.mp H
      obtain ⟨⟨t225, t226, t227⟩, A100, H⟩ := H
      replace H : ((scan_ReadNumber.f a0).bind fun bt228 => ((outlawref01_ReadNumber.f k a0).bind fun bt231 => ((scan_Number.f a1).bind fun bt234 => ((outlawref01_Number.f k a1).bind fun bt236 => (if t218.toList = t220.toList then (if t219 = t221 then (if t222.toList = t225.toList then (if t223 = t226 then (if t224 = t227 then (if bt228.1 = bt231.1 then (if bt228.2.1 = bt231.2.1 then (if bt228.2.2 = bt231.2.2 then (if bt234.1.toList = bt236.1.toList then (if bt234.2 = bt236.2 then ((scan_Space.f a0).bind fun t238 => ((outlawref01_Space.f k a0).bind fun t239 => (if t238 = t239 then ((scan_Word.f a0).bind fun t240 => ((outlawref01_Word.f k a0).bind fun t241 => (if t240.toList = t241.toList then ((scan_Valid.f a0).bind fun t242 => ((outlawref01_Valid.f k a0).bind fun t243 => (some (t242 == t243)))) else (some false)))) else (some false)))) else (some false)) else (some false)) else (some false)) else (some false)) else (some false)) else (some false)) else (some false)) else (some false)) else (some false)) else (some false)))))) = some r := H
      have A10 := Aside0.mk A100
      clear A100
      replace H := Option.bind_eq_some_iff.mp H
      obtain ⟨⟨t228, t229, t230⟩, A110, H⟩ := H
      replace H : ((outlawref01_ReadNumber.f k a0).bind fun bt231 => ((scan_Number.f a1).bind fun bt234 => ((outlawref01_Number.f k a1).bind fun bt236 => (if t218.toList = t220.toList then (if t219 = t221 then (if t222.toList = t225.toList then (if t223 = t226 then (if t224 = t227 then (if t228 = bt231.1 then (if t229 = bt231.2.1 then (if t230 = bt231.2.2 then (if bt234.1.toList = bt236.1.toList then (if bt234.2 = bt236.2 then ((scan_Space.f a0).bind fun t238 => ((outlawref01_Space.f k a0).bind fun t239 => (if t238 = t239 then ((scan_Word.f a0).bind fun t240 => ((outlawref01_Word.f k a0).bind fun t241 => (if t240.toList = t241.toList then ((scan_Valid.f a0).bind fun t242 => ((outlawref01_Valid.f k a0).bind fun t243 => (some (t242 == t243)))) else (some false)))) else (some false)))) else (some false)) else (some false)) else (some false)) else (some false)) else (some false)) else (some false)) else (some false)) else (some false)) else (some false)) else (some false))))) = some r := H
      have A11 := Aside0.mk A110
      clear A110
      replace H := Option.bind_eq_some_iff.mp H
      obtain ⟨⟨t231, t232, t233⟩, A120, H⟩ := H
      replace H : ((scan_Number.f a1).bind fun bt234 => ((outlawref01_Number.f k a1).bind fun bt236 => (if t218.toList = t220.toList then (if t219 = t221 then (if t222.toList = t225.toList then (if t223 = t226 then (if t224 = t227 then (if t228 = t231 then (if t229 = t232 then (if t230 = t233 then (if bt234.1.toList = bt236.1.toList then (if bt234.2 = bt236.2 then ((scan_Space.f a0).bind fun t238 => ((outlawref01_Space.f k a0).bind fun t239 => (if t238 = t239 then ((scan_Word.f a0).bind fun t240 => ((outlawref01_Word.f k a0).bind fun t241 => (if t240.toList = t241.toList then ((scan_Valid.f a0).bind fun t242 => ((outlawref01_Valid.f k a0).bind fun t243 => (some (t242 == t243)))) else (some false)))) else (some false)))) else (some false)) else (some false)) else (some false)) else (some false)) else (some false)) else (some false)) else (some false)) else (some false)) else (some false)) else (some false)))) = some r := H
      have A12 := Aside0.mk A120
      clear A120
      replace H := Option.bind_eq_some_iff.mp H
      obtain ⟨⟨t234, t235⟩, A130, H⟩ := H
      replace H : ((outlawref01_Number.f k a1).bind fun bt236 => (if t218.toList = t220.toList then (if t219 = t221 then (if t222.toList = t225.toList then (if t223 = t226 then (if t224 = t227 then (if t228 = t231 then (if t229 = t232 then (if t230 = t233 then (if t234.toList = bt236.1.toList then (if t235 = bt236.2 then ((scan_Space.f a0).bind fun t238 => ((outlawref01_Space.f k a0).bind fun t239 => (if t238 = t239 then ((scan_Word.f a0).bind fun t240 => ((outlawref01_Word.f k a0).bind fun t241 => (if t240.toList = t241.toList then ((scan_Valid.f a0).bind fun t242 => ((outlawref01_Valid.f k a0).bind fun t243 => (some (t242 == t243)))) else (some false)))) else (some false)))) else (some false)) else (some false)) else (some false)) else (some false)) else (some false)) else (some false)) else (some false)) else (some false)) else (some false)) else (some false))) = some r := H
      have A13 := Aside0.mk A130
      clear A130
      replace H := Option.bind_eq_some_iff.mp H
      obtain ⟨⟨t236, t237⟩, A140, H⟩ := H
      replace H : (if t218.toList = t220.toList then (if t219 = t221 then (if t222.toList = t225.toList then (if t223 = t226 then (if t224 = t227 then (if t228 = t231 then (if t229 = t232 then (if t230 = t233 then (if t234.toList = t236.toList then (if t235 = t237 then ((scan_Space.f a0).bind fun t238 => ((outlawref01_Space.f k a0).bind fun t239 => (if t238 = t239 then ((scan_Word.f a0).bind fun t240 => ((outlawref01_Word.f k a0).bind fun t241 => (if t240.toList = t241.toList then ((scan_Valid.f a0).bind fun t242 => ((outlawref01_Valid.f k a0).bind fun t243 => (some (t242 == t243)))) else (some false)))) else (some false)))) else (some false)) else (some false)) else (some false)) else (some false)) else (some false)) else (some false)) else (some false)) else (some false)) else (some false)) else (some false)) = some r := H
      have A14 := Aside0.mk A140
      clear A140
      by_cases c15 : t218.toList = t220.toList
      · rw [if_pos c15] at H
        have c15b0 : (t218.toList == t220.toList) = true := beq_iff_eq.mpr c15
        have c15b1 : (t218.toList != t220.toList) = false := bne_eq_false_iff_eq.mpr c15
        clear c15
        by_cases c16 : t219 = t221
        · rw [if_pos c16] at H
          have c16b0 : (t219 == t221) = true := beq_iff_eq.mpr c16
          have c16b1 : (t219 != t221) = false := bne_eq_false_iff_eq.mpr c16
          clear c16
          by_cases c17 : t222.toList = t225.toList
          · rw [if_pos c17] at H
            have c17b0 : (t222.toList == t225.toList) = true := beq_iff_eq.mpr c17
            have c17b1 : (t222.toList != t225.toList) = false := bne_eq_false_iff_eq.mpr c17
            clear c17
            by_cases c18 : t223 = t226
            · rw [if_pos c18] at H
              have c18b0 : (t223 == t226) = true := beq_iff_eq.mpr c18
              have c18b1 : (t223 != t226) = false := bne_eq_false_iff_eq.mpr c18
              clear c18
              by_cases c19 : t224 = t227
              · rw [if_pos c19] at H
                have c19b0 : (t224 == t227) = true := beq_iff_eq.mpr c19
                have c19b1 : (t224 != t227) = false := bne_eq_false_iff_eq.mpr c19
                clear c19
                by_cases c20 : t228 = t231
                · rw [if_pos c20] at H
                  have c20b0 : (t228 == t231) = true := beq_iff_eq.mpr c20
                  have c20b1 : (t228 != t231) = false := bne_eq_false_iff_eq.mpr c20
                  clear c20
                  by_cases c21 : t229 = t232
                  · rw [if_pos c21] at H
                    have c21b0 : (t229 == t232) = true := beq_iff_eq.mpr c21
                    have c21b1 : (t229 != t232) = false := bne_eq_false_iff_eq.mpr c21
                    clear c21
                    by_cases c22 : t230 = t233
                    · rw [if_pos c22] at H
                      have c22b0 : (t230 == t233) = true := beq_iff_eq.mpr c22
                      have c22b1 : (t230 != t233) = false := bne_eq_false_iff_eq.mpr c22
                      clear c22
                      by_cases c23 : t234.toList = t236.toList
                      · rw [if_pos c23] at H
                        have c23b0 : (t234.toList == t236.toList) = true := beq_iff_eq.mpr c23
                        have c23b1 : (t234.toList != t236.toList) = false := bne_eq_false_iff_eq.mpr c23
                        clear c23
                        by_cases c24 : t235 = t237
                        · rw [if_pos c24] at H
                          have c24b0 : (t235 == t237) = true := beq_iff_eq.mpr c24
                          have c24b1 : (t235 != t237) = false := bne_eq_false_iff_eq.mpr c24
                          clear c24
                          replace H := Option.bind_eq_some_iff.mp H
                          obtain ⟨t238, A250, H⟩ := H
                          replace H : ((outlawref01_Space.f k a0).bind fun t239 => (if t238 = t239 then ((scan_Word.f a0).bind fun t240 => ((outlawref01_Word.f k a0).bind fun t241 => (if t240.toList = t241.toList then ((scan_Valid.f a0).bind fun t242 => ((outlawref01_Valid.f k a0).bind fun t243 => (some (t242 == t243)))) else (some false)))) else (some false))) = some r := H
                          have A25 := Aside0.mk A250
                          clear A250
                          replace H := Option.bind_eq_some_iff.mp H
                          obtain ⟨t239, A260, H⟩ := H
                          replace H : (if t238 = t239 then ((scan_Word.f a0).bind fun t240 => ((outlawref01_Word.f k a0).bind fun t241 => (if t240.toList = t241.toList then ((scan_Valid.f a0).bind fun t242 => ((outlawref01_Valid.f k a0).bind fun t243 => (some (t242 == t243)))) else (some false)))) else (some false)) = some r := H
                          have A26 := Aside0.mk A260
                          clear A260
                          by_cases c27 : t238 = t239
                          · rw [if_pos c27] at H
                            have c27b0 : (t238 == t239) = true := beq_iff_eq.mpr c27
                            have c27b1 : (t238 != t239) = false := bne_eq_false_iff_eq.mpr c27
                            clear c27
                            replace H := Option.bind_eq_some_iff.mp H
                            obtain ⟨t240, A280, H⟩ := H
                            replace H : ((outlawref01_Word.f k a0).bind fun t241 => (if t240.toList = t241.toList then ((scan_Valid.f a0).bind fun t242 => ((outlawref01_Valid.f k a0).bind fun t243 => (some (t242 == t243)))) else (some false))) = some r := H
                            have A28 := Aside0.mk A280
                            clear A280
                            replace H := Option.bind_eq_some_iff.mp H
                            obtain ⟨t241, A290, H⟩ := H
                            replace H : (if t240.toList = t241.toList then ((scan_Valid.f a0).bind fun t242 => ((outlawref01_Valid.f k a0).bind fun t243 => (some (t242 == t243)))) else (some false)) = some r := H
                            have A29 := Aside0.mk A290
                            clear A290
                            by_cases c30 : t240.toList = t241.toList
                            · rw [if_pos c30] at H
                              have c30b0 : (t240.toList == t241.toList) = true := beq_iff_eq.mpr c30
                              have c30b1 : (t240.toList != t241.toList) = false := bne_eq_false_iff_eq.mpr c30
                              clear c30
                              replace H := Option.bind_eq_some_iff.mp H
                              obtain ⟨t242, A310, H⟩ := H
                              replace H : ((outlawref01_Valid.f k a0).bind fun t243 => (some (t242 == t243))) = some r := H
                              have A31 := Aside0.mk A310
                              clear A310
                              replace H := Option.bind_eq_some_iff.mp H
                              obtain ⟨t243, A320, H⟩ := H
                              replace H : (some (t242 == t243)) = some r := H
                              have A32 := Aside0.mk A320
                              clear A320
                              obtain rfl := Option.some.inj H
                              go_enter Tryd.func8, Tryd.ntmps8
                              go_wp2_with (first | ((with_reducible refine gate_callee (f := 9) rfl ?_); refine goesL_ (some 25) rfl rfl Tryd.func9 (by kernel_rfl) rfl #[] rfl (by (try simp only [List.map_toArray, List.map_cons, List.map_nil]); first | done | rfl | (simp only [List.length_drop, List.length_take]; rfl)) ?_; (with_reducible refine (outlawlaw01_lives.calls  true _ ?side1 A3.out).mono ?_); (case side1 => exact TabU.at HTTabU_.out (by repeat (first | (with_reducible first | exact HB.out | apply below_alloc | apply pw_below_drewN | apply below_drew1) | exact HB.out))); rintro e w33 ⟨rfl, hb⟩; refine ⟨_, rfl, ?_⟩; have n0_ := Aside0.mk (below_step (by repeat (first | (with_reducible first | exact HB.out | apply below_alloc | apply pw_below_drewN | apply below_drew1) | exact HB.out)) hb); clear HB; have HB := n0_; clear n0_; (try clear hb); (try clear hb2); (try clear hk); (try clear hi)) | ((with_reducible refine gate_callee (f := 10) rfl ?_); refine goesL_ (some 32) rfl rfl Tryd.func10 (by kernel_rfl) rfl #[.string a0] rfl (by (try simp only [List.map_toArray, List.map_cons, List.map_nil]); first | done | rfl | (simp only [List.length_drop, List.length_take]; rfl)) ?_; (with_reducible refine (scan_Quote.calls a0 t218 t219 _ ?side1 A7.out).mono ?_); (case side1 => exact TabU.at HTTabU_.out (by repeat (first | (with_reducible first | exact HB.out | apply below_alloc | apply pw_below_drewN | apply below_drew1) | exact HB.out))); rintro e w34 ⟨rfl, hb⟩; refine ⟨_, rfl, ?_⟩; have n0_ := Aside0.mk (below_step (by repeat (first | (with_reducible first | exact HB.out | apply below_alloc | apply pw_below_drewN | apply below_drew1) | exact HB.out)) hb); clear HB; have HB := n0_; clear n0_; (try clear hb); (try clear hb2); (try clear hk); (try clear hi)) | ((with_reducible refine gate_callee (f := 20) rfl ?_); refine goesL_ (some 37) rfl rfl Tryd.func20 (by kernel_rfl) rfl #[.string a0] rfl (by (try simp only [List.map_toArray, List.map_cons, List.map_nil]); first | done | rfl | (simp only [List.length_drop, List.length_take]; rfl)) ?_; (with_reducible refine (outlawref01_Quote.calls k a0 t220 t221 _ A8.out).mono ?_); rintro e w35 ⟨rfl, hb⟩; refine ⟨_, rfl, ?_⟩; have n0_ := Aside0.mk (below_step (by repeat (first | (with_reducible first | exact HB.out | apply below_alloc | apply pw_below_drewN | apply below_drew1) | exact HB.out)) hb); clear HB; have HB := n0_; clear n0_; (try clear hb); (try clear hb2); (try clear hk); (try clear hi)) | ((with_reducible refine gate_callee (f := 12) rfl ?_); refine goesL_ (some 42) rfl rfl Tryd.func12 (by kernel_rfl) rfl #[.string a0] rfl (by (try simp only [List.map_toArray, List.map_cons, List.map_nil]); first | done | rfl | (simp only [List.length_drop, List.length_take]; rfl)) ?_; (with_reducible refine (scan_Unquote.calls k a0 t222 t223 t224 _ ?side1 A9.out).mono ?_); (case side1 => exact TabU.at HTTabU_.out (by repeat (first | (with_reducible first | exact HB.out | apply below_alloc | apply pw_below_drewN | apply below_drew1) | exact HB.out))); rintro e w36 ⟨rfl, hb⟩; refine ⟨_, rfl, ?_⟩; have n0_ := Aside0.mk (below_step (by repeat (first | (with_reducible first | exact HB.out | apply below_alloc | apply pw_below_drewN | apply below_drew1) | exact HB.out)) hb); clear HB; have HB := n0_; clear n0_; (try clear hb); (try clear hb2); (try clear hk); (try clear hi)) | ((with_reducible refine gate_callee (f := 21) rfl ?_); refine goesL_ (some 48) rfl rfl Tryd.func21 (by kernel_rfl) rfl #[.string a0] rfl (by (try simp only [List.map_toArray, List.map_cons, List.map_nil]); first | done | rfl | (simp only [List.length_drop, List.length_take]; rfl)) ?_; (with_reducible refine (outlawref01_Unquote.calls k a0 t225 t226 t227 _ A10.out).mono ?_); rintro e w37 ⟨rfl, hb⟩; refine ⟨_, rfl, ?_⟩; have n0_ := Aside0.mk (below_step (by repeat (first | (with_reducible first | exact HB.out | apply below_alloc | apply pw_below_drewN | apply below_drew1) | exact HB.out)) hb); clear HB; have HB := n0_; clear n0_; (try clear hb); (try clear hb2); (try clear hk); (try clear hi)) | ((with_reducible refine gate_callee (f := 17) rfl ?_); refine goesL_ (some 54) rfl rfl Tryd.func17 (by kernel_rfl) rfl #[.string a0] rfl (by (try simp only [List.map_toArray, List.map_cons, List.map_nil]); first | done | rfl | (simp only [List.length_drop, List.length_take]; rfl)) ?_; (with_reducible refine (scan_ReadNumber.calls a0 t228 t229 t230 _ A11.out).mono ?_); rintro e w' ⟨rfl, ⟨nd, rfl⟩⟩; refine ⟨_, rfl, ?_⟩) | ((with_reducible refine gate_callee (f := 22) rfl ?_); refine goesL_ (some 60) rfl rfl Tryd.func22 (by kernel_rfl) rfl #[.string a0] rfl (by (try simp only [List.map_toArray, List.map_cons, List.map_nil]); first | done | rfl | (simp only [List.length_drop, List.length_take]; rfl)) ?_; (with_reducible refine (outlawref01_ReadNumber.calls k a0 t231 t232 t233 _ A12.out).mono ?_); rintro e w' ⟨rfl, ⟨nd, rfl⟩⟩; refine ⟨_, rfl, ?_⟩) | ((with_reducible refine gate_callee (f := 16) rfl ?_); refine goesL_ (some 66) rfl rfl Tryd.func16 (by kernel_rfl) rfl #[.int .i64 a1] rfl (by (try simp only [List.map_toArray, List.map_cons, List.map_nil]); first | done | rfl | (simp only [List.length_drop, List.length_take]; rfl)) ?_; (with_reducible refine (scan_Number.calls a1 t234 t235 _ ?side1 A13.out).mono ?_); (case side1 => exact TabN.at HTTabN_.out (by repeat (first | (with_reducible first | exact HB.out | apply below_alloc | apply pw_below_drewN | apply below_drew1) | exact HB.out))); rintro e w38 ⟨rfl, hb⟩; refine ⟨_, rfl, ?_⟩; have n0_ := Aside0.mk (below_step (by repeat (first | (with_reducible first | exact HB.out | apply below_alloc | apply pw_below_drewN | apply below_drew1) | exact HB.out)) hb); clear HB; have HB := n0_; clear n0_; (try clear hb); (try clear hb2); (try clear hk); (try clear hi)) | ((with_reducible refine gate_callee (f := 23) rfl ?_); refine goesL_ (some 71) rfl rfl Tryd.func23 (by kernel_rfl) rfl #[.int .i64 a1] rfl (by (try simp only [List.map_toArray, List.map_cons, List.map_nil]); first | done | rfl | (simp only [List.length_drop, List.length_take]; rfl)) ?_; (with_reducible refine (outlawref01_Number.calls k a1 t236 t237 _ A14.out).mono ?_); rintro e w39 ⟨rfl, hb⟩; refine ⟨_, rfl, ?_⟩; have n0_ := Aside0.mk (below_step (by repeat (first | (with_reducible first | exact HB.out | apply below_alloc | apply pw_below_drewN | apply below_drew1) | exact HB.out)) hb); clear HB; have HB := n0_; clear n0_; (try clear hb); (try clear hb2); (try clear hk); (try clear hi)) | (go_at_call 18; (with_reducible refine (scan_Space.calls a0 t238 _ A25.out).mono ?_); rintro e w40 ⟨rfl, hb⟩; have n0_ := Aside0.mk (below_step (by repeat (first | (with_reducible first | exact HB.out | apply below_alloc | apply pw_below_drewN | apply below_drew1) | exact HB.out)) hb); clear HB; have HB := n0_; clear n0_; (try clear hb); (try clear hb2); (try clear hk); (try clear hi)) | (go_at_call 24; (with_reducible refine (outlawref01_Space.calls k a0 t239 _ A26.out).mono ?_); rintro e w' ⟨rfl, ⟨nd, rfl⟩⟩) | (go_at_call 19; (with_reducible refine (scan_Word.calls a0 t240 _ A28.out).mono ?_); rintro e w' ⟨rfl, ⟨nd, rfl⟩⟩) | (go_at_call 25; (with_reducible refine (outlawref01_Word.calls k a0 t241 _ A29.out).mono ?_); rintro e w41 ⟨rfl, hb⟩; have n0_ := Aside0.mk (below_step (by repeat (first | (with_reducible first | exact HB.out | apply below_alloc | apply pw_below_drewN | apply below_drew1) | exact HB.out)) hb); clear HB; have HB := n0_; clear n0_; (try clear hb); (try clear hb2); (try clear hk); (try clear hi)) | (go_at_call 11; (with_reducible refine (scan_Valid.calls a0 t242 _ ?side1 A31.out).mono ?_); (case side1 => exact TabU.at HTTabU_.out (by repeat (first | (with_reducible first | exact HB.out | apply below_alloc | apply pw_below_drewN | apply below_drew1) | exact HB.out))); rintro e w42 ⟨rfl, hb⟩; have n0_ := Aside0.mk (below_step (by repeat (first | (with_reducible first | exact HB.out | apply below_alloc | apply pw_below_drewN | apply below_drew1) | exact HB.out)) hb); clear HB; have HB := n0_; clear n0_; (try clear hb); (try clear hb2); (try clear hk); (try clear hi)) | (go_at_call 26; (with_reducible refine (outlawref01_Valid.calls k a0 t243 _ A32.out).mono ?_); rintro e w43 ⟨rfl, hb⟩; have n0_ := Aside0.mk (below_step (by repeat (first | (with_reducible first | exact HB.out | apply below_alloc | apply pw_below_drewN | apply below_drew1) | exact HB.out)) hb); clear HB; have HB := n0_; clear n0_; (try clear hb); (try clear hb2); (try clear hk); (try clear hi)))
                              go_ret
                              exact ⟨by first | rfl | (simp [errW_none, errW_some] <;> rfl) | (simp [*, errW_none, errW_some] <;> rfl), by repeat (first | (with_reducible first | exact HB.out | apply below_alloc | apply pw_below_drewN | apply below_drew1) | exact HB.out)⟩
                            · rw [if_neg c30] at H
                              have c30b0 : (t240.toList == t241.toList) = false := beq_eq_false_iff_ne.mpr c30
                              have c30b1 : (t240.toList != t241.toList) = true := bne_iff_ne.mpr c30
                              exact absurd ((Option.some.inj H).trans hr_.out) (by decide)
                          · rw [if_neg c27] at H
                            have c27b0 : (t238 == t239) = false := beq_eq_false_iff_ne.mpr c27
                            have c27b1 : (t238 != t239) = true := bne_iff_ne.mpr c27
                            exact absurd ((Option.some.inj H).trans hr_.out) (by decide)
                        · rw [if_neg c24] at H
                          have c24b0 : (t235 == t237) = false := beq_eq_false_iff_ne.mpr c24
                          have c24b1 : (t235 != t237) = true := bne_iff_ne.mpr c24
                          exact absurd ((Option.some.inj H).trans hr_.out) (by decide)
                      · rw [if_neg c23] at H
                        have c23b0 : (t234.toList == t236.toList) = false := beq_eq_false_iff_ne.mpr c23
                        have c23b1 : (t234.toList != t236.toList) = true := bne_iff_ne.mpr c23
                        exact absurd ((Option.some.inj H).trans hr_.out) (by decide)
                    · rw [if_neg c22] at H
                      have c22b0 : (t230 == t233) = false := beq_eq_false_iff_ne.mpr c22
                      have c22b1 : (t230 != t233) = true := bne_iff_ne.mpr c22
                      exact absurd ((Option.some.inj H).trans hr_.out) (by decide)
                  · rw [if_neg c21] at H
                    have c21b0 : (t229 == t232) = false := beq_eq_false_iff_ne.mpr c21
                    have c21b1 : (t229 != t232) = true := bne_iff_ne.mpr c21
                    exact absurd ((Option.some.inj H).trans hr_.out) (by decide)
                · rw [if_neg c20] at H
                  have c20b0 : (t228 == t231) = false := beq_eq_false_iff_ne.mpr c20
                  have c20b1 : (t228 != t231) = true := bne_iff_ne.mpr c20
                  exact absurd ((Option.some.inj H).trans hr_.out) (by decide)
              · rw [if_neg c19] at H
                have c19b0 : (t224 == t227) = false := beq_eq_false_iff_ne.mpr c19
                have c19b1 : (t224 != t227) = true := bne_iff_ne.mpr c19
                exact absurd ((Option.some.inj H).trans hr_.out) (by decide)
            · rw [if_neg c18] at H
              have c18b0 : (t223 == t226) = false := beq_eq_false_iff_ne.mpr c18
              have c18b1 : (t223 != t226) = true := bne_iff_ne.mpr c18
              exact absurd ((Option.some.inj H).trans hr_.out) (by decide)
          · rw [if_neg c17] at H
            have c17b0 : (t222.toList == t225.toList) = false := beq_eq_false_iff_ne.mpr c17
            have c17b1 : (t222.toList != t225.toList) = true := bne_iff_ne.mpr c17
            exact absurd ((Option.some.inj H).trans hr_.out) (by decide)
        · rw [if_neg c16] at H
          have c16b0 : (t219 == t221) = false := beq_eq_false_iff_ne.mpr c16
          have c16b1 : (t219 != t221) = true := bne_iff_ne.mpr c16
          exact absurd ((Option.some.inj H).trans hr_.out) (by decide)
      · rw [if_neg c15] at H
        have c15b0 : (t218.toList == t220.toList) = false := beq_eq_false_iff_ne.mpr c15
        have c15b1 : (t218.toList != t220.toList) = true := bne_iff_ne.mpr c15
        exact absurd ((Option.some.inj H).trans hr_.out) (by decide)
  · replace c4 := Bool.eq_false_iff.mpr c4
    subst c4
    have H1 : (some false) = some r := by rw [if_neg (show ¬ (false = true) by decide)] at H; exact H
    clear H
    have H := H1
    clear H1
    exact absurd ((Option.some.inj H).trans hr_.out) (by decide)

/-- THE ONE PURE STATEMENT of outlawlaw01_ScanCalls: yours. -/
def outlawlaw01_ScanCalls.Pure : Prop := ∀ (a0 : ByteArray) (a1 : Int), a0.size ≤ 140737488351232 → (Lit.int .i64 a1).wf = true → ∃ k, outlawlaw01_ScanCalls.f k a0 a1 = some true
theorem outlawlaw01_ScanCalls.walk (P : outlawlaw01_ScanCalls.Pure) (a0 : ByteArray) (a1 : Int) (w : World) (htTabN_ : TabN w) (htTabU_ : TabU w) (w0 : a0.size ≤ 140737488351232) (w1 : (Lit.int .i64 a1).wf = true) :
    Calls Tryd.prog 8 #[.string a0, .int .i64 a1] w fun e w' => e = .returned (.bool true) ∧ Below w.heap.size w w' := by
  obtain ⟨k, h⟩ := P a0 a1 w0 w1
  refine (outlawlaw01_ScanCalls.calls k a0 a1 true w ⟨rfl⟩ htTabN_ htTabU_ h).mono ?_
  rintro e w' ⟨rfl, hd⟩
  exact ⟨rfl, hd⟩

end Go.Proofs.YtfmenojhojmedaaDoor.PB
