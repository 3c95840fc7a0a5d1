import Derived.Test.YtlmhgnkkdjpkcaaDoorWm
import Derived.Test.YtlmhgnkkdjpkcaaDoorPAx0m
import Derived.Test.YtlmhgnkkdjpkcaaDoorPAx9
namespace Go.Proofs.YtlmhgnkkdjpkcaaDoor.PA
open Go.RowKit Go.Proofs.YtlmhgnkkdjpkcaaDoorW.PrintWords Go.Proofs.YtlmhgnkkdjpkcaaDoorW.PrintLast Go.Proofs.YtlmhgnkkdjpkcaaDoorW.PrintMore
abbrev ba10_ : ByteArray := (⟨#[32]⟩ : ByteArray)
abbrev bb10_ : ByteArray := (⟨#[63]⟩ : ByteArray)
abbrev bc10_ : ByteArray := (⟨#[114, 101, 102, 117, 115, 101, 100]⟩ : ByteArray)
abbrev bd10_ : ByteArray := (⟨#[99, 111, 109, 109, 97, 110, 100]⟩ : ByteArray)
abbrev be10_ : ByteArray := (⟨#[]⟩ : ByteArray)
abbrev bf10_ : ByteArray := (⟨#[113, 117, 101, 117, 101, 100]⟩ : ByteArray)
abbrev bg10_ : ByteArray := (⟨#[102, 97, 105, 108, 101, 100]⟩ : ByteArray)
abbrev bh10_ : ByteArray := (⟨#[97, 103, 97, 105, 110]⟩ : ByteArray)
abbrev bi10_ : ByteArray := (⟨#[115, 101, 110, 116]⟩ : ByteArray)
abbrev bj10_ : ByteArray := (⟨#[100, 111, 110, 101]⟩ : ByteArray)
abbrev bk10_ : ByteArray := (⟨#[103, 111, 110, 101]⟩ : ByteArray)
abbrev bl10_ : ByteArray := (⟨#[102, 117, 108, 108]⟩ : ByteArray)
abbrev bm10_ : ByteArray := (⟨#[114, 101, 100, 97, 99, 116]⟩ : ByteArray)
abbrev bn10_ : ByteArray := (⟨#[117, 110, 98, 97, 110]⟩ : ByteArray)
abbrev bo10_ : ByteArray := (⟨#[98, 97, 110]⟩ : ByteArray)
abbrev bp10_ : ByteArray := (⟨#[97, 99, 108]⟩ : ByteArray)
attribute [local go_sem] max2_int min2_int max_two min_two max_three min_three max_four min_four
set_option linter.unusedVariables false
set_option linter.unusedSimpArgs false
theorem szPAx10.one_ (x : UInt8) : (⟨#[x]⟩ : ByteArray).size = 1 := rfl
theorem szPAx10.two_ (x y : UInt8) : (⟨#[x, y]⟩ : ByteArray).size = 2 := rfl
theorem szPAx10.three_ (x y z : UInt8) : (⟨#[x, y, z]⟩ : ByteArray).size = 3 := rfl
def outlawref23_Line.j0 : Nat → Bool → Int → Int → Int → ByteArray → ByteArray → ByteArray → ByteArray → Int → ByteArray → Option (ByteArray)
 | 0, _, _, _, _, _, _, _, _, _, _ => none
 | k + 1, x13, x193000, x193001, x193002, x193003, x193004, x193005, x193006, x193007, x193008 => if x13 = true then (some bb10_) else ((some (([bc10_, bd10_, bf10_, bi10_, bj10_, bh10_, bg10_, bk10_, bl10_] : List ByteArray) : List ByteArray)).bind fun y193 => (if 0 ≤ (wrap64 (x193000 - 1)) then (if (wrap64 (x193000 - 1)) < (y193.length : Int) then (if x193000 = 1 then (if (rdOf ByteArray.empty y193 (wrap64 (x193000 - 1))).size + 1 ≤ 9223372036854775807 then ((outlawref21_Digits.f k x193007).bind fun t197 => (if ((rdOf ByteArray.empty y193 (wrap64 (x193000 - 1))) ++ ba10_).size + t197.size ≤ 9223372036854775807 then (some (((rdOf ByteArray.empty y193 (wrap64 (x193000 - 1))) ++ ba10_) ++ t197)) else (none))) else (none)) else (if x193000 = 2 then (if (rdOf ByteArray.empty y193 (wrap64 (x193000 - 1))).size + 1 ≤ 9223372036854775807 then ((outlawref21_Digits.f k x193007).bind fun t198 => (if ((rdOf ByteArray.empty y193 (wrap64 (x193000 - 1))) ++ ba10_).size + t198.size ≤ 9223372036854775807 then (if (((rdOf ByteArray.empty y193 (wrap64 (x193000 - 1))) ++ ba10_) ++ t198).size + 1 ≤ 9223372036854775807 then (if ((((rdOf ByteArray.empty y193 (wrap64 (x193000 - 1))) ++ ba10_) ++ t198) ++ ba10_).size + x193008.size ≤ 9223372036854775807 then (some (((((rdOf ByteArray.empty y193 (wrap64 (x193000 - 1))) ++ ba10_) ++ t198) ++ ba10_) ++ x193008)) else (none)) else (none)) else (none))) else (none)) else (if x193000 = 9 then (some (rdOf ByteArray.empty y193 (wrap64 (x193000 - 1)))) else (if x193002 ≥ 1 then (if x193002 ≤ 4 then ((some (([bo10_, bn10_, bp10_, bm10_] : List ByteArray) : List ByteArray)).bind fun y200 => (if 0 ≤ (wrap64 (x193002 - 1)) then (if (wrap64 (x193002 - 1)) < (y200.length : Int) then (if (rdOf ByteArray.empty y193 (wrap64 (x193000 - 1))).size + 1 ≤ 9223372036854775807 then ((outlawref21_Digits.f k x193001).bind fun t204 => (if ((rdOf ByteArray.empty y193 (wrap64 (x193000 - 1))) ++ ba10_).size + t204.size ≤ 9223372036854775807 then (if (((rdOf ByteArray.empty y193 (wrap64 (x193000 - 1))) ++ ba10_) ++ t204).size + 1 ≤ 9223372036854775807 then (if ((((rdOf ByteArray.empty y193 (wrap64 (x193000 - 1))) ++ ba10_) ++ t204) ++ ba10_).size + (rdOf ByteArray.empty y200 (wrap64 (x193002 - 1))).size ≤ 9223372036854775807 then (if (((((rdOf ByteArray.empty y193 (wrap64 (x193000 - 1))) ++ ba10_) ++ t204) ++ ba10_) ++ (rdOf ByteArray.empty y200 (wrap64 (x193002 - 1)))).size + 1 ≤ 9223372036854775807 then (if ((((((rdOf ByteArray.empty y193 (wrap64 (x193000 - 1))) ++ ba10_) ++ t204) ++ ba10_) ++ (rdOf ByteArray.empty y200 (wrap64 (x193002 - 1)))) ++ ba10_).size + x193003.size ≤ 9223372036854775807 then (if (((((((rdOf ByteArray.empty y193 (wrap64 (x193000 - 1))) ++ ba10_) ++ t204) ++ ba10_) ++ (rdOf ByteArray.empty y200 (wrap64 (x193002 - 1)))) ++ ba10_) ++ x193003).size + 1 ≤ 9223372036854775807 then (if ((((((((rdOf ByteArray.empty y193 (wrap64 (x193000 - 1))) ++ ba10_) ++ t204) ++ ba10_) ++ (rdOf ByteArray.empty y200 (wrap64 (x193002 - 1)))) ++ ba10_) ++ x193003) ++ ba10_).size + x193004.size ≤ 9223372036854775807 then (if (((((((((rdOf ByteArray.empty y193 (wrap64 (x193000 - 1))) ++ ba10_) ++ t204) ++ ba10_) ++ (rdOf ByteArray.empty y200 (wrap64 (x193002 - 1)))) ++ ba10_) ++ x193003) ++ ba10_) ++ x193004).size + 1 ≤ 9223372036854775807 then (if ((((((((((rdOf ByteArray.empty y193 (wrap64 (x193000 - 1))) ++ ba10_) ++ t204) ++ ba10_) ++ (rdOf ByteArray.empty y200 (wrap64 (x193002 - 1)))) ++ ba10_) ++ x193003) ++ ba10_) ++ x193004) ++ ba10_).size + x193005.size ≤ 9223372036854775807 then (if (((((((((((rdOf ByteArray.empty y193 (wrap64 (x193000 - 1))) ++ ba10_) ++ t204) ++ ba10_) ++ (rdOf ByteArray.empty y200 (wrap64 (x193002 - 1)))) ++ ba10_) ++ x193003) ++ ba10_) ++ x193004) ++ ba10_) ++ x193005).size + 1 ≤ 9223372036854775807 then (if ((((((((((((rdOf ByteArray.empty y193 (wrap64 (x193000 - 1))) ++ ba10_) ++ t204) ++ ba10_) ++ (rdOf ByteArray.empty y200 (wrap64 (x193002 - 1)))) ++ ba10_) ++ x193003) ++ ba10_) ++ x193004) ++ ba10_) ++ x193005) ++ ba10_).size + x193006.size ≤ 9223372036854775807 then (some (((((((((((((rdOf ByteArray.empty y193 (wrap64 (x193000 - 1))) ++ ba10_) ++ t204) ++ ba10_) ++ (rdOf ByteArray.empty y200 (wrap64 (x193002 - 1)))) ++ ba10_) ++ x193003) ++ ba10_) ++ x193004) ++ ba10_) ++ x193005) ++ ba10_) ++ x193006)) else (none)) else (none)) else (none)) else (none)) else (none)) else (none)) else (none)) else (none)) else (none)) else (none)) else (none))) else (none)) else (none)) else (none))) else (if (rdOf ByteArray.empty y193 (wrap64 (x193000 - 1))).size + 1 ≤ 9223372036854775807 then ((outlawref21_Digits.f k x193001).bind fun t205 => (if ((rdOf ByteArray.empty y193 (wrap64 (x193000 - 1))) ++ ba10_).size + t205.size ≤ 9223372036854775807 then (if (((rdOf ByteArray.empty y193 (wrap64 (x193000 - 1))) ++ ba10_) ++ t205).size + 1 ≤ 9223372036854775807 then (if ((((rdOf ByteArray.empty y193 (wrap64 (x193000 - 1))) ++ ba10_) ++ t205) ++ ba10_).size + 1 ≤ 9223372036854775807 then (if (((((rdOf ByteArray.empty y193 (wrap64 (x193000 - 1))) ++ ba10_) ++ t205) ++ ba10_) ++ bb10_).size + 1 ≤ 9223372036854775807 then (if ((((((rdOf ByteArray.empty y193 (wrap64 (x193000 - 1))) ++ ba10_) ++ t205) ++ ba10_) ++ bb10_) ++ ba10_).size + x193003.size ≤ 9223372036854775807 then (if (((((((rdOf ByteArray.empty y193 (wrap64 (x193000 - 1))) ++ ba10_) ++ t205) ++ ba10_) ++ bb10_) ++ ba10_) ++ x193003).size + 1 ≤ 9223372036854775807 then (if ((((((((rdOf ByteArray.empty y193 (wrap64 (x193000 - 1))) ++ ba10_) ++ t205) ++ ba10_) ++ bb10_) ++ ba10_) ++ x193003) ++ ba10_).size + x193004.size ≤ 9223372036854775807 then (if (((((((((rdOf ByteArray.empty y193 (wrap64 (x193000 - 1))) ++ ba10_) ++ t205) ++ ba10_) ++ bb10_) ++ ba10_) ++ x193003) ++ ba10_) ++ x193004).size + 1 ≤ 9223372036854775807 then (if ((((((((((rdOf ByteArray.empty y193 (wrap64 (x193000 - 1))) ++ ba10_) ++ t205) ++ ba10_) ++ bb10_) ++ ba10_) ++ x193003) ++ ba10_) ++ x193004) ++ ba10_).size + x193005.size ≤ 9223372036854775807 then (if (((((((((((rdOf ByteArray.empty y193 (wrap64 (x193000 - 1))) ++ ba10_) ++ t205) ++ ba10_) ++ bb10_) ++ ba10_) ++ x193003) ++ ba10_) ++ x193004) ++ ba10_) ++ x193005).size + 1 ≤ 9223372036854775807 then (if ((((((((((((rdOf ByteArray.empty y193 (wrap64 (x193000 - 1))) ++ ba10_) ++ t205) ++ ba10_) ++ bb10_) ++ ba10_) ++ x193003) ++ ba10_) ++ x193004) ++ ba10_) ++ x193005) ++ ba10_).size + x193006.size ≤ 9223372036854775807 then (some (((((((((((((rdOf ByteArray.empty y193 (wrap64 (x193000 - 1))) ++ ba10_) ++ t205) ++ ba10_) ++ bb10_) ++ ba10_) ++ x193003) ++ ba10_) ++ x193004) ++ ba10_) ++ x193005) ++ ba10_) ++ x193006)) else (none)) else (none)) else (none)) else (none)) else (none)) else (none)) else (none)) else (none)) else (none)) else (none)) else (none))) else (none))) else (if (rdOf ByteArray.empty y193 (wrap64 (x193000 - 1))).size + 1 ≤ 9223372036854775807 then ((outlawref21_Digits.f k x193001).bind fun t206 => (if ((rdOf ByteArray.empty y193 (wrap64 (x193000 - 1))) ++ ba10_).size + t206.size ≤ 9223372036854775807 then (if (((rdOf ByteArray.empty y193 (wrap64 (x193000 - 1))) ++ ba10_) ++ t206).size + 1 ≤ 9223372036854775807 then (if ((((rdOf ByteArray.empty y193 (wrap64 (x193000 - 1))) ++ ba10_) ++ t206) ++ ba10_).size + 1 ≤ 9223372036854775807 then (if (((((rdOf ByteArray.empty y193 (wrap64 (x193000 - 1))) ++ ba10_) ++ t206) ++ ba10_) ++ bb10_).size + 1 ≤ 9223372036854775807 then (if ((((((rdOf ByteArray.empty y193 (wrap64 (x193000 - 1))) ++ ba10_) ++ t206) ++ ba10_) ++ bb10_) ++ ba10_).size + x193003.size ≤ 9223372036854775807 then (if (((((((rdOf ByteArray.empty y193 (wrap64 (x193000 - 1))) ++ ba10_) ++ t206) ++ ba10_) ++ bb10_) ++ ba10_) ++ x193003).size + 1 ≤ 9223372036854775807 then (if ((((((((rdOf ByteArray.empty y193 (wrap64 (x193000 - 1))) ++ ba10_) ++ t206) ++ ba10_) ++ bb10_) ++ ba10_) ++ x193003) ++ ba10_).size + x193004.size ≤ 9223372036854775807 then (if (((((((((rdOf ByteArray.empty y193 (wrap64 (x193000 - 1))) ++ ba10_) ++ t206) ++ ba10_) ++ bb10_) ++ ba10_) ++ x193003) ++ ba10_) ++ x193004).size + 1 ≤ 9223372036854775807 then (if ((((((((((rdOf ByteArray.empty y193 (wrap64 (x193000 - 1))) ++ ba10_) ++ t206) ++ ba10_) ++ bb10_) ++ ba10_) ++ x193003) ++ ba10_) ++ x193004) ++ ba10_).size + x193005.size ≤ 9223372036854775807 then (if (((((((((((rdOf ByteArray.empty y193 (wrap64 (x193000 - 1))) ++ ba10_) ++ t206) ++ ba10_) ++ bb10_) ++ ba10_) ++ x193003) ++ ba10_) ++ x193004) ++ ba10_) ++ x193005).size + 1 ≤ 9223372036854775807 then (if ((((((((((((rdOf ByteArray.empty y193 (wrap64 (x193000 - 1))) ++ ba10_) ++ t206) ++ ba10_) ++ bb10_) ++ ba10_) ++ x193003) ++ ba10_) ++ x193004) ++ ba10_) ++ x193005) ++ ba10_).size + x193006.size ≤ 9223372036854775807 then (some (((((((((((((rdOf ByteArray.empty y193 (wrap64 (x193000 - 1))) ++ ba10_) ++ t206) ++ ba10_) ++ bb10_) ++ ba10_) ++ x193003) ++ ba10_) ++ x193004) ++ ba10_) ++ x193005) ++ ba10_) ++ x193006)) else (none)) else (none)) else (none)) else (none)) else (none)) else (none)) else (none)) else (none)) else (none)) else (none)) else (none))) else (none)))))) else (none)) else (none)))
def outlawref23_Line.f (k : Nat) (a0_0 : Int) (a0_1 : Int) (a0_2 : Int) (a0_3 : ByteArray) (a0_4 : ByteArray) (a0_5 : ByteArray) (a0_6 : ByteArray) (a0_7 : Int) (a0_8 : ByteArray) : Option (ByteArray) := if a0_0 < 1 then (outlawref23_Line.j0 k true a0_0 a0_1 a0_2 a0_3 a0_4 a0_5 a0_6 a0_7 a0_8) else (outlawref23_Line.j0 k (decide (a0_0 > 9)) a0_0 a0_1 a0_2 a0_3 a0_4 a0_5 a0_6 a0_7 a0_8)
theorem outlawref23_Line.mono_l : ∀ k, (∀ y0 y1 y2 y3 y4 y5 y6 y7 y8 y9, LeO (outlawref23_Line.j0 k y0 y1 y2 y3 y4 y5 y6 y7 y8 y9) (outlawref23_Line.j0 (k + 1) y0 y1 y2 y3 y4 y5 y6 y7 y8 y9))
 | 0 => fun _ _ _ _ _ _ _ _ _ _ r h => by simp [outlawref23_Line.j0] at h
 | k + 1 => by
  have ih0 := outlawref23_Line.mono_l k
  ·intro y0 y1 y2 y3 y4 y5 y6 y7 y8 y9
   unfold outlawref23_Line.j0
   repeat' first
   | (with_reducible exact ih0 _ _ _ _ _ _ _ _ _ _)
   | (with_reducible exact outlawref21_Digits.mono _ _)
   | (with_reducible exact LeO.refl _)
   | (with_reducible exact LeO.none _)
   | (with_reducible refine LeO.ite ?_ ?_)
   | (with_reducible refine LeO.bind ?_ (fun _ => ?_))
   | refine LeO.ite ?_ ?_
   | refine LeO.bind ?_ (fun _ => ?_)
theorem outlawref23_Line.mono : ∀ a0 a1 a2 a3 a4 a5 a6 a7 a8 k, LeO (outlawref23_Line.f k a0 a1 a2 a3 a4 a5 a6 a7 a8) (outlawref23_Line.f (k + 1) a0 a1 a2 a3 a4 a5 a6 a7 a8) := by
 intro a0 a1 a2 a3 a4 a5 a6 a7 a8 k
 have ih0 := outlawref23_Line.mono_l k
 unfold outlawref23_Line.f
 repeat' first
   | (with_reducible exact ih0 _ _ _ _ _ _ _ _ _ _)
   | (with_reducible exact outlawref21_Digits.mono _ _)
   | (with_reducible exact LeO.refl _)
   | (with_reducible exact LeO.none _)
   | (with_reducible refine LeO.ite ?_ ?_)
   | (with_reducible refine LeO.bind ?_ (fun _ => ?_))
   | refine LeO.ite ?_ ?_
   | refine LeO.bind ?_ (fun _ => ?_)
def outlawref23_Line.T8 : Bool × List (List Nat × List Nat) := (true, [([], []), ([0], [0]), ([], []), ([2], [2]), ([3], [3]), ([1, 4], [1, 4]), ([5], [5]), ([], []), ([7], [7]), ([6, 8], [6, 8]), ([9, 4, 0, 1, 2, 3, 4, 5, 6, 7, 8, 9], [9])])
def outlawref23_Line.B8 : List Nat := [0, 1, 0, 4, 12, 31, 63, 0, 128, 511, 1023]
theorem outlawref23_Line.tab8 : rtab .any (opsOf Tryd.f18 8) = outlawref23_Line.T8 := by kernel_rfl
theorem outlawref23_Line.bits8 : waitsOk outlawref23_Line.T8.2 outlawref23_Line.B8 = true := by kernel_rfl
def outlawref23_Line.T15 : Bool × List (List Nat × List Nat) := (true, [([], []), ([0], [0]), ([], []), ([2], [2]), ([3], [3]), ([1, 4], [1, 4]), ([5], [5]), ([], []), ([6, 7], [6, 7]), ([8], [8]), ([], []), ([10], [10]), ([9, 11], [9, 11]), ([12], [12]), ([], []), ([14], [14]), ([13, 15], [13, 15]), ([16], [16]), ([], []), ([18], [18]), ([17, 19], [17, 19]), ([20], [20]), ([], []), ([22], [22]), ([21, 23], [21, 23]), ([24, 4, 0, 1, 2, 3, 4, 5, 6, 7, 8, 9, 10, 11, 12, 13, 14, 15, 16, 17, 18, 19, 20, 21, 22, 23, 24], [24])])
def outlawref23_Line.B15 : List Nat := [0, 1, 0, 4, 12, 31, 63, 0, 255, 511, 0, 1024, 4095, 8191, 0, 16384, 65535, 131071, 0, 262144, 1048575, 2097151, 0, 4194304, 16777215, 33554431]
theorem outlawref23_Line.tab15 : rtab .any (opsOf Tryd.f18 15) = outlawref23_Line.T15 := by kernel_rfl
theorem outlawref23_Line.bits15 : waitsOk outlawref23_Line.T15.2 outlawref23_Line.B15 = true := by kernel_rfl
set_option maxHeartbeats 8000000 in
set_option maxRecDepth 100000 in
theorem outlawref23_Line.calls (k : Nat) (a0_0 : Int) (a0_1 : Int) (a0_2 : Int) (a0_3 : ByteArray) (a0_4 : ByteArray) (a0_5 : ByteArray) (a0_6 : ByteArray) (a0_7 : Int) (a0_8 : ByteArray) (r : ByteArray) (w : World) (h : outlawref23_Line.f k a0_0 a0_1 a0_2 a0_3 a0_4 a0_5 a0_6 a0_7 a0_8 = some r) :
  Calls Tryd.prog 18 #[.agg #[.int .i64 a0_0, .int .i64 a0_1, .int .i64 a0_2, .string a0_3, .string a0_4, .string a0_5, .string a0_6, .int .i64 a0_7, .string a0_8]] w fun e w' => e = .returned (.string r) ∧ Below w.heap.size w w' := by
 have hu30 := Tryd.underlying30
 have hu28 := Tryd.underlying28
 have HB := Aside0.mk (Below.refl w.heap.size w)
 have H : (if a0_0 < 1 then (outlawref23_Line.j0 k true a0_0 a0_1 a0_2 a0_3 a0_4 a0_5 a0_6 a0_7 a0_8) else (outlawref23_Line.j0 k (decide (a0_0 > 9)) a0_0 a0_1 a0_2 a0_3 a0_4 a0_5 a0_6 a0_7 a0_8)) = some r := h
 clear h
 have HC2 := Aside0.mk H
 clear H
 go_enter Tryd.func18, Tryd.ntmps18
 go_upto_region 1 with (first | ((with_reducible refine gate_dst (N := 1) rfl ?_); refine box_event ?hg (N := 1) ?hd (cs := #[.int .i64 a0_0, .int .i64 a0_1, .int .i64 a0_2, .string a0_3, .string a0_4, .string a0_5, .string a0_6, .int .i64 a0_7, .string a0_8]) (t := 30) ?hr ?_; (case hd => rfl); (case hg => rfl); (case hr => first | (go_simp; done) | (go_simp; rfl)); intro gb192 hg w3 hbox hb; have n0_ := Aside0.mk (below_step (by repeat (first | (with_reducible first | exact HB.out | apply a1_ | apply a2_ | apply a3_) | exact HB.out)) hb); have n1_ := Aside0.mk (hbox); have n2_ := Aside0.mk ((by rw [hg]; exact (below_size (by repeat (first | (with_reducible first | exact HB.out | apply a1_ | apply a2_ | apply a3_) | exact HB.out))) : w.heap.size ≤ gb192)); have n3_ := Aside0.mk ((by rw [hg]; exact (below_size (by repeat (first | (with_reducible first | exact HB.out | apply a1_ | apply a2_ | apply a3_) | exact HB.out))) : w.heap.size ≤ gb192)); clear HB; have HB := n0_; have BK192 := n1_; have GW192 := n2_; have GE192 := n3_; clear n0_ n1_ n2_ n3_; clear hb hbox hg))
 (try simp only [Act.put, List.setIfInBounds_toArray, List.set_cons_zero, List.set_cons_succ])
 go_cut [13] (fun v13 wc => ∃ (kq : Nat) (x13_1 : Bool), v13 = .bool x13_1 ∧ Aside0 (outlawref23_Line.j0 kq x13_1 a0_0 a0_1 a0_2 a0_3 a0_4 a0_5 a0_6 a0_7 a0_8 = some r) ∧ Aside0 (kq ≤ k) ∧ Aside0 (wc.heap[gb192]? = some (.cells #[.int .i64 a0_0, .int .i64 a0_1, .int .i64 a0_2, .string a0_3, .string a0_4, .string a0_5, .string a0_6, .int .i64 a0_7, .string a0_8] 30 (0, 0))) ∧ Aside0 (Below w.heap.size w wc))
 case first =>
  have H := HC2.out
  clear HC2
  by_cases c4 : a0_0 < 1
  ·rw [if_pos c4] at H
   have c4b0 : decide (a0_0 < 1) = true := decide_eq_true c4
   clear c4
   (first | rw [c4b0] | (simp only [i64_w, i32_w]; rw [c4b0]) | skip)
   have H' := Aside0.mk H
   clear H
   have hcz5_0 : w3.cell? ⟨gb192, 0, none⟩ = some (.int .i64 a0_0) := (blk_cell BK192.out 0).trans rfl
   have hcz5_1 : w3.cell? ⟨gb192, 1, none⟩ = some (.int .i64 a0_1) := (blk_cell BK192.out 1).trans rfl
   have hcz5_2 : w3.cell? ⟨gb192, 2, none⟩ = some (.int .i64 a0_2) := (blk_cell BK192.out 2).trans rfl
   have hcz5_3 : w3.cell? ⟨gb192, 3, none⟩ = some (.string a0_3) := (blk_cell BK192.out 3).trans rfl
   have hcz5_4 : w3.cell? ⟨gb192, 4, none⟩ = some (.string a0_4) := (blk_cell BK192.out 4).trans rfl
   have hcz5_5 : w3.cell? ⟨gb192, 5, none⟩ = some (.string a0_5) := (blk_cell BK192.out 5).trans rfl
   have hcz5_6 : w3.cell? ⟨gb192, 6, none⟩ = some (.string a0_6) := (blk_cell BK192.out 6).trans rfl
   have hcz5_7 : w3.cell? ⟨gb192, 7, none⟩ = some (.int .i64 a0_7) := (blk_cell BK192.out 7).trans rfl
   have hcz5_8 : w3.cell? ⟨gb192, 8, none⟩ = some (.string a0_8) := (blk_cell BK192.out 8).trans rfl
   have hfz5_0 := blk_frozen BK192.out 0
   have hfz5_1 := blk_frozen BK192.out 1
   have hfz5_2 := blk_frozen BK192.out 2
   have hfz5_3 := blk_frozen BK192.out 3
   have hfz5_4 := blk_frozen BK192.out 4
   have hfz5_5 := blk_frozen BK192.out 5
   have hfz5_6 := blk_frozen BK192.out 6
   have hfz5_7 := blk_frozen BK192.out 7
   have hfz5_8 := blk_frozen BK192.out 8
   go_wp2
   go_meet
   case rel => exact ⟨_, (true), (by first | rfl | (simp; done) | (simp [*]; done)), H', ⟨by first | omega | exact Nat.le_refl _⟩, ⟨by (with_reducible repeat (first | refine blk_drewN ?_ _ | refine blk_drew ?_ | refine blk_alloc ?_ _)); exact BK192.out⟩, ⟨by repeat (first | (with_reducible first | exact HB.out | apply a1_ | apply a2_ | apply a3_ | refine below_set ?_ GE192.out) | exact HB.out)⟩⟩
  ·rw [if_neg c4] at H
   have c4b0 : decide (a0_0 < 1) = false := decide_eq_false c4
   clear c4
   (first | rw [c4b0] | (simp only [i64_w, i32_w]; rw [c4b0]) | skip)
   have H' := Aside0.mk H
   clear H
   have hcz6_0 : w3.cell? ⟨gb192, 0, none⟩ = some (.int .i64 a0_0) := (blk_cell BK192.out 0).trans rfl
   have hcz6_1 : w3.cell? ⟨gb192, 1, none⟩ = some (.int .i64 a0_1) := (blk_cell BK192.out 1).trans rfl
   have hcz6_2 : w3.cell? ⟨gb192, 2, none⟩ = some (.int .i64 a0_2) := (blk_cell BK192.out 2).trans rfl
   have hcz6_3 : w3.cell? ⟨gb192, 3, none⟩ = some (.string a0_3) := (blk_cell BK192.out 3).trans rfl
   have hcz6_4 : w3.cell? ⟨gb192, 4, none⟩ = some (.string a0_4) := (blk_cell BK192.out 4).trans rfl
   have hcz6_5 : w3.cell? ⟨gb192, 5, none⟩ = some (.string a0_5) := (blk_cell BK192.out 5).trans rfl
   have hcz6_6 : w3.cell? ⟨gb192, 6, none⟩ = some (.string a0_6) := (blk_cell BK192.out 6).trans rfl
   have hcz6_7 : w3.cell? ⟨gb192, 7, none⟩ = some (.int .i64 a0_7) := (blk_cell BK192.out 7).trans rfl
   have hcz6_8 : w3.cell? ⟨gb192, 8, none⟩ = some (.string a0_8) := (blk_cell BK192.out 8).trans rfl
   have hfz6_0 := blk_frozen BK192.out 0
   have hfz6_1 := blk_frozen BK192.out 1
   have hfz6_2 := blk_frozen BK192.out 2
   have hfz6_3 := blk_frozen BK192.out 3
   have hfz6_4 := blk_frozen BK192.out 4
   have hfz6_5 := blk_frozen BK192.out 5
   have hfz6_6 := blk_frozen BK192.out 6
   have hfz6_7 := blk_frozen BK192.out 7
   have hfz6_8 := blk_frozen BK192.out 8
   go_wp2
   go_meet
   case rel => exact ⟨_, (decide (a0_0 > 9)), (by first | rfl | (simp; done) | (simp [*]; done)), H', ⟨by first | omega | exact Nat.le_refl _⟩, ⟨by (with_reducible repeat (first | refine blk_drewN ?_ _ | refine blk_drew ?_ | refine blk_alloc ?_ _)); exact BK192.out⟩, ⟨by repeat (first | (with_reducible first | exact HB.out | apply a1_ | apply a2_ | apply a3_ | refine below_set ?_ GE192.out) | exact HB.out)⟩⟩
 case rest =>
  clear HC2
  try clear c1
  try clear p2
  try clear c4
  try clear c4b0
  try clear hcz5_0
  try clear hcz5_1
  try clear hcz5_2
  try clear hcz5_3
  try clear hcz5_4
  try clear hcz5_5
  try clear hcz5_6
  try clear hcz5_7
  try clear hcz5_8
  try clear hcz6_0
  try clear hcz6_1
  try clear hcz6_2
  try clear hcz6_3
  try clear hcz6_4
  try clear hcz6_5
  try clear hcz6_6
  try clear hcz6_7
  try clear hcz6_8
  try clear hfz5_0
  try clear hfz5_1
  try clear hfz5_2
  try clear hfz5_3
  try clear hfz5_4
  try clear hfz5_5
  try clear hfz5_6
  try clear hfz5_7
  try clear hfz5_8
  try clear hfz6_0
  try clear hfz6_1
  try clear hfz6_2
  try clear hfz6_3
  try clear hfz6_4
  try clear hfz6_5
  try clear hfz6_6
  try clear hfz6_7
  try clear hfz6_8
  obtain ⟨kq, x13_1, rfl, HA, HJ1, BK192, HB⟩ := hcut
  cases kq with
  | zero => exact absurd HA.out (by simp [outlawref23_Line.j0])
  | succ kj1 =>
   have H := HA.out
   clear HA
   simp only [outlawref23_Line.j0] at H
   by_cases c7 : x13_1 = true
   ·subst c7
    rw [if_pos rfl] at H
    obtain rfl := Option.some.inj H
    go_wp2
    go_ret
    exact ⟨by first | rfl | (simp [errW_none, errW_some] <;> rfl) | (simp [*, errW_none, errW_some] <;> rfl), by repeat (first | (with_reducible first | exact HB.out | apply a1_ | apply a2_ | apply a3_ | refine below_set ?_ GE192.out) | exact HB.out)⟩
   ·replace c7 := Bool.eq_false_iff.mpr c7
    subst c7
    rw [if_neg (show ¬ (false = true) by decide)] at H
    obtain ⟨y193, hy193⟩ : ∃ y_ : List ByteArray, y_ = (([bc10_, bd10_, bf10_, bi10_, bj10_, bh10_, bg10_, bk10_, bl10_] : List ByteArray)) := ⟨_, rfl⟩
    first | rw [← hy193, Option.bind_some] at H | rw [← hy193] at H
    have Ny193 := Aside0.mk hy193
    clear hy193
    obtain ⟨ji8, hji8⟩ : ∃ j_ : Int, (wrap64 (a0_0 - 1)) = j_ := ⟨_, rfl⟩
    first | rw [hji8] at H | simp only [hji8] at H
    have hji8w : (IntKind.i64.wrap (a0_0 - 1)) = ji8 := (i64_w _).trans hji8
    by_cases c9 : 0 ≤ (ji8)
    ·rw [if_pos c9] at H
     have c9b0 : decide (0 ≤ (ji8)) = true := decide_eq_true c9
     clear c9
     by_cases c10 : (ji8) < (y193.length : Int)
     ·rw [if_pos c10] at H
      have c10b0 : decide ((ji8) < (y193.length : Int)) = true := decide_eq_true c10
      clear c10
      by_cases c11 : a0_0 = 1
      ·rw [if_pos c11] at H
       have c11b0 : (a0_0 == 1) = true := beq_iff_eq.mpr c11
       have c11b1 : (a0_0 != 1) = false := bne_eq_false_iff_eq.mpr c11
       clear c11
       by_cases c12 : (rdOf ByteArray.empty y193 (ji8)).size + 1 ≤ 9223372036854775807
       ·rw [if_pos c12] at H
        have c12b0 := eq_true c12
        have c12b1 : decide ((rdOf ByteArray.empty y193 (ji8)).size + 1 ≤ 9223372036854775807) = true := decide_eq_true c12
        try have c12b2 : (9223372036854775807 < (rdOf ByteArray.empty y193 (ji8)).size + 1) = False := eq_false (Nat.not_lt.2 c12)
        (try (have c12b2n := c12b2; simp only [ByteArray.size_append, szPAx10.one_, szPAx10.two_, szPAx10.three_] at c12b2n))
        replace H := Option.bind_eq_some_iff.mp H
        obtain ⟨t197, A130, H⟩ := H
        have A13 := Aside0.mk A130
        clear A130
        by_cases c14 : ((rdOf ByteArray.empty y193 (ji8)) ++ ba10_).size + t197.size ≤ 9223372036854775807
        ·rw [if_pos c14] at H
         have c14b0 := eq_true c14
         have c14b1 : decide (((rdOf ByteArray.empty y193 (ji8)) ++ ba10_).size + t197.size ≤ 9223372036854775807) = true := decide_eq_true c14
         try have c14b2 : (9223372036854775807 < ((rdOf ByteArray.empty y193 (ji8)) ++ ba10_).size + t197.size) = False := eq_false (Nat.not_lt.2 c14)
         (try (have c14b2n := c14b2; simp only [ByteArray.size_append, szPAx10.one_, szPAx10.two_, szPAx10.three_] at c14b2n))
         obtain rfl := Option.some.inj H
         go_wp2_with (first | ((with_reducible refine gate_dst (N := 14) rfl ?_); refine Kd.R_lit Kd.string _ 9 ?hg (N := 14) ?hd (xs := ([bc10_, bd10_, bf10_, bi10_, bj10_, bh10_, bg10_, bk10_, bl10_] : List ByteArray)) (inner := [.string bc10_, .string bd10_, .string bf10_, .string bi10_, .string bj10_, .string bh10_, .string bg10_, .string bk10_, .string bl10_]) (ok := fun _ => True) (okp := fun _ => True) ?hr ?hp (fun _ hk => hk) trivial (Below.refl _ _) (Nat.le_refl _) (by simp) ?_; (case hd => rfl); (case hg => rfl); (case hr => first | (go_simp; done) | (go_simp; rfl)); (case hp => exact (Reps.one (show Kd.M Kd.string _ _ _ bc10_ [.string bc10_] from rfl) (Reps.one (show Kd.M Kd.string _ _ _ bd10_ [.string bd10_] from rfl) (Reps.one (show Kd.M Kd.string _ _ _ bf10_ [.string bf10_] from rfl) (Reps.one (show Kd.M Kd.string _ _ _ bi10_ [.string bi10_] from rfl) (Reps.one (show Kd.M Kd.string _ _ _ bj10_ [.string bj10_] from rfl) (Reps.one (show Kd.M Kd.string _ _ _ bh10_ [.string bh10_] from rfl) (Reps.one (show Kd.M Kd.string _ _ _ bg10_ [.string bg10_] from rfl) (Reps.one (show Kd.M Kd.string _ _ _ bk10_ [.string bk10_] from rfl) (Reps.one (show Kd.M Kd.string _ _ _ bl10_ [.string bl10_] from rfl) (Reps.none _ _))))))))))); intro v194 w15 ho16 hb hg_ hnew_; clear hg_ hnew_; (first | rw [← Ny193.out] at ho16 | (simp only [Int.reduceToNat] at ho16; rw [← Ny193.out] at ho16)); have n0_ := Aside0.mk (Kd.R_lower ho16 (below_size (by repeat (first | (with_reducible first | exact HB.out | apply a1_ | apply a2_ | apply a3_ | refine below_set ?_ GE192.out) | exact HB.out)))); have n1_ := Aside0.mk (blk_below (g := gb192) (o := .cells #[.int .i64 a0_0, .int .i64 a0_1, .int .i64 a0_2, .string a0_3, .string a0_4, .string a0_5, .string a0_6, .int .i64 a0_7, .string a0_8] 30 (0, 0)) (by (with_reducible repeat (first | refine blk_drewN ?_ _ | refine blk_drew ?_ | refine blk_alloc ?_ _)); exact BK192.out) hb); have n2_ := Aside0.mk (below_step (by repeat (first | (with_reducible first | exact HB.out | apply a1_ | apply a2_ | apply a3_ | refine below_set ?_ GE192.out) | exact HB.out)) hb); clear BK192; clear HB; have HO195 := n0_; have BK192 := n1_; have HB := n2_; clear n0_ n1_ n2_; clear hb ho16; have hcz17_0 : w15.cell? ⟨gb192, 0, none⟩ = some (.int .i64 a0_0) := (blk_cell BK192.out 0).trans rfl; have hcz17_1 : w15.cell? ⟨gb192, 1, none⟩ = some (.int .i64 a0_1) := (blk_cell BK192.out 1).trans rfl; have hcz17_2 : w15.cell? ⟨gb192, 2, none⟩ = some (.int .i64 a0_2) := (blk_cell BK192.out 2).trans rfl; have hcz17_3 : w15.cell? ⟨gb192, 3, none⟩ = some (.string a0_3) := (blk_cell BK192.out 3).trans rfl; have hcz17_4 : w15.cell? ⟨gb192, 4, none⟩ = some (.string a0_4) := (blk_cell BK192.out 4).trans rfl; have hcz17_5 : w15.cell? ⟨gb192, 5, none⟩ = some (.string a0_5) := (blk_cell BK192.out 5).trans rfl; have hcz17_6 : w15.cell? ⟨gb192, 6, none⟩ = some (.string a0_6) := (blk_cell BK192.out 6).trans rfl; have hcz17_7 : w15.cell? ⟨gb192, 7, none⟩ = some (.int .i64 a0_7) := (blk_cell BK192.out 7).trans rfl; have hcz17_8 : w15.cell? ⟨gb192, 8, none⟩ = some (.string a0_8) := (blk_cell BK192.out 8).trans rfl; have hfz17_0 := blk_frozen BK192.out 0; have hfz17_1 := blk_frozen BK192.out 1; have hfz17_2 := blk_frozen BK192.out 2; have hfz17_3 := blk_frozen BK192.out 3; have hfz17_4 := blk_frozen BK192.out 4; have hfz17_5 := blk_frozen BK192.out 5; have hfz17_6 := blk_frozen BK192.out 6; have hfz17_7 := blk_frozen BK192.out 7; have hfz17_8 := blk_frozen BK192.out 8; obtain ⟨Ao18, co18, eo18⟩ := Kd.R_slice HO195.out; subst eo18; have p196 : 0 ≤ ((ji8) : Int) := of_decide_eq_true (by first | (with_reducible assumption) | assumption); have q196 : (ji8) < (y193.length : Int) := of_decide_eq_true (by first | (with_reducible assumption) | assumption); obtain ⟨ad196, e196, hx196_0⟩ := Kd.at_string (Kd.R_reads' HO195.out).2.2 (ji8) p196 q196; cases e196; replace p196 := eq_true p196; replace q196 := eq_true q196) | ((with_reducible refine gate_callee (f := 40) rfl ?_); refine goesL_ (some 28) rfl rfl Tryd.func40 (by kernel_rfl) rfl #[.int .i64 a0_7] rfl (by (try simp only [List.map_toArray, List.map_cons, List.map_nil]); first | done | rfl | (simp only [List.length_drop, List.length_take]; rfl)) ?_; (with_reducible refine (outlawref21_Digits.calls kj1 a0_7 t197 _ A13.out).mono ?_); rintro e w19 ⟨rfl, hb⟩; refine ⟨_, rfl, ?_⟩; have n0_ := Aside0.mk (Kd.R_below (by (with_reducible repeat (first | apply Kd.R_alloc | apply Kd.R_drewN | apply Kd.R_drew)); exact HO195.out) hb); have n1_ := Aside0.mk (blk_below (g := gb192) (o := .cells #[.int .i64 a0_0, .int .i64 a0_1, .int .i64 a0_2, .string a0_3, .string a0_4, .string a0_5, .string a0_6, .int .i64 a0_7, .string a0_8] 30 (0, 0)) (by (with_reducible repeat (first | refine blk_drewN ?_ _ | refine blk_drew ?_ | refine blk_alloc ?_ _)); exact BK192.out) hb); have n2_ := Aside0.mk (below_step (by repeat (first | (with_reducible first | exact HB.out | apply a1_ | apply a2_ | apply a3_ | refine below_set ?_ GE192.out) | exact HB.out)) hb); clear HO195; clear BK192; clear HB; have HO195 := n0_; have BK192 := n1_; have HB := n2_; clear n0_ n1_ n2_; (try clear hb); (try clear hk)))
         go_ret
         exact ⟨by first | rfl | (simp [errW_none, errW_some] <;> rfl) | (simp only [← hji8]; first | rfl | (simp [errW_none, errW_some] <;> rfl)) | (simp [*, errW_none, errW_some] <;> rfl), by repeat (first | (with_reducible first | exact HB.out | apply a1_ | apply a2_ | apply a3_ | refine below_set ?_ GE192.out) | exact HB.out)⟩
        ·rw [if_neg c14] at H
         exact absurd H (by simp)
       ·rw [if_neg c12] at H
        exact absurd H (by simp)
      ·rw [if_neg c11] at H
       have c11b0 : (a0_0 == 1) = false := beq_eq_false_iff_ne.mpr c11
       have c11b1 : (a0_0 != 1) = true := bne_iff_ne.mpr c11
       by_cases c20 : a0_0 = 2
       ·rw [if_pos c20] at H
        have c20b0 : (a0_0 == 2) = true := beq_iff_eq.mpr c20
        have c20b1 : (a0_0 != 2) = false := bne_eq_false_iff_eq.mpr c20
        clear c20
        by_cases c21 : (rdOf ByteArray.empty y193 (ji8)).size + 1 ≤ 9223372036854775807
        ·rw [if_pos c21] at H
         have c21b0 := eq_true c21
         have c21b1 : decide ((rdOf ByteArray.empty y193 (ji8)).size + 1 ≤ 9223372036854775807) = true := decide_eq_true c21
         try have c21b2 : (9223372036854775807 < (rdOf ByteArray.empty y193 (ji8)).size + 1) = False := eq_false (Nat.not_lt.2 c21)
         (try (have c21b2n := c21b2; simp only [ByteArray.size_append, szPAx10.one_, szPAx10.two_, szPAx10.three_] at c21b2n))
         replace H := Option.bind_eq_some_iff.mp H
         obtain ⟨t198, A220, H⟩ := H
         have A22 := Aside0.mk A220
         clear A220
         by_cases c23 : ((rdOf ByteArray.empty y193 (ji8)) ++ ba10_).size + t198.size ≤ 9223372036854775807
         ·rw [if_pos c23] at H
          have c23b0 := eq_true c23
          have c23b1 : decide (((rdOf ByteArray.empty y193 (ji8)) ++ ba10_).size + t198.size ≤ 9223372036854775807) = true := decide_eq_true c23
          try have c23b2 : (9223372036854775807 < ((rdOf ByteArray.empty y193 (ji8)) ++ ba10_).size + t198.size) = False := eq_false (Nat.not_lt.2 c23)
          (try (have c23b2n := c23b2; simp only [ByteArray.size_append, szPAx10.one_, szPAx10.two_, szPAx10.three_] at c23b2n))
          by_cases c24 : (((rdOf ByteArray.empty y193 (ji8)) ++ ba10_) ++ t198).size + 1 ≤ 9223372036854775807
          ·rw [if_pos c24] at H
           have c24b0 := eq_true c24
           have c24b1 : decide ((((rdOf ByteArray.empty y193 (ji8)) ++ ba10_) ++ t198).size + 1 ≤ 9223372036854775807) = true := decide_eq_true c24
           try have c24b2 : (9223372036854775807 < (((rdOf ByteArray.empty y193 (ji8)) ++ ba10_) ++ t198).size + 1) = False := eq_false (Nat.not_lt.2 c24)
           (try (have c24b2n := c24b2; simp only [ByteArray.size_append, szPAx10.one_, szPAx10.two_, szPAx10.three_] at c24b2n))
           by_cases c25 : ((((rdOf ByteArray.empty y193 (ji8)) ++ ba10_) ++ t198) ++ ba10_).size + a0_8.size ≤ 9223372036854775807
           ·rw [if_pos c25] at H
            have c25b0 := eq_true c25
            have c25b1 : decide (((((rdOf ByteArray.empty y193 (ji8)) ++ ba10_) ++ t198) ++ ba10_).size + a0_8.size ≤ 9223372036854775807) = true := decide_eq_true c25
            try have c25b2 : (9223372036854775807 < ((((rdOf ByteArray.empty y193 (ji8)) ++ ba10_) ++ t198) ++ ba10_).size + a0_8.size) = False := eq_false (Nat.not_lt.2 c25)
            (try (have c25b2n := c25b2; simp only [ByteArray.size_append, szPAx10.one_, szPAx10.two_, szPAx10.three_] at c25b2n))
            obtain rfl := Option.some.inj H
            try go_wp2_with (first | ((with_reducible refine gate_dst (N := 14) rfl ?_); refine Kd.R_lit Kd.string _ 9 ?hg (N := 14) ?hd (xs := ([bc10_, bd10_, bf10_, bi10_, bj10_, bh10_, bg10_, bk10_, bl10_] : List ByteArray)) (inner := [.string bc10_, .string bd10_, .string bf10_, .string bi10_, .string bj10_, .string bh10_, .string bg10_, .string bk10_, .string bl10_]) (ok := fun _ => True) (okp := fun _ => True) ?hr ?hp (fun _ hk => hk) trivial (Below.refl _ _) (Nat.le_refl _) (by simp) ?_; (case hd => rfl); (case hg => rfl); (case hr => first | (go_simp; done) | (go_simp; rfl)); (case hp => exact (Reps.one (show Kd.M Kd.string _ _ _ bc10_ [.string bc10_] from rfl) (Reps.one (show Kd.M Kd.string _ _ _ bd10_ [.string bd10_] from rfl) (Reps.one (show Kd.M Kd.string _ _ _ bf10_ [.string bf10_] from rfl) (Reps.one (show Kd.M Kd.string _ _ _ bi10_ [.string bi10_] from rfl) (Reps.one (show Kd.M Kd.string _ _ _ bj10_ [.string bj10_] from rfl) (Reps.one (show Kd.M Kd.string _ _ _ bh10_ [.string bh10_] from rfl) (Reps.one (show Kd.M Kd.string _ _ _ bg10_ [.string bg10_] from rfl) (Reps.one (show Kd.M Kd.string _ _ _ bk10_ [.string bk10_] from rfl) (Reps.one (show Kd.M Kd.string _ _ _ bl10_ [.string bl10_] from rfl) (Reps.none _ _))))))))))); intro v194 w26 ho27 hb hg_ hnew_; clear hg_ hnew_; (first | rw [← Ny193.out] at ho27 | (simp only [Int.reduceToNat] at ho27; rw [← Ny193.out] at ho27)); have n0_ := Aside0.mk (Kd.R_lower ho27 (below_size (by repeat (first | (with_reducible first | exact HB.out | apply a1_ | apply a2_ | apply a3_ | refine below_set ?_ GE192.out) | exact HB.out)))); have n1_ := Aside0.mk (blk_below (g := gb192) (o := .cells #[.int .i64 a0_0, .int .i64 a0_1, .int .i64 a0_2, .string a0_3, .string a0_4, .string a0_5, .string a0_6, .int .i64 a0_7, .string a0_8] 30 (0, 0)) (by (with_reducible repeat (first | refine blk_drewN ?_ _ | refine blk_drew ?_ | refine blk_alloc ?_ _)); exact BK192.out) hb); have n2_ := Aside0.mk (below_step (by repeat (first | (with_reducible first | exact HB.out | apply a1_ | apply a2_ | apply a3_ | refine below_set ?_ GE192.out) | exact HB.out)) hb); clear BK192; clear HB; have HO195 := n0_; have BK192 := n1_; have HB := n2_; clear n0_ n1_ n2_; clear hb ho27; have hcz28_0 : w26.cell? ⟨gb192, 0, none⟩ = some (.int .i64 a0_0) := (blk_cell BK192.out 0).trans rfl; have hcz28_1 : w26.cell? ⟨gb192, 1, none⟩ = some (.int .i64 a0_1) := (blk_cell BK192.out 1).trans rfl; have hcz28_2 : w26.cell? ⟨gb192, 2, none⟩ = some (.int .i64 a0_2) := (blk_cell BK192.out 2).trans rfl; have hcz28_3 : w26.cell? ⟨gb192, 3, none⟩ = some (.string a0_3) := (blk_cell BK192.out 3).trans rfl; have hcz28_4 : w26.cell? ⟨gb192, 4, none⟩ = some (.string a0_4) := (blk_cell BK192.out 4).trans rfl; have hcz28_5 : w26.cell? ⟨gb192, 5, none⟩ = some (.string a0_5) := (blk_cell BK192.out 5).trans rfl; have hcz28_6 : w26.cell? ⟨gb192, 6, none⟩ = some (.string a0_6) := (blk_cell BK192.out 6).trans rfl; have hcz28_7 : w26.cell? ⟨gb192, 7, none⟩ = some (.int .i64 a0_7) := (blk_cell BK192.out 7).trans rfl; have hcz28_8 : w26.cell? ⟨gb192, 8, none⟩ = some (.string a0_8) := (blk_cell BK192.out 8).trans rfl; have hfz28_0 := blk_frozen BK192.out 0; have hfz28_1 := blk_frozen BK192.out 1; have hfz28_2 := blk_frozen BK192.out 2; have hfz28_3 := blk_frozen BK192.out 3; have hfz28_4 := blk_frozen BK192.out 4; have hfz28_5 := blk_frozen BK192.out 5; have hfz28_6 := blk_frozen BK192.out 6; have hfz28_7 := blk_frozen BK192.out 7; have hfz28_8 := blk_frozen BK192.out 8; obtain ⟨Ao29, co29, eo29⟩ := Kd.R_slice HO195.out; subst eo29; have p196 : 0 ≤ ((ji8) : Int) := of_decide_eq_true (by first | (with_reducible assumption) | assumption); have q196 : (ji8) < (y193.length : Int) := of_decide_eq_true (by first | (with_reducible assumption) | assumption); obtain ⟨ad196, e196, hx196_0⟩ := Kd.at_string (Kd.R_reads' HO195.out).2.2 (ji8) p196 q196; cases e196; replace p196 := eq_true p196; replace q196 := eq_true q196))
            have n0_ := Aside0.mk (Kd.R_drew HO195.out)
            have n1_ := Aside0.mk (blk_drew BK192.out)
            have n2_ := Aside0.mk (below_drew1 HB.out)
            clear HO195
            clear BK192
            clear HB
            have HO195 := n0_
            have BK192 := n1_
            have HB := n2_
            clear n0_ n1_ n2_
            refine start_ (n := 11) (S := fun w' => w'.cell? ⟨gb192, 0, none⟩ = some (.int .i64 a0_0) ∧ w'.cell? ⟨gb192, 1, none⟩ = some (.int .i64 a0_1) ∧ w'.cell? ⟨gb192, 2, none⟩ = some (.int .i64 a0_2) ∧ w'.cell? ⟨gb192, 3, none⟩ = some (.string a0_3) ∧ w'.cell? ⟨gb192, 4, none⟩ = some (.string a0_4) ∧ w'.cell? ⟨gb192, 5, none⟩ = some (.string a0_5) ∧ w'.cell? ⟨gb192, 6, none⟩ = some (.string a0_6) ∧ w'.cell? ⟨gb192, 7, none⟩ = some (.int .i64 a0_7) ∧ w'.cell? ⟨gb192, 8, none⟩ = some (.string a0_8)) (ds := []) #[F_,F_,F_,F_,F_,F_,F_,F_,F_,F_,F_] (by kernel_rfl) rfl rfl ⟨(blk_cell BK192.out 0).trans rfl, (blk_cell BK192.out 1).trans rfl, (blk_cell BK192.out 2).trans rfl, (blk_cell BK192.out 3).trans rfl, (blk_cell BK192.out 4).trans rfl, (blk_cell BK192.out 5).trans rfl, (blk_cell BK192.out 6).trans rfl, (blk_cell BK192.out 7).trans rfl, (blk_cell BK192.out 8).trans rfl⟩ (fun hHeld => ?_); refine with_tabW outlawref23_Line.tab8 outlawref23_Line.bits8 (fun HT_ HW_ => ?_)
            generalize w26.drew = w30 at HO195 BK192 HB hHeld ⊢
            refine pq_ 0 32 (mb_ 11 1) HT_.out ?_
            refine pq_ 1 33 (mb_ 11 3) HT_.out ?_
            refine pq_ 2 34 (mb_ 11 7) HT_.out ?_
            refine pq_ 7 39 (mb_ 11 135) HT_.out ?_
            refine tq_ 3 35 (mb_ 11 143) HT_.out HW_.out hHeld ?_ (hr := by rintro w' ⟨s0, s1, s2, s3, s4, s5, s6, s7, s8⟩; go_simp; with_reducible rfl)
            refine tq_ 8 40 (mb_ 11 399) HT_.out HW_.out hHeld ?_ (hr := by rintro w' ⟨s0, s1, s2, s3, s4, s5, s6, s7, s8⟩; go_simp; with_reducible rfl)
            refine one_ (i := 4) (N := some 36) (mb_ 11 415) rfl rfl (one_of HT_.out (by kernel_rfl)) (by decide) (fun K hK => ?_)
            refine goes_ Tryd.func40 (by kernel_rfl) rfl #[.int .i64 a0_7] (by rfl) rfl rfl (by (try simp only [List.map_toArray, List.map_cons, List.map_nil]); first | done | rfl | (simp only [List.length_drop, List.length_take]; rfl)) ?_
            with_reducible refine (outlawref21_Digits.calls kj1 a0_7 t198 _ A22.out).mono ?_
            rintro e w31 ⟨rfl, hb⟩
            refine ⟨_, rfl, ?_⟩
            have n0_ := Aside0.mk (Kd.R_below (by (with_reducible repeat (first | apply Kd.R_alloc | apply Kd.R_drewN | apply Kd.R_drew)); exact HO195.out) hb)
            have n1_ := Aside0.mk (blk_below (g := gb192) (o := .cells #[.int .i64 a0_0, .int .i64 a0_1, .int .i64 a0_2, .string a0_3, .string a0_4, .string a0_5, .string a0_6, .int .i64 a0_7, .string a0_8] 30 (0, 0)) (by (with_reducible repeat (first | refine blk_drewN ?_ _ | refine blk_drew ?_ | refine blk_alloc ?_ _)); exact BK192.out) hb)
            have n2_ := Aside0.mk (below_step (by repeat (first | (with_reducible first | exact HB.out | apply a1_ | apply a2_ | apply a3_ | refine below_set ?_ GE192.out) | exact HB.out)) hb)
            clear HO195
            clear BK192
            clear HB
            have HO195 := n0_
            have BK192 := n1_
            have HB := n2_
            clear n0_ n1_ n2_
            (try clear hb)
            (try clear hb2)
            (try clear hk)
            (try clear hi)
            refine hK.out _ _ ⟨(blk_cell BK192.out 0).trans rfl, (blk_cell BK192.out 1).trans rfl, (blk_cell BK192.out 2).trans rfl, (blk_cell BK192.out 3).trans rfl, (blk_cell BK192.out 4).trans rfl, (blk_cell BK192.out 5).trans rfl, (blk_cell BK192.out 6).trans rfl, (blk_cell BK192.out 7).trans rfl, (blk_cell BK192.out 8).trans rfl⟩ (fun hHeld => ?_)
            clear hK K
            refine norm_ (a' := ?_) ?_ ?_
            rotate_left
            ·show Act.put _ (some 36) _ = _
             simp only [Act.put, List.setIfInBounds_toArray, List.set_cons_zero, List.set_cons_succ, i64_w, i32_w]
             rfl
            refine pq_ 5 37 (mb_ 11 447) HT_.out ?_
            refine pq_ 6 38 (mb_ 11 511) HT_.out ?_
            refine pq_ 9 41 (mb_ 11 1023) HT_.out ?_
            refine pq_ 10 2 (mb_ 11 2047) HT_.out ?_
            refine done_ (done_of HT_.out (by kernel_rfl)) ?_
            try go_wp2
            go_ret
            exact ⟨by first | rfl | (simp [errW_none, errW_some] <;> rfl) | (simp only [← hji8]; first | rfl | (simp [errW_none, errW_some] <;> rfl)) | (simp [*, errW_none, errW_some] <;> rfl), by repeat (first | (with_reducible first | exact HB.out | apply a1_ | apply a2_ | apply a3_ | refine below_set ?_ GE192.out) | exact HB.out)⟩
           ·rw [if_neg c25] at H
            exact absurd H (by simp)
          ·rw [if_neg c24] at H
           exact absurd H (by simp)
         ·rw [if_neg c23] at H
          exact absurd H (by simp)
        ·rw [if_neg c21] at H
         exact absurd H (by simp)
       ·rw [if_neg c20] at H
        have c20b0 : (a0_0 == 2) = false := beq_eq_false_iff_ne.mpr c20
        have c20b1 : (a0_0 != 2) = true := bne_iff_ne.mpr c20
        by_cases c32 : a0_0 = 9
        ·rw [if_pos c32] at H
         have c32b0 : (a0_0 == 9) = true := beq_iff_eq.mpr c32
         have c32b1 : (a0_0 != 9) = false := bne_eq_false_iff_eq.mpr c32
         clear c32
         obtain rfl := Option.some.inj H
         go_wp2_with (first | ((with_reducible refine gate_dst (N := 14) rfl ?_); refine Kd.R_lit Kd.string _ 9 ?hg (N := 14) ?hd (xs := ([bc10_, bd10_, bf10_, bi10_, bj10_, bh10_, bg10_, bk10_, bl10_] : List ByteArray)) (inner := [.string bc10_, .string bd10_, .string bf10_, .string bi10_, .string bj10_, .string bh10_, .string bg10_, .string bk10_, .string bl10_]) (ok := fun _ => True) (okp := fun _ => True) ?hr ?hp (fun _ hk => hk) trivial (Below.refl _ _) (Nat.le_refl _) (by simp) ?_; (case hd => rfl); (case hg => rfl); (case hr => first | (go_simp; done) | (go_simp; rfl)); (case hp => exact (Reps.one (show Kd.M Kd.string _ _ _ bc10_ [.string bc10_] from rfl) (Reps.one (show Kd.M Kd.string _ _ _ bd10_ [.string bd10_] from rfl) (Reps.one (show Kd.M Kd.string _ _ _ bf10_ [.string bf10_] from rfl) (Reps.one (show Kd.M Kd.string _ _ _ bi10_ [.string bi10_] from rfl) (Reps.one (show Kd.M Kd.string _ _ _ bj10_ [.string bj10_] from rfl) (Reps.one (show Kd.M Kd.string _ _ _ bh10_ [.string bh10_] from rfl) (Reps.one (show Kd.M Kd.string _ _ _ bg10_ [.string bg10_] from rfl) (Reps.one (show Kd.M Kd.string _ _ _ bk10_ [.string bk10_] from rfl) (Reps.one (show Kd.M Kd.string _ _ _ bl10_ [.string bl10_] from rfl) (Reps.none _ _))))))))))); intro v194 w33 ho34 hb hg_ hnew_; clear hg_ hnew_; (first | rw [← Ny193.out] at ho34 | (simp only [Int.reduceToNat] at ho34; rw [← Ny193.out] at ho34)); have n0_ := Aside0.mk (Kd.R_lower ho34 (below_size (by repeat (first | (with_reducible first | exact HB.out | apply a1_ | apply a2_ | apply a3_ | refine below_set ?_ GE192.out) | exact HB.out)))); have n1_ := Aside0.mk (blk_below (g := gb192) (o := .cells #[.int .i64 a0_0, .int .i64 a0_1, .int .i64 a0_2, .string a0_3, .string a0_4, .string a0_5, .string a0_6, .int .i64 a0_7, .string a0_8] 30 (0, 0)) (by (with_reducible repeat (first | refine blk_drewN ?_ _ | refine blk_drew ?_ | refine blk_alloc ?_ _)); exact BK192.out) hb); have n2_ := Aside0.mk (below_step (by repeat (first | (with_reducible first | exact HB.out | apply a1_ | apply a2_ | apply a3_ | refine below_set ?_ GE192.out) | exact HB.out)) hb); clear BK192; clear HB; have HO195 := n0_; have BK192 := n1_; have HB := n2_; clear n0_ n1_ n2_; clear hb ho34; have hcz35_0 : w33.cell? ⟨gb192, 0, none⟩ = some (.int .i64 a0_0) := (blk_cell BK192.out 0).trans rfl; have hcz35_1 : w33.cell? ⟨gb192, 1, none⟩ = some (.int .i64 a0_1) := (blk_cell BK192.out 1).trans rfl; have hcz35_2 : w33.cell? ⟨gb192, 2, none⟩ = some (.int .i64 a0_2) := (blk_cell BK192.out 2).trans rfl; have hcz35_3 : w33.cell? ⟨gb192, 3, none⟩ = some (.string a0_3) := (blk_cell BK192.out 3).trans rfl; have hcz35_4 : w33.cell? ⟨gb192, 4, none⟩ = some (.string a0_4) := (blk_cell BK192.out 4).trans rfl; have hcz35_5 : w33.cell? ⟨gb192, 5, none⟩ = some (.string a0_5) := (blk_cell BK192.out 5).trans rfl; have hcz35_6 : w33.cell? ⟨gb192, 6, none⟩ = some (.string a0_6) := (blk_cell BK192.out 6).trans rfl; have hcz35_7 : w33.cell? ⟨gb192, 7, none⟩ = some (.int .i64 a0_7) := (blk_cell BK192.out 7).trans rfl; have hcz35_8 : w33.cell? ⟨gb192, 8, none⟩ = some (.string a0_8) := (blk_cell BK192.out 8).trans rfl; have hfz35_0 := blk_frozen BK192.out 0; have hfz35_1 := blk_frozen BK192.out 1; have hfz35_2 := blk_frozen BK192.out 2; have hfz35_3 := blk_frozen BK192.out 3; have hfz35_4 := blk_frozen BK192.out 4; have hfz35_5 := blk_frozen BK192.out 5; have hfz35_6 := blk_frozen BK192.out 6; have hfz35_7 := blk_frozen BK192.out 7; have hfz35_8 := blk_frozen BK192.out 8; obtain ⟨Ao36, co36, eo36⟩ := Kd.R_slice HO195.out; subst eo36; have p196 : 0 ≤ ((ji8) : Int) := of_decide_eq_true (by first | (with_reducible assumption) | assumption); have q196 : (ji8) < (y193.length : Int) := of_decide_eq_true (by first | (with_reducible assumption) | assumption); obtain ⟨ad196, e196, hx196_0⟩ := Kd.at_string (Kd.R_reads' HO195.out).2.2 (ji8) p196 q196; cases e196; replace p196 := eq_true p196; replace q196 := eq_true q196))
         go_ret
         exact ⟨by first | rfl | (simp [errW_none, errW_some] <;> rfl) | (simp only [← hji8]; first | rfl | (simp [errW_none, errW_some] <;> rfl)) | (simp [*, errW_none, errW_some] <;> rfl), by repeat (first | (with_reducible first | exact HB.out | apply a1_ | apply a2_ | apply a3_ | refine below_set ?_ GE192.out) | exact HB.out)⟩
        ·rw [if_neg c32] at H
         have c32b0 : (a0_0 == 9) = false := beq_eq_false_iff_ne.mpr c32
         have c32b1 : (a0_0 != 9) = true := bne_iff_ne.mpr c32
         by_cases c37 : a0_2 ≥ 1
         ·rw [if_pos c37] at H
          have c37b0 : decide (1 ≤ a0_2) = true := decide_eq_true c37
          clear c37
          by_cases c38 : a0_2 ≤ 4
          ·rw [if_pos c38] at H
           have c38b0 : decide (a0_2 ≤ 4) = true := decide_eq_true c38
           clear c38
           obtain ⟨y200, hy200⟩ : ∃ y_ : List ByteArray, y_ = (([bo10_, bn10_, bp10_, bm10_] : List ByteArray)) := ⟨_, rfl⟩
           first | rw [← hy200, Option.bind_some] at H | rw [← hy200] at H
           have Ny200 := Aside0.mk hy200
           clear hy200
           obtain ⟨ji39, hji39⟩ : ∃ j_ : Int, (wrap64 (a0_2 - 1)) = j_ := ⟨_, rfl⟩
           first | rw [hji39] at H | simp only [hji39] at H
           have hji39w : (IntKind.i64.wrap (a0_2 - 1)) = ji39 := (i64_w _).trans hji39
           by_cases c40 : 0 ≤ (ji39)
           ·rw [if_pos c40] at H
            have c40b0 : decide (0 ≤ (ji39)) = true := decide_eq_true c40
            clear c40
            by_cases c41 : (ji39) < (y200.length : Int)
            ·rw [if_pos c41] at H
             have c41b0 : decide ((ji39) < (y200.length : Int)) = true := decide_eq_true c41
             clear c41
             by_cases c42 : (rdOf ByteArray.empty y193 (ji8)).size + 1 ≤ 9223372036854775807
             ·rw [if_pos c42] at H
              have c42b0 := eq_true c42
              have c42b1 : decide ((rdOf ByteArray.empty y193 (ji8)).size + 1 ≤ 9223372036854775807) = true := decide_eq_true c42
              try have c42b2 : (9223372036854775807 < (rdOf ByteArray.empty y193 (ji8)).size + 1) = False := eq_false (Nat.not_lt.2 c42)
              (try (have c42b2n := c42b2; simp only [ByteArray.size_append, szPAx10.one_, szPAx10.two_, szPAx10.three_] at c42b2n))
              replace H := Option.bind_eq_some_iff.mp H
              obtain ⟨t204, A430, H⟩ := H
              have A43 := Aside0.mk A430
              clear A430
              by_cases c44 : ((rdOf ByteArray.empty y193 (ji8)) ++ ba10_).size + t204.size ≤ 9223372036854775807
              ·rw [if_pos c44] at H
               have c44b0 := eq_true c44
               have c44b1 : decide (((rdOf ByteArray.empty y193 (ji8)) ++ ba10_).size + t204.size ≤ 9223372036854775807) = true := decide_eq_true c44
               try have c44b2 : (9223372036854775807 < ((rdOf ByteArray.empty y193 (ji8)) ++ ba10_).size + t204.size) = False := eq_false (Nat.not_lt.2 c44)
               (try (have c44b2n := c44b2; simp only [ByteArray.size_append, szPAx10.one_, szPAx10.two_, szPAx10.three_] at c44b2n))
               by_cases c45 : (((rdOf ByteArray.empty y193 (ji8)) ++ ba10_) ++ t204).size + 1 ≤ 9223372036854775807
               ·rw [if_pos c45] at H
                have c45b0 := eq_true c45
                have c45b1 : decide ((((rdOf ByteArray.empty y193 (ji8)) ++ ba10_) ++ t204).size + 1 ≤ 9223372036854775807) = true := decide_eq_true c45
                try have c45b2 : (9223372036854775807 < (((rdOf ByteArray.empty y193 (ji8)) ++ ba10_) ++ t204).size + 1) = False := eq_false (Nat.not_lt.2 c45)
                (try (have c45b2n := c45b2; simp only [ByteArray.size_append, szPAx10.one_, szPAx10.two_, szPAx10.three_] at c45b2n))
                by_cases c46 : ((((rdOf ByteArray.empty y193 (ji8)) ++ ba10_) ++ t204) ++ ba10_).size + (rdOf ByteArray.empty y200 (ji39)).size ≤ 9223372036854775807
                ·rw [if_pos c46] at H
                 have c46b0 := eq_true c46
                 have c46b1 : decide (((((rdOf ByteArray.empty y193 (ji8)) ++ ba10_) ++ t204) ++ ba10_).size + (rdOf ByteArray.empty y200 (ji39)).size ≤ 9223372036854775807) = true := decide_eq_true c46
                 try have c46b2 : (9223372036854775807 < ((((rdOf ByteArray.empty y193 (ji8)) ++ ba10_) ++ t204) ++ ba10_).size + (rdOf ByteArray.empty y200 (ji39)).size) = False := eq_false (Nat.not_lt.2 c46)
                 (try (have c46b2n := c46b2; simp only [ByteArray.size_append, szPAx10.one_, szPAx10.two_, szPAx10.three_] at c46b2n))
                 by_cases c47 : (((((rdOf ByteArray.empty y193 (ji8)) ++ ba10_) ++ t204) ++ ba10_) ++ (rdOf ByteArray.empty y200 (ji39))).size + 1 ≤ 9223372036854775807
                 ·rw [if_pos c47] at H
                  have c47b0 := eq_true c47
                  have c47b1 : decide ((((((rdOf ByteArray.empty y193 (ji8)) ++ ba10_) ++ t204) ++ ba10_) ++ (rdOf ByteArray.empty y200 (ji39))).size + 1 ≤ 9223372036854775807) = true := decide_eq_true c47
                  try have c47b2 : (9223372036854775807 < (((((rdOf ByteArray.empty y193 (ji8)) ++ ba10_) ++ t204) ++ ba10_) ++ (rdOf ByteArray.empty y200 (ji39))).size + 1) = False := eq_false (Nat.not_lt.2 c47)
                  (try (have c47b2n := c47b2; simp only [ByteArray.size_append, szPAx10.one_, szPAx10.two_, szPAx10.three_] at c47b2n))
                  by_cases c48 : ((((((rdOf ByteArray.empty y193 (ji8)) ++ ba10_) ++ t204) ++ ba10_) ++ (rdOf ByteArray.empty y200 (ji39))) ++ ba10_).size + a0_3.size ≤ 9223372036854775807
                  ·rw [if_pos c48] at H
                   have c48b0 := eq_true c48
                   have c48b1 : decide (((((((rdOf ByteArray.empty y193 (ji8)) ++ ba10_) ++ t204) ++ ba10_) ++ (rdOf ByteArray.empty y200 (ji39))) ++ ba10_).size + a0_3.size ≤ 9223372036854775807) = true := decide_eq_true c48
                   try have c48b2 : (9223372036854775807 < ((((((rdOf ByteArray.empty y193 (ji8)) ++ ba10_) ++ t204) ++ ba10_) ++ (rdOf ByteArray.empty y200 (ji39))) ++ ba10_).size + a0_3.size) = False := eq_false (Nat.not_lt.2 c48)
                   (try (have c48b2n := c48b2; simp only [ByteArray.size_append, szPAx10.one_, szPAx10.two_, szPAx10.three_] at c48b2n))
                   by_cases c49 : (((((((rdOf ByteArray.empty y193 (ji8)) ++ ba10_) ++ t204) ++ ba10_) ++ (rdOf ByteArray.empty y200 (ji39))) ++ ba10_) ++ a0_3).size + 1 ≤ 9223372036854775807
                   ·rw [if_pos c49] at H
                    have c49b0 := eq_true c49
                    have c49b1 : decide ((((((((rdOf ByteArray.empty y193 (ji8)) ++ ba10_) ++ t204) ++ ba10_) ++ (rdOf ByteArray.empty y200 (ji39))) ++ ba10_) ++ a0_3).size + 1 ≤ 9223372036854775807) = true := decide_eq_true c49
                    try have c49b2 : (9223372036854775807 < (((((((rdOf ByteArray.empty y193 (ji8)) ++ ba10_) ++ t204) ++ ba10_) ++ (rdOf ByteArray.empty y200 (ji39))) ++ ba10_) ++ a0_3).size + 1) = False := eq_false (Nat.not_lt.2 c49)
                    (try (have c49b2n := c49b2; simp only [ByteArray.size_append, szPAx10.one_, szPAx10.two_, szPAx10.three_] at c49b2n))
                    by_cases c50 : ((((((((rdOf ByteArray.empty y193 (ji8)) ++ ba10_) ++ t204) ++ ba10_) ++ (rdOf ByteArray.empty y200 (ji39))) ++ ba10_) ++ a0_3) ++ ba10_).size + a0_4.size ≤ 9223372036854775807
                    ·rw [if_pos c50] at H
                     have c50b0 := eq_true c50
                     have c50b1 : decide (((((((((rdOf ByteArray.empty y193 (ji8)) ++ ba10_) ++ t204) ++ ba10_) ++ (rdOf ByteArray.empty y200 (ji39))) ++ ba10_) ++ a0_3) ++ ba10_).size + a0_4.size ≤ 9223372036854775807) = true := decide_eq_true c50
                     try have c50b2 : (9223372036854775807 < ((((((((rdOf ByteArray.empty y193 (ji8)) ++ ba10_) ++ t204) ++ ba10_) ++ (rdOf ByteArray.empty y200 (ji39))) ++ ba10_) ++ a0_3) ++ ba10_).size + a0_4.size) = False := eq_false (Nat.not_lt.2 c50)
                     (try (have c50b2n := c50b2; simp only [ByteArray.size_append, szPAx10.one_, szPAx10.two_, szPAx10.three_] at c50b2n))
                     by_cases c51 : (((((((((rdOf ByteArray.empty y193 (ji8)) ++ ba10_) ++ t204) ++ ba10_) ++ (rdOf ByteArray.empty y200 (ji39))) ++ ba10_) ++ a0_3) ++ ba10_) ++ a0_4).size + 1 ≤ 9223372036854775807
                     ·rw [if_pos c51] at H
                      have c51b0 := eq_true c51
                      have c51b1 : decide ((((((((((rdOf ByteArray.empty y193 (ji8)) ++ ba10_) ++ t204) ++ ba10_) ++ (rdOf ByteArray.empty y200 (ji39))) ++ ba10_) ++ a0_3) ++ ba10_) ++ a0_4).size + 1 ≤ 9223372036854775807) = true := decide_eq_true c51
                      try have c51b2 : (9223372036854775807 < (((((((((rdOf ByteArray.empty y193 (ji8)) ++ ba10_) ++ t204) ++ ba10_) ++ (rdOf ByteArray.empty y200 (ji39))) ++ ba10_) ++ a0_3) ++ ba10_) ++ a0_4).size + 1) = False := eq_false (Nat.not_lt.2 c51)
                      (try (have c51b2n := c51b2; simp only [ByteArray.size_append, szPAx10.one_, szPAx10.two_, szPAx10.three_] at c51b2n))
                      by_cases c52 : ((((((((((rdOf ByteArray.empty y193 (ji8)) ++ ba10_) ++ t204) ++ ba10_) ++ (rdOf ByteArray.empty y200 (ji39))) ++ ba10_) ++ a0_3) ++ ba10_) ++ a0_4) ++ ba10_).size + a0_5.size ≤ 9223372036854775807
                      ·rw [if_pos c52] at H
                       have c52b0 := eq_true c52
                       have c52b1 : decide (((((((((((rdOf ByteArray.empty y193 (ji8)) ++ ba10_) ++ t204) ++ ba10_) ++ (rdOf ByteArray.empty y200 (ji39))) ++ ba10_) ++ a0_3) ++ ba10_) ++ a0_4) ++ ba10_).size + a0_5.size ≤ 9223372036854775807) = true := decide_eq_true c52
                       try have c52b2 : (9223372036854775807 < ((((((((((rdOf ByteArray.empty y193 (ji8)) ++ ba10_) ++ t204) ++ ba10_) ++ (rdOf ByteArray.empty y200 (ji39))) ++ ba10_) ++ a0_3) ++ ba10_) ++ a0_4) ++ ba10_).size + a0_5.size) = False := eq_false (Nat.not_lt.2 c52)
                       (try (have c52b2n := c52b2; simp only [ByteArray.size_append, szPAx10.one_, szPAx10.two_, szPAx10.three_] at c52b2n))
                       by_cases c53 : (((((((((((rdOf ByteArray.empty y193 (ji8)) ++ ba10_) ++ t204) ++ ba10_) ++ (rdOf ByteArray.empty y200 (ji39))) ++ ba10_) ++ a0_3) ++ ba10_) ++ a0_4) ++ ba10_) ++ a0_5).size + 1 ≤ 9223372036854775807
                       ·rw [if_pos c53] at H
                        have c53b0 := eq_true c53
                        have c53b1 : decide ((((((((((((rdOf ByteArray.empty y193 (ji8)) ++ ba10_) ++ t204) ++ ba10_) ++ (rdOf ByteArray.empty y200 (ji39))) ++ ba10_) ++ a0_3) ++ ba10_) ++ a0_4) ++ ba10_) ++ a0_5).size + 1 ≤ 9223372036854775807) = true := decide_eq_true c53
                        try have c53b2 : (9223372036854775807 < (((((((((((rdOf ByteArray.empty y193 (ji8)) ++ ba10_) ++ t204) ++ ba10_) ++ (rdOf ByteArray.empty y200 (ji39))) ++ ba10_) ++ a0_3) ++ ba10_) ++ a0_4) ++ ba10_) ++ a0_5).size + 1) = False := eq_false (Nat.not_lt.2 c53)
                        (try (have c53b2n := c53b2; simp only [ByteArray.size_append, szPAx10.one_, szPAx10.two_, szPAx10.three_] at c53b2n))
                        by_cases c54 : ((((((((((((rdOf ByteArray.empty y193 (ji8)) ++ ba10_) ++ t204) ++ ba10_) ++ (rdOf ByteArray.empty y200 (ji39))) ++ ba10_) ++ a0_3) ++ ba10_) ++ a0_4) ++ ba10_) ++ a0_5) ++ ba10_).size + a0_6.size ≤ 9223372036854775807
                        ·rw [if_pos c54] at H
                         have c54b0 := eq_true c54
                         have c54b1 : decide (((((((((((((rdOf ByteArray.empty y193 (ji8)) ++ ba10_) ++ t204) ++ ba10_) ++ (rdOf ByteArray.empty y200 (ji39))) ++ ba10_) ++ a0_3) ++ ba10_) ++ a0_4) ++ ba10_) ++ a0_5) ++ ba10_).size + a0_6.size ≤ 9223372036854775807) = true := decide_eq_true c54
                         try have c54b2 : (9223372036854775807 < ((((((((((((rdOf ByteArray.empty y193 (ji8)) ++ ba10_) ++ t204) ++ ba10_) ++ (rdOf ByteArray.empty y200 (ji39))) ++ ba10_) ++ a0_3) ++ ba10_) ++ a0_4) ++ ba10_) ++ a0_5) ++ ba10_).size + a0_6.size) = False := eq_false (Nat.not_lt.2 c54)
                         (try (have c54b2n := c54b2; simp only [ByteArray.size_append, szPAx10.one_, szPAx10.two_, szPAx10.three_] at c54b2n))
                         obtain rfl := Option.some.inj H
                         try go_wp2_with (first | ((with_reducible refine gate_dst (N := 14) rfl ?_); refine Kd.R_lit Kd.string _ 9 ?hg (N := 14) ?hd (xs := ([bc10_, bd10_, bf10_, bi10_, bj10_, bh10_, bg10_, bk10_, bl10_] : List ByteArray)) (inner := [.string bc10_, .string bd10_, .string bf10_, .string bi10_, .string bj10_, .string bh10_, .string bg10_, .string bk10_, .string bl10_]) (ok := fun _ => True) (okp := fun _ => True) ?hr ?hp (fun _ hk => hk) trivial (Below.refl _ _) (Nat.le_refl _) (by simp) ?_; (case hd => rfl); (case hg => rfl); (case hr => first | (go_simp; done) | (go_simp; rfl)); (case hp => exact (Reps.one (show Kd.M Kd.string _ _ _ bc10_ [.string bc10_] from rfl) (Reps.one (show Kd.M Kd.string _ _ _ bd10_ [.string bd10_] from rfl) (Reps.one (show Kd.M Kd.string _ _ _ bf10_ [.string bf10_] from rfl) (Reps.one (show Kd.M Kd.string _ _ _ bi10_ [.string bi10_] from rfl) (Reps.one (show Kd.M Kd.string _ _ _ bj10_ [.string bj10_] from rfl) (Reps.one (show Kd.M Kd.string _ _ _ bh10_ [.string bh10_] from rfl) (Reps.one (show Kd.M Kd.string _ _ _ bg10_ [.string bg10_] from rfl) (Reps.one (show Kd.M Kd.string _ _ _ bk10_ [.string bk10_] from rfl) (Reps.one (show Kd.M Kd.string _ _ _ bl10_ [.string bl10_] from rfl) (Reps.none _ _))))))))))); intro v194 w55 ho56 hb hg_ hnew_; clear hg_ hnew_; (first | rw [← Ny193.out] at ho56 | (simp only [Int.reduceToNat] at ho56; rw [← Ny193.out] at ho56)); have n0_ := Aside0.mk (Kd.R_lower ho56 (below_size (by repeat (first | (with_reducible first | exact HB.out | apply a1_ | apply a2_ | apply a3_ | refine below_set ?_ GE192.out) | exact HB.out)))); have n1_ := Aside0.mk (blk_below (g := gb192) (o := .cells #[.int .i64 a0_0, .int .i64 a0_1, .int .i64 a0_2, .string a0_3, .string a0_4, .string a0_5, .string a0_6, .int .i64 a0_7, .string a0_8] 30 (0, 0)) (by (with_reducible repeat (first | refine blk_drewN ?_ _ | refine blk_drew ?_ | refine blk_alloc ?_ _)); exact BK192.out) hb); have n2_ := Aside0.mk (below_step (by repeat (first | (with_reducible first | exact HB.out | apply a1_ | apply a2_ | apply a3_ | refine below_set ?_ GE192.out) | exact HB.out)) hb); clear BK192; clear HB; have HO195 := n0_; have BK192 := n1_; have HB := n2_; clear n0_ n1_ n2_; clear hb ho56; have hcz57_0 : w55.cell? ⟨gb192, 0, none⟩ = some (.int .i64 a0_0) := (blk_cell BK192.out 0).trans rfl; have hcz57_1 : w55.cell? ⟨gb192, 1, none⟩ = some (.int .i64 a0_1) := (blk_cell BK192.out 1).trans rfl; have hcz57_2 : w55.cell? ⟨gb192, 2, none⟩ = some (.int .i64 a0_2) := (blk_cell BK192.out 2).trans rfl; have hcz57_3 : w55.cell? ⟨gb192, 3, none⟩ = some (.string a0_3) := (blk_cell BK192.out 3).trans rfl; have hcz57_4 : w55.cell? ⟨gb192, 4, none⟩ = some (.string a0_4) := (blk_cell BK192.out 4).trans rfl; have hcz57_5 : w55.cell? ⟨gb192, 5, none⟩ = some (.string a0_5) := (blk_cell BK192.out 5).trans rfl; have hcz57_6 : w55.cell? ⟨gb192, 6, none⟩ = some (.string a0_6) := (blk_cell BK192.out 6).trans rfl; have hcz57_7 : w55.cell? ⟨gb192, 7, none⟩ = some (.int .i64 a0_7) := (blk_cell BK192.out 7).trans rfl; have hcz57_8 : w55.cell? ⟨gb192, 8, none⟩ = some (.string a0_8) := (blk_cell BK192.out 8).trans rfl; have hfz57_0 := blk_frozen BK192.out 0; have hfz57_1 := blk_frozen BK192.out 1; have hfz57_2 := blk_frozen BK192.out 2; have hfz57_3 := blk_frozen BK192.out 3; have hfz57_4 := blk_frozen BK192.out 4; have hfz57_5 := blk_frozen BK192.out 5; have hfz57_6 := blk_frozen BK192.out 6; have hfz57_7 := blk_frozen BK192.out 7; have hfz57_8 := blk_frozen BK192.out 8; obtain ⟨Ao58, co58, eo58⟩ := Kd.R_slice HO195.out; subst eo58; have p196 : 0 ≤ ((ji8) : Int) := of_decide_eq_true (by first | (with_reducible assumption) | assumption); have q196 : (ji8) < (y193.length : Int) := of_decide_eq_true (by first | (with_reducible assumption) | assumption); obtain ⟨ad196, e196, hx196_0⟩ := Kd.at_string (Kd.R_reads' HO195.out).2.2 (ji8) p196 q196; cases e196; replace p196 := eq_true p196; replace q196 := eq_true q196) | ((with_reducible refine gate_dst (N := 4) rfl ?_); refine box_event ?hg (N := 4) ?hd (cs := #[.int .i64 0, .string be10_, .string be10_, .string be10_, .string be10_]) (t := 28) ?hr ?_; (case hd => rfl); (case hg => rfl); (case hr => first | (go_simp; done) | (go_simp; rfl)); intro gb199 hg w59 hbox hb; have n0_ := Aside0.mk (Kd.R_below (by (with_reducible repeat (first | apply Kd.R_alloc | apply Kd.R_drewN | apply Kd.R_drew)); exact HO195.out) hb); have n1_ := Aside0.mk (blk_below (g := gb192) (o := .cells #[.int .i64 a0_0, .int .i64 a0_1, .int .i64 a0_2, .string a0_3, .string a0_4, .string a0_5, .string a0_6, .int .i64 a0_7, .string a0_8] 30 (0, 0)) (by (with_reducible repeat (first | refine blk_drewN ?_ _ | refine blk_drew ?_ | refine blk_alloc ?_ _)); exact BK192.out) hb); have n2_ := Aside0.mk (below_step (by repeat (first | (with_reducible first | exact HB.out | apply a1_ | apply a2_ | apply a3_ | refine below_set ?_ GE192.out) | exact HB.out)) hb); have n3_ := Aside0.mk (hbox); have n4_ := Aside0.mk ((by rw [hg]; exact (below_size (by repeat (first | (with_reducible first | exact HB.out | apply a1_ | apply a2_ | apply a3_ | refine below_set ?_ GE192.out) | exact HB.out))) : w.heap.size ≤ gb199)); have n5_ := Aside0.mk ((by rw [hg]; exact (below_size (by repeat (first | (with_reducible first | exact HB.out | apply a1_ | apply a2_ | apply a3_ | refine below_set ?_ GE192.out) | exact HB.out))) : w.heap.size ≤ gb199)); have n6_ := Aside0.mk ((by rw [hg]; exact Nat.ne_of_lt (blk_lt (g := gb192) (o := .cells #[.int .i64 a0_0, .int .i64 a0_1, .int .i64 a0_2, .string a0_3, .string a0_4, .string a0_5, .string a0_6, .int .i64 a0_7, .string a0_8] 30 (0, 0)) (by (with_reducible repeat (first | refine blk_drewN ?_ _ | refine blk_drew ?_ | refine blk_alloc ?_ _)); exact BK192.out)) : gb192 ≠ gb199)); have n7_ := Aside0.mk ((by rw [hg]; exact Nat.ne_of_gt (blk_lt (g := gb192) (o := .cells #[.int .i64 a0_0, .int .i64 a0_1, .int .i64 a0_2, .string a0_3, .string a0_4, .string a0_5, .string a0_6, .int .i64 a0_7, .string a0_8] 30 (0, 0)) (by (with_reducible repeat (first | refine blk_drewN ?_ _ | refine blk_drew ?_ | refine blk_alloc ?_ _)); exact BK192.out)) : gb199 ≠ gb192)); clear HO195; clear BK192; clear HB; have HO195 := n0_; have BK192 := n1_; have HB := n2_; have BK199 := n3_; have GW199 := n4_; have GE199 := n5_; have NB192_199 := n6_; have NB199_192 := n7_; clear n0_ n1_ n2_ n3_ n4_ n5_ n6_ n7_; clear hb hbox hg; have hnb60 := NB199_192.out; have hnc60 := NB192_199.out; have hcz61_0 : w59.cell? ⟨gb199, 0, none⟩ = some (.int .i64 0) := (blk_cell BK199.out 0).trans rfl; have hcz61_1 : w59.cell? ⟨gb199, 1, none⟩ = some (.string be10_) := (blk_cell BK199.out 1).trans rfl; have hcz61_2 : w59.cell? ⟨gb199, 2, none⟩ = some (.string be10_) := (blk_cell BK199.out 2).trans rfl; have hcz61_3 : w59.cell? ⟨gb199, 3, none⟩ = some (.string be10_) := (blk_cell BK199.out 3).trans rfl; have hcz61_4 : w59.cell? ⟨gb199, 4, none⟩ = some (.string be10_) := (blk_cell BK199.out 4).trans rfl; have hfz61_0 := blk_frozen BK199.out 0; have hfz61_1 := blk_frozen BK199.out 1; have hfz61_2 := blk_frozen BK199.out 2; have hfz61_3 := blk_frozen BK199.out 3; have hfz61_4 := blk_frozen BK199.out 4) | ((with_reducible refine gate_dst (N := 55) rfl ?_); refine Kd.R_lit Kd.string _ 9 ?hg (N := 55) ?hd (xs := ([bo10_, bn10_, bp10_, bm10_] : List ByteArray)) (inner := [.string bo10_, .string bn10_, .string bp10_, .string bm10_]) (ok := fun _ => True) (okp := fun _ => True) ?hr ?hp (fun _ hk => hk) trivial (Below.refl _ _) (Nat.le_refl _) (by simp) ?_; (case hd => rfl); (case hg => rfl); (case hr => first | (go_simp; done) | (go_simp; rfl)); (case hp => exact (Reps.one (show Kd.M Kd.string _ _ _ bo10_ [.string bo10_] from rfl) (Reps.one (show Kd.M Kd.string _ _ _ bn10_ [.string bn10_] from rfl) (Reps.one (show Kd.M Kd.string _ _ _ bp10_ [.string bp10_] from rfl) (Reps.one (show Kd.M Kd.string _ _ _ bm10_ [.string bm10_] from rfl) (Reps.none _ _)))))); intro v201 w62 ho63 hb hg_ hnew_; clear hg_ hnew_; (first | rw [← Ny200.out] at ho63 | (simp only [Int.reduceToNat] at ho63; rw [← Ny200.out] at ho63)); have n0_ := Aside0.mk (Kd.R_elder' (by (with_reducible repeat (first | apply Kd.R_alloc | apply Kd.R_drewN | apply Kd.R_drew)); exact (Kd.R_mono (Kd.R_far (p := ⟨gb199, 4, none⟩) (Kd.R_far (p := ⟨gb199, 3, none⟩) (Kd.R_far (p := ⟨gb199, 2, none⟩) (Kd.R_far (p := ⟨gb199, 1, none⟩) (Kd.R_far (p := ⟨gb199, 0, none⟩) (Kd.R_types HO195.out BK199.out (by decide)) (fun _ hk => hk.2) (.int .i64 a0_2)) (fun _ hk => hk.2) (.string a0_3)) (fun _ hk => hk.2) (.string a0_4)) (fun _ hk => hk.2) (.string a0_5)) (fun _ hk => hk.2) (.string a0_6)) (fun _ h_ => h_.1))) (Kd.R_base ho63) hb); have n1_ := Aside0.mk (Kd.R_lower (Kd.R_new' ho63 (Kd.R_lt (by (with_reducible repeat (first | apply Kd.R_alloc | apply Kd.R_drewN | apply Kd.R_drew)); exact (Kd.R_mono (Kd.R_far (p := ⟨gb199, 4, none⟩) (Kd.R_far (p := ⟨gb199, 3, none⟩) (Kd.R_far (p := ⟨gb199, 2, none⟩) (Kd.R_far (p := ⟨gb199, 1, none⟩) (Kd.R_far (p := ⟨gb199, 0, none⟩) (Kd.R_types HO195.out BK199.out (by decide)) (fun _ hk => hk.2) (.int .i64 a0_2)) (fun _ hk => hk.2) (.string a0_3)) (fun _ hk => hk.2) (.string a0_4)) (fun _ hk => hk.2) (.string a0_5)) (fun _ hk => hk.2) (.string a0_6)) (fun _ h_ => h_.1))))) (below_size (by repeat (first | (with_reducible first | exact HB.out | apply a1_ | apply a2_ | apply a3_ | refine below_set ?_ GE192.out | refine below_set ?_ GE199.out) | exact HB.out)))); have n2_ := Aside0.mk (blk_below (g := gb192) (o := .cells #[.int .i64 a0_0, .int .i64 a0_1, .int .i64 a0_2, .string a0_3, .string a0_4, .string a0_5, .string a0_6, .int .i64 a0_7, .string a0_8] 30 (0, 0)) (by (with_reducible repeat (first | refine blk_drewN ?_ _ | refine blk_drew ?_ | refine blk_alloc ?_ _)); refine blk_far ?_ NB192_199.out _; (with_reducible repeat (first | refine blk_drewN ?_ _ | refine blk_drew ?_ | refine blk_alloc ?_ _)); refine blk_far ?_ NB192_199.out _; (with_reducible repeat (first | refine blk_drewN ?_ _ | refine blk_drew ?_ | refine blk_alloc ?_ _)); refine blk_far ?_ NB192_199.out _; (with_reducible repeat (first | refine blk_drewN ?_ _ | refine blk_drew ?_ | refine blk_alloc ?_ _)); refine blk_far ?_ NB192_199.out _; (with_reducible repeat (first | refine blk_drewN ?_ _ | refine blk_drew ?_ | refine blk_alloc ?_ _)); refine blk_far ?_ NB192_199.out _; (with_reducible repeat (first | refine blk_drewN ?_ _ | refine blk_drew ?_ | refine blk_alloc ?_ _)); exact BK192.out) hb); have n3_ := Aside0.mk (blk_below (g := gb199) (o := .cells #[.int .i64 a0_2, .string a0_3, .string a0_4, .string a0_5, .string a0_6] 28 (0, 0)) (by (with_reducible repeat (first | refine blk_drewN ?_ _ | refine blk_drew ?_ | refine blk_alloc ?_ _)); refine blk_put (cs := #[.int .i64 a0_2, .string a0_3, .string a0_4, .string a0_5, .string be10_]) ?_ 4 _ rfl; (with_reducible repeat (first | refine blk_drewN ?_ _ | refine blk_drew ?_ | refine blk_alloc ?_ _)); refine blk_put (cs := #[.int .i64 a0_2, .string a0_3, .string a0_4, .string be10_, .string be10_]) ?_ 3 _ rfl; (with_reducible repeat (first | refine blk_drewN ?_ _ | refine blk_drew ?_ | refine blk_alloc ?_ _)); refine blk_put (cs := #[.int .i64 a0_2, .string a0_3, .string be10_, .string be10_, .string be10_]) ?_ 2 _ rfl; (with_reducible repeat (first | refine blk_drewN ?_ _ | refine blk_drew ?_ | refine blk_alloc ?_ _)); refine blk_put (cs := #[.int .i64 a0_2, .string be10_, .string be10_, .string be10_, .string be10_]) ?_ 1 _ rfl; (with_reducible repeat (first | refine blk_drewN ?_ _ | refine blk_drew ?_ | refine blk_alloc ?_ _)); refine blk_put (cs := #[.int .i64 0, .string be10_, .string be10_, .string be10_, .string be10_]) ?_ 0 _ rfl; (with_reducible repeat (first | refine blk_drewN ?_ _ | refine blk_drew ?_ | refine blk_alloc ?_ _)); exact BK199.out) hb); have n4_ := Aside0.mk (below_step (by repeat (first | (with_reducible first | exact HB.out | apply a1_ | apply a2_ | apply a3_ | refine below_set ?_ GE192.out | refine below_set ?_ GE199.out) | exact HB.out)) hb); clear HO195; clear BK192; clear BK199; clear HB; have HO195 := n0_; have HO202 := n1_; have BK192 := n2_; have BK199 := n3_; have HB := n4_; clear n0_ n1_ n2_ n3_ n4_; clear hb ho63; have hcz64_0 : w62.cell? ⟨gb199, 0, none⟩ = some (.int .i64 a0_2) := (blk_cell BK199.out 0).trans rfl; have hcz64_1 : w62.cell? ⟨gb199, 1, none⟩ = some (.string a0_3) := (blk_cell BK199.out 1).trans rfl; have hcz64_2 : w62.cell? ⟨gb199, 2, none⟩ = some (.string a0_4) := (blk_cell BK199.out 2).trans rfl; have hcz64_3 : w62.cell? ⟨gb199, 3, none⟩ = some (.string a0_5) := (blk_cell BK199.out 3).trans rfl; have hcz64_4 : w62.cell? ⟨gb199, 4, none⟩ = some (.string a0_6) := (blk_cell BK199.out 4).trans rfl; have hfz64_0 := blk_frozen BK199.out 0; have hfz64_1 := blk_frozen BK199.out 1; have hfz64_2 := blk_frozen BK199.out 2; have hfz64_3 := blk_frozen BK199.out 3; have hfz64_4 := blk_frozen BK199.out 4; obtain ⟨Ao65, co65, eo65⟩ := Kd.R_slice HO202.out; subst eo65; have p203 : 0 ≤ ((ji39) : Int) := of_decide_eq_true (by first | (with_reducible assumption) | assumption); have q203 : (ji39) < (y200.length : Int) := of_decide_eq_true (by first | (with_reducible assumption) | assumption); obtain ⟨ad203, e203, hx203_0⟩ := Kd.at_string (Kd.R_reads' HO202.out).2.2 (ji39) p203 q203; cases e203; replace p203 := eq_true p203; replace q203 := eq_true q203))
                         have n0_ := Aside0.mk (Kd.R_drew HO195.out)
                         have n1_ := Aside0.mk (Kd.R_drew HO202.out)
                         have n2_ := Aside0.mk (blk_drew BK192.out)
                         have n3_ := Aside0.mk (blk_drew BK199.out)
                         have n4_ := Aside0.mk (below_drew1 HB.out)
                         clear HO195
                         clear HO202
                         clear BK192
                         clear BK199
                         clear HB
                         have HO195 := n0_
                         have HO202 := n1_
                         have BK192 := n2_
                         have BK199 := n3_
                         have HB := n4_
                         clear n0_ n1_ n2_ n3_ n4_
                         refine start_ (n := 26) (S := fun w' => w'.cell? ⟨gb192, 0, none⟩ = some (.int .i64 a0_0) ∧ w'.cell? ⟨gb192, 1, none⟩ = some (.int .i64 a0_1) ∧ w'.cell? ⟨gb192, 2, none⟩ = some (.int .i64 a0_2) ∧ w'.cell? ⟨gb192, 3, none⟩ = some (.string a0_3) ∧ w'.cell? ⟨gb192, 4, none⟩ = some (.string a0_4) ∧ w'.cell? ⟨gb192, 5, none⟩ = some (.string a0_5) ∧ w'.cell? ⟨gb192, 6, none⟩ = some (.string a0_6) ∧ w'.cell? ⟨gb192, 7, none⟩ = some (.int .i64 a0_7) ∧ w'.cell? ⟨gb192, 8, none⟩ = some (.string a0_8) ∧ w'.cell? ⟨gb199, 0, none⟩ = some (.int .i64 a0_2) ∧ w'.cell? ⟨gb199, 1, none⟩ = some (.string a0_3) ∧ w'.cell? ⟨gb199, 2, none⟩ = some (.string a0_4) ∧ w'.cell? ⟨gb199, 3, none⟩ = some (.string a0_5) ∧ w'.cell? ⟨gb199, 4, none⟩ = some (.string a0_6)) (ds := []) #[F_,F_,F_,F_,F_,F_,F_,F_,F_,F_,F_,F_,F_,F_,F_,F_,F_,F_,F_,F_,F_,F_,F_,F_,F_,F_] (by kernel_rfl) rfl rfl ⟨(blk_cell BK192.out 0).trans rfl, (blk_cell BK192.out 1).trans rfl, (blk_cell BK192.out 2).trans rfl, (blk_cell BK192.out 3).trans rfl, (blk_cell BK192.out 4).trans rfl, (blk_cell BK192.out 5).trans rfl, (blk_cell BK192.out 6).trans rfl, (blk_cell BK192.out 7).trans rfl, (blk_cell BK192.out 8).trans rfl, (blk_cell BK199.out 0).trans rfl, (blk_cell BK199.out 1).trans rfl, (blk_cell BK199.out 2).trans rfl, (blk_cell BK199.out 3).trans rfl, (blk_cell BK199.out 4).trans rfl⟩ (fun hHeld => ?_); refine with_tabW outlawref23_Line.tab15 outlawref23_Line.bits15 (fun HT_ HW_ => ?_)
                         generalize w62.drew = w66 at HO195 HO202 BK192 BK199 HB hHeld ⊢
                         refine pq_ 0 61 (mb_ 26 1) HT_.out ?_
                         refine pq_ 1 62 (mb_ 26 3) HT_.out ?_
                         refine pq_ 2 63 (mb_ 26 7) HT_.out ?_
                         refine pq_ 7 68 (mb_ 26 135) HT_.out ?_
                         refine pq_ 10 71 (mb_ 26 1159) HT_.out ?_
                         refine pq_ 14 75 (mb_ 26 17543) HT_.out ?_
                         refine pq_ 18 79 (mb_ 26 279687) HT_.out ?_
                         refine pq_ 22 83 (mb_ 26 4473991) HT_.out ?_
                         refine tq_ 3 64 (mb_ 26 4473999) HT_.out HW_.out hHeld ?_ (hr := by rintro w' ⟨s0, s1, s2, s3, s4, s5, s6, s7, s8, s9, s10, s11, s12, s13⟩; go_simp; with_reducible rfl)
                         refine tq_ 11 72 (mb_ 26 4476047) HT_.out HW_.out hHeld ?_ (hr := by rintro w' ⟨s0, s1, s2, s3, s4, s5, s6, s7, s8, s9, s10, s11, s12, s13⟩; go_simp; with_reducible rfl)
                         refine tq_ 15 76 (mb_ 26 4508815) HT_.out HW_.out hHeld ?_ (hr := by rintro w' ⟨s0, s1, s2, s3, s4, s5, s6, s7, s8, s9, s10, s11, s12, s13⟩; go_simp; with_reducible rfl)
                         refine tq_ 19 80 (mb_ 26 5033103) HT_.out HW_.out hHeld ?_ (hr := by rintro w' ⟨s0, s1, s2, s3, s4, s5, s6, s7, s8, s9, s10, s11, s12, s13⟩; go_simp; with_reducible rfl)
                         refine tq_ 23 84 (mb_ 26 13421711) HT_.out HW_.out hHeld ?_ (hr := by rintro w' ⟨s0, s1, s2, s3, s4, s5, s6, s7, s8, s9, s10, s11, s12, s13⟩; go_simp; with_reducible rfl)
                         refine one_ (i := 4) (N := some 65) (mb_ 26 13421727) rfl rfl (one_of HT_.out (by kernel_rfl)) (by decide) (fun K hK => ?_)
                         refine goes_ Tryd.func40 (by kernel_rfl) rfl #[.int .i64 a0_1] (by rfl) rfl rfl (by (try simp only [List.map_toArray, List.map_cons, List.map_nil]); first | done | rfl | (simp only [List.length_drop, List.length_take]; rfl)) ?_
                         with_reducible refine (outlawref21_Digits.calls kj1 a0_1 t204 _ A43.out).mono ?_
                         rintro e w67 ⟨rfl, hb⟩
                         refine ⟨_, rfl, ?_⟩
                         have n0_ := Aside0.mk (Kd.R_below (by (with_reducible repeat (first | apply Kd.R_alloc | apply Kd.R_drewN | apply Kd.R_drew)); exact HO195.out) hb)
                         have n1_ := Aside0.mk (Kd.R_below (by (with_reducible repeat (first | apply Kd.R_alloc | apply Kd.R_drewN | apply Kd.R_drew)); exact HO202.out) hb)
                         have n2_ := Aside0.mk (blk_below (g := gb192) (o := .cells #[.int .i64 a0_0, .int .i64 a0_1, .int .i64 a0_2, .string a0_3, .string a0_4, .string a0_5, .string a0_6, .int .i64 a0_7, .string a0_8] 30 (0, 0)) (by (with_reducible repeat (first | refine blk_drewN ?_ _ | refine blk_drew ?_ | refine blk_alloc ?_ _)); exact BK192.out) hb)
                         have n3_ := Aside0.mk (blk_below (g := gb199) (o := .cells #[.int .i64 a0_2, .string a0_3, .string a0_4, .string a0_5, .string a0_6] 28 (0, 0)) (by (with_reducible repeat (first | refine blk_drewN ?_ _ | refine blk_drew ?_ | refine blk_alloc ?_ _)); exact BK199.out) hb)
                         have n4_ := Aside0.mk (below_step (by repeat (first | (with_reducible first | exact HB.out | apply a1_ | apply a2_ | apply a3_ | refine below_set ?_ GE192.out | refine below_set ?_ GE199.out) | exact HB.out)) hb)
                         clear HO195
                         clear HO202
                         clear BK192
                         clear BK199
                         clear HB
                         have HO195 := n0_
                         have HO202 := n1_
                         have BK192 := n2_
                         have BK199 := n3_
                         have HB := n4_
                         clear n0_ n1_ n2_ n3_ n4_
                         (try clear hb)
                         (try clear hb2)
                         (try clear hk)
                         (try clear hi)
                         refine hK.out _ _ ⟨(blk_cell BK192.out 0).trans rfl, (blk_cell BK192.out 1).trans rfl, (blk_cell BK192.out 2).trans rfl, (blk_cell BK192.out 3).trans rfl, (blk_cell BK192.out 4).trans rfl, (blk_cell BK192.out 5).trans rfl, (blk_cell BK192.out 6).trans rfl, (blk_cell BK192.out 7).trans rfl, (blk_cell BK192.out 8).trans rfl, (blk_cell BK199.out 0).trans rfl, (blk_cell BK199.out 1).trans rfl, (blk_cell BK199.out 2).trans rfl, (blk_cell BK199.out 3).trans rfl, (blk_cell BK199.out 4).trans rfl⟩ (fun hHeld => ?_)
                         clear hK K
                         refine norm_ (a' := ?_) ?_ ?_
                         rotate_left
                         ·show Act.put _ (some 65) _ = _
                          simp only [Act.put, List.setIfInBounds_toArray, List.set_cons_zero, List.set_cons_succ, i64_w, i32_w]
                          rfl
                         refine pq_ 5 66 (mb_ 26 13421759) HT_.out ?_
                         refine pq_ 6 67 (mb_ 26 13421823) HT_.out ?_
                         refine pq_ 8 69 (mb_ 26 13422079) HT_.out ?_
                         refine pq_ 9 70 (mb_ 26 13422591) HT_.out ?_
                         refine pq_ 12 73 (mb_ 26 13426687) HT_.out ?_
                         refine pq_ 13 74 (mb_ 26 13434879) HT_.out ?_
                         refine pq_ 16 77 (mb_ 26 13500415) HT_.out ?_
                         refine pq_ 17 78 (mb_ 26 13631487) HT_.out ?_
                         refine pq_ 20 81 (mb_ 26 14680063) HT_.out ?_
                         refine pq_ 21 82 (mb_ 26 16777215) HT_.out ?_
                         refine pq_ 24 85 (mb_ 26 33554431) HT_.out ?_
                         refine pq_ 25 2 (mb_ 26 67108863) HT_.out ?_
                         refine done_ (done_of HT_.out (by kernel_rfl)) ?_
                         try go_wp2
                         go_ret
                         exact ⟨by first | rfl | (simp [errW_none, errW_some] <;> rfl) | (simp only [← hji8, ← hji39]; first | rfl | (simp [errW_none, errW_some] <;> rfl)) | (simp [*, errW_none, errW_some] <;> rfl), by repeat (first | (with_reducible first | exact HB.out | apply a1_ | apply a2_ | apply a3_ | refine below_set ?_ GE192.out | refine below_set ?_ GE199.out) | exact HB.out)⟩
                        ·rw [if_neg c54] at H
                         exact absurd H (by simp)
                       ·rw [if_neg c53] at H
                        exact absurd H (by simp)
                      ·rw [if_neg c52] at H
                       exact absurd H (by simp)
                     ·rw [if_neg c51] at H
                      exact absurd H (by simp)
                    ·rw [if_neg c50] at H
                     exact absurd H (by simp)
                   ·rw [if_neg c49] at H
                    exact absurd H (by simp)
                  ·rw [if_neg c48] at H
                   exact absurd H (by simp)
                 ·rw [if_neg c47] at H
                  exact absurd H (by simp)
                ·rw [if_neg c46] at H
                 exact absurd H (by simp)
               ·rw [if_neg c45] at H
                exact absurd H (by simp)
              ·rw [if_neg c44] at H
               exact absurd H (by simp)
             ·rw [if_neg c42] at H
              exact absurd H (by simp)
            ·rw [if_neg c41] at H
             exact absurd H (by simp)
           ·rw [if_neg c40] at H
            exact absurd H (by simp)
          ·rw [if_neg c38] at H
           have c38b0 : decide (a0_2 ≤ 4) = false := decide_eq_false c38
           clear c38
           by_cases c68 : (rdOf ByteArray.empty y193 (ji8)).size + 1 ≤ 9223372036854775807
           ·rw [if_pos c68] at H
            have c68b0 := eq_true c68
            have c68b1 : decide ((rdOf ByteArray.empty y193 (ji8)).size + 1 ≤ 9223372036854775807) = true := decide_eq_true c68
            try have c68b2 : (9223372036854775807 < (rdOf ByteArray.empty y193 (ji8)).size + 1) = False := eq_false (Nat.not_lt.2 c68)
            (try (have c68b2n := c68b2; simp only [ByteArray.size_append, szPAx10.one_, szPAx10.two_, szPAx10.three_] at c68b2n))
            replace H := Option.bind_eq_some_iff.mp H
            obtain ⟨t205, A690, H⟩ := H
            have A69 := Aside0.mk A690
            clear A690
            by_cases c70 : ((rdOf ByteArray.empty y193 (ji8)) ++ ba10_).size + t205.size ≤ 9223372036854775807
            ·rw [if_pos c70] at H
             have c70b0 := eq_true c70
             have c70b1 : decide (((rdOf ByteArray.empty y193 (ji8)) ++ ba10_).size + t205.size ≤ 9223372036854775807) = true := decide_eq_true c70
             try have c70b2 : (9223372036854775807 < ((rdOf ByteArray.empty y193 (ji8)) ++ ba10_).size + t205.size) = False := eq_false (Nat.not_lt.2 c70)
             (try (have c70b2n := c70b2; simp only [ByteArray.size_append, szPAx10.one_, szPAx10.two_, szPAx10.three_] at c70b2n))
             by_cases c71 : (((rdOf ByteArray.empty y193 (ji8)) ++ ba10_) ++ t205).size + 1 ≤ 9223372036854775807
             ·rw [if_pos c71] at H
              have c71b0 := eq_true c71
              have c71b1 : decide ((((rdOf ByteArray.empty y193 (ji8)) ++ ba10_) ++ t205).size + 1 ≤ 9223372036854775807) = true := decide_eq_true c71
              try have c71b2 : (9223372036854775807 < (((rdOf ByteArray.empty y193 (ji8)) ++ ba10_) ++ t205).size + 1) = False := eq_false (Nat.not_lt.2 c71)
              (try (have c71b2n := c71b2; simp only [ByteArray.size_append, szPAx10.one_, szPAx10.two_, szPAx10.three_] at c71b2n))
              by_cases c72 : ((((rdOf ByteArray.empty y193 (ji8)) ++ ba10_) ++ t205) ++ ba10_).size + 1 ≤ 9223372036854775807
              ·rw [if_pos c72] at H
               have c72b0 := eq_true c72
               have c72b1 : decide (((((rdOf ByteArray.empty y193 (ji8)) ++ ba10_) ++ t205) ++ ba10_).size + 1 ≤ 9223372036854775807) = true := decide_eq_true c72
               try have c72b2 : (9223372036854775807 < ((((rdOf ByteArray.empty y193 (ji8)) ++ ba10_) ++ t205) ++ ba10_).size + 1) = False := eq_false (Nat.not_lt.2 c72)
               (try (have c72b2n := c72b2; simp only [ByteArray.size_append, szPAx10.one_, szPAx10.two_, szPAx10.three_] at c72b2n))
               by_cases c73 : (((((rdOf ByteArray.empty y193 (ji8)) ++ ba10_) ++ t205) ++ ba10_) ++ bb10_).size + 1 ≤ 9223372036854775807
               ·rw [if_pos c73] at H
                have c73b0 := eq_true c73
                have c73b1 : decide ((((((rdOf ByteArray.empty y193 (ji8)) ++ ba10_) ++ t205) ++ ba10_) ++ bb10_).size + 1 ≤ 9223372036854775807) = true := decide_eq_true c73
                try have c73b2 : (9223372036854775807 < (((((rdOf ByteArray.empty y193 (ji8)) ++ ba10_) ++ t205) ++ ba10_) ++ bb10_).size + 1) = False := eq_false (Nat.not_lt.2 c73)
                (try (have c73b2n := c73b2; simp only [ByteArray.size_append, szPAx10.one_, szPAx10.two_, szPAx10.three_] at c73b2n))
                by_cases c74 : ((((((rdOf ByteArray.empty y193 (ji8)) ++ ba10_) ++ t205) ++ ba10_) ++ bb10_) ++ ba10_).size + a0_3.size ≤ 9223372036854775807
                ·rw [if_pos c74] at H
                 have c74b0 := eq_true c74
                 have c74b1 : decide (((((((rdOf ByteArray.empty y193 (ji8)) ++ ba10_) ++ t205) ++ ba10_) ++ bb10_) ++ ba10_).size + a0_3.size ≤ 9223372036854775807) = true := decide_eq_true c74
                 try have c74b2 : (9223372036854775807 < ((((((rdOf ByteArray.empty y193 (ji8)) ++ ba10_) ++ t205) ++ ba10_) ++ bb10_) ++ ba10_).size + a0_3.size) = False := eq_false (Nat.not_lt.2 c74)
                 (try (have c74b2n := c74b2; simp only [ByteArray.size_append, szPAx10.one_, szPAx10.two_, szPAx10.three_] at c74b2n))
                 by_cases c75 : (((((((rdOf ByteArray.empty y193 (ji8)) ++ ba10_) ++ t205) ++ ba10_) ++ bb10_) ++ ba10_) ++ a0_3).size + 1 ≤ 9223372036854775807
                 ·rw [if_pos c75] at H
                  have c75b0 := eq_true c75
                  have c75b1 : decide ((((((((rdOf ByteArray.empty y193 (ji8)) ++ ba10_) ++ t205) ++ ba10_) ++ bb10_) ++ ba10_) ++ a0_3).size + 1 ≤ 9223372036854775807) = true := decide_eq_true c75
                  try have c75b2 : (9223372036854775807 < (((((((rdOf ByteArray.empty y193 (ji8)) ++ ba10_) ++ t205) ++ ba10_) ++ bb10_) ++ ba10_) ++ a0_3).size + 1) = False := eq_false (Nat.not_lt.2 c75)
                  (try (have c75b2n := c75b2; simp only [ByteArray.size_append, szPAx10.one_, szPAx10.two_, szPAx10.three_] at c75b2n))
                  by_cases c76 : ((((((((rdOf ByteArray.empty y193 (ji8)) ++ ba10_) ++ t205) ++ ba10_) ++ bb10_) ++ ba10_) ++ a0_3) ++ ba10_).size + a0_4.size ≤ 9223372036854775807
                  ·rw [if_pos c76] at H
                   have c76b0 := eq_true c76
                   have c76b1 : decide (((((((((rdOf ByteArray.empty y193 (ji8)) ++ ba10_) ++ t205) ++ ba10_) ++ bb10_) ++ ba10_) ++ a0_3) ++ ba10_).size + a0_4.size ≤ 9223372036854775807) = true := decide_eq_true c76
                   try have c76b2 : (9223372036854775807 < ((((((((rdOf ByteArray.empty y193 (ji8)) ++ ba10_) ++ t205) ++ ba10_) ++ bb10_) ++ ba10_) ++ a0_3) ++ ba10_).size + a0_4.size) = False := eq_false (Nat.not_lt.2 c76)
                   (try (have c76b2n := c76b2; simp only [ByteArray.size_append, szPAx10.one_, szPAx10.two_, szPAx10.three_] at c76b2n))
                   by_cases c77 : (((((((((rdOf ByteArray.empty y193 (ji8)) ++ ba10_) ++ t205) ++ ba10_) ++ bb10_) ++ ba10_) ++ a0_3) ++ ba10_) ++ a0_4).size + 1 ≤ 9223372036854775807
                   ·rw [if_pos c77] at H
                    have c77b0 := eq_true c77
                    have c77b1 : decide ((((((((((rdOf ByteArray.empty y193 (ji8)) ++ ba10_) ++ t205) ++ ba10_) ++ bb10_) ++ ba10_) ++ a0_3) ++ ba10_) ++ a0_4).size + 1 ≤ 9223372036854775807) = true := decide_eq_true c77
                    try have c77b2 : (9223372036854775807 < (((((((((rdOf ByteArray.empty y193 (ji8)) ++ ba10_) ++ t205) ++ ba10_) ++ bb10_) ++ ba10_) ++ a0_3) ++ ba10_) ++ a0_4).size + 1) = False := eq_false (Nat.not_lt.2 c77)
                    (try (have c77b2n := c77b2; simp only [ByteArray.size_append, szPAx10.one_, szPAx10.two_, szPAx10.three_] at c77b2n))
                    by_cases c78 : ((((((((((rdOf ByteArray.empty y193 (ji8)) ++ ba10_) ++ t205) ++ ba10_) ++ bb10_) ++ ba10_) ++ a0_3) ++ ba10_) ++ a0_4) ++ ba10_).size + a0_5.size ≤ 9223372036854775807
                    ·rw [if_pos c78] at H
                     have c78b0 := eq_true c78
                     have c78b1 : decide (((((((((((rdOf ByteArray.empty y193 (ji8)) ++ ba10_) ++ t205) ++ ba10_) ++ bb10_) ++ ba10_) ++ a0_3) ++ ba10_) ++ a0_4) ++ ba10_).size + a0_5.size ≤ 9223372036854775807) = true := decide_eq_true c78
                     try have c78b2 : (9223372036854775807 < ((((((((((rdOf ByteArray.empty y193 (ji8)) ++ ba10_) ++ t205) ++ ba10_) ++ bb10_) ++ ba10_) ++ a0_3) ++ ba10_) ++ a0_4) ++ ba10_).size + a0_5.size) = False := eq_false (Nat.not_lt.2 c78)
                     (try (have c78b2n := c78b2; simp only [ByteArray.size_append, szPAx10.one_, szPAx10.two_, szPAx10.three_] at c78b2n))
                     by_cases c79 : (((((((((((rdOf ByteArray.empty y193 (ji8)) ++ ba10_) ++ t205) ++ ba10_) ++ bb10_) ++ ba10_) ++ a0_3) ++ ba10_) ++ a0_4) ++ ba10_) ++ a0_5).size + 1 ≤ 9223372036854775807
                     ·rw [if_pos c79] at H
                      have c79b0 := eq_true c79
                      have c79b1 : decide ((((((((((((rdOf ByteArray.empty y193 (ji8)) ++ ba10_) ++ t205) ++ ba10_) ++ bb10_) ++ ba10_) ++ a0_3) ++ ba10_) ++ a0_4) ++ ba10_) ++ a0_5).size + 1 ≤ 9223372036854775807) = true := decide_eq_true c79
                      try have c79b2 : (9223372036854775807 < (((((((((((rdOf ByteArray.empty y193 (ji8)) ++ ba10_) ++ t205) ++ ba10_) ++ bb10_) ++ ba10_) ++ a0_3) ++ ba10_) ++ a0_4) ++ ba10_) ++ a0_5).size + 1) = False := eq_false (Nat.not_lt.2 c79)
                      (try (have c79b2n := c79b2; simp only [ByteArray.size_append, szPAx10.one_, szPAx10.two_, szPAx10.three_] at c79b2n))
                      by_cases c80 : ((((((((((((rdOf ByteArray.empty y193 (ji8)) ++ ba10_) ++ t205) ++ ba10_) ++ bb10_) ++ ba10_) ++ a0_3) ++ ba10_) ++ a0_4) ++ ba10_) ++ a0_5) ++ ba10_).size + a0_6.size ≤ 9223372036854775807
                      ·rw [if_pos c80] at H
                       have c80b0 := eq_true c80
                       have c80b1 : decide (((((((((((((rdOf ByteArray.empty y193 (ji8)) ++ ba10_) ++ t205) ++ ba10_) ++ bb10_) ++ ba10_) ++ a0_3) ++ ba10_) ++ a0_4) ++ ba10_) ++ a0_5) ++ ba10_).size + a0_6.size ≤ 9223372036854775807) = true := decide_eq_true c80
                       try have c80b2 : (9223372036854775807 < ((((((((((((rdOf ByteArray.empty y193 (ji8)) ++ ba10_) ++ t205) ++ ba10_) ++ bb10_) ++ ba10_) ++ a0_3) ++ ba10_) ++ a0_4) ++ ba10_) ++ a0_5) ++ ba10_).size + a0_6.size) = False := eq_false (Nat.not_lt.2 c80)
                       (try (have c80b2n := c80b2; simp only [ByteArray.size_append, szPAx10.one_, szPAx10.two_, szPAx10.three_] at c80b2n))
                       obtain rfl := Option.some.inj H
                       try go_wp2_with (first | ((with_reducible refine gate_dst (N := 14) rfl ?_); refine Kd.R_lit Kd.string _ 9 ?hg (N := 14) ?hd (xs := ([bc10_, bd10_, bf10_, bi10_, bj10_, bh10_, bg10_, bk10_, bl10_] : List ByteArray)) (inner := [.string bc10_, .string bd10_, .string bf10_, .string bi10_, .string bj10_, .string bh10_, .string bg10_, .string bk10_, .string bl10_]) (ok := fun _ => True) (okp := fun _ => True) ?hr ?hp (fun _ hk => hk) trivial (Below.refl _ _) (Nat.le_refl _) (by simp) ?_; (case hd => rfl); (case hg => rfl); (case hr => first | (go_simp; done) | (go_simp; rfl)); (case hp => exact (Reps.one (show Kd.M Kd.string _ _ _ bc10_ [.string bc10_] from rfl) (Reps.one (show Kd.M Kd.string _ _ _ bd10_ [.string bd10_] from rfl) (Reps.one (show Kd.M Kd.string _ _ _ bf10_ [.string bf10_] from rfl) (Reps.one (show Kd.M Kd.string _ _ _ bi10_ [.string bi10_] from rfl) (Reps.one (show Kd.M Kd.string _ _ _ bj10_ [.string bj10_] from rfl) (Reps.one (show Kd.M Kd.string _ _ _ bh10_ [.string bh10_] from rfl) (Reps.one (show Kd.M Kd.string _ _ _ bg10_ [.string bg10_] from rfl) (Reps.one (show Kd.M Kd.string _ _ _ bk10_ [.string bk10_] from rfl) (Reps.one (show Kd.M Kd.string _ _ _ bl10_ [.string bl10_] from rfl) (Reps.none _ _))))))))))); intro v194 w81 ho82 hb hg_ hnew_; clear hg_ hnew_; (first | rw [← Ny193.out] at ho82 | (simp only [Int.reduceToNat] at ho82; rw [← Ny193.out] at ho82)); have n0_ := Aside0.mk (Kd.R_lower ho82 (below_size (by repeat (first | (with_reducible first | exact HB.out | apply a1_ | apply a2_ | apply a3_ | refine below_set ?_ GE192.out) | exact HB.out)))); have n1_ := Aside0.mk (blk_below (g := gb192) (o := .cells #[.int .i64 a0_0, .int .i64 a0_1, .int .i64 a0_2, .string a0_3, .string a0_4, .string a0_5, .string a0_6, .int .i64 a0_7, .string a0_8] 30 (0, 0)) (by (with_reducible repeat (first | refine blk_drewN ?_ _ | refine blk_drew ?_ | refine blk_alloc ?_ _)); exact BK192.out) hb); have n2_ := Aside0.mk (below_step (by repeat (first | (with_reducible first | exact HB.out | apply a1_ | apply a2_ | apply a3_ | refine below_set ?_ GE192.out) | exact HB.out)) hb); clear BK192; clear HB; have HO195 := n0_; have BK192 := n1_; have HB := n2_; clear n0_ n1_ n2_; clear hb ho82; have hcz83_0 : w81.cell? ⟨gb192, 0, none⟩ = some (.int .i64 a0_0) := (blk_cell BK192.out 0).trans rfl; have hcz83_1 : w81.cell? ⟨gb192, 1, none⟩ = some (.int .i64 a0_1) := (blk_cell BK192.out 1).trans rfl; have hcz83_2 : w81.cell? ⟨gb192, 2, none⟩ = some (.int .i64 a0_2) := (blk_cell BK192.out 2).trans rfl; have hcz83_3 : w81.cell? ⟨gb192, 3, none⟩ = some (.string a0_3) := (blk_cell BK192.out 3).trans rfl; have hcz83_4 : w81.cell? ⟨gb192, 4, none⟩ = some (.string a0_4) := (blk_cell BK192.out 4).trans rfl; have hcz83_5 : w81.cell? ⟨gb192, 5, none⟩ = some (.string a0_5) := (blk_cell BK192.out 5).trans rfl; have hcz83_6 : w81.cell? ⟨gb192, 6, none⟩ = some (.string a0_6) := (blk_cell BK192.out 6).trans rfl; have hcz83_7 : w81.cell? ⟨gb192, 7, none⟩ = some (.int .i64 a0_7) := (blk_cell BK192.out 7).trans rfl; have hcz83_8 : w81.cell? ⟨gb192, 8, none⟩ = some (.string a0_8) := (blk_cell BK192.out 8).trans rfl; have hfz83_0 := blk_frozen BK192.out 0; have hfz83_1 := blk_frozen BK192.out 1; have hfz83_2 := blk_frozen BK192.out 2; have hfz83_3 := blk_frozen BK192.out 3; have hfz83_4 := blk_frozen BK192.out 4; have hfz83_5 := blk_frozen BK192.out 5; have hfz83_6 := blk_frozen BK192.out 6; have hfz83_7 := blk_frozen BK192.out 7; have hfz83_8 := blk_frozen BK192.out 8; obtain ⟨Ao84, co84, eo84⟩ := Kd.R_slice HO195.out; subst eo84; have p196 : 0 ≤ ((ji8) : Int) := of_decide_eq_true (by first | (with_reducible assumption) | assumption); have q196 : (ji8) < (y193.length : Int) := of_decide_eq_true (by first | (with_reducible assumption) | assumption); obtain ⟨ad196, e196, hx196_0⟩ := Kd.at_string (Kd.R_reads' HO195.out).2.2 (ji8) p196 q196; cases e196; replace p196 := eq_true p196; replace q196 := eq_true q196) | ((with_reducible refine gate_dst (N := 4) rfl ?_); refine box_event ?hg (N := 4) ?hd (cs := #[.int .i64 0, .string be10_, .string be10_, .string be10_, .string be10_]) (t := 28) ?hr ?_; (case hd => rfl); (case hg => rfl); (case hr => first | (go_simp; done) | (go_simp; rfl)); intro gb199 hg w85 hbox hb; have n0_ := Aside0.mk (Kd.R_below (by (with_reducible repeat (first | apply Kd.R_alloc | apply Kd.R_drewN | apply Kd.R_drew)); exact HO195.out) hb); have n1_ := Aside0.mk (blk_below (g := gb192) (o := .cells #[.int .i64 a0_0, .int .i64 a0_1, .int .i64 a0_2, .string a0_3, .string a0_4, .string a0_5, .string a0_6, .int .i64 a0_7, .string a0_8] 30 (0, 0)) (by (with_reducible repeat (first | refine blk_drewN ?_ _ | refine blk_drew ?_ | refine blk_alloc ?_ _)); exact BK192.out) hb); have n2_ := Aside0.mk (below_step (by repeat (first | (with_reducible first | exact HB.out | apply a1_ | apply a2_ | apply a3_ | refine below_set ?_ GE192.out) | exact HB.out)) hb); have n3_ := Aside0.mk (hbox); have n4_ := Aside0.mk ((by rw [hg]; exact (below_size (by repeat (first | (with_reducible first | exact HB.out | apply a1_ | apply a2_ | apply a3_ | refine below_set ?_ GE192.out) | exact HB.out))) : w.heap.size ≤ gb199)); have n5_ := Aside0.mk ((by rw [hg]; exact (below_size (by repeat (first | (with_reducible first | exact HB.out | apply a1_ | apply a2_ | apply a3_ | refine below_set ?_ GE192.out) | exact HB.out))) : w.heap.size ≤ gb199)); have n6_ := Aside0.mk ((by rw [hg]; exact Nat.ne_of_lt (blk_lt (g := gb192) (o := .cells #[.int .i64 a0_0, .int .i64 a0_1, .int .i64 a0_2, .string a0_3, .string a0_4, .string a0_5, .string a0_6, .int .i64 a0_7, .string a0_8] 30 (0, 0)) (by (with_reducible repeat (first | refine blk_drewN ?_ _ | refine blk_drew ?_ | refine blk_alloc ?_ _)); exact BK192.out)) : gb192 ≠ gb199)); have n7_ := Aside0.mk ((by rw [hg]; exact Nat.ne_of_gt (blk_lt (g := gb192) (o := .cells #[.int .i64 a0_0, .int .i64 a0_1, .int .i64 a0_2, .string a0_3, .string a0_4, .string a0_5, .string a0_6, .int .i64 a0_7, .string a0_8] 30 (0, 0)) (by (with_reducible repeat (first | refine blk_drewN ?_ _ | refine blk_drew ?_ | refine blk_alloc ?_ _)); exact BK192.out)) : gb199 ≠ gb192)); clear HO195; clear BK192; clear HB; have HO195 := n0_; have BK192 := n1_; have HB := n2_; have BK199 := n3_; have GW199 := n4_; have GE199 := n5_; have NB192_199 := n6_; have NB199_192 := n7_; clear n0_ n1_ n2_ n3_ n4_ n5_ n6_ n7_; clear hb hbox hg; have hnb86 := NB199_192.out; have hnc86 := NB192_199.out; have hcz87_0 : w85.cell? ⟨gb199, 0, none⟩ = some (.int .i64 0) := (blk_cell BK199.out 0).trans rfl; have hcz87_1 : w85.cell? ⟨gb199, 1, none⟩ = some (.string be10_) := (blk_cell BK199.out 1).trans rfl; have hcz87_2 : w85.cell? ⟨gb199, 2, none⟩ = some (.string be10_) := (blk_cell BK199.out 2).trans rfl; have hcz87_3 : w85.cell? ⟨gb199, 3, none⟩ = some (.string be10_) := (blk_cell BK199.out 3).trans rfl; have hcz87_4 : w85.cell? ⟨gb199, 4, none⟩ = some (.string be10_) := (blk_cell BK199.out 4).trans rfl; have hfz87_0 := blk_frozen BK199.out 0; have hfz87_1 := blk_frozen BK199.out 1; have hfz87_2 := blk_frozen BK199.out 2; have hfz87_3 := blk_frozen BK199.out 3; have hfz87_4 := blk_frozen BK199.out 4))
                       have n0_ : Aside0 (Kd.R Kd.string 9 (((((w85.setCell ⟨gb199, 0, none⟩ (.int .i64 a0_2)).setCell ⟨gb199, 1, none⟩ (.string a0_3)).setCell ⟨gb199, 2, none⟩ (.string a0_4)).setCell ⟨gb199, 3, none⟩ (.string a0_5)).setCell ⟨gb199, 4, none⟩ (.string a0_6)) w.heap.size (fun _ => True) (.slice (some ad196) y193.length co84) y193) := ⟨by (with_reducible repeat (first | apply Kd.R_alloc | apply Kd.R_drewN | apply Kd.R_drew)); exact Kd.R_mono (Kd.R_far (p := ⟨gb199, 4, none⟩) (Kd.R_far (p := ⟨gb199, 3, none⟩) (Kd.R_far (p := ⟨gb199, 2, none⟩) (Kd.R_far (p := ⟨gb199, 1, none⟩) (Kd.R_far (p := ⟨gb199, 0, none⟩) (Kd.R_types HO195.out BK199.out (by decide)) (fun _ hk => hk.2) (.int .i64 a0_2)) (fun _ hk => hk.2) (.string a0_3)) (fun _ hk => hk.2) (.string a0_4)) (fun _ hk => hk.2) (.string a0_5)) (fun _ hk => hk.2) (.string a0_6)) (fun _ hk => trivial)⟩
                       have n1_ : Aside0 ((((((w85.setCell ⟨gb199, 0, none⟩ (.int .i64 a0_2)).setCell ⟨gb199, 1, none⟩ (.string a0_3)).setCell ⟨gb199, 2, none⟩ (.string a0_4)).setCell ⟨gb199, 3, none⟩ (.string a0_5)).setCell ⟨gb199, 4, none⟩ (.string a0_6)).heap[gb192]? = some (.cells #[.int .i64 a0_0, .int .i64 a0_1, .int .i64 a0_2, .string a0_3, .string a0_4, .string a0_5, .string a0_6, .int .i64 a0_7, .string a0_8] 30 (0, 0))) := ⟨by (with_reducible repeat (first | refine blk_drewN ?_ _ | refine blk_drew ?_ | refine blk_alloc ?_ _)); refine blk_far ?_ NB192_199.out _; (with_reducible repeat (first | refine blk_drewN ?_ _ | refine blk_drew ?_ | refine blk_alloc ?_ _)); refine blk_far ?_ NB192_199.out _; (with_reducible repeat (first | refine blk_drewN ?_ _ | refine blk_drew ?_ | refine blk_alloc ?_ _)); refine blk_far ?_ NB192_199.out _; (with_reducible repeat (first | refine blk_drewN ?_ _ | refine blk_drew ?_ | refine blk_alloc ?_ _)); refine blk_far ?_ NB192_199.out _; (with_reducible repeat (first | refine blk_drewN ?_ _ | refine blk_drew ?_ | refine blk_alloc ?_ _)); refine blk_far ?_ NB192_199.out _; (with_reducible repeat (first | refine blk_drewN ?_ _ | refine blk_drew ?_ | refine blk_alloc ?_ _)); exact BK192.out⟩
                       have n2_ : Aside0 ((((((w85.setCell ⟨gb199, 0, none⟩ (.int .i64 a0_2)).setCell ⟨gb199, 1, none⟩ (.string a0_3)).setCell ⟨gb199, 2, none⟩ (.string a0_4)).setCell ⟨gb199, 3, none⟩ (.string a0_5)).setCell ⟨gb199, 4, none⟩ (.string a0_6)).heap[gb199]? = some (.cells #[.int .i64 a0_2, .string a0_3, .string a0_4, .string a0_5, .string a0_6] 28 (0, 0))) := ⟨by (with_reducible repeat (first | refine blk_drewN ?_ _ | refine blk_drew ?_ | refine blk_alloc ?_ _)); refine blk_put (cs := #[.int .i64 a0_2, .string a0_3, .string a0_4, .string a0_5, .string be10_]) ?_ 4 _ rfl; (with_reducible repeat (first | refine blk_drewN ?_ _ | refine blk_drew ?_ | refine blk_alloc ?_ _)); refine blk_put (cs := #[.int .i64 a0_2, .string a0_3, .string a0_4, .string be10_, .string be10_]) ?_ 3 _ rfl; (with_reducible repeat (first | refine blk_drewN ?_ _ | refine blk_drew ?_ | refine blk_alloc ?_ _)); refine blk_put (cs := #[.int .i64 a0_2, .string a0_3, .string be10_, .string be10_, .string be10_]) ?_ 2 _ rfl; (with_reducible repeat (first | refine blk_drewN ?_ _ | refine blk_drew ?_ | refine blk_alloc ?_ _)); refine blk_put (cs := #[.int .i64 a0_2, .string be10_, .string be10_, .string be10_, .string be10_]) ?_ 1 _ rfl; (with_reducible repeat (first | refine blk_drewN ?_ _ | refine blk_drew ?_ | refine blk_alloc ?_ _)); refine blk_put (cs := #[.int .i64 0, .string be10_, .string be10_, .string be10_, .string be10_]) ?_ 0 _ rfl; (with_reducible repeat (first | refine blk_drewN ?_ _ | refine blk_drew ?_ | refine blk_alloc ?_ _)); exact BK199.out⟩
                       have n3_ : Aside0 (Below w.heap.size w (((((w85.setCell ⟨gb199, 0, none⟩ (.int .i64 a0_2)).setCell ⟨gb199, 1, none⟩ (.string a0_3)).setCell ⟨gb199, 2, none⟩ (.string a0_4)).setCell ⟨gb199, 3, none⟩ (.string a0_5)).setCell ⟨gb199, 4, none⟩ (.string a0_6))) := ⟨by repeat (first | (with_reducible first | exact HB.out | apply a1_ | apply a2_ | apply a3_ | refine below_set ?_ GE192.out | refine below_set ?_ GE199.out) | exact HB.out)⟩
                       (try clear HO195)
                       (try clear BK192)
                       (try clear BK199)
                       (try clear HB)
                       generalize (((((w85.setCell ⟨gb199, 0, none⟩ (.int .i64 a0_2)).setCell ⟨gb199, 1, none⟩ (.string a0_3)).setCell ⟨gb199, 2, none⟩ (.string a0_4)).setCell ⟨gb199, 3, none⟩ (.string a0_5)).setCell ⟨gb199, 4, none⟩ (.string a0_6)) = w88 at n0_ n1_ n2_ n3_ ⊢
                       have HO195 := n0_
                       have BK192 := n1_
                       have BK199 := n2_
                       have HB := n3_
                       clear n0_ n1_ n2_ n3_
                       have n0_ := Aside0.mk (Kd.R_drew HO195.out)
                       have n1_ := Aside0.mk (blk_drew BK192.out)
                       have n2_ := Aside0.mk (blk_drew BK199.out)
                       have n3_ := Aside0.mk (below_drew1 HB.out)
                       clear HO195
                       clear BK192
                       clear BK199
                       clear HB
                       have HO195 := n0_
                       have BK192 := n1_
                       have BK199 := n2_
                       have HB := n3_
                       clear n0_ n1_ n2_ n3_
                       refine start_ (n := 26) (S := fun w' => w'.cell? ⟨gb192, 0, none⟩ = some (.int .i64 a0_0) ∧ w'.cell? ⟨gb192, 1, none⟩ = some (.int .i64 a0_1) ∧ w'.cell? ⟨gb192, 2, none⟩ = some (.int .i64 a0_2) ∧ w'.cell? ⟨gb192, 3, none⟩ = some (.string a0_3) ∧ w'.cell? ⟨gb192, 4, none⟩ = some (.string a0_4) ∧ w'.cell? ⟨gb192, 5, none⟩ = some (.string a0_5) ∧ w'.cell? ⟨gb192, 6, none⟩ = some (.string a0_6) ∧ w'.cell? ⟨gb192, 7, none⟩ = some (.int .i64 a0_7) ∧ w'.cell? ⟨gb192, 8, none⟩ = some (.string a0_8) ∧ w'.cell? ⟨gb199, 0, none⟩ = some (.int .i64 a0_2) ∧ w'.cell? ⟨gb199, 1, none⟩ = some (.string a0_3) ∧ w'.cell? ⟨gb199, 2, none⟩ = some (.string a0_4) ∧ w'.cell? ⟨gb199, 3, none⟩ = some (.string a0_5) ∧ w'.cell? ⟨gb199, 4, none⟩ = some (.string a0_6)) (ds := []) #[F_,F_,F_,F_,F_,F_,F_,F_,F_,F_,F_,F_,F_,F_,F_,F_,F_,F_,F_,F_,F_,F_,F_,F_,F_,F_] (by kernel_rfl) rfl rfl ⟨(blk_cell BK192.out 0).trans rfl, (blk_cell BK192.out 1).trans rfl, (blk_cell BK192.out 2).trans rfl, (blk_cell BK192.out 3).trans rfl, (blk_cell BK192.out 4).trans rfl, (blk_cell BK192.out 5).trans rfl, (blk_cell BK192.out 6).trans rfl, (blk_cell BK192.out 7).trans rfl, (blk_cell BK192.out 8).trans rfl, (blk_cell BK199.out 0).trans rfl, (blk_cell BK199.out 1).trans rfl, (blk_cell BK199.out 2).trans rfl, (blk_cell BK199.out 3).trans rfl, (blk_cell BK199.out 4).trans rfl⟩ (fun hHeld => ?_); refine with_tabW outlawref23_Line.tab15 outlawref23_Line.bits15 (fun HT_ HW_ => ?_)
                       generalize w88.drew = w89 at HO195 BK192 BK199 HB hHeld ⊢
                       refine pq_ 0 61 (mb_ 26 1) HT_.out ?_
                       refine pq_ 1 62 (mb_ 26 3) HT_.out ?_
                       refine pq_ 2 63 (mb_ 26 7) HT_.out ?_
                       refine pq_ 7 68 (mb_ 26 135) HT_.out ?_
                       refine pq_ 10 71 (mb_ 26 1159) HT_.out ?_
                       refine pq_ 14 75 (mb_ 26 17543) HT_.out ?_
                       refine pq_ 18 79 (mb_ 26 279687) HT_.out ?_
                       refine pq_ 22 83 (mb_ 26 4473991) HT_.out ?_
                       refine tq_ 3 64 (mb_ 26 4473999) HT_.out HW_.out hHeld ?_ (hr := by rintro w' ⟨s0, s1, s2, s3, s4, s5, s6, s7, s8, s9, s10, s11, s12, s13⟩; go_simp; with_reducible rfl)
                       refine tq_ 11 72 (mb_ 26 4476047) HT_.out HW_.out hHeld ?_ (hr := by rintro w' ⟨s0, s1, s2, s3, s4, s5, s6, s7, s8, s9, s10, s11, s12, s13⟩; go_simp; with_reducible rfl)
                       refine tq_ 15 76 (mb_ 26 4508815) HT_.out HW_.out hHeld ?_ (hr := by rintro w' ⟨s0, s1, s2, s3, s4, s5, s6, s7, s8, s9, s10, s11, s12, s13⟩; go_simp; with_reducible rfl)
                       refine tq_ 19 80 (mb_ 26 5033103) HT_.out HW_.out hHeld ?_ (hr := by rintro w' ⟨s0, s1, s2, s3, s4, s5, s6, s7, s8, s9, s10, s11, s12, s13⟩; go_simp; with_reducible rfl)
                       refine tq_ 23 84 (mb_ 26 13421711) HT_.out HW_.out hHeld ?_ (hr := by rintro w' ⟨s0, s1, s2, s3, s4, s5, s6, s7, s8, s9, s10, s11, s12, s13⟩; go_simp; with_reducible rfl)
                       refine one_ (i := 4) (N := some 65) (mb_ 26 13421727) rfl rfl (one_of HT_.out (by kernel_rfl)) (by decide) (fun K hK => ?_)
                       refine goes_ Tryd.func40 (by kernel_rfl) rfl #[.int .i64 a0_1] (by rfl) rfl rfl (by (try simp only [List.map_toArray, List.map_cons, List.map_nil]); first | done | rfl | (simp only [List.length_drop, List.length_take]; rfl)) ?_
                       with_reducible refine (outlawref21_Digits.calls kj1 a0_1 t205 _ A69.out).mono ?_
                       rintro e w90 ⟨rfl, hb⟩
                       refine ⟨_, rfl, ?_⟩
                       have n0_ := Aside0.mk (Kd.R_below (by (with_reducible repeat (first | apply Kd.R_alloc | apply Kd.R_drewN | apply Kd.R_drew)); exact HO195.out) hb)
                       have n1_ := Aside0.mk (blk_below (g := gb192) (o := .cells #[.int .i64 a0_0, .int .i64 a0_1, .int .i64 a0_2, .string a0_3, .string a0_4, .string a0_5, .string a0_6, .int .i64 a0_7, .string a0_8] 30 (0, 0)) (by (with_reducible repeat (first | refine blk_drewN ?_ _ | refine blk_drew ?_ | refine blk_alloc ?_ _)); exact BK192.out) hb)
                       have n2_ := Aside0.mk (blk_below (g := gb199) (o := .cells #[.int .i64 a0_2, .string a0_3, .string a0_4, .string a0_5, .string a0_6] 28 (0, 0)) (by (with_reducible repeat (first | refine blk_drewN ?_ _ | refine blk_drew ?_ | refine blk_alloc ?_ _)); exact BK199.out) hb)
                       have n3_ := Aside0.mk (below_step (by repeat (first | (with_reducible first | exact HB.out | apply a1_ | apply a2_ | apply a3_ | refine below_set ?_ GE192.out | refine below_set ?_ GE199.out) | exact HB.out)) hb)
                       clear HO195
                       clear BK192
                       clear BK199
                       clear HB
                       have HO195 := n0_
                       have BK192 := n1_
                       have BK199 := n2_
                       have HB := n3_
                       clear n0_ n1_ n2_ n3_
                       (try clear hb)
                       (try clear hb2)
                       (try clear hk)
                       (try clear hi)
                       refine hK.out _ _ ⟨(blk_cell BK192.out 0).trans rfl, (blk_cell BK192.out 1).trans rfl, (blk_cell BK192.out 2).trans rfl, (blk_cell BK192.out 3).trans rfl, (blk_cell BK192.out 4).trans rfl, (blk_cell BK192.out 5).trans rfl, (blk_cell BK192.out 6).trans rfl, (blk_cell BK192.out 7).trans rfl, (blk_cell BK192.out 8).trans rfl, (blk_cell BK199.out 0).trans rfl, (blk_cell BK199.out 1).trans rfl, (blk_cell BK199.out 2).trans rfl, (blk_cell BK199.out 3).trans rfl, (blk_cell BK199.out 4).trans rfl⟩ (fun hHeld => ?_)
                       clear hK K
                       refine norm_ (a' := ?_) ?_ ?_
                       rotate_left
                       ·show Act.put _ (some 65) _ = _
                        simp only [Act.put, List.setIfInBounds_toArray, List.set_cons_zero, List.set_cons_succ, i64_w, i32_w]
                        rfl
                       refine pq_ 5 66 (mb_ 26 13421759) HT_.out ?_
                       refine pq_ 6 67 (mb_ 26 13421823) HT_.out ?_
                       refine pq_ 8 69 (mb_ 26 13422079) HT_.out ?_
                       refine pq_ 9 70 (mb_ 26 13422591) HT_.out ?_
                       refine pq_ 12 73 (mb_ 26 13426687) HT_.out ?_
                       refine pq_ 13 74 (mb_ 26 13434879) HT_.out ?_
                       refine pq_ 16 77 (mb_ 26 13500415) HT_.out ?_
                       refine pq_ 17 78 (mb_ 26 13631487) HT_.out ?_
                       refine pq_ 20 81 (mb_ 26 14680063) HT_.out ?_
                       refine pq_ 21 82 (mb_ 26 16777215) HT_.out ?_
                       refine pq_ 24 85 (mb_ 26 33554431) HT_.out ?_
                       refine pq_ 25 2 (mb_ 26 67108863) HT_.out ?_
                       refine done_ (done_of HT_.out (by kernel_rfl)) ?_
                       try go_wp2
                       go_ret
                       exact ⟨by first | rfl | (simp [errW_none, errW_some] <;> rfl) | (simp only [← hji8]; first | rfl | (simp [errW_none, errW_some] <;> rfl)) | (simp [*, errW_none, errW_some] <;> rfl), by repeat (first | (with_reducible first | exact HB.out | apply a1_ | apply a2_ | apply a3_ | refine below_set ?_ GE192.out | refine below_set ?_ GE199.out) | exact HB.out)⟩
                      ·rw [if_neg c80] at H
                       exact absurd H (by simp)
                     ·rw [if_neg c79] at H
                      exact absurd H (by simp)
                    ·rw [if_neg c78] at H
                     exact absurd H (by simp)
                   ·rw [if_neg c77] at H
                    exact absurd H (by simp)
                  ·rw [if_neg c76] at H
                   exact absurd H (by simp)
                 ·rw [if_neg c75] at H
                  exact absurd H (by simp)
                ·rw [if_neg c74] at H
                 exact absurd H (by simp)
               ·rw [if_neg c73] at H
                exact absurd H (by simp)
              ·rw [if_neg c72] at H
               exact absurd H (by simp)
             ·rw [if_neg c71] at H
              exact absurd H (by simp)
            ·rw [if_neg c70] at H
             exact absurd H (by simp)
           ·rw [if_neg c68] at H
            exact absurd H (by simp)
         ·rw [if_neg c37] at H
          have c37b0 : decide (1 ≤ a0_2) = false := decide_eq_false c37
          clear c37
          by_cases c91 : (rdOf ByteArray.empty y193 (ji8)).size + 1 ≤ 9223372036854775807
          ·rw [if_pos c91] at H
           have c91b0 := eq_true c91
           have c91b1 : decide ((rdOf ByteArray.empty y193 (ji8)).size + 1 ≤ 9223372036854775807) = true := decide_eq_true c91
           try have c91b2 : (9223372036854775807 < (rdOf ByteArray.empty y193 (ji8)).size + 1) = False := eq_false (Nat.not_lt.2 c91)
           (try (have c91b2n := c91b2; simp only [ByteArray.size_append, szPAx10.one_, szPAx10.two_, szPAx10.three_] at c91b2n))
           replace H := Option.bind_eq_some_iff.mp H
           obtain ⟨t206, A920, H⟩ := H
           have A92 := Aside0.mk A920
           clear A920
           by_cases c93 : ((rdOf ByteArray.empty y193 (ji8)) ++ ba10_).size + t206.size ≤ 9223372036854775807
           ·rw [if_pos c93] at H
            have c93b0 := eq_true c93
            have c93b1 : decide (((rdOf ByteArray.empty y193 (ji8)) ++ ba10_).size + t206.size ≤ 9223372036854775807) = true := decide_eq_true c93
            try have c93b2 : (9223372036854775807 < ((rdOf ByteArray.empty y193 (ji8)) ++ ba10_).size + t206.size) = False := eq_false (Nat.not_lt.2 c93)
            (try (have c93b2n := c93b2; simp only [ByteArray.size_append, szPAx10.one_, szPAx10.two_, szPAx10.three_] at c93b2n))
            by_cases c94 : (((rdOf ByteArray.empty y193 (ji8)) ++ ba10_) ++ t206).size + 1 ≤ 9223372036854775807
            ·rw [if_pos c94] at H
             have c94b0 := eq_true c94
             have c94b1 : decide ((((rdOf ByteArray.empty y193 (ji8)) ++ ba10_) ++ t206).size + 1 ≤ 9223372036854775807) = true := decide_eq_true c94
             try have c94b2 : (9223372036854775807 < (((rdOf ByteArray.empty y193 (ji8)) ++ ba10_) ++ t206).size + 1) = False := eq_false (Nat.not_lt.2 c94)
             (try (have c94b2n := c94b2; simp only [ByteArray.size_append, szPAx10.one_, szPAx10.two_, szPAx10.three_] at c94b2n))
             by_cases c95 : ((((rdOf ByteArray.empty y193 (ji8)) ++ ba10_) ++ t206) ++ ba10_).size + 1 ≤ 9223372036854775807
             ·rw [if_pos c95] at H
              have c95b0 := eq_true c95
              have c95b1 : decide (((((rdOf ByteArray.empty y193 (ji8)) ++ ba10_) ++ t206) ++ ba10_).size + 1 ≤ 9223372036854775807) = true := decide_eq_true c95
              try have c95b2 : (9223372036854775807 < ((((rdOf ByteArray.empty y193 (ji8)) ++ ba10_) ++ t206) ++ ba10_).size + 1) = False := eq_false (Nat.not_lt.2 c95)
              (try (have c95b2n := c95b2; simp only [ByteArray.size_append, szPAx10.one_, szPAx10.two_, szPAx10.three_] at c95b2n))
              by_cases c96 : (((((rdOf ByteArray.empty y193 (ji8)) ++ ba10_) ++ t206) ++ ba10_) ++ bb10_).size + 1 ≤ 9223372036854775807
              ·rw [if_pos c96] at H
               have c96b0 := eq_true c96
               have c96b1 : decide ((((((rdOf ByteArray.empty y193 (ji8)) ++ ba10_) ++ t206) ++ ba10_) ++ bb10_).size + 1 ≤ 9223372036854775807) = true := decide_eq_true c96
               try have c96b2 : (9223372036854775807 < (((((rdOf ByteArray.empty y193 (ji8)) ++ ba10_) ++ t206) ++ ba10_) ++ bb10_).size + 1) = False := eq_false (Nat.not_lt.2 c96)
               (try (have c96b2n := c96b2; simp only [ByteArray.size_append, szPAx10.one_, szPAx10.two_, szPAx10.three_] at c96b2n))
               by_cases c97 : ((((((rdOf ByteArray.empty y193 (ji8)) ++ ba10_) ++ t206) ++ ba10_) ++ bb10_) ++ ba10_).size + a0_3.size ≤ 9223372036854775807
               ·rw [if_pos c97] at H
                have c97b0 := eq_true c97
                have c97b1 : decide (((((((rdOf ByteArray.empty y193 (ji8)) ++ ba10_) ++ t206) ++ ba10_) ++ bb10_) ++ ba10_).size + a0_3.size ≤ 9223372036854775807) = true := decide_eq_true c97
                try have c97b2 : (9223372036854775807 < ((((((rdOf ByteArray.empty y193 (ji8)) ++ ba10_) ++ t206) ++ ba10_) ++ bb10_) ++ ba10_).size + a0_3.size) = False := eq_false (Nat.not_lt.2 c97)
                (try (have c97b2n := c97b2; simp only [ByteArray.size_append, szPAx10.one_, szPAx10.two_, szPAx10.three_] at c97b2n))
                by_cases c98 : (((((((rdOf ByteArray.empty y193 (ji8)) ++ ba10_) ++ t206) ++ ba10_) ++ bb10_) ++ ba10_) ++ a0_3).size + 1 ≤ 9223372036854775807
                ·rw [if_pos c98] at H
                 have c98b0 := eq_true c98
                 have c98b1 : decide ((((((((rdOf ByteArray.empty y193 (ji8)) ++ ba10_) ++ t206) ++ ba10_) ++ bb10_) ++ ba10_) ++ a0_3).size + 1 ≤ 9223372036854775807) = true := decide_eq_true c98
                 try have c98b2 : (9223372036854775807 < (((((((rdOf ByteArray.empty y193 (ji8)) ++ ba10_) ++ t206) ++ ba10_) ++ bb10_) ++ ba10_) ++ a0_3).size + 1) = False := eq_false (Nat.not_lt.2 c98)
                 (try (have c98b2n := c98b2; simp only [ByteArray.size_append, szPAx10.one_, szPAx10.two_, szPAx10.three_] at c98b2n))
                 by_cases c99 : ((((((((rdOf ByteArray.empty y193 (ji8)) ++ ba10_) ++ t206) ++ ba10_) ++ bb10_) ++ ba10_) ++ a0_3) ++ ba10_).size + a0_4.size ≤ 9223372036854775807
                 ·rw [if_pos c99] at H
                  have c99b0 := eq_true c99
                  have c99b1 : decide (((((((((rdOf ByteArray.empty y193 (ji8)) ++ ba10_) ++ t206) ++ ba10_) ++ bb10_) ++ ba10_) ++ a0_3) ++ ba10_).size + a0_4.size ≤ 9223372036854775807) = true := decide_eq_true c99
                  try have c99b2 : (9223372036854775807 < ((((((((rdOf ByteArray.empty y193 (ji8)) ++ ba10_) ++ t206) ++ ba10_) ++ bb10_) ++ ba10_) ++ a0_3) ++ ba10_).size + a0_4.size) = False := eq_false (Nat.not_lt.2 c99)
                  (try (have c99b2n := c99b2; simp only [ByteArray.size_append, szPAx10.one_, szPAx10.two_, szPAx10.three_] at c99b2n))
                  by_cases c100 : (((((((((rdOf ByteArray.empty y193 (ji8)) ++ ba10_) ++ t206) ++ ba10_) ++ bb10_) ++ ba10_) ++ a0_3) ++ ba10_) ++ a0_4).size + 1 ≤ 9223372036854775807
                  ·rw [if_pos c100] at H
                   have c100b0 := eq_true c100
                   have c100b1 : decide ((((((((((rdOf ByteArray.empty y193 (ji8)) ++ ba10_) ++ t206) ++ ba10_) ++ bb10_) ++ ba10_) ++ a0_3) ++ ba10_) ++ a0_4).size + 1 ≤ 9223372036854775807) = true := decide_eq_true c100
                   try have c100b2 : (9223372036854775807 < (((((((((rdOf ByteArray.empty y193 (ji8)) ++ ba10_) ++ t206) ++ ba10_) ++ bb10_) ++ ba10_) ++ a0_3) ++ ba10_) ++ a0_4).size + 1) = False := eq_false (Nat.not_lt.2 c100)
                   (try (have c100b2n := c100b2; simp only [ByteArray.size_append, szPAx10.one_, szPAx10.two_, szPAx10.three_] at c100b2n))
                   by_cases c101 : ((((((((((rdOf ByteArray.empty y193 (ji8)) ++ ba10_) ++ t206) ++ ba10_) ++ bb10_) ++ ba10_) ++ a0_3) ++ ba10_) ++ a0_4) ++ ba10_).size + a0_5.size ≤ 9223372036854775807
                   ·rw [if_pos c101] at H
                    have c101b0 := eq_true c101
                    have c101b1 : decide (((((((((((rdOf ByteArray.empty y193 (ji8)) ++ ba10_) ++ t206) ++ ba10_) ++ bb10_) ++ ba10_) ++ a0_3) ++ ba10_) ++ a0_4) ++ ba10_).size + a0_5.size ≤ 9223372036854775807) = true := decide_eq_true c101
                    try have c101b2 : (9223372036854775807 < ((((((((((rdOf ByteArray.empty y193 (ji8)) ++ ba10_) ++ t206) ++ ba10_) ++ bb10_) ++ ba10_) ++ a0_3) ++ ba10_) ++ a0_4) ++ ba10_).size + a0_5.size) = False := eq_false (Nat.not_lt.2 c101)
                    (try (have c101b2n := c101b2; simp only [ByteArray.size_append, szPAx10.one_, szPAx10.two_, szPAx10.three_] at c101b2n))
                    by_cases c102 : (((((((((((rdOf ByteArray.empty y193 (ji8)) ++ ba10_) ++ t206) ++ ba10_) ++ bb10_) ++ ba10_) ++ a0_3) ++ ba10_) ++ a0_4) ++ ba10_) ++ a0_5).size + 1 ≤ 9223372036854775807
                    ·rw [if_pos c102] at H
                     have c102b0 := eq_true c102
                     have c102b1 : decide ((((((((((((rdOf ByteArray.empty y193 (ji8)) ++ ba10_) ++ t206) ++ ba10_) ++ bb10_) ++ ba10_) ++ a0_3) ++ ba10_) ++ a0_4) ++ ba10_) ++ a0_5).size + 1 ≤ 9223372036854775807) = true := decide_eq_true c102
                     try have c102b2 : (9223372036854775807 < (((((((((((rdOf ByteArray.empty y193 (ji8)) ++ ba10_) ++ t206) ++ ba10_) ++ bb10_) ++ ba10_) ++ a0_3) ++ ba10_) ++ a0_4) ++ ba10_) ++ a0_5).size + 1) = False := eq_false (Nat.not_lt.2 c102)
                     (try (have c102b2n := c102b2; simp only [ByteArray.size_append, szPAx10.one_, szPAx10.two_, szPAx10.three_] at c102b2n))
                     by_cases c103 : ((((((((((((rdOf ByteArray.empty y193 (ji8)) ++ ba10_) ++ t206) ++ ba10_) ++ bb10_) ++ ba10_) ++ a0_3) ++ ba10_) ++ a0_4) ++ ba10_) ++ a0_5) ++ ba10_).size + a0_6.size ≤ 9223372036854775807
                     ·rw [if_pos c103] at H
                      have c103b0 := eq_true c103
                      have c103b1 : decide (((((((((((((rdOf ByteArray.empty y193 (ji8)) ++ ba10_) ++ t206) ++ ba10_) ++ bb10_) ++ ba10_) ++ a0_3) ++ ba10_) ++ a0_4) ++ ba10_) ++ a0_5) ++ ba10_).size + a0_6.size ≤ 9223372036854775807) = true := decide_eq_true c103
                      try have c103b2 : (9223372036854775807 < ((((((((((((rdOf ByteArray.empty y193 (ji8)) ++ ba10_) ++ t206) ++ ba10_) ++ bb10_) ++ ba10_) ++ a0_3) ++ ba10_) ++ a0_4) ++ ba10_) ++ a0_5) ++ ba10_).size + a0_6.size) = False := eq_false (Nat.not_lt.2 c103)
                      (try (have c103b2n := c103b2; simp only [ByteArray.size_append, szPAx10.one_, szPAx10.two_, szPAx10.three_] at c103b2n))
                      obtain rfl := Option.some.inj H
                      try go_wp2_with (first | ((with_reducible refine gate_dst (N := 14) rfl ?_); refine Kd.R_lit Kd.string _ 9 ?hg (N := 14) ?hd (xs := ([bc10_, bd10_, bf10_, bi10_, bj10_, bh10_, bg10_, bk10_, bl10_] : List ByteArray)) (inner := [.string bc10_, .string bd10_, .string bf10_, .string bi10_, .string bj10_, .string bh10_, .string bg10_, .string bk10_, .string bl10_]) (ok := fun _ => True) (okp := fun _ => True) ?hr ?hp (fun _ hk => hk) trivial (Below.refl _ _) (Nat.le_refl _) (by simp) ?_; (case hd => rfl); (case hg => rfl); (case hr => first | (go_simp; done) | (go_simp; rfl)); (case hp => exact (Reps.one (show Kd.M Kd.string _ _ _ bc10_ [.string bc10_] from rfl) (Reps.one (show Kd.M Kd.string _ _ _ bd10_ [.string bd10_] from rfl) (Reps.one (show Kd.M Kd.string _ _ _ bf10_ [.string bf10_] from rfl) (Reps.one (show Kd.M Kd.string _ _ _ bi10_ [.string bi10_] from rfl) (Reps.one (show Kd.M Kd.string _ _ _ bj10_ [.string bj10_] from rfl) (Reps.one (show Kd.M Kd.string _ _ _ bh10_ [.string bh10_] from rfl) (Reps.one (show Kd.M Kd.string _ _ _ bg10_ [.string bg10_] from rfl) (Reps.one (show Kd.M Kd.string _ _ _ bk10_ [.string bk10_] from rfl) (Reps.one (show Kd.M Kd.string _ _ _ bl10_ [.string bl10_] from rfl) (Reps.none _ _))))))))))); intro v194 w104 ho105 hb hg_ hnew_; clear hg_ hnew_; (first | rw [← Ny193.out] at ho105 | (simp only [Int.reduceToNat] at ho105; rw [← Ny193.out] at ho105)); have n0_ := Aside0.mk (Kd.R_lower ho105 (below_size (by repeat (first | (with_reducible first | exact HB.out | apply a1_ | apply a2_ | apply a3_ | refine below_set ?_ GE192.out) | exact HB.out)))); have n1_ := Aside0.mk (blk_below (g := gb192) (o := .cells #[.int .i64 a0_0, .int .i64 a0_1, .int .i64 a0_2, .string a0_3, .string a0_4, .string a0_5, .string a0_6, .int .i64 a0_7, .string a0_8] 30 (0, 0)) (by (with_reducible repeat (first | refine blk_drewN ?_ _ | refine blk_drew ?_ | refine blk_alloc ?_ _)); exact BK192.out) hb); have n2_ := Aside0.mk (below_step (by repeat (first | (with_reducible first | exact HB.out | apply a1_ | apply a2_ | apply a3_ | refine below_set ?_ GE192.out) | exact HB.out)) hb); clear BK192; clear HB; have HO195 := n0_; have BK192 := n1_; have HB := n2_; clear n0_ n1_ n2_; clear hb ho105; have hcz106_0 : w104.cell? ⟨gb192, 0, none⟩ = some (.int .i64 a0_0) := (blk_cell BK192.out 0).trans rfl; have hcz106_1 : w104.cell? ⟨gb192, 1, none⟩ = some (.int .i64 a0_1) := (blk_cell BK192.out 1).trans rfl; have hcz106_2 : w104.cell? ⟨gb192, 2, none⟩ = some (.int .i64 a0_2) := (blk_cell BK192.out 2).trans rfl; have hcz106_3 : w104.cell? ⟨gb192, 3, none⟩ = some (.string a0_3) := (blk_cell BK192.out 3).trans rfl; have hcz106_4 : w104.cell? ⟨gb192, 4, none⟩ = some (.string a0_4) := (blk_cell BK192.out 4).trans rfl; have hcz106_5 : w104.cell? ⟨gb192, 5, none⟩ = some (.string a0_5) := (blk_cell BK192.out 5).trans rfl; have hcz106_6 : w104.cell? ⟨gb192, 6, none⟩ = some (.string a0_6) := (blk_cell BK192.out 6).trans rfl; have hcz106_7 : w104.cell? ⟨gb192, 7, none⟩ = some (.int .i64 a0_7) := (blk_cell BK192.out 7).trans rfl; have hcz106_8 : w104.cell? ⟨gb192, 8, none⟩ = some (.string a0_8) := (blk_cell BK192.out 8).trans rfl; have hfz106_0 := blk_frozen BK192.out 0; have hfz106_1 := blk_frozen BK192.out 1; have hfz106_2 := blk_frozen BK192.out 2; have hfz106_3 := blk_frozen BK192.out 3; have hfz106_4 := blk_frozen BK192.out 4; have hfz106_5 := blk_frozen BK192.out 5; have hfz106_6 := blk_frozen BK192.out 6; have hfz106_7 := blk_frozen BK192.out 7; have hfz106_8 := blk_frozen BK192.out 8; obtain ⟨Ao107, co107, eo107⟩ := Kd.R_slice HO195.out; subst eo107; have p196 : 0 ≤ ((ji8) : Int) := of_decide_eq_true (by first | (with_reducible assumption) | assumption); have q196 : (ji8) < (y193.length : Int) := of_decide_eq_true (by first | (with_reducible assumption) | assumption); obtain ⟨ad196, e196, hx196_0⟩ := Kd.at_string (Kd.R_reads' HO195.out).2.2 (ji8) p196 q196; cases e196; replace p196 := eq_true p196; replace q196 := eq_true q196) | ((with_reducible refine gate_dst (N := 4) rfl ?_); refine box_event ?hg (N := 4) ?hd (cs := #[.int .i64 0, .string be10_, .string be10_, .string be10_, .string be10_]) (t := 28) ?hr ?_; (case hd => rfl); (case hg => rfl); (case hr => first | (go_simp; done) | (go_simp; rfl)); intro gb199 hg w108 hbox hb; have n0_ := Aside0.mk (Kd.R_below (by (with_reducible repeat (first | apply Kd.R_alloc | apply Kd.R_drewN | apply Kd.R_drew)); exact HO195.out) hb); have n1_ := Aside0.mk (blk_below (g := gb192) (o := .cells #[.int .i64 a0_0, .int .i64 a0_1, .int .i64 a0_2, .string a0_3, .string a0_4, .string a0_5, .string a0_6, .int .i64 a0_7, .string a0_8] 30 (0, 0)) (by (with_reducible repeat (first | refine blk_drewN ?_ _ | refine blk_drew ?_ | refine blk_alloc ?_ _)); exact BK192.out) hb); have n2_ := Aside0.mk (below_step (by repeat (first | (with_reducible first | exact HB.out | apply a1_ | apply a2_ | apply a3_ | refine below_set ?_ GE192.out) | exact HB.out)) hb); have n3_ := Aside0.mk (hbox); have n4_ := Aside0.mk ((by rw [hg]; exact (below_size (by repeat (first | (with_reducible first | exact HB.out | apply a1_ | apply a2_ | apply a3_ | refine below_set ?_ GE192.out) | exact HB.out))) : w.heap.size ≤ gb199)); have n5_ := Aside0.mk ((by rw [hg]; exact (below_size (by repeat (first | (with_reducible first | exact HB.out | apply a1_ | apply a2_ | apply a3_ | refine below_set ?_ GE192.out) | exact HB.out))) : w.heap.size ≤ gb199)); have n6_ := Aside0.mk ((by rw [hg]; exact Nat.ne_of_lt (blk_lt (g := gb192) (o := .cells #[.int .i64 a0_0, .int .i64 a0_1, .int .i64 a0_2, .string a0_3, .string a0_4, .string a0_5, .string a0_6, .int .i64 a0_7, .string a0_8] 30 (0, 0)) (by (with_reducible repeat (first | refine blk_drewN ?_ _ | refine blk_drew ?_ | refine blk_alloc ?_ _)); exact BK192.out)) : gb192 ≠ gb199)); have n7_ := Aside0.mk ((by rw [hg]; exact Nat.ne_of_gt (blk_lt (g := gb192) (o := .cells #[.int .i64 a0_0, .int .i64 a0_1, .int .i64 a0_2, .string a0_3, .string a0_4, .string a0_5, .string a0_6, .int .i64 a0_7, .string a0_8] 30 (0, 0)) (by (with_reducible repeat (first | refine blk_drewN ?_ _ | refine blk_drew ?_ | refine blk_alloc ?_ _)); exact BK192.out)) : gb199 ≠ gb192)); clear HO195; clear BK192; clear HB; have HO195 := n0_; have BK192 := n1_; have HB := n2_; have BK199 := n3_; have GW199 := n4_; have GE199 := n5_; have NB192_199 := n6_; have NB199_192 := n7_; clear n0_ n1_ n2_ n3_ n4_ n5_ n6_ n7_; clear hb hbox hg; have hnb109 := NB199_192.out; have hnc109 := NB192_199.out; have hcz110_0 : w108.cell? ⟨gb199, 0, none⟩ = some (.int .i64 0) := (blk_cell BK199.out 0).trans rfl; have hcz110_1 : w108.cell? ⟨gb199, 1, none⟩ = some (.string be10_) := (blk_cell BK199.out 1).trans rfl; have hcz110_2 : w108.cell? ⟨gb199, 2, none⟩ = some (.string be10_) := (blk_cell BK199.out 2).trans rfl; have hcz110_3 : w108.cell? ⟨gb199, 3, none⟩ = some (.string be10_) := (blk_cell BK199.out 3).trans rfl; have hcz110_4 : w108.cell? ⟨gb199, 4, none⟩ = some (.string be10_) := (blk_cell BK199.out 4).trans rfl; have hfz110_0 := blk_frozen BK199.out 0; have hfz110_1 := blk_frozen BK199.out 1; have hfz110_2 := blk_frozen BK199.out 2; have hfz110_3 := blk_frozen BK199.out 3; have hfz110_4 := blk_frozen BK199.out 4))
                      have n0_ : Aside0 (Kd.R Kd.string 9 (((((w108.setCell ⟨gb199, 0, none⟩ (.int .i64 a0_2)).setCell ⟨gb199, 1, none⟩ (.string a0_3)).setCell ⟨gb199, 2, none⟩ (.string a0_4)).setCell ⟨gb199, 3, none⟩ (.string a0_5)).setCell ⟨gb199, 4, none⟩ (.string a0_6)) w.heap.size (fun _ => True) (.slice (some ad196) y193.length co107) y193) := ⟨by (with_reducible repeat (first | apply Kd.R_alloc | apply Kd.R_drewN | apply Kd.R_drew)); exact Kd.R_mono (Kd.R_far (p := ⟨gb199, 4, none⟩) (Kd.R_far (p := ⟨gb199, 3, none⟩) (Kd.R_far (p := ⟨gb199, 2, none⟩) (Kd.R_far (p := ⟨gb199, 1, none⟩) (Kd.R_far (p := ⟨gb199, 0, none⟩) (Kd.R_types HO195.out BK199.out (by decide)) (fun _ hk => hk.2) (.int .i64 a0_2)) (fun _ hk => hk.2) (.string a0_3)) (fun _ hk => hk.2) (.string a0_4)) (fun _ hk => hk.2) (.string a0_5)) (fun _ hk => hk.2) (.string a0_6)) (fun _ hk => trivial)⟩
                      have n1_ : Aside0 ((((((w108.setCell ⟨gb199, 0, none⟩ (.int .i64 a0_2)).setCell ⟨gb199, 1, none⟩ (.string a0_3)).setCell ⟨gb199, 2, none⟩ (.string a0_4)).setCell ⟨gb199, 3, none⟩ (.string a0_5)).setCell ⟨gb199, 4, none⟩ (.string a0_6)).heap[gb192]? = some (.cells #[.int .i64 a0_0, .int .i64 a0_1, .int .i64 a0_2, .string a0_3, .string a0_4, .string a0_5, .string a0_6, .int .i64 a0_7, .string a0_8] 30 (0, 0))) := ⟨by (with_reducible repeat (first | refine blk_drewN ?_ _ | refine blk_drew ?_ | refine blk_alloc ?_ _)); refine blk_far ?_ NB192_199.out _; (with_reducible repeat (first | refine blk_drewN ?_ _ | refine blk_drew ?_ | refine blk_alloc ?_ _)); refine blk_far ?_ NB192_199.out _; (with_reducible repeat (first | refine blk_drewN ?_ _ | refine blk_drew ?_ | refine blk_alloc ?_ _)); refine blk_far ?_ NB192_199.out _; (with_reducible repeat (first | refine blk_drewN ?_ _ | refine blk_drew ?_ | refine blk_alloc ?_ _)); refine blk_far ?_ NB192_199.out _; (with_reducible repeat (first | refine blk_drewN ?_ _ | refine blk_drew ?_ | refine blk_alloc ?_ _)); refine blk_far ?_ NB192_199.out _; (with_reducible repeat (first | refine blk_drewN ?_ _ | refine blk_drew ?_ | refine blk_alloc ?_ _)); exact BK192.out⟩
                      have n2_ : Aside0 ((((((w108.setCell ⟨gb199, 0, none⟩ (.int .i64 a0_2)).setCell ⟨gb199, 1, none⟩ (.string a0_3)).setCell ⟨gb199, 2, none⟩ (.string a0_4)).setCell ⟨gb199, 3, none⟩ (.string a0_5)).setCell ⟨gb199, 4, none⟩ (.string a0_6)).heap[gb199]? = some (.cells #[.int .i64 a0_2, .string a0_3, .string a0_4, .string a0_5, .string a0_6] 28 (0, 0))) := ⟨by (with_reducible repeat (first | refine blk_drewN ?_ _ | refine blk_drew ?_ | refine blk_alloc ?_ _)); refine blk_put (cs := #[.int .i64 a0_2, .string a0_3, .string a0_4, .string a0_5, .string be10_]) ?_ 4 _ rfl; (with_reducible repeat (first | refine blk_drewN ?_ _ | refine blk_drew ?_ | refine blk_alloc ?_ _)); refine blk_put (cs := #[.int .i64 a0_2, .string a0_3, .string a0_4, .string be10_, .string be10_]) ?_ 3 _ rfl; (with_reducible repeat (first | refine blk_drewN ?_ _ | refine blk_drew ?_ | refine blk_alloc ?_ _)); refine blk_put (cs := #[.int .i64 a0_2, .string a0_3, .string be10_, .string be10_, .string be10_]) ?_ 2 _ rfl; (with_reducible repeat (first | refine blk_drewN ?_ _ | refine blk_drew ?_ | refine blk_alloc ?_ _)); refine blk_put (cs := #[.int .i64 a0_2, .string be10_, .string be10_, .string be10_, .string be10_]) ?_ 1 _ rfl; (with_reducible repeat (first | refine blk_drewN ?_ _ | refine blk_drew ?_ | refine blk_alloc ?_ _)); refine blk_put (cs := #[.int .i64 0, .string be10_, .string be10_, .string be10_, .string be10_]) ?_ 0 _ rfl; (with_reducible repeat (first | refine blk_drewN ?_ _ | refine blk_drew ?_ | refine blk_alloc ?_ _)); exact BK199.out⟩
                      have n3_ : Aside0 (Below w.heap.size w (((((w108.setCell ⟨gb199, 0, none⟩ (.int .i64 a0_2)).setCell ⟨gb199, 1, none⟩ (.string a0_3)).setCell ⟨gb199, 2, none⟩ (.string a0_4)).setCell ⟨gb199, 3, none⟩ (.string a0_5)).setCell ⟨gb199, 4, none⟩ (.string a0_6))) := ⟨by repeat (first | (with_reducible first | exact HB.out | apply a1_ | apply a2_ | apply a3_ | refine below_set ?_ GE192.out | refine below_set ?_ GE199.out) | exact HB.out)⟩
                      (try clear HO195)
                      (try clear BK192)
                      (try clear BK199)
                      (try clear HB)
                      generalize (((((w108.setCell ⟨gb199, 0, none⟩ (.int .i64 a0_2)).setCell ⟨gb199, 1, none⟩ (.string a0_3)).setCell ⟨gb199, 2, none⟩ (.string a0_4)).setCell ⟨gb199, 3, none⟩ (.string a0_5)).setCell ⟨gb199, 4, none⟩ (.string a0_6)) = w111 at n0_ n1_ n2_ n3_ ⊢
                      have HO195 := n0_
                      have BK192 := n1_
                      have BK199 := n2_
                      have HB := n3_
                      clear n0_ n1_ n2_ n3_
                      have n0_ := Aside0.mk (Kd.R_drew HO195.out)
                      have n1_ := Aside0.mk (blk_drew BK192.out)
                      have n2_ := Aside0.mk (blk_drew BK199.out)
                      have n3_ := Aside0.mk (below_drew1 HB.out)
                      clear HO195
                      clear BK192
                      clear BK199
                      clear HB
                      have HO195 := n0_
                      have BK192 := n1_
                      have BK199 := n2_
                      have HB := n3_
                      clear n0_ n1_ n2_ n3_
                      refine start_ (n := 26) (S := fun w' => w'.cell? ⟨gb192, 0, none⟩ = some (.int .i64 a0_0) ∧ w'.cell? ⟨gb192, 1, none⟩ = some (.int .i64 a0_1) ∧ w'.cell? ⟨gb192, 2, none⟩ = some (.int .i64 a0_2) ∧ w'.cell? ⟨gb192, 3, none⟩ = some (.string a0_3) ∧ w'.cell? ⟨gb192, 4, none⟩ = some (.string a0_4) ∧ w'.cell? ⟨gb192, 5, none⟩ = some (.string a0_5) ∧ w'.cell? ⟨gb192, 6, none⟩ = some (.string a0_6) ∧ w'.cell? ⟨gb192, 7, none⟩ = some (.int .i64 a0_7) ∧ w'.cell? ⟨gb192, 8, none⟩ = some (.string a0_8) ∧ w'.cell? ⟨gb199, 0, none⟩ = some (.int .i64 a0_2) ∧ w'.cell? ⟨gb199, 1, none⟩ = some (.string a0_3) ∧ w'.cell? ⟨gb199, 2, none⟩ = some (.string a0_4) ∧ w'.cell? ⟨gb199, 3, none⟩ = some (.string a0_5) ∧ w'.cell? ⟨gb199, 4, none⟩ = some (.string a0_6)) (ds := []) #[F_,F_,F_,F_,F_,F_,F_,F_,F_,F_,F_,F_,F_,F_,F_,F_,F_,F_,F_,F_,F_,F_,F_,F_,F_,F_] (by kernel_rfl) rfl rfl ⟨(blk_cell BK192.out 0).trans rfl, (blk_cell BK192.out 1).trans rfl, (blk_cell BK192.out 2).trans rfl, (blk_cell BK192.out 3).trans rfl, (blk_cell BK192.out 4).trans rfl, (blk_cell BK192.out 5).trans rfl, (blk_cell BK192.out 6).trans rfl, (blk_cell BK192.out 7).trans rfl, (blk_cell BK192.out 8).trans rfl, (blk_cell BK199.out 0).trans rfl, (blk_cell BK199.out 1).trans rfl, (blk_cell BK199.out 2).trans rfl, (blk_cell BK199.out 3).trans rfl, (blk_cell BK199.out 4).trans rfl⟩ (fun hHeld => ?_); refine with_tabW outlawref23_Line.tab15 outlawref23_Line.bits15 (fun HT_ HW_ => ?_)
                      generalize w111.drew = w112 at HO195 BK192 BK199 HB hHeld ⊢
                      refine pq_ 0 61 (mb_ 26 1) HT_.out ?_
                      refine pq_ 1 62 (mb_ 26 3) HT_.out ?_
                      refine pq_ 2 63 (mb_ 26 7) HT_.out ?_
                      refine pq_ 7 68 (mb_ 26 135) HT_.out ?_
                      refine pq_ 10 71 (mb_ 26 1159) HT_.out ?_
                      refine pq_ 14 75 (mb_ 26 17543) HT_.out ?_
                      refine pq_ 18 79 (mb_ 26 279687) HT_.out ?_
                      refine pq_ 22 83 (mb_ 26 4473991) HT_.out ?_
                      refine tq_ 3 64 (mb_ 26 4473999) HT_.out HW_.out hHeld ?_ (hr := by rintro w' ⟨s0, s1, s2, s3, s4, s5, s6, s7, s8, s9, s10, s11, s12, s13⟩; go_simp; with_reducible rfl)
                      refine tq_ 11 72 (mb_ 26 4476047) HT_.out HW_.out hHeld ?_ (hr := by rintro w' ⟨s0, s1, s2, s3, s4, s5, s6, s7, s8, s9, s10, s11, s12, s13⟩; go_simp; with_reducible rfl)
                      refine tq_ 15 76 (mb_ 26 4508815) HT_.out HW_.out hHeld ?_ (hr := by rintro w' ⟨s0, s1, s2, s3, s4, s5, s6, s7, s8, s9, s10, s11, s12, s13⟩; go_simp; with_reducible rfl)
                      refine tq_ 19 80 (mb_ 26 5033103) HT_.out HW_.out hHeld ?_ (hr := by rintro w' ⟨s0, s1, s2, s3, s4, s5, s6, s7, s8, s9, s10, s11, s12, s13⟩; go_simp; with_reducible rfl)
                      refine tq_ 23 84 (mb_ 26 13421711) HT_.out HW_.out hHeld ?_ (hr := by rintro w' ⟨s0, s1, s2, s3, s4, s5, s6, s7, s8, s9, s10, s11, s12, s13⟩; go_simp; with_reducible rfl)
                      refine one_ (i := 4) (N := some 65) (mb_ 26 13421727) rfl rfl (one_of HT_.out (by kernel_rfl)) (by decide) (fun K hK => ?_)
                      refine goes_ Tryd.func40 (by kernel_rfl) rfl #[.int .i64 a0_1] (by rfl) rfl rfl (by (try simp only [List.map_toArray, List.map_cons, List.map_nil]); first | done | rfl | (simp only [List.length_drop, List.length_take]; rfl)) ?_
                      with_reducible refine (outlawref21_Digits.calls kj1 a0_1 t206 _ A92.out).mono ?_
                      rintro e w113 ⟨rfl, hb⟩
                      refine ⟨_, rfl, ?_⟩
                      have n0_ := Aside0.mk (Kd.R_below (by (with_reducible repeat (first | apply Kd.R_alloc | apply Kd.R_drewN | apply Kd.R_drew)); exact HO195.out) hb)
                      have n1_ := Aside0.mk (blk_below (g := gb192) (o := .cells #[.int .i64 a0_0, .int .i64 a0_1, .int .i64 a0_2, .string a0_3, .string a0_4, .string a0_5, .string a0_6, .int .i64 a0_7, .string a0_8] 30 (0, 0)) (by (with_reducible repeat (first | refine blk_drewN ?_ _ | refine blk_drew ?_ | refine blk_alloc ?_ _)); exact BK192.out) hb)
                      have n2_ := Aside0.mk (blk_below (g := gb199) (o := .cells #[.int .i64 a0_2, .string a0_3, .string a0_4, .string a0_5, .string a0_6] 28 (0, 0)) (by (with_reducible repeat (first | refine blk_drewN ?_ _ | refine blk_drew ?_ | refine blk_alloc ?_ _)); exact BK199.out) hb)
                      have n3_ := Aside0.mk (below_step (by repeat (first | (with_reducible first | exact HB.out | apply a1_ | apply a2_ | apply a3_ | refine below_set ?_ GE192.out | refine below_set ?_ GE199.out) | exact HB.out)) hb)
                      clear HO195
                      clear BK192
                      clear BK199
                      clear HB
                      have HO195 := n0_
                      have BK192 := n1_
                      have BK199 := n2_
                      have HB := n3_
                      clear n0_ n1_ n2_ n3_
                      (try clear hb)
                      (try clear hb2)
                      (try clear hk)
                      (try clear hi)
                      refine hK.out _ _ ⟨(blk_cell BK192.out 0).trans rfl, (blk_cell BK192.out 1).trans rfl, (blk_cell BK192.out 2).trans rfl, (blk_cell BK192.out 3).trans rfl, (blk_cell BK192.out 4).trans rfl, (blk_cell BK192.out 5).trans rfl, (blk_cell BK192.out 6).trans rfl, (blk_cell BK192.out 7).trans rfl, (blk_cell BK192.out 8).trans rfl, (blk_cell BK199.out 0).trans rfl, (blk_cell BK199.out 1).trans rfl, (blk_cell BK199.out 2).trans rfl, (blk_cell BK199.out 3).trans rfl, (blk_cell BK199.out 4).trans rfl⟩ (fun hHeld => ?_)
                      clear hK K
                      refine norm_ (a' := ?_) ?_ ?_
                      rotate_left
                      ·show Act.put _ (some 65) _ = _
                       simp only [Act.put, List.setIfInBounds_toArray, List.set_cons_zero, List.set_cons_succ, i64_w, i32_w]
                       rfl
                      refine pq_ 5 66 (mb_ 26 13421759) HT_.out ?_
                      refine pq_ 6 67 (mb_ 26 13421823) HT_.out ?_
                      refine pq_ 8 69 (mb_ 26 13422079) HT_.out ?_
                      refine pq_ 9 70 (mb_ 26 13422591) HT_.out ?_
                      refine pq_ 12 73 (mb_ 26 13426687) HT_.out ?_
                      refine pq_ 13 74 (mb_ 26 13434879) HT_.out ?_
                      refine pq_ 16 77 (mb_ 26 13500415) HT_.out ?_
                      refine pq_ 17 78 (mb_ 26 13631487) HT_.out ?_
                      refine pq_ 20 81 (mb_ 26 14680063) HT_.out ?_
                      refine pq_ 21 82 (mb_ 26 16777215) HT_.out ?_
                      refine pq_ 24 85 (mb_ 26 33554431) HT_.out ?_
                      refine pq_ 25 2 (mb_ 26 67108863) HT_.out ?_
                      refine done_ (done_of HT_.out (by kernel_rfl)) ?_
                      try go_wp2
                      go_ret
                      exact ⟨by first | rfl | (simp [errW_none, errW_some] <;> rfl) | (simp only [← hji8]; first | rfl | (simp [errW_none, errW_some] <;> rfl)) | (simp [*, errW_none, errW_some] <;> rfl), by repeat (first | (with_reducible first | exact HB.out | apply a1_ | apply a2_ | apply a3_ | refine below_set ?_ GE192.out | refine below_set ?_ GE199.out) | exact HB.out)⟩
                     ·rw [if_neg c103] at H
                      exact absurd H (by simp)
                    ·rw [if_neg c102] at H
                     exact absurd H (by simp)
                   ·rw [if_neg c101] at H
                    exact absurd H (by simp)
                  ·rw [if_neg c100] at H
                   exact absurd H (by simp)
                 ·rw [if_neg c99] at H
                  exact absurd H (by simp)
                ·rw [if_neg c98] at H
                 exact absurd H (by simp)
               ·rw [if_neg c97] at H
                exact absurd H (by simp)
              ·rw [if_neg c96] at H
               exact absurd H (by simp)
             ·rw [if_neg c95] at H
              exact absurd H (by simp)
            ·rw [if_neg c94] at H
             exact absurd H (by simp)
           ·rw [if_neg c93] at H
            exact absurd H (by simp)
          ·rw [if_neg c91] at H
           exact absurd H (by simp)
     ·rw [if_neg c10] at H
      exact absurd H (by simp)
    ·rw [if_neg c9] at H
     exact absurd H (by simp)
end Go.Proofs.YtlmhgnkkdjpkcaaDoor.PA
