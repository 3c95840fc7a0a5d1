/- The contract of record.Read. -/
import Derived.Test.YtfgbimcjcplegaaDoorG5
import Derived.Test.YtfgbimcjcplegaaDoorG6
set_option linter.unusedVariables false
set_option linter.unusedSimpArgs false
namespace Go.Proofs.YtfgbimcjcplegaaDoorG
open Go.RowKit Go.Proofs.YtfgbimcjcplegaaDoorW.PrintWords Go.Proofs.YtfgbimcjcplegaaDoorX Go.Proofs.YtfgbimcjcplegaaDoorW.PrintMore
def zeroIn : Value := .agg #[.int .i64 0, .int .i64 0, .int .i64 0, .bool false, .string ByteArray.empty]
theorem res13 {w : World} {I J : Nat} {a b c d e x : Value} {tmps : Array Value} (h : Blk w I #[a, b, c, d, e] 24) (hJ : Blk w J #[x] 25) (ht : tmps.getD 2 undef = .pointer (some ⟨I, 0, none⟩)) (ht3 : tmps.getD 3 undef = .pointer (some ⟨J, 0, none⟩)) :
    (results Tryd.f6 tmps).run Tryd.prog w = .ok (.tuple #[.agg #[a, b, c, d, e], x]) w := by
  obtain ⟨c0, c1, c2, c3, c4, z0, z1, z2, z3, z4⟩ := five h
  have j0 := hJ.cell 0
  simp at ht ht3 j0
  simp [results, Tryd.results6, go_sem, ht, ht3, c0, c1, c2, c3, c4, j0, Result.andThen]
def R0 (w : World) (s : ByteArray) : World := ((w.alloc (.cells #[.int .i64 0, .int .i64 0, .int .i64 0, .bool false, .string { data := #[] }] 24)).alloc (.cells #[.int .i64 0] 25)).alloc (.cells #[.string s] 42)
theorem R0_I (w : World) (s : ByteArray) : Blk (R0 w s) w.heap.size #[.int .i64 0, .int .i64 0, .int .i64 0, .bool false, .string { data := #[] }] 24 := ((Blk.new w _ 24).alloc _).alloc _
theorem R0_J (w : World) (s : ByteArray) : Blk (R0 w s) (w.heap.size + 1) #[.int .i64 0] 25 := by
  have h := (Blk.new (w.alloc (.cells #[.int .i64 0, .int .i64 0, .int .i64 0, .bool false, .string { data := #[] }] 24)) #[.int .i64 0] 25).alloc (.cells #[.string s] 42)
  have e : (w.alloc (.cells #[.int .i64 0, .int .i64 0, .int .i64 0, .bool false, .string { data := #[] }] 24)).heap.size = w.heap.size + 1 := by simp
  rw [e] at h
  exact h
theorem R0_B (w : World) (s : ByteArray) : Blk (R0 w s) (w.heap.size + 1 + 1) #[.string s] 42 := by
  have h := Blk.new ((w.alloc (.cells #[.int .i64 0, .int .i64 0, .int .i64 0, .bool false, .string { data := #[] }] 24)).alloc (.cells #[.int .i64 0] 25)) #[.string s] 42
  have e : ((w.alloc (.cells #[.int .i64 0, .int .i64 0, .int .i64 0, .bool false, .string { data := #[] }] 24)).alloc (.cells #[.int .i64 0] 25)).heap.size = w.heap.size + 1 + 1 := by simp
  rw [e] at h
  exact h
theorem R0_below (w : World) (s : ByteArray) : Below w.heap.size w (R0 w s) := (((Below.refl _ w).alloc (Nat.le_refl _) _).alloc (by simp) _).alloc (by simp; omega) _
theorem R0_size (w : World) (s : ByteArray) : (R0 w s).heap.size = w.heap.size + 3 := by simp [R0]
set_option maxHeartbeats 4000000 in
theorem read_bad (s : ByteArray) (w : World) (hs : s.size ≤ 6000) (x : Int) (hg : gotOf s = .bad x) :
    Calls Tryd.prog 6 #[.string s] w fun e w' => e = .returned (.tuple #[zeroIn, .int .i64 x]) ∧ Below w.heap.size w w' := by
  have hmf : ∀ (fn : Fn) (first cap : Array Value) (w : World), (Instr.makeFunc fn first cap).run Tryd.prog w = .ok (.func fn first cap) w := fun _ _ _ _ => rfl
  have HG := Lib.hid hg
  clear hg
  go_enter_defers Tryd.func6, Tryd.ntmps6
  go_wp2_with fail
  refine (input_any (w.heap.size + 1 + 1) s _ (R0_B w s) hs).mono ?_
  rintro e w1 ⟨he, hE⟩
  rw [HG.out] at he
  simp only [Got.ending, gives] at he
  subst he
  have HI := Lib.hid ((R0_I w s).kept hE (by omega))
  have HJ := Lib.hid ((R0_J w s).kept hE (by omega))
  have HE := Lib.hid ((R0_below w s).trans (hE.below (by omega) (by rw [R0_size]; omega)))
  clear hE
  go_wp2_with fail
  refine leaves_cons (f := 19) (args := #[.pointer (some ⟨w.heap.size, 0, none⟩), .pointer (some ⟨w.heap.size + 1, 0, none⟩)]) (by simp) (by simp [go_sem]) ?_
  refine (catch_broken w.heap.size (w.heap.size + 1) _ _ _ _ _ _ x [] _ HI.out HJ.out (by omega)).mono ?_
  rintro e u' w'' ⟨rfl, rfl, hI2, hJ2, hb⟩
  exact ⟨_, res13 hI2 hJ2 rfl rfl, rfl, HE.out.trans (hb.mono (by omega))⟩
set_option maxHeartbeats 4000000 in
theorem read_got_ok (s : ByteArray) (w : World) (hs : s.size ≤ 6000) (k c n : Int) (ok : Bool) (t : ByteArray) (hg : gotOf s = .got k c n ok t) (hc : checkI k c n ok t = 0) :
    Calls Tryd.prog 6 #[.string s] w fun e w' => e = .returned (.tuple #[.agg #[.int .i64 k, .int .i64 c, .int .i64 n, .bool ok, .string t], .int .i64 0]) ∧ Below w.heap.size w w' := by
  have hmf : ∀ (fn : Fn) (first cap : Array Value) (w : World), (Instr.makeFunc fn first cap).run Tryd.prog w = .ok (.func fn first cap) w := fun _ _ _ _ => rfl
  have HG := Lib.hid hg
  clear hg
  go_enter_defers Tryd.func6, Tryd.ntmps6
  go_wp2_with fail
  refine (input_any (w.heap.size + 1 + 1) s _ (R0_B w s) hs).mono ?_
  rintro e w1 ⟨he, hE⟩
  rw [HG.out] at he
  simp only [Got.ending] at he
  subst he
  have hI := (R0_I w s).kept hE (by omega)
  have hJ := (R0_J w s).kept hE (by omega)
  obtain ⟨y0, y1, y2, y3, y4, z0, z1, z2, z3, z4⟩ := five hI
  have HE := Lib.hid ((R0_below w s).trans (hE.below (by omega) (by rw [R0_size]; omega)))
  have HI := Lib.hid hI
  have HJ := Lib.hid hJ
  clear hE hI hJ
  go_wp2_with fail
  have hI1 := ((((HI.out.set 0 (.int .i64 k)).set 1 (.int .i64 c)).set 2 (.int .i64 n)).set 3 (.bool ok)).set 4 (.string t)
  simp at hI1
  have nij : w.heap.size + 1 ≠ w.heap.size := by omega
  have hJ1 := ((((HJ.out.setElse nij 0 (.int .i64 k)).setElse nij 1 (.int .i64 c)).setElse nij 2 (.int .i64 n)).setElse nij 3 (.bool ok)).setElse nij 4 (.string t)
  have hW1 := ((((HE.out.setCell (p := ⟨w.heap.size, 0, none⟩) (Nat.le_refl _) (.int .i64 k)).setCell (p := ⟨w.heap.size, 1, none⟩) (Nat.le_refl _) (.int .i64 c)).setCell (p := ⟨w.heap.size, 2, none⟩) (Nat.le_refl _) (.int .i64 n)).setCell (p := ⟨w.heap.size, 3, none⟩) (Nat.le_refl _) (.bool ok)).setCell (p := ⟨w.heap.size, 4, none⟩) (Nat.le_refl _) (.string t)
  refine (check_any k c n ok t _).mono ?_
  rintro e w2 ⟨rfl, hb2⟩
  rw [hc]
  have hI2 := hI1.below hb2 hI1.lt
  have hJ2 := hJ1.below hb2 hJ1.lt
  have HW2 := Lib.hid (hW1.trans (hb2.mono hW1.size))
  clear y0 y1 y2 y3 y4 z0 z1 z2 z3 z4 hI1 hJ1 hW1 hb2
  obtain ⟨y0, y1, y2, y3, y4, z0, z1, z2, z3, z4⟩ := five hI2
  have v0 := hJ2.cell 0
  have v1 := hJ2.frozen 0
  have HI2 := Lib.hid hI2
  have HJ2 := Lib.hid hJ2
  clear hI2 hJ2
  simp only [hc] at *
  go_wp2_with fail
  have hIF := (((((HI2.out.set 0 (.int .i64 k)).set 1 (.int .i64 c)).set 2 (.int .i64 n)).set 3 (.bool ok)).set 4 (.string t)).setElse nij.symm 0 (.int .i64 0)
  have hJF := (((((HJ2.out.setElse nij 0 (.int .i64 k)).setElse nij 1 (.int .i64 c)).setElse nij 2 (.int .i64 n)).setElse nij 3 (.bool ok)).setElse nij 4 (.string t)).set 0 (.int .i64 0)
  have hWF := (((((HW2.out.setCell (p := ⟨w.heap.size, 0, none⟩) (Nat.le_refl _) (.int .i64 k)).setCell (p := ⟨w.heap.size, 1, none⟩) (Nat.le_refl _) (.int .i64 c)).setCell (p := ⟨w.heap.size, 2, none⟩) (Nat.le_refl _) (.int .i64 n)).setCell (p := ⟨w.heap.size, 3, none⟩) (Nat.le_refl _) (.bool ok)).setCell (p := ⟨w.heap.size, 4, none⟩) (Nat.le_refl _) (.string t)).setCell (p := ⟨w.heap.size + 1, 0, none⟩) (Nat.le_succ _) (.int .i64 0)
  simp at hIF hJF
  refine leaves_cons (f := 19) (args := #[.pointer (some ⟨w.heap.size, 0, none⟩), .pointer (some ⟨w.heap.size + 1, 0, none⟩)]) (by simp) (by simp [go_sem]) ?_
  refine (catch_idle ⟨w.heap.size, 0, none⟩ ⟨w.heap.size + 1, 0, none⟩ _).mono ?_
  rintro e u' w'' ⟨rfl, rfl, rfl⟩
  exact ⟨_, res13 hIF hJF rfl rfl, rfl, hWF⟩
set_option maxHeartbeats 4000000 in
theorem read_got_bad (s : ByteArray) (w : World) (hs : s.size ≤ 6000) (k c n : Int) (ok : Bool) (t : ByteArray) (hg : gotOf s = .got k c n ok t) (r : Int) (hc : checkI k c n ok t = r) (hr : (r == 0) = false) :
    Calls Tryd.prog 6 #[.string s] w fun e w' => e = .returned (.tuple #[zeroIn, .int .i64 r]) ∧ Below w.heap.size w w' := by
  have hmf : ∀ (fn : Fn) (first cap : Array Value) (w : World), (Instr.makeFunc fn first cap).run Tryd.prog w = .ok (.func fn first cap) w := fun _ _ _ _ => rfl
  have HG := Lib.hid hg
  clear hg
  go_enter_defers Tryd.func6, Tryd.ntmps6
  go_wp2_with fail
  refine (input_any (w.heap.size + 1 + 1) s _ (R0_B w s) hs).mono ?_
  rintro e w1 ⟨he, hE⟩
  rw [HG.out] at he
  simp only [Got.ending] at he
  subst he
  have hI := (R0_I w s).kept hE (by omega)
  have hJ := (R0_J w s).kept hE (by omega)
  obtain ⟨y0, y1, y2, y3, y4, z0, z1, z2, z3, z4⟩ := five hI
  have HE := Lib.hid ((R0_below w s).trans (hE.below (by omega) (by rw [R0_size]; omega)))
  have HI := Lib.hid hI
  have HJ := Lib.hid hJ
  clear hE hI hJ
  go_wp2_with fail
  have hI1 := ((((HI.out.set 0 (.int .i64 k)).set 1 (.int .i64 c)).set 2 (.int .i64 n)).set 3 (.bool ok)).set 4 (.string t)
  simp at hI1
  have nij : w.heap.size + 1 ≠ w.heap.size := by omega
  have hJ1 := ((((HJ.out.setElse nij 0 (.int .i64 k)).setElse nij 1 (.int .i64 c)).setElse nij 2 (.int .i64 n)).setElse nij 3 (.bool ok)).setElse nij 4 (.string t)
  have hW1 := ((((HE.out.setCell (p := ⟨w.heap.size, 0, none⟩) (Nat.le_refl _) (.int .i64 k)).setCell (p := ⟨w.heap.size, 1, none⟩) (Nat.le_refl _) (.int .i64 c)).setCell (p := ⟨w.heap.size, 2, none⟩) (Nat.le_refl _) (.int .i64 n)).setCell (p := ⟨w.heap.size, 3, none⟩) (Nat.le_refl _) (.bool ok)).setCell (p := ⟨w.heap.size, 4, none⟩) (Nat.le_refl _) (.string t)
  refine (check_any k c n ok t _).mono ?_
  rintro e w2 ⟨rfl, hb2⟩
  rw [hc]
  have hI2 := hI1.below hb2 hI1.lt
  have hJ2 := hJ1.below hb2 hJ1.lt
  have HW2 := Lib.hid (hW1.trans (hb2.mono hW1.size))
  clear y0 y1 y2 y3 y4 z0 z1 z2 z3 z4 hI1 hJ1 hW1 hb2
  obtain ⟨y0, y1, y2, y3, y4, z0, z1, z2, z3, z4⟩ := five hI2
  have v0 := hJ2.cell 0
  have v1 := hJ2.frozen 0
  have HI2 := Lib.hid hI2
  have HJ2 := Lib.hid hJ2
  clear hI2 hJ2
  go_wp2_with fail
  have hIF := (((((HI2.out.set 0 (.int .i64 0)).set 1 (.int .i64 0)).set 2 (.int .i64 0)).set 3 (.bool false)).set 4 (.string ByteArray.empty)).setElse nij.symm 0 (.int .i64 r)
  have hJF := (((((HJ2.out.setElse nij 0 (.int .i64 0)).setElse nij 1 (.int .i64 0)).setElse nij 2 (.int .i64 0)).setElse nij 3 (.bool false)).setElse nij 4 (.string ByteArray.empty)).set 0 (.int .i64 r)
  have hWF := (((((HW2.out.setCell (p := ⟨w.heap.size, 0, none⟩) (Nat.le_refl _) (.int .i64 0)).setCell (p := ⟨w.heap.size, 1, none⟩) (Nat.le_refl _) (.int .i64 0)).setCell (p := ⟨w.heap.size, 2, none⟩) (Nat.le_refl _) (.int .i64 0)).setCell (p := ⟨w.heap.size, 3, none⟩) (Nat.le_refl _) (.bool false)).setCell (p := ⟨w.heap.size, 4, none⟩) (Nat.le_refl _) (.string ByteArray.empty)).setCell (p := ⟨w.heap.size + 1, 0, none⟩) (Nat.le_succ _) (.int .i64 r)
  simp at hIF hJF
  refine leaves_cons (f := 19) (args := #[.pointer (some ⟨w.heap.size, 0, none⟩), .pointer (some ⟨w.heap.size + 1, 0, none⟩)]) (by simp) (by simp [go_sem]) ?_
  refine (catch_idle ⟨w.heap.size, 0, none⟩ ⟨w.heap.size + 1, 0, none⟩ _).mono ?_
  rintro e u' w'' ⟨rfl, rfl, rfl⟩
  exact ⟨_, res13 hIF hJF rfl rfl, rfl, hWF⟩
/-- What Read tells: the input, or the zero one and what is wrong. -/
def readG (s : ByteArray) : Int × Int × Int × Bool × ByteArray × Int :=
  match gotOf s with
  | .bad x => (0, 0, 0, false, ByteArray.empty, x)
  | .got k c n ok t => if checkI k c n ok t = 0 then (k, c, n, ok, t, 0) else (0, 0, 0, false, ByteArray.empty, checkI k c n ok t)
def record_Read.f (s : ByteArray) : Option (Int × Int × Int × Bool × ByteArray × Int) := if s.size ≤ 6000 then some (readG s) else none
end Go.Proofs.YtfgbimcjcplegaaDoorG
