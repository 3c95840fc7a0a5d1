/- The contracts of the closure that record.Read defers: over a panic, and over a return. -/
import Derived.Test.YtfgbimcjcplegaaDoorG4
set_option linter.unusedVariables false
set_option linter.unusedSimpArgs false
namespace Go.Proofs.YtfgbimcjcplegaaDoorG
open Go.RowKit Go.Proofs.YtfgbimcjcplegaaDoorW.PrintWords Go.Proofs.YtfgbimcjcplegaaDoorX Go.Proofs.YtfgbimcjcplegaaDoorW.PrintMore
theorem hta (x : Int) (w : World) : (Instr.typeAssert (.iface 38 (.agg #[.int .i64 x])) 20 38 true).run Tryd.prog w = .ok (.tuple #[.agg #[.int .i64 x], .bool true]) w := by
  simp [Instr.typeAssert, go_sem, Tryd.underlying38]
theorem wp_any {P : Program} {c : Code} {Q : Exit → Act → World → Prop} {a : Act} {w : World} (h : ∀ K : Exit → Act → World → Prop, Hid (∀ e a w, Q e a w → K e a w) → c.wp P K a w) : c.wp P Q a w := h Q (fun _ _ _ h => h)
set_option maxHeartbeats 4000000 in
theorem catch_broken (I J : Nat) (c0 c1 c2 c3 c4 d : Value) (x : Int) (older : List PanicEntry) (w : World) (hI : Blk w I #[c0, c1, c2, c3, c4] 24) (hJ : Blk w J #[d] 25) (hIJ : I ≠ J) :
    CallsD Tryd.prog 19 #[.pointer (some ⟨I, 0, none⟩), .pointer (some ⟨J, 0, none⟩)] (.panicking ({ v := .iface 38 (.agg #[.int .i64 x]), recovered := false } :: older)) w fun e u' w' =>
      e = .returned (.tuple #[]) ∧ u' = .panicking ({ v := .iface 38 (.agg #[.int .i64 x]), recovered := true } :: older) ∧ Blk w' I #[.int .i64 0, .int .i64 0, .int .i64 0, .bool false, .string ByteArray.empty] 24 ∧ Blk w' J #[.int .i64 x] 25 ∧ Below (min I J) w w' := by
  refine callsD_of_wpS Tryd.func19 rfl fun c₀ cs hu => ?_
  apply wpS_seq
  apply wpS_region
  simp [wpOpsS, go_sem, recoverD, hu, Tryd.ntmps19, Exit.thenS]
  refine wpS_of_wp (wp_any fun K hK => ?_)
  rw [show ∀ v : Value, (#[Value.pointer (some { block := I, off := 0 }), Value.pointer (some { block := J, off := 0 })] ++ ((Array.replicate 17 undef).setIfInBounds 3 v).setIfInBounds 0 v) = #[Value.pointer (some { block := I, off := 0 }), Value.pointer (some { block := J, off := 0 }), v, undef, undef, v, undef, undef, undef, undef, undef, undef, undef, undef, undef, undef, undef, undef, undef] from fun _ => rfl]
  obtain ⟨y0, y1, y2, y3, y4, z0, z1, z2, z3, z4⟩ := five hI
  have v0 := hJ.cell 0
  have v1 := hJ.frozen 0
  have HI := Lib.hid hI
  have HJ := Lib.hid hJ
  have HU := Lib.hid hu
  clear hI hJ hu
  have ht := fun (W : World) => hta x W
  go_wp2_with fail
  clear y0 y1 y2 y3 y4 z0 z1 z2 z3 z4 v0 v1
  have hIA := HI.out.alloc (.cells #[.int .i64 x] 38)
  have hJA := HJ.out.alloc (.cells #[.int .i64 x] 38)
  have hNA := Blk.new w #[.int .i64 x] 38
  obtain ⟨y0, y1, y2, y3, y4, z0, z1, z2, z3, z4⟩ := five hIA
  have v0 := hJA.cell 0
  have v1 := hJA.frozen 0
  have u0 := hNA.cell 0
  have ne1 : I ≠ w.heap.size := Nat.ne_of_lt HI.out.lt
  have ne2 : J ≠ w.heap.size := Nat.ne_of_lt HJ.out.lt
  have ne3 := ne1.symm
  have ne4 := ne2.symm
  have ne5 := hIJ.symm
  clear hIA hJA hNA
  go_region
  all_goals go_wp2
  have hb : min I J ≤ w.heap.size := Nat.le_trans (Nat.min_le_left _ _) (Nat.le_of_lt HI.out.lt)
  refine hK.out _ _ _ ⟨rfl, _, rfl, .tuple #[], ?_, rfl, rfl, ?_, ?_, ?_⟩
  · simp [results, Tryd.results19]
  · have h := (((((((HI.out.alloc (.cells #[.int .i64 x] 38)).set 0 (.int .i64 0)).set 1 (.int .i64 0)).set 2 (.int .i64 0)).set 3 (.bool false)).set 4 (.string ByteArray.empty)).setElse hIJ 0 (.int .i64 x)).drew
    simp at h
    exact h
  · have h := (((((((HJ.out.alloc (.cells #[.int .i64 x] 38)).setElse hIJ.symm 0 (.int .i64 0)).setElse hIJ.symm 1 (.int .i64 0)).setElse hIJ.symm 2 (.int .i64 0)).setElse hIJ.symm 3 (.bool false)).setElse hIJ.symm 4 (.string ByteArray.empty)).set 0 (.int .i64 x)).drew
    simp at h
    exact h
  · exact ((((((((Below.refl _ w).alloc hb _).setCell (Nat.min_le_left _ _) _).setCell (Nat.min_le_left _ _) _).setCell (Nat.min_le_left _ _) _).setCell (Nat.min_le_left _ _) _).setCell (Nat.min_le_left _ _) _).setCell (Nat.min_le_right _ _) _).drew
set_option maxHeartbeats 4000000 in
theorem catch_idle (p q : Addr) (w : World) :
    CallsD Tryd.prog 19 #[.pointer (some p), .pointer (some q)] .returning w fun e u' w' => e = .returned (.tuple #[]) ∧ u' = .returning ∧ w' = w := by
  refine callsD_of_wpS Tryd.func19 rfl fun c₀ cs hu => ?_
  apply wpS_seq
  apply wpS_region
  simp [wpOpsS, go_sem, recoverD, hu, Tryd.ntmps19, Exit.thenS]
  refine wpS_of_wp (wp_any fun K hK => ?_)
  rw [show ∀ v : Value, (#[Value.pointer (some p), Value.pointer (some q)] ++ ((Array.replicate 17 undef).setIfInBounds 3 v).setIfInBounds 0 v) = #[Value.pointer (some p), Value.pointer (some q), v, undef, undef, v, undef, undef, undef, undef, undef, undef, undef, undef, undef, undef, undef, undef, undef] from fun _ => rfl]
  have HU := Lib.hid hu
  clear hu
  go_wp2_with fail
  refine hK.out _ _ _ ⟨rfl, .returning, ?_, .tuple #[], ?_, rfl, rfl, rfl⟩
  · rw [← HU.out]
  · simp [results, Tryd.results19]
end Go.Proofs.YtfgbimcjcplegaaDoorG
