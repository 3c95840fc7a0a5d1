/- More of what the laws of a disk do: bytes made, strings made bytes, methods of no disk. -/
import Derived.Test.YthienjmkagediaaN1
set_option linter.unusedVariables false
set_option linter.unusedSimpArgs false
namespace Go.Proofs.YthienjmkagediaaM
open Go.RowKit
theorem made_u8 (n : Nat) : madeCells #[.int .u8 0] n = (byteCells (zeros n)).toArray := by
  apply Array.ext
  · rw [size_madeCells, List.size_toArray, byteCells_length, zeros_length]
  · intro i h1 h2
    rw [made_get, List.getElem_toArray, byteCells_get, zeros_get]
    simp [Nat.mod_one]
theorem run_makeB (w : World) (n : Nat) (h : n ≤ 1000000) : (Instr.makeSlice 30 (.int .i64 (n : Int)) (.int .i64 (n : Int))).run Try.prog w = .ok (.slice (some ⟨w.heap.size, 0, none⟩) n n) (w.alloc (.cells (byteCells (zeros n)).toArray 5)) := by
  obtain ⟨i0, hi, hz, hs, hb⟩ := info_parts info5
  have := run_make (P := Try.prog) w 30 5 i0 (.int .u8 0) Try.underlying30 hi hz .i64 .i64 n n (by omega) (by omega) (by rw [hb]; omega) (by omega)
  rw [hs, Int.toNat_natCast, Nat.mul_one] at this
  rw [this]
  show Result.ok _ (w.alloc (.cells (madeCells #[.int .u8 0] n) 5)) = _
  rw [made_u8]
theorem bytesRow_bs (l : List UInt8) (cap j : Nat) (u : Value) (h : (byteCells l)[j]? = some u) : (bytesRow (bs l) cap)[j]? = some u := by
  have hj : j < l.length := by rw [← byteCells_length]; exact (List.getElem?_eq_some_iff.1 h).1
  unfold bytesRow bs
  rw [Array.getElem?_append_left (by simpa using hj)]
  simpa [byteCells] using h
/-- []byte(s). -/
theorem wpList_bytes {ops : Array Oper} {rest : List Oper} {o : Oper} {a : Act} {w : World} {Q : Exit → Act → World → Prop} (hgd : o.guard = none) (x : Operand) (ho : o.op = .convert 9 30 x) (l : List UInt8) (hl : l.length ≤ 1000000) (hx : a.eval x = .string (bs l))
    (h : ∀ cap w', l.length ≤ cap → cap ≤ maxLen → (∀ j u, (byteCells l)[j]? = some u → w'.cell? ⟨w.heap.size, j, none⟩ = some u) → (∀ j, j < l.length → w'.frozen? ⟨w.heap.size, j, none⟩ = false) → Below w.heap.size w w' → w'.heap.size = w.heap.size + 1 → wpList Try.prog ops Q rest (a.put o.dst (.slice (some ⟨w.heap.size, 0, none⟩) l.length cap)) w') : wpList Try.prog ops Q (o :: rest) a w := by
  have hr := run_bytes_of_string (P := Try.prog) w 9 30 5 (bs l) Try.underlying9 Try.underlying30 Try.underlying5
  rw [bs_size] at hr
  have hge := grownCap_ge w l.length 0 5
  have hle := grownCap_le_maxLen w l.length 0 5 (by unfold maxLen; omega)
  generalize grownCap w l.length 0 5 = cap at hr hge hle
  have hbr : ∀ (fr : Nat × Nat) j, (w.drew.alloc (.cells (bytesRow (bs l) cap) 5 fr)).cell? ⟨w.heap.size, j, none⟩ = (bytesRow (bs l) cap)[j]? := fun fr j => World.cell?_alloc_mark w.drew _ 5 fr j
  have hsz : l.length ≤ (bytesRow (bs l) cap).size := by
    unfold bytesRow
    simp only [Array.size_append, Array.size_map]
    have : (bs l).data.size = l.length := by simp [bs]
    omega
  refine wpList_run (.slice (some ⟨w.heap.size, 0, none⟩) l.length cap) (w.drew.alloc (.cells (bytesRow (bs l) cap) 5 ((bytesRow (bs l) cap).size, (bytesRow (bs l) cap).size + 1))) hgd ?_ (h cap _ hge hle (fun j u hj => (hbr _ j).trans (bytesRow_bs l cap j u hj)) (fun j hj => ?_) ((Below.refl _ w).drew.alloc (Nat.le_refl _) _) (by simp))
  · unfold execOp
    simp only [ho, hx, Sem.run_bind, hr, Result.andThen_ok, Sem.run_pure]
  · have : (w.drew.alloc (.cells (bytesRow (bs l) cap) 5 ((bytesRow (bs l) cap).size, (bytesRow (bs l) cap).size + 1))).heap[w.heap.size]? = some (.cells (bytesRow (bs l) cap) 5 ((bytesRow (bs l) cap).size, (bytesRow (bs l) cap).size + 1)) := by
      show (w.heap.push _)[w.heap.size]? = _
      simp
    simp only [World.frozen?, this]
    simp
    omega
theorem sync_nil (w : World) : Calls Try.prog 13 #[.pointer none] w fun e w' => e = .returned (.int .i64 1) ∧ w = w' := by
  go_enter Try.func13, Try.ntmps13
  go_wp2_with (go_at_call 33; refine (is_nil _).mono ?_; rintro e w' ⟨rfl, rfl⟩)
  go_ret
  exact ⟨rfl, rfl⟩
theorem sectors_nil (w : World) : Calls Try.prog 24 #[.pointer none] w fun e w' => e = .returned (.int .i64 0) ∧ w = w' := by
  go_enter Try.func24, Try.ntmps24
  go_wp2_with (go_at_call 33; refine (is_nil _).mono ?_; rintro e w' ⟨rfl, rfl⟩)
  go_ret
  exact ⟨rfl, rfl⟩
theorem image_nil (w : World) : Calls Try.prog 19 #[.pointer none] w fun e w' => e = .returned (.slice none 0 0) ∧ w = w' := by
  go_enter Try.func19, Try.ntmps19
  go_wp2_with (go_at_call 24; refine (sectors_nil _).mono ?_; rintro e w' ⟨rfl, rfl⟩)
  go_loop [3, 9] (fun o i => o = .slice none 0 0 ∧ i = .int .i64 0) (fun _ _ => 0)
  case atStart => exact ⟨rfl, rfl⟩
  case round =>
    obtain ⟨rfl, rfl⟩ := hrel
    go_wp2
    go_ret
    exact ⟨rfl, rfl⟩
theorem new_0 (w : World) : Calls Try.prog 10 #[.int .i64 0] w fun e w' => e = .returned (.tuple #[.pointer none, .int .i64 2]) ∧ w = w' := new_no 0 (by decide) w
theorem new_1025 (w : World) : Calls Try.prog 10 #[.int .i64 1025] w fun e w' => e = .returned (.tuple #[.pointer none, .int .i64 2]) ∧ w = w' := new_no 1025 (by decide) w
theorem times_512 (w : World) : Calls Try.prog 21 #[.string ⟨#[120]⟩, .int .i64 512] w fun e w' => e = .returned (.string (bs (rep 120 512))) ∧ Below w.heap.size w w' := times_x 512 (by decide) w
theorem times_1024 (w : World) : Calls Try.prog 21 #[.string ⟨#[120]⟩, .int .i64 1024] w fun e w' => e = .returned (.string (bs (rep 120 1024))) ∧ Below w.heap.size w w' := times_x 1024 (by decide) w
end Go.Proofs.YthienjmkagediaaM
