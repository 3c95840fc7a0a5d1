/- The contract of a disk's Read. -/
import Derived.Test.YthienjmkagediaaM4
set_option linter.unusedVariables false
set_option linter.unusedSimpArgs false
namespace Go.Proofs.YthienjmkagediaaM
open Go.RowKit
attribute [local go_sem ↓] exec_load71 exec_load69 exec_store71 exec_store69 exec_alloc71 exec_alloc69 exec_build71 exec_one71
attribute [local go_sem] via_alloc71 via_alloc69 via_build71 via_one71
theorem pend_form {w : World} {B : Nat} {v : Value} {P : List (Nat × List UInt8)} (h : w.ownsRow B 71 513 v P.length (encP P)) : ∃ sa cap, v = .slice sa P.length cap ∧ (0 < P.length → ∃ q, sa = some ⟨q, 0, none⟩) := by
  rcases h.2 with ⟨rfl, h0⟩ | ⟨q, cap, cur, rfl, _⟩
  · exact ⟨none, 0, by rw [h0], fun h => by omega⟩
  · exact ⟨_, cap, rfl, fun _ => ⟨q, rfl⟩⟩
theorem Elses.of_below' {w w' : World} {S : Nat → Prop} (h : Below w.heap.size w w') : Elses S w w' := .of_below h fun _ h _ => h
set_option maxRecDepth 100000 in
set_option maxHeartbeats 3200000 in
theorem read_ok (B p g n : Nat) (v : Value) (D : List UInt8) (P : List (Nat × List UInt8)) (w : World) (h : DiskAt w B p g n v D P) (i : Nat) (hi : i < n) :
    Calls Try.prog 23 #[.pointer (some ⟨p, 0, none⟩), .int .i64 (i : Int)] w fun e w' => e = .returned (.tuple #[.slice (some ⟨w.heap.size, 0, none⟩) 512 512, .int .i64 0]) ∧ Blk w' w.heap.size (byteCells (readP D P i)) 69 ∧ Below w.heap.size w w' := by
  have H := Lib.hid h
  have lp := h.blk.lt
  have hc0 := h.c0
  have hc1 := h.c1
  have hi0 : (0 : Int) ≤ (i : Int) := by omega
  have hi1 : (i : Int) < (n : Int) := by omega
  have hld := via_load69 w g (i * 512) _ (range_sec h.dur h.len i hi) (by rw [byteCells_length]; exact sec_length h.len hi)
  have hst := via_store69_new w (byteCells (sec D i)) (by rw [byteCells_length]; exact sec_length h.len hi) (byteCells_one _)
  have lp1 : p < w.heap.size + 1 := by omega
  obtain ⟨sa, cap, rfl, hsa⟩ := pend_form h.pend
  have HS := Lib.hid hsa
  have hlen := h.few
  clear h hsa
  go_enter Try.func23, Try.ntmps23
  go_wp2_with (first | (go_at_call 33; refine (is_yes p g n _ _ H.out.blk H.out.pos).mono ?_; rintro e w' ⟨rfl, rfl⟩) | (go_at_call 34; refine (has_yes p g n _ _ H.out.blk i hi).mono ?_; rintro e w' ⟨rfl, rfl⟩))
  go_loopw [30] (fun iv wr => ∃ k : Nat, k ≤ P.length ∧ iv = .int .i64 (k : Int) ∧ Hid (Blk wr w.heap.size (byteCells (readP D (P.take k) i)) 69) ∧ Hid (Below w.heap.size w wr)) (fun iv _ => P.length - (intOf iv).toNat)
  case atStart => exact ⟨0, Nat.zero_le _, rfl, Blk.new w _ 69, (Below.refl _ _).alloc (Nat.le_refl _) _⟩
  case round =>
    obtain ⟨k, hk, rfl, HB, HW⟩ := hrel
    by_cases hlt : k < P.length
    · obtain ⟨q, rfl⟩ := HS.out (by omega)
      have hP := H.out.ok _ (List.getElem_mem hlt)
      obtain ⟨cw, hcw⟩ : ∃ cw, cw = cellW (P[k]).1 (P[k]).2 := ⟨_, rfl⟩
      have hl : cw.length = 513 := by rw [hcw, cellW_length, hP.2]
      have hE : Elses (fun k => w.heap.size ≤ k) w wr := .of_below' HW.out
      have hr := range_pend (ownsRow_kept H.out.pend hE fun j hj => by have := (H.out.pend.lt j hj).2; omega) (fun x hx => (H.out.ok x hx).2) k hlt
      rw [← hcw] at hr
      have f1 := via_load71 wr q (k * 513) cw hr hl
      have f2 := via_store71_new wr cw hl (by rw [hcw]; exact cellW_one _ _)
      have f3 : (wr.alloc (.cells cw.toArray 71)).cell? ⟨wr.heap.size, 0, none⟩ = some (.int .i64 ((P[k]).1 : Int)) := by
        rw [(Blk.new wr cw 71).cell, hcw]
        rfl
      have f4 := via_load69 (wr.alloc (.cells cw.toArray 71)) wr.heap.size 1 (byteCells (P[k]).2) (fun j u hu => by
        rw [(Blk.new wr cw 71).cell, hcw, Nat.add_comm 1]
        exact hu) (by rw [byteCells_length]; exact hP.2)
      have hbs := HB.out.alloc (.cells cw.toArray 71)
      have hrl : (readP D (P.take k) i).length = 512 := readP_length H.out.len hi _ fun x hx => H.out.ok x (List.mem_of_mem_take hx)
      have f5 := via_store 69 69 (wr.alloc (.cells cw.toArray 71)) w.heap.size 0 _ (byteCells (P[k]).2) hbs (by rw [byteCells_length, byteCells_length, hP.2, hrl]; omega) (by rw [byteCells_length, hP.2]; exact size69) (byteCells_one _)
      rw [splice_all _ _ (by rw [byteCells_length, byteCells_length, hP.2, hrl])] at f5
      have hrs := readP_snoc D P i k hlt
      have HX := Lib.hid (And.intro hrs (And.intro hbs hP))
      obtain ⟨x1, hx1⟩ : ∃ x1, x1 = (P[k]).1 := ⟨_, rfl⟩
      obtain ⟨x2, hx2⟩ : ∃ x2, x2 = (P[k]).2 := ⟨_, rfl⟩
      rw [← hx1, ← hx2] at HX
      rw [← hx1] at f3
      rw [← hx2] at f4 f5
      have hsz := HW.out.size
      clear hrs hbs hP hcw hr hE hx1 hx2 hrl
      have hk' : (k : Int) < (P.length : Int) := by omega
      by_cases he : x1 = i
      · have he' : ((x1 : Int) == (i : Int)) = true := by rw [beq_iff_eq]; omega
        go_wp2
        go_roundw
        case rel => exact ⟨k + 1, by omega, by go_num, show Blk _ _ _ _ by rw [HX.out.1, if_pos he]; exact HX.out.2.1.setRow _, show Below _ _ _ from below_setRow (HW.out.alloc hsz _) (Nat.le_refl _) _⟩
        case measure => simp [intOf]; omega
      · have he' : ((x1 : Int) == (i : Int)) = false := by rw [beq_eq_false_iff_ne]; omega
        go_wp2
        go_roundw
        case rel => exact ⟨k + 1, by omega, by go_num, show Blk _ _ _ _ by rw [HX.out.1, if_neg he]; exact HX.out.2.1, show Below _ _ _ from HW.out.alloc hsz _⟩
        case measure => simp [intOf]; omega
    · have hk' : ¬ (k : Int) < (P.length : Int) := by omega
      obtain rfl : k = P.length := by omega
      go_wp2
      go_ret2
      refine ⟨rfl, ?_, HW.out⟩
      have := HB.out
      rw [List.take_length] at this
      exact this
end Go.Proofs.YthienjmkagediaaM
