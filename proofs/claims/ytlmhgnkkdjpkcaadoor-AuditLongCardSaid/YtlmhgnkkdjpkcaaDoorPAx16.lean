-- Written by a program of this session (gprint.py, a turned print with given contracts).
import Derived.Test.YtlmhgnkkdjpkcaaDoorWm
import Derived.Test.YtlmhgnkkdjpkcaaDoorPAx0m
namespace Go.Proofs.YtlmhgnkkdjpkcaaDoor.PA
open Go.RowKit Go.Proofs.YtlmhgnkkdjpkcaaDoorW.PrintWords Go.Proofs.YtlmhgnkkdjpkcaaDoorW.PrintLast Go.Proofs.YtlmhgnkkdjpkcaaDoorW.PrintMore
abbrev ba16_ : ByteArray := (⟨#[]⟩ : ByteArray)
attribute [local go_sem] max2_int min2_int max_two min_two max_three min_three max_four min_four   -- for this text's walks alone
set_option linter.unusedVariables false
set_option linter.unusedSimpArgs false

/-! ### outlawref23_Own: function 20 -/
def outlawref23_Own.l0 : Nat → List (S30) → ByteArray → ByteArray → Bool → Int → Option (Bool)
 | 0, _, _, _, _, _ => none
 | k + 1, x0, x1, x2, x7, x8 => if x8 < (x0.length : Int) then (if 0 ≤ x8 then (if ((rd_T30 x0 x8).f0) = 5 then (if ((rd_T30 x0 x8).f2.f0) = 1 then (if ((rd_T30 x0 x8).f2.f1).toList = x1.toList then (if ((rd_T30 x0 x8).f2.f2).toList = x2.toList then (outlawref23_Own.l0 k x0 x1 x2 (((rd_T30 x0 x8).f2.f0) == 1) (wrap64 (x8 + 1))) else (outlawref23_Own.l0 k x0 x1 x2 x7 (wrap64 (x8 + 1)))) else (outlawref23_Own.l0 k x0 x1 x2 x7 (wrap64 (x8 + 1)))) else (if ((rd_T30 x0 x8).f2.f0) = 2 then (if ((rd_T30 x0 x8).f2.f1).toList = x1.toList then (if ((rd_T30 x0 x8).f2.f2).toList = x2.toList then (outlawref23_Own.l0 k x0 x1 x2 (((rd_T30 x0 x8).f2.f0) == 1) (wrap64 (x8 + 1))) else (outlawref23_Own.l0 k x0 x1 x2 x7 (wrap64 (x8 + 1)))) else (outlawref23_Own.l0 k x0 x1 x2 x7 (wrap64 (x8 + 1)))) else (outlawref23_Own.l0 k x0 x1 x2 x7 (wrap64 (x8 + 1))))) else (outlawref23_Own.l0 k x0 x1 x2 x7 (wrap64 (x8 + 1)))) else (none)) else (some x7)
def outlawref23_Own.f (k : Nat) (l0 : List (S30)) (a1 : ByteArray) (a2 : ByteArray) : Option (Bool) := outlawref23_Own.l0 k l0 a1 a2 false 0
theorem outlawref23_Own.mono_l : ∀ k, (∀ y0 y1 y2 y3 y4, LeO (outlawref23_Own.l0 k y0 y1 y2 y3 y4) (outlawref23_Own.l0 (k + 1) y0 y1 y2 y3 y4))
 | 0 => fun _ _ _ _ _ r h => by simp [outlawref23_Own.l0] at h
 | k + 1 => by
  have ih0 := outlawref23_Own.mono_l k
  ·intro y0 y1 y2 y3 y4
   unfold outlawref23_Own.l0
   repeat' first
   | (with_reducible exact ih0 _ _ _ _ _)
   | (with_reducible exact LeO.refl _)
   | (with_reducible exact LeO.none _)
   | (with_reducible refine LeO.ite ?_ ?_)
   | (with_reducible refine LeO.bind ?_ (fun _ => ?_))
   | refine LeO.ite ?_ ?_
   | refine LeO.bind ?_ (fun _ => ?_)
theorem outlawref23_Own.mono : ∀ a0 a1 a2 k, LeO (outlawref23_Own.f k a0 a1 a2) (outlawref23_Own.f (k + 1) a0 a1 a2) := by
 intro a0 a1 a2 k
 have ih0 := outlawref23_Own.mono_l k
 unfold outlawref23_Own.f
 repeat' first
   | (with_reducible exact ih0 _ _ _ _ _)
   | (with_reducible exact LeO.refl _)
   | (with_reducible exact LeO.none _)
   | (with_reducible refine LeO.ite ?_ ?_)
   | (with_reducible refine LeO.bind ?_ (fun _ => ?_))
   | refine LeO.ite ?_ ?_
   | refine LeO.bind ?_ (fun _ => ?_)
set_option maxHeartbeats 8000000 in
set_option maxRecDepth 100000 in
theorem outlawref23_Own.calls (k : Nat) (A0 : Option Addr) (c0 : Nat) (l0 : List (S30)) (a1 : ByteArray) (a2 : ByteArray) (r : Bool) (w : World) (hr0 : Kd.C k30 w A0 l0.length l0) (hc0 : l0.length ≤ c0) (h : outlawref23_Own.f k l0 a1 a2 = some r) :
  Calls Tryd.prog 20 #[.slice A0 l0.length c0, .string a1, .string a2] w fun e w' => e = .returned (.bool r) ∧ Below w.heap.size w w' := by
 have hu28 := Tryd.underlying28
 have HR0 := Aside0.mk hr0
 have HC0 := Aside0.mk hc0
 clear hr0 hc0
 have HB := Aside0.mk (Below.refl w.heap.size w)
 have H : (outlawref23_Own.l0 k l0 a1 a2 false 0) = some r := h
 clear h
 have H' := Aside0.mk H
 clear H
 go_enter Tryd.func20, Tryd.ntmps20
 go_wp2
 go_loopg [7, 8] k (fun kq v7 v8 w' => ∃ (x7_1 : Bool) (x8_1 : Int), v7 = .bool x7_1 ∧ v8 = .int .i64 x8_1 ∧ Aside0 (outlawref23_Own.l0 kq l0 a1 a2 x7_1 x8_1 = some r) ∧ Aside0 (kq ≤ k) ∧ Aside0 (Below w.heap.size w w'))
 case atStart => exact ⟨(false), (0), (by first | rfl | (simp; done) | (simp [*]; done)), (by first | rfl | (simp; done) | (simp [*]; done)), H', ⟨Nat.le_refl _⟩, ⟨by repeat (first | (with_reducible first | exact HB.out | apply a1_ | apply a2_ | apply a3_) | exact HB.out)⟩⟩
 case round =>
  clear H'
  try clear c2
  try clear p2
  obtain ⟨x7_1, x8_1, rfl, rfl, HA, HK1, HB⟩ := hrel
  cases gk with
  | zero => exact absurd HA.out (by simp [outlawref23_Own.l0])
  | succ k1 =>
   have H := HA.out
   clear HA
   simp only [outlawref23_Own.l0] at H
   by_cases c4 : x8_1 < (l0.length : Int)
   ·rw [if_pos c4] at H
    have c4b0 : decide (x8_1 < (l0.length : Int)) = true := decide_eq_true c4
    clear c4
    by_cases c5 : 0 ≤ x8_1
    ·rw [if_pos c5] at H
     have c5b0 : decide (0 ≤ x8_1) = true := decide_eq_true c5
     clear c5
     by_cases c6 : ((rd_T30 l0 x8_1).f0) = 5
     ·rw [if_pos c6] at H
      have c6b0 : (((rd_T30 l0 x8_1).f0) == 5) = true := beq_iff_eq.mpr c6
      have c6b1 : (((rd_T30 l0 x8_1).f0) != 5) = false := bne_eq_false_iff_eq.mpr c6
      clear c6
      by_cases c7 : ((rd_T30 l0 x8_1).f2.f0) = 1
      ·rw [if_pos c7] at H
       have c7b0 : (((rd_T30 l0 x8_1).f2.f0) == 1) = true := beq_iff_eq.mpr c7
       have c7b1 : (((rd_T30 l0 x8_1).f2.f0) != 1) = false := bne_eq_false_iff_eq.mpr c7
       clear c7
       by_cases c8 : ((rd_T30 l0 x8_1).f2.f1).toList = a1.toList
       ·rw [if_pos c8] at H
        have c8b0 : (((rd_T30 l0 x8_1).f2.f1).toList == a1.toList) = true := beq_iff_eq.mpr c8
        have c8b1 : (((rd_T30 l0 x8_1).f2.f1).toList != a1.toList) = false := bne_eq_false_iff_eq.mpr c8
        clear c8
        by_cases c9 : ((rd_T30 l0 x8_1).f2.f2).toList = a2.toList
        ·rw [if_pos c9] at H
         have c9b0 : (((rd_T30 l0 x8_1).f2.f2).toList == a2.toList) = true := beq_iff_eq.mpr c9
         have c9b1 : (((rd_T30 l0 x8_1).f2.f2).toList != a2.toList) = false := bne_eq_false_iff_eq.mpr c9
         clear c9
         have H' := Aside0.mk H
         clear H
         have p236 : 0 ≤ (x8_1 : Int) := of_decide_eq_true (by first | (with_reducible assumption) | assumption)
         have q236 : x8_1 < (l0.length : Int) := of_decide_eq_true (by first | (with_reducible assumption) | assumption)
         obtain ⟨ad236, e236, hx236_0, hx236_1, hx236_2, hx236_3, hx236_4, hx236_5, hx236_6, hx236_7, hx236_8⟩ := at_T30 HR0.out x8_1 p236 q236
         cases e236
         replace hx236_0 := up_ HB.out hx236_0
         replace hx236_1 := up_ HB.out hx236_1
         replace hx236_2 := up_ HB.out hx236_2
         replace hx236_3 := up_ HB.out hx236_3
         replace hx236_4 := up_ HB.out hx236_4
         replace hx236_5 := up_ HB.out hx236_5
         replace hx236_6 := up_ HB.out hx236_6
         replace hx236_7 := up_ HB.out hx236_7
         replace hx236_8 := up_ HB.out hx236_8
         replace p236 := eq_true p236
         replace q236 := eq_true q236
         go_wp2_with (first | ((with_reducible refine gate_dst (N := 9) rfl ?_); refine box_event ?hg (N := 9) ?hd (cs := #[.int .i64 0, .string ba16_, .string ba16_, .string ba16_, .string ba16_]) (t := 28) ?hr ?_; (case hd => rfl); (case hg => rfl); (case hr => first | (go_simp; done) | (go_simp; rfl)); intro gb237 hg w10 hbox hb; have n0_ := Aside0.mk (below_step (by repeat (first | (with_reducible first | exact HB.out | apply a1_ | apply a2_ | apply a3_) | exact HB.out)) hb); have n1_ := Aside0.mk (hbox); have n2_ := Aside0.mk ((by rw [hg]; exact (below_size (by repeat (first | (with_reducible first | exact HB.out | apply a1_ | apply a2_ | apply a3_) | exact HB.out))) : w.heap.size ≤ gb237)); have n3_ := Aside0.mk ((by rw [hg]; exact (below_size (by repeat (first | (with_reducible first | exact HB.out | apply a1_ | apply a2_ | apply a3_) | exact HB.out))) : w.heap.size ≤ gb237)); clear HB; have HB := n0_; have BK237 := n1_; have GW237 := n2_; have GE237 := n3_; clear n0_ n1_ n2_ n3_; clear hb hbox hg; have hcz11_0 : w10.cell? ⟨gb237, 0, none⟩ = some (.int .i64 0) := (blk_cell BK237.out 0).trans rfl; have hcz11_1 : w10.cell? ⟨gb237, 1, none⟩ = some (.string ba16_) := (blk_cell BK237.out 1).trans rfl; have hcz11_2 : w10.cell? ⟨gb237, 2, none⟩ = some (.string ba16_) := (blk_cell BK237.out 2).trans rfl; have hcz11_3 : w10.cell? ⟨gb237, 3, none⟩ = some (.string ba16_) := (blk_cell BK237.out 3).trans rfl; have hcz11_4 : w10.cell? ⟨gb237, 4, none⟩ = some (.string ba16_) := (blk_cell BK237.out 4).trans rfl; have hfz11_0 := blk_frozen BK237.out 0; have hfz11_1 := blk_frozen BK237.out 1; have hfz11_2 := blk_frozen BK237.out 2; have hfz11_3 := blk_frozen BK237.out 3; have hfz11_4 := blk_frozen BK237.out 4; have p238 : 0 ≤ (x8_1 : Int) := of_decide_eq_true (by first | (with_reducible assumption) | assumption); have q238 : x8_1 < (l0.length : Int) := of_decide_eq_true (by first | (with_reducible assumption) | assumption); obtain ⟨ad238, e238, hx238_0, hx238_1, hx238_2, hx238_3, hx238_4, hx238_5, hx238_6, hx238_7, hx238_8⟩ := at_T30 HR0.out x8_1 p238 q238; obtain rfl : ad236 = ad238 := (by injection e238); have hn238_0 : ad236.block ≠ gb237 := Nat.ne_of_lt (Nat.lt_of_lt_of_le (by have := World.block_lt_of_cell? _ _ hx238_0; first | rwa [add_block] at this | exact this) GW237.out); have hn238_1 : ad236.block ≠ gb237 := Nat.ne_of_lt (Nat.lt_of_lt_of_le (by have := World.block_lt_of_cell? _ _ hx238_0; first | rwa [add_block] at this | exact this) GW237.out); have hn238_2 : ad236.block ≠ gb237 := Nat.ne_of_lt (Nat.lt_of_lt_of_le (by have := World.block_lt_of_cell? _ _ hx238_0; first | rwa [add_block] at this | exact this) GW237.out); have hn238_3 : ad236.block ≠ gb237 := Nat.ne_of_lt (Nat.lt_of_lt_of_le (by have := World.block_lt_of_cell? _ _ hx238_0; first | rwa [add_block] at this | exact this) GW237.out); have hn238_4 : ad236.block ≠ gb237 := Nat.ne_of_lt (Nat.lt_of_lt_of_le (by have := World.block_lt_of_cell? _ _ hx238_0; first | rwa [add_block] at this | exact this) GW237.out); replace hx238_0 := up_ HB.out hx238_0; replace hx238_1 := up_ HB.out hx238_1; replace hx238_2 := up_ HB.out hx238_2; replace hx238_3 := up_ HB.out hx238_3; replace hx238_4 := up_ HB.out hx238_4; replace hx238_5 := up_ HB.out hx238_5; replace hx238_6 := up_ HB.out hx238_6; replace hx238_7 := up_ HB.out hx238_7; replace hx238_8 := up_ HB.out hx238_8; have f5_ := fun {q : Addr} {x : Value} (hn : q.block ≠ gb237) (h : w10.cell? q = some x) => far5_ (.int .i64 ((rd_T30 l0 x8_1).f2.f0)) (.string ((rd_T30 l0 x8_1).f2.f1)) (.string ((rd_T30 l0 x8_1).f2.f2)) (.string ((rd_T30 l0 x8_1).f2.f3)) (.string ((rd_T30 l0 x8_1).f2.f4)) hn h; replace hx238_0 := f5_ (by first | (rw [add_block]; exact hn238_0) | exact hn238_0) hx238_0; replace hx238_1 := f5_ (by first | (rw [add_block]; exact hn238_0) | exact hn238_0) hx238_1; replace hx238_2 := f5_ (by first | (rw [add_block]; exact hn238_0) | exact hn238_0) hx238_2; replace hx238_3 := f5_ (by first | (rw [add_block]; exact hn238_0) | exact hn238_0) hx238_3; replace hx238_4 := f5_ (by first | (rw [add_block]; exact hn238_0) | exact hn238_0) hx238_4; replace hx238_5 := f5_ (by first | (rw [add_block]; exact hn238_0) | exact hn238_0) hx238_5; replace hx238_6 := f5_ (by first | (rw [add_block]; exact hn238_0) | exact hn238_0) hx238_6; replace hx238_7 := f5_ (by first | (rw [add_block]; exact hn238_0) | exact hn238_0) hx238_7; replace hx238_8 := f5_ (by first | (rw [add_block]; exact hn238_0) | exact hn238_0) hx238_8; clear f5_; clear hn238_0; clear hn238_1; clear hn238_2; clear hn238_3; clear hn238_4; replace p238 := eq_true p238; replace q238 := eq_true q238))
         go_roundg k1
         case measure => have := HK1.out; omega
         case rel => exact ⟨((((rd_T30 l0 x8_1).f2.f0) == 1)), (wrap64 (x8_1 + 1)), (by first | rfl | (simp; done) | (simp [*]; done)), (by first | rfl | (simp; done) | (simp [*]; done)), H', ⟨by have := HK1.out; omega⟩, ⟨by repeat (first | (with_reducible first | exact HB.out | apply a1_ | apply a2_ | apply a3_ | refine below_set ?_ GE237.out) | exact HB.out)⟩⟩
        ·rw [if_neg c9] at H
         have c9b0 : (((rd_T30 l0 x8_1).f2.f2).toList == a2.toList) = false := beq_eq_false_iff_ne.mpr c9
         have c9b1 : (((rd_T30 l0 x8_1).f2.f2).toList != a2.toList) = true := bne_iff_ne.mpr c9
         have H' := Aside0.mk H
         clear H
         have p236 : 0 ≤ (x8_1 : Int) := of_decide_eq_true (by first | (with_reducible assumption) | assumption)
         have q236 : x8_1 < (l0.length : Int) := of_decide_eq_true (by first | (with_reducible assumption) | assumption)
         obtain ⟨ad236, e236, hx236_0, hx236_1, hx236_2, hx236_3, hx236_4, hx236_5, hx236_6, hx236_7, hx236_8⟩ := at_T30 HR0.out x8_1 p236 q236
         cases e236
         replace hx236_0 := up_ HB.out hx236_0
         replace hx236_1 := up_ HB.out hx236_1
         replace hx236_2 := up_ HB.out hx236_2
         replace hx236_3 := up_ HB.out hx236_3
         replace hx236_4 := up_ HB.out hx236_4
         replace hx236_5 := up_ HB.out hx236_5
         replace hx236_6 := up_ HB.out hx236_6
         replace hx236_7 := up_ HB.out hx236_7
         replace hx236_8 := up_ HB.out hx236_8
         replace p236 := eq_true p236
         replace q236 := eq_true q236
         go_wp2_with (first | ((with_reducible refine gate_dst (N := 9) rfl ?_); refine box_event ?hg (N := 9) ?hd (cs := #[.int .i64 0, .string ba16_, .string ba16_, .string ba16_, .string ba16_]) (t := 28) ?hr ?_; (case hd => rfl); (case hg => rfl); (case hr => first | (go_simp; done) | (go_simp; rfl)); intro gb237 hg w12 hbox hb; have n0_ := Aside0.mk (below_step (by repeat (first | (with_reducible first | exact HB.out | apply a1_ | apply a2_ | apply a3_) | exact HB.out)) hb); have n1_ := Aside0.mk (hbox); have n2_ := Aside0.mk ((by rw [hg]; exact (below_size (by repeat (first | (with_reducible first | exact HB.out | apply a1_ | apply a2_ | apply a3_) | exact HB.out))) : w.heap.size ≤ gb237)); have n3_ := Aside0.mk ((by rw [hg]; exact (below_size (by repeat (first | (with_reducible first | exact HB.out | apply a1_ | apply a2_ | apply a3_) | exact HB.out))) : w.heap.size ≤ gb237)); clear HB; have HB := n0_; have BK237 := n1_; have GW237 := n2_; have GE237 := n3_; clear n0_ n1_ n2_ n3_; clear hb hbox hg; have hcz13_0 : w12.cell? ⟨gb237, 0, none⟩ = some (.int .i64 0) := (blk_cell BK237.out 0).trans rfl; have hcz13_1 : w12.cell? ⟨gb237, 1, none⟩ = some (.string ba16_) := (blk_cell BK237.out 1).trans rfl; have hcz13_2 : w12.cell? ⟨gb237, 2, none⟩ = some (.string ba16_) := (blk_cell BK237.out 2).trans rfl; have hcz13_3 : w12.cell? ⟨gb237, 3, none⟩ = some (.string ba16_) := (blk_cell BK237.out 3).trans rfl; have hcz13_4 : w12.cell? ⟨gb237, 4, none⟩ = some (.string ba16_) := (blk_cell BK237.out 4).trans rfl; have hfz13_0 := blk_frozen BK237.out 0; have hfz13_1 := blk_frozen BK237.out 1; have hfz13_2 := blk_frozen BK237.out 2; have hfz13_3 := blk_frozen BK237.out 3; have hfz13_4 := blk_frozen BK237.out 4; have p238 : 0 ≤ (x8_1 : Int) := of_decide_eq_true (by first | (with_reducible assumption) | assumption); have q238 : x8_1 < (l0.length : Int) := of_decide_eq_true (by first | (with_reducible assumption) | assumption); obtain ⟨ad238, e238, hx238_0, hx238_1, hx238_2, hx238_3, hx238_4, hx238_5, hx238_6, hx238_7, hx238_8⟩ := at_T30 HR0.out x8_1 p238 q238; obtain rfl : ad236 = ad238 := (by injection e238); have hn238_0 : ad236.block ≠ gb237 := Nat.ne_of_lt (Nat.lt_of_lt_of_le (by have := World.block_lt_of_cell? _ _ hx238_0; first | rwa [add_block] at this | exact this) GW237.out); have hn238_1 : ad236.block ≠ gb237 := Nat.ne_of_lt (Nat.lt_of_lt_of_le (by have := World.block_lt_of_cell? _ _ hx238_0; first | rwa [add_block] at this | exact this) GW237.out); have hn238_2 : ad236.block ≠ gb237 := Nat.ne_of_lt (Nat.lt_of_lt_of_le (by have := World.block_lt_of_cell? _ _ hx238_0; first | rwa [add_block] at this | exact this) GW237.out); have hn238_3 : ad236.block ≠ gb237 := Nat.ne_of_lt (Nat.lt_of_lt_of_le (by have := World.block_lt_of_cell? _ _ hx238_0; first | rwa [add_block] at this | exact this) GW237.out); have hn238_4 : ad236.block ≠ gb237 := Nat.ne_of_lt (Nat.lt_of_lt_of_le (by have := World.block_lt_of_cell? _ _ hx238_0; first | rwa [add_block] at this | exact this) GW237.out); replace hx238_0 := up_ HB.out hx238_0; replace hx238_1 := up_ HB.out hx238_1; replace hx238_2 := up_ HB.out hx238_2; replace hx238_3 := up_ HB.out hx238_3; replace hx238_4 := up_ HB.out hx238_4; replace hx238_5 := up_ HB.out hx238_5; replace hx238_6 := up_ HB.out hx238_6; replace hx238_7 := up_ HB.out hx238_7; replace hx238_8 := up_ HB.out hx238_8; have f5_ := fun {q : Addr} {x : Value} (hn : q.block ≠ gb237) (h : w12.cell? q = some x) => far5_ (.int .i64 ((rd_T30 l0 x8_1).f2.f0)) (.string ((rd_T30 l0 x8_1).f2.f1)) (.string ((rd_T30 l0 x8_1).f2.f2)) (.string ((rd_T30 l0 x8_1).f2.f3)) (.string ((rd_T30 l0 x8_1).f2.f4)) hn h; replace hx238_0 := f5_ (by first | (rw [add_block]; exact hn238_0) | exact hn238_0) hx238_0; replace hx238_1 := f5_ (by first | (rw [add_block]; exact hn238_0) | exact hn238_0) hx238_1; replace hx238_2 := f5_ (by first | (rw [add_block]; exact hn238_0) | exact hn238_0) hx238_2; replace hx238_3 := f5_ (by first | (rw [add_block]; exact hn238_0) | exact hn238_0) hx238_3; replace hx238_4 := f5_ (by first | (rw [add_block]; exact hn238_0) | exact hn238_0) hx238_4; replace hx238_5 := f5_ (by first | (rw [add_block]; exact hn238_0) | exact hn238_0) hx238_5; replace hx238_6 := f5_ (by first | (rw [add_block]; exact hn238_0) | exact hn238_0) hx238_6; replace hx238_7 := f5_ (by first | (rw [add_block]; exact hn238_0) | exact hn238_0) hx238_7; replace hx238_8 := f5_ (by first | (rw [add_block]; exact hn238_0) | exact hn238_0) hx238_8; clear f5_; clear hn238_0; clear hn238_1; clear hn238_2; clear hn238_3; clear hn238_4; replace p238 := eq_true p238; replace q238 := eq_true q238))
         go_roundg k1
         case measure => have := HK1.out; omega
         case rel => exact ⟨(x7_1), (wrap64 (x8_1 + 1)), (by first | rfl | (simp; done) | (simp [*]; done)), (by first | rfl | (simp; done) | (simp [*]; done)), H', ⟨by have := HK1.out; omega⟩, ⟨by repeat (first | (with_reducible first | exact HB.out | apply a1_ | apply a2_ | apply a3_ | refine below_set ?_ GE237.out) | exact HB.out)⟩⟩
       ·rw [if_neg c8] at H
        have c8b0 : (((rd_T30 l0 x8_1).f2.f1).toList == a1.toList) = false := beq_eq_false_iff_ne.mpr c8
        have c8b1 : (((rd_T30 l0 x8_1).f2.f1).toList != a1.toList) = true := bne_iff_ne.mpr c8
        have H' := Aside0.mk H
        clear H
        have p236 : 0 ≤ (x8_1 : Int) := of_decide_eq_true (by first | (with_reducible assumption) | assumption)
        have q236 : x8_1 < (l0.length : Int) := of_decide_eq_true (by first | (with_reducible assumption) | assumption)
        obtain ⟨ad236, e236, hx236_0, hx236_1, hx236_2, hx236_3, hx236_4, hx236_5, hx236_6, hx236_7, hx236_8⟩ := at_T30 HR0.out x8_1 p236 q236
        cases e236
        replace hx236_0 := up_ HB.out hx236_0
        replace hx236_1 := up_ HB.out hx236_1
        replace hx236_2 := up_ HB.out hx236_2
        replace hx236_3 := up_ HB.out hx236_3
        replace hx236_4 := up_ HB.out hx236_4
        replace hx236_5 := up_ HB.out hx236_5
        replace hx236_6 := up_ HB.out hx236_6
        replace hx236_7 := up_ HB.out hx236_7
        replace hx236_8 := up_ HB.out hx236_8
        replace p236 := eq_true p236
        replace q236 := eq_true q236
        go_wp2_with (first | ((with_reducible refine gate_dst (N := 9) rfl ?_); refine box_event ?hg (N := 9) ?hd (cs := #[.int .i64 0, .string ba16_, .string ba16_, .string ba16_, .string ba16_]) (t := 28) ?hr ?_; (case hd => rfl); (case hg => rfl); (case hr => first | (go_simp; done) | (go_simp; rfl)); intro gb237 hg w14 hbox hb; have n0_ := Aside0.mk (below_step (by repeat (first | (with_reducible first | exact HB.out | apply a1_ | apply a2_ | apply a3_) | exact HB.out)) hb); have n1_ := Aside0.mk (hbox); have n2_ := Aside0.mk ((by rw [hg]; exact (below_size (by repeat (first | (with_reducible first | exact HB.out | apply a1_ | apply a2_ | apply a3_) | exact HB.out))) : w.heap.size ≤ gb237)); have n3_ := Aside0.mk ((by rw [hg]; exact (below_size (by repeat (first | (with_reducible first | exact HB.out | apply a1_ | apply a2_ | apply a3_) | exact HB.out))) : w.heap.size ≤ gb237)); clear HB; have HB := n0_; have BK237 := n1_; have GW237 := n2_; have GE237 := n3_; clear n0_ n1_ n2_ n3_; clear hb hbox hg; have hcz15_0 : w14.cell? ⟨gb237, 0, none⟩ = some (.int .i64 0) := (blk_cell BK237.out 0).trans rfl; have hcz15_1 : w14.cell? ⟨gb237, 1, none⟩ = some (.string ba16_) := (blk_cell BK237.out 1).trans rfl; have hcz15_2 : w14.cell? ⟨gb237, 2, none⟩ = some (.string ba16_) := (blk_cell BK237.out 2).trans rfl; have hcz15_3 : w14.cell? ⟨gb237, 3, none⟩ = some (.string ba16_) := (blk_cell BK237.out 3).trans rfl; have hcz15_4 : w14.cell? ⟨gb237, 4, none⟩ = some (.string ba16_) := (blk_cell BK237.out 4).trans rfl; have hfz15_0 := blk_frozen BK237.out 0; have hfz15_1 := blk_frozen BK237.out 1; have hfz15_2 := blk_frozen BK237.out 2; have hfz15_3 := blk_frozen BK237.out 3; have hfz15_4 := blk_frozen BK237.out 4; have p238 : 0 ≤ (x8_1 : Int) := of_decide_eq_true (by first | (with_reducible assumption) | assumption); have q238 : x8_1 < (l0.length : Int) := of_decide_eq_true (by first | (with_reducible assumption) | assumption); obtain ⟨ad238, e238, hx238_0, hx238_1, hx238_2, hx238_3, hx238_4, hx238_5, hx238_6, hx238_7, hx238_8⟩ := at_T30 HR0.out x8_1 p238 q238; obtain rfl : ad236 = ad238 := (by injection e238); have hn238_0 : ad236.block ≠ gb237 := Nat.ne_of_lt (Nat.lt_of_lt_of_le (by have := World.block_lt_of_cell? _ _ hx238_0; first | rwa [add_block] at this | exact this) GW237.out); have hn238_1 : ad236.block ≠ gb237 := Nat.ne_of_lt (Nat.lt_of_lt_of_le (by have := World.block_lt_of_cell? _ _ hx238_0; first | rwa [add_block] at this | exact this) GW237.out); have hn238_2 : ad236.block ≠ gb237 := Nat.ne_of_lt (Nat.lt_of_lt_of_le (by have := World.block_lt_of_cell? _ _ hx238_0; first | rwa [add_block] at this | exact this) GW237.out); have hn238_3 : ad236.block ≠ gb237 := Nat.ne_of_lt (Nat.lt_of_lt_of_le (by have := World.block_lt_of_cell? _ _ hx238_0; first | rwa [add_block] at this | exact this) GW237.out); have hn238_4 : ad236.block ≠ gb237 := Nat.ne_of_lt (Nat.lt_of_lt_of_le (by have := World.block_lt_of_cell? _ _ hx238_0; first | rwa [add_block] at this | exact this) GW237.out); replace hx238_0 := up_ HB.out hx238_0; replace hx238_1 := up_ HB.out hx238_1; replace hx238_2 := up_ HB.out hx238_2; replace hx238_3 := up_ HB.out hx238_3; replace hx238_4 := up_ HB.out hx238_4; replace hx238_5 := up_ HB.out hx238_5; replace hx238_6 := up_ HB.out hx238_6; replace hx238_7 := up_ HB.out hx238_7; replace hx238_8 := up_ HB.out hx238_8; have f5_ := fun {q : Addr} {x : Value} (hn : q.block ≠ gb237) (h : w14.cell? q = some x) => far5_ (.int .i64 ((rd_T30 l0 x8_1).f2.f0)) (.string ((rd_T30 l0 x8_1).f2.f1)) (.string ((rd_T30 l0 x8_1).f2.f2)) (.string ((rd_T30 l0 x8_1).f2.f3)) (.string ((rd_T30 l0 x8_1).f2.f4)) hn h; replace hx238_0 := f5_ (by first | (rw [add_block]; exact hn238_0) | exact hn238_0) hx238_0; replace hx238_1 := f5_ (by first | (rw [add_block]; exact hn238_0) | exact hn238_0) hx238_1; replace hx238_2 := f5_ (by first | (rw [add_block]; exact hn238_0) | exact hn238_0) hx238_2; replace hx238_3 := f5_ (by first | (rw [add_block]; exact hn238_0) | exact hn238_0) hx238_3; replace hx238_4 := f5_ (by first | (rw [add_block]; exact hn238_0) | exact hn238_0) hx238_4; replace hx238_5 := f5_ (by first | (rw [add_block]; exact hn238_0) | exact hn238_0) hx238_5; replace hx238_6 := f5_ (by first | (rw [add_block]; exact hn238_0) | exact hn238_0) hx238_6; replace hx238_7 := f5_ (by first | (rw [add_block]; exact hn238_0) | exact hn238_0) hx238_7; replace hx238_8 := f5_ (by first | (rw [add_block]; exact hn238_0) | exact hn238_0) hx238_8; clear f5_; clear hn238_0; clear hn238_1; clear hn238_2; clear hn238_3; clear hn238_4; replace p238 := eq_true p238; replace q238 := eq_true q238))
        go_roundg k1
        case measure => have := HK1.out; omega
        case rel => exact ⟨(x7_1), (wrap64 (x8_1 + 1)), (by first | rfl | (simp; done) | (simp [*]; done)), (by first | rfl | (simp; done) | (simp [*]; done)), H', ⟨by have := HK1.out; omega⟩, ⟨by repeat (first | (with_reducible first | exact HB.out | apply a1_ | apply a2_ | apply a3_ | refine below_set ?_ GE237.out) | exact HB.out)⟩⟩
      ·rw [if_neg c7] at H
       have c7b0 : (((rd_T30 l0 x8_1).f2.f0) == 1) = false := beq_eq_false_iff_ne.mpr c7
       have c7b1 : (((rd_T30 l0 x8_1).f2.f0) != 1) = true := bne_iff_ne.mpr c7
       by_cases c16 : ((rd_T30 l0 x8_1).f2.f0) = 2
       ·rw [if_pos c16] at H
        have c16b0 : (((rd_T30 l0 x8_1).f2.f0) == 2) = true := beq_iff_eq.mpr c16
        have c16b1 : (((rd_T30 l0 x8_1).f2.f0) != 2) = false := bne_eq_false_iff_eq.mpr c16
        clear c16
        by_cases c17 : ((rd_T30 l0 x8_1).f2.f1).toList = a1.toList
        ·rw [if_pos c17] at H
         have c17b0 : (((rd_T30 l0 x8_1).f2.f1).toList == a1.toList) = true := beq_iff_eq.mpr c17
         have c17b1 : (((rd_T30 l0 x8_1).f2.f1).toList != a1.toList) = false := bne_eq_false_iff_eq.mpr c17
         clear c17
         by_cases c18 : ((rd_T30 l0 x8_1).f2.f2).toList = a2.toList
         ·rw [if_pos c18] at H
          have c18b0 : (((rd_T30 l0 x8_1).f2.f2).toList == a2.toList) = true := beq_iff_eq.mpr c18
          have c18b1 : (((rd_T30 l0 x8_1).f2.f2).toList != a2.toList) = false := bne_eq_false_iff_eq.mpr c18
          clear c18
          have H' := Aside0.mk H
          clear H
          have p236 : 0 ≤ (x8_1 : Int) := of_decide_eq_true (by first | (with_reducible assumption) | assumption)
          have q236 : x8_1 < (l0.length : Int) := of_decide_eq_true (by first | (with_reducible assumption) | assumption)
          obtain ⟨ad236, e236, hx236_0, hx236_1, hx236_2, hx236_3, hx236_4, hx236_5, hx236_6, hx236_7, hx236_8⟩ := at_T30 HR0.out x8_1 p236 q236
          cases e236
          replace hx236_0 := up_ HB.out hx236_0
          replace hx236_1 := up_ HB.out hx236_1
          replace hx236_2 := up_ HB.out hx236_2
          replace hx236_3 := up_ HB.out hx236_3
          replace hx236_4 := up_ HB.out hx236_4
          replace hx236_5 := up_ HB.out hx236_5
          replace hx236_6 := up_ HB.out hx236_6
          replace hx236_7 := up_ HB.out hx236_7
          replace hx236_8 := up_ HB.out hx236_8
          replace p236 := eq_true p236
          replace q236 := eq_true q236
          go_wp2_with (first | ((with_reducible refine gate_dst (N := 9) rfl ?_); refine box_event ?hg (N := 9) ?hd (cs := #[.int .i64 0, .string ba16_, .string ba16_, .string ba16_, .string ba16_]) (t := 28) ?hr ?_; (case hd => rfl); (case hg => rfl); (case hr => first | (go_simp; done) | (go_simp; rfl)); intro gb237 hg w19 hbox hb; have n0_ := Aside0.mk (below_step (by repeat (first | (with_reducible first | exact HB.out | apply a1_ | apply a2_ | apply a3_) | exact HB.out)) hb); have n1_ := Aside0.mk (hbox); have n2_ := Aside0.mk ((by rw [hg]; exact (below_size (by repeat (first | (with_reducible first | exact HB.out | apply a1_ | apply a2_ | apply a3_) | exact HB.out))) : w.heap.size ≤ gb237)); have n3_ := Aside0.mk ((by rw [hg]; exact (below_size (by repeat (first | (with_reducible first | exact HB.out | apply a1_ | apply a2_ | apply a3_) | exact HB.out))) : w.heap.size ≤ gb237)); clear HB; have HB := n0_; have BK237 := n1_; have GW237 := n2_; have GE237 := n3_; clear n0_ n1_ n2_ n3_; clear hb hbox hg; have hcz20_0 : w19.cell? ⟨gb237, 0, none⟩ = some (.int .i64 0) := (blk_cell BK237.out 0).trans rfl; have hcz20_1 : w19.cell? ⟨gb237, 1, none⟩ = some (.string ba16_) := (blk_cell BK237.out 1).trans rfl; have hcz20_2 : w19.cell? ⟨gb237, 2, none⟩ = some (.string ba16_) := (blk_cell BK237.out 2).trans rfl; have hcz20_3 : w19.cell? ⟨gb237, 3, none⟩ = some (.string ba16_) := (blk_cell BK237.out 3).trans rfl; have hcz20_4 : w19.cell? ⟨gb237, 4, none⟩ = some (.string ba16_) := (blk_cell BK237.out 4).trans rfl; have hfz20_0 := blk_frozen BK237.out 0; have hfz20_1 := blk_frozen BK237.out 1; have hfz20_2 := blk_frozen BK237.out 2; have hfz20_3 := blk_frozen BK237.out 3; have hfz20_4 := blk_frozen BK237.out 4; have p238 : 0 ≤ (x8_1 : Int) := of_decide_eq_true (by first | (with_reducible assumption) | assumption); have q238 : x8_1 < (l0.length : Int) := of_decide_eq_true (by first | (with_reducible assumption) | assumption); obtain ⟨ad238, e238, hx238_0, hx238_1, hx238_2, hx238_3, hx238_4, hx238_5, hx238_6, hx238_7, hx238_8⟩ := at_T30 HR0.out x8_1 p238 q238; obtain rfl : ad236 = ad238 := (by injection e238); have hn238_0 : ad236.block ≠ gb237 := Nat.ne_of_lt (Nat.lt_of_lt_of_le (by have := World.block_lt_of_cell? _ _ hx238_0; first | rwa [add_block] at this | exact this) GW237.out); have hn238_1 : ad236.block ≠ gb237 := Nat.ne_of_lt (Nat.lt_of_lt_of_le (by have := World.block_lt_of_cell? _ _ hx238_0; first | rwa [add_block] at this | exact this) GW237.out); have hn238_2 : ad236.block ≠ gb237 := Nat.ne_of_lt (Nat.lt_of_lt_of_le (by have := World.block_lt_of_cell? _ _ hx238_0; first | rwa [add_block] at this | exact this) GW237.out); have hn238_3 : ad236.block ≠ gb237 := Nat.ne_of_lt (Nat.lt_of_lt_of_le (by have := World.block_lt_of_cell? _ _ hx238_0; first | rwa [add_block] at this | exact this) GW237.out); have hn238_4 : ad236.block ≠ gb237 := Nat.ne_of_lt (Nat.lt_of_lt_of_le (by have := World.block_lt_of_cell? _ _ hx238_0; first | rwa [add_block] at this | exact this) GW237.out); replace hx238_0 := up_ HB.out hx238_0; replace hx238_1 := up_ HB.out hx238_1; replace hx238_2 := up_ HB.out hx238_2; replace hx238_3 := up_ HB.out hx238_3; replace hx238_4 := up_ HB.out hx238_4; replace hx238_5 := up_ HB.out hx238_5; replace hx238_6 := up_ HB.out hx238_6; replace hx238_7 := up_ HB.out hx238_7; replace hx238_8 := up_ HB.out hx238_8; have f5_ := fun {q : Addr} {x : Value} (hn : q.block ≠ gb237) (h : w19.cell? q = some x) => far5_ (.int .i64 ((rd_T30 l0 x8_1).f2.f0)) (.string ((rd_T30 l0 x8_1).f2.f1)) (.string ((rd_T30 l0 x8_1).f2.f2)) (.string ((rd_T30 l0 x8_1).f2.f3)) (.string ((rd_T30 l0 x8_1).f2.f4)) hn h; replace hx238_0 := f5_ (by first | (rw [add_block]; exact hn238_0) | exact hn238_0) hx238_0; replace hx238_1 := f5_ (by first | (rw [add_block]; exact hn238_0) | exact hn238_0) hx238_1; replace hx238_2 := f5_ (by first | (rw [add_block]; exact hn238_0) | exact hn238_0) hx238_2; replace hx238_3 := f5_ (by first | (rw [add_block]; exact hn238_0) | exact hn238_0) hx238_3; replace hx238_4 := f5_ (by first | (rw [add_block]; exact hn238_0) | exact hn238_0) hx238_4; replace hx238_5 := f5_ (by first | (rw [add_block]; exact hn238_0) | exact hn238_0) hx238_5; replace hx238_6 := f5_ (by first | (rw [add_block]; exact hn238_0) | exact hn238_0) hx238_6; replace hx238_7 := f5_ (by first | (rw [add_block]; exact hn238_0) | exact hn238_0) hx238_7; replace hx238_8 := f5_ (by first | (rw [add_block]; exact hn238_0) | exact hn238_0) hx238_8; clear f5_; clear hn238_0; clear hn238_1; clear hn238_2; clear hn238_3; clear hn238_4; replace p238 := eq_true p238; replace q238 := eq_true q238))
          go_roundg k1
          case measure => have := HK1.out; omega
          case rel => exact ⟨((((rd_T30 l0 x8_1).f2.f0) == 1)), (wrap64 (x8_1 + 1)), (by first | rfl | (simp; done) | (simp [*]; done)), (by first | rfl | (simp; done) | (simp [*]; done)), H', ⟨by have := HK1.out; omega⟩, ⟨by repeat (first | (with_reducible first | exact HB.out | apply a1_ | apply a2_ | apply a3_ | refine below_set ?_ GE237.out) | exact HB.out)⟩⟩
         ·rw [if_neg c18] at H
          have c18b0 : (((rd_T30 l0 x8_1).f2.f2).toList == a2.toList) = false := beq_eq_false_iff_ne.mpr c18
          have c18b1 : (((rd_T30 l0 x8_1).f2.f2).toList != a2.toList) = true := bne_iff_ne.mpr c18
          have H' := Aside0.mk H
          clear H
          have p236 : 0 ≤ (x8_1 : Int) := of_decide_eq_true (by first | (with_reducible assumption) | assumption)
          have q236 : x8_1 < (l0.length : Int) := of_decide_eq_true (by first | (with_reducible assumption) | assumption)
          obtain ⟨ad236, e236, hx236_0, hx236_1, hx236_2, hx236_3, hx236_4, hx236_5, hx236_6, hx236_7, hx236_8⟩ := at_T30 HR0.out x8_1 p236 q236
          cases e236
          replace hx236_0 := up_ HB.out hx236_0
          replace hx236_1 := up_ HB.out hx236_1
          replace hx236_2 := up_ HB.out hx236_2
          replace hx236_3 := up_ HB.out hx236_3
          replace hx236_4 := up_ HB.out hx236_4
          replace hx236_5 := up_ HB.out hx236_5
          replace hx236_6 := up_ HB.out hx236_6
          replace hx236_7 := up_ HB.out hx236_7
          replace hx236_8 := up_ HB.out hx236_8
          replace p236 := eq_true p236
          replace q236 := eq_true q236
          go_wp2_with (first | ((with_reducible refine gate_dst (N := 9) rfl ?_); refine box_event ?hg (N := 9) ?hd (cs := #[.int .i64 0, .string ba16_, .string ba16_, .string ba16_, .string ba16_]) (t := 28) ?hr ?_; (case hd => rfl); (case hg => rfl); (case hr => first | (go_simp; done) | (go_simp; rfl)); intro gb237 hg w21 hbox hb; have n0_ := Aside0.mk (below_step (by repeat (first | (with_reducible first | exact HB.out | apply a1_ | apply a2_ | apply a3_) | exact HB.out)) hb); have n1_ := Aside0.mk (hbox); have n2_ := Aside0.mk ((by rw [hg]; exact (below_size (by repeat (first | (with_reducible first | exact HB.out | apply a1_ | apply a2_ | apply a3_) | exact HB.out))) : w.heap.size ≤ gb237)); have n3_ := Aside0.mk ((by rw [hg]; exact (below_size (by repeat (first | (with_reducible first | exact HB.out | apply a1_ | apply a2_ | apply a3_) | exact HB.out))) : w.heap.size ≤ gb237)); clear HB; have HB := n0_; have BK237 := n1_; have GW237 := n2_; have GE237 := n3_; clear n0_ n1_ n2_ n3_; clear hb hbox hg; have hcz22_0 : w21.cell? ⟨gb237, 0, none⟩ = some (.int .i64 0) := (blk_cell BK237.out 0).trans rfl; have hcz22_1 : w21.cell? ⟨gb237, 1, none⟩ = some (.string ba16_) := (blk_cell BK237.out 1).trans rfl; have hcz22_2 : w21.cell? ⟨gb237, 2, none⟩ = some (.string ba16_) := (blk_cell BK237.out 2).trans rfl; have hcz22_3 : w21.cell? ⟨gb237, 3, none⟩ = some (.string ba16_) := (blk_cell BK237.out 3).trans rfl; have hcz22_4 : w21.cell? ⟨gb237, 4, none⟩ = some (.string ba16_) := (blk_cell BK237.out 4).trans rfl; have hfz22_0 := blk_frozen BK237.out 0; have hfz22_1 := blk_frozen BK237.out 1; have hfz22_2 := blk_frozen BK237.out 2; have hfz22_3 := blk_frozen BK237.out 3; have hfz22_4 := blk_frozen BK237.out 4; have p238 : 0 ≤ (x8_1 : Int) := of_decide_eq_true (by first | (with_reducible assumption) | assumption); have q238 : x8_1 < (l0.length : Int) := of_decide_eq_true (by first | (with_reducible assumption) | assumption); obtain ⟨ad238, e238, hx238_0, hx238_1, hx238_2, hx238_3, hx238_4, hx238_5, hx238_6, hx238_7, hx238_8⟩ := at_T30 HR0.out x8_1 p238 q238; obtain rfl : ad236 = ad238 := (by injection e238); have hn238_0 : ad236.block ≠ gb237 := Nat.ne_of_lt (Nat.lt_of_lt_of_le (by have := World.block_lt_of_cell? _ _ hx238_0; first | rwa [add_block] at this | exact this) GW237.out); have hn238_1 : ad236.block ≠ gb237 := Nat.ne_of_lt (Nat.lt_of_lt_of_le (by have := World.block_lt_of_cell? _ _ hx238_0; first | rwa [add_block] at this | exact this) GW237.out); have hn238_2 : ad236.block ≠ gb237 := Nat.ne_of_lt (Nat.lt_of_lt_of_le (by have := World.block_lt_of_cell? _ _ hx238_0; first | rwa [add_block] at this | exact this) GW237.out); have hn238_3 : ad236.block ≠ gb237 := Nat.ne_of_lt (Nat.lt_of_lt_of_le (by have := World.block_lt_of_cell? _ _ hx238_0; first | rwa [add_block] at this | exact this) GW237.out); have hn238_4 : ad236.block ≠ gb237 := Nat.ne_of_lt (Nat.lt_of_lt_of_le (by have := World.block_lt_of_cell? _ _ hx238_0; first | rwa [add_block] at this | exact this) GW237.out); replace hx238_0 := up_ HB.out hx238_0; replace hx238_1 := up_ HB.out hx238_1; replace hx238_2 := up_ HB.out hx238_2; replace hx238_3 := up_ HB.out hx238_3; replace hx238_4 := up_ HB.out hx238_4; replace hx238_5 := up_ HB.out hx238_5; replace hx238_6 := up_ HB.out hx238_6; replace hx238_7 := up_ HB.out hx238_7; replace hx238_8 := up_ HB.out hx238_8; have f5_ := fun {q : Addr} {x : Value} (hn : q.block ≠ gb237) (h : w21.cell? q = some x) => far5_ (.int .i64 ((rd_T30 l0 x8_1).f2.f0)) (.string ((rd_T30 l0 x8_1).f2.f1)) (.string ((rd_T30 l0 x8_1).f2.f2)) (.string ((rd_T30 l0 x8_1).f2.f3)) (.string ((rd_T30 l0 x8_1).f2.f4)) hn h; replace hx238_0 := f5_ (by first | (rw [add_block]; exact hn238_0) | exact hn238_0) hx238_0; replace hx238_1 := f5_ (by first | (rw [add_block]; exact hn238_0) | exact hn238_0) hx238_1; replace hx238_2 := f5_ (by first | (rw [add_block]; exact hn238_0) | exact hn238_0) hx238_2; replace hx238_3 := f5_ (by first | (rw [add_block]; exact hn238_0) | exact hn238_0) hx238_3; replace hx238_4 := f5_ (by first | (rw [add_block]; exact hn238_0) | exact hn238_0) hx238_4; replace hx238_5 := f5_ (by first | (rw [add_block]; exact hn238_0) | exact hn238_0) hx238_5; replace hx238_6 := f5_ (by first | (rw [add_block]; exact hn238_0) | exact hn238_0) hx238_6; replace hx238_7 := f5_ (by first | (rw [add_block]; exact hn238_0) | exact hn238_0) hx238_7; replace hx238_8 := f5_ (by first | (rw [add_block]; exact hn238_0) | exact hn238_0) hx238_8; clear f5_; clear hn238_0; clear hn238_1; clear hn238_2; clear hn238_3; clear hn238_4; replace p238 := eq_true p238; replace q238 := eq_true q238))
          go_roundg k1
          case measure => have := HK1.out; omega
          case rel => exact ⟨(x7_1), (wrap64 (x8_1 + 1)), (by first | rfl | (simp; done) | (simp [*]; done)), (by first | rfl | (simp; done) | (simp [*]; done)), H', ⟨by have := HK1.out; omega⟩, ⟨by repeat (first | (with_reducible first | exact HB.out | apply a1_ | apply a2_ | apply a3_ | refine below_set ?_ GE237.out) | exact HB.out)⟩⟩
        ·rw [if_neg c17] at H
         have c17b0 : (((rd_T30 l0 x8_1).f2.f1).toList == a1.toList) = false := beq_eq_false_iff_ne.mpr c17
         have c17b1 : (((rd_T30 l0 x8_1).f2.f1).toList != a1.toList) = true := bne_iff_ne.mpr c17
         have H' := Aside0.mk H
         clear H
         have p236 : 0 ≤ (x8_1 : Int) := of_decide_eq_true (by first | (with_reducible assumption) | assumption)
         have q236 : x8_1 < (l0.length : Int) := of_decide_eq_true (by first | (with_reducible assumption) | assumption)
         obtain ⟨ad236, e236, hx236_0, hx236_1, hx236_2, hx236_3, hx236_4, hx236_5, hx236_6, hx236_7, hx236_8⟩ := at_T30 HR0.out x8_1 p236 q236
         cases e236
         replace hx236_0 := up_ HB.out hx236_0
         replace hx236_1 := up_ HB.out hx236_1
         replace hx236_2 := up_ HB.out hx236_2
         replace hx236_3 := up_ HB.out hx236_3
         replace hx236_4 := up_ HB.out hx236_4
         replace hx236_5 := up_ HB.out hx236_5
         replace hx236_6 := up_ HB.out hx236_6
         replace hx236_7 := up_ HB.out hx236_7
         replace hx236_8 := up_ HB.out hx236_8
         replace p236 := eq_true p236
         replace q236 := eq_true q236
         go_wp2_with (first | ((with_reducible refine gate_dst (N := 9) rfl ?_); refine box_event ?hg (N := 9) ?hd (cs := #[.int .i64 0, .string ba16_, .string ba16_, .string ba16_, .string ba16_]) (t := 28) ?hr ?_; (case hd => rfl); (case hg => rfl); (case hr => first | (go_simp; done) | (go_simp; rfl)); intro gb237 hg w23 hbox hb; have n0_ := Aside0.mk (below_step (by repeat (first | (with_reducible first | exact HB.out | apply a1_ | apply a2_ | apply a3_) | exact HB.out)) hb); have n1_ := Aside0.mk (hbox); have n2_ := Aside0.mk ((by rw [hg]; exact (below_size (by repeat (first | (with_reducible first | exact HB.out | apply a1_ | apply a2_ | apply a3_) | exact HB.out))) : w.heap.size ≤ gb237)); have n3_ := Aside0.mk ((by rw [hg]; exact (below_size (by repeat (first | (with_reducible first | exact HB.out | apply a1_ | apply a2_ | apply a3_) | exact HB.out))) : w.heap.size ≤ gb237)); clear HB; have HB := n0_; have BK237 := n1_; have GW237 := n2_; have GE237 := n3_; clear n0_ n1_ n2_ n3_; clear hb hbox hg; have hcz24_0 : w23.cell? ⟨gb237, 0, none⟩ = some (.int .i64 0) := (blk_cell BK237.out 0).trans rfl; have hcz24_1 : w23.cell? ⟨gb237, 1, none⟩ = some (.string ba16_) := (blk_cell BK237.out 1).trans rfl; have hcz24_2 : w23.cell? ⟨gb237, 2, none⟩ = some (.string ba16_) := (blk_cell BK237.out 2).trans rfl; have hcz24_3 : w23.cell? ⟨gb237, 3, none⟩ = some (.string ba16_) := (blk_cell BK237.out 3).trans rfl; have hcz24_4 : w23.cell? ⟨gb237, 4, none⟩ = some (.string ba16_) := (blk_cell BK237.out 4).trans rfl; have hfz24_0 := blk_frozen BK237.out 0; have hfz24_1 := blk_frozen BK237.out 1; have hfz24_2 := blk_frozen BK237.out 2; have hfz24_3 := blk_frozen BK237.out 3; have hfz24_4 := blk_frozen BK237.out 4; have p238 : 0 ≤ (x8_1 : Int) := of_decide_eq_true (by first | (with_reducible assumption) | assumption); have q238 : x8_1 < (l0.length : Int) := of_decide_eq_true (by first | (with_reducible assumption) | assumption); obtain ⟨ad238, e238, hx238_0, hx238_1, hx238_2, hx238_3, hx238_4, hx238_5, hx238_6, hx238_7, hx238_8⟩ := at_T30 HR0.out x8_1 p238 q238; obtain rfl : ad236 = ad238 := (by injection e238); have hn238_0 : ad236.block ≠ gb237 := Nat.ne_of_lt (Nat.lt_of_lt_of_le (by have := World.block_lt_of_cell? _ _ hx238_0; first | rwa [add_block] at this | exact this) GW237.out); have hn238_1 : ad236.block ≠ gb237 := Nat.ne_of_lt (Nat.lt_of_lt_of_le (by have := World.block_lt_of_cell? _ _ hx238_0; first | rwa [add_block] at this | exact this) GW237.out); have hn238_2 : ad236.block ≠ gb237 := Nat.ne_of_lt (Nat.lt_of_lt_of_le (by have := World.block_lt_of_cell? _ _ hx238_0; first | rwa [add_block] at this | exact this) GW237.out); have hn238_3 : ad236.block ≠ gb237 := Nat.ne_of_lt (Nat.lt_of_lt_of_le (by have := World.block_lt_of_cell? _ _ hx238_0; first | rwa [add_block] at this | exact this) GW237.out); have hn238_4 : ad236.block ≠ gb237 := Nat.ne_of_lt (Nat.lt_of_lt_of_le (by have := World.block_lt_of_cell? _ _ hx238_0; first | rwa [add_block] at this | exact this) GW237.out); replace hx238_0 := up_ HB.out hx238_0; replace hx238_1 := up_ HB.out hx238_1; replace hx238_2 := up_ HB.out hx238_2; replace hx238_3 := up_ HB.out hx238_3; replace hx238_4 := up_ HB.out hx238_4; replace hx238_5 := up_ HB.out hx238_5; replace hx238_6 := up_ HB.out hx238_6; replace hx238_7 := up_ HB.out hx238_7; replace hx238_8 := up_ HB.out hx238_8; have f5_ := fun {q : Addr} {x : Value} (hn : q.block ≠ gb237) (h : w23.cell? q = some x) => far5_ (.int .i64 ((rd_T30 l0 x8_1).f2.f0)) (.string ((rd_T30 l0 x8_1).f2.f1)) (.string ((rd_T30 l0 x8_1).f2.f2)) (.string ((rd_T30 l0 x8_1).f2.f3)) (.string ((rd_T30 l0 x8_1).f2.f4)) hn h; replace hx238_0 := f5_ (by first | (rw [add_block]; exact hn238_0) | exact hn238_0) hx238_0; replace hx238_1 := f5_ (by first | (rw [add_block]; exact hn238_0) | exact hn238_0) hx238_1; replace hx238_2 := f5_ (by first | (rw [add_block]; exact hn238_0) | exact hn238_0) hx238_2; replace hx238_3 := f5_ (by first | (rw [add_block]; exact hn238_0) | exact hn238_0) hx238_3; replace hx238_4 := f5_ (by first | (rw [add_block]; exact hn238_0) | exact hn238_0) hx238_4; replace hx238_5 := f5_ (by first | (rw [add_block]; exact hn238_0) | exact hn238_0) hx238_5; replace hx238_6 := f5_ (by first | (rw [add_block]; exact hn238_0) | exact hn238_0) hx238_6; replace hx238_7 := f5_ (by first | (rw [add_block]; exact hn238_0) | exact hn238_0) hx238_7; replace hx238_8 := f5_ (by first | (rw [add_block]; exact hn238_0) | exact hn238_0) hx238_8; clear f5_; clear hn238_0; clear hn238_1; clear hn238_2; clear hn238_3; clear hn238_4; replace p238 := eq_true p238; replace q238 := eq_true q238))
         go_roundg k1
         case measure => have := HK1.out; omega
         case rel => exact ⟨(x7_1), (wrap64 (x8_1 + 1)), (by first | rfl | (simp; done) | (simp [*]; done)), (by first | rfl | (simp; done) | (simp [*]; done)), H', ⟨by have := HK1.out; omega⟩, ⟨by repeat (first | (with_reducible first | exact HB.out | apply a1_ | apply a2_ | apply a3_ | refine below_set ?_ GE237.out) | exact HB.out)⟩⟩
       ·rw [if_neg c16] at H
        have c16b0 : (((rd_T30 l0 x8_1).f2.f0) == 2) = false := beq_eq_false_iff_ne.mpr c16
        have c16b1 : (((rd_T30 l0 x8_1).f2.f0) != 2) = true := bne_iff_ne.mpr c16
        have H' := Aside0.mk H
        clear H
        have p236 : 0 ≤ (x8_1 : Int) := of_decide_eq_true (by first | (with_reducible assumption) | assumption)
        have q236 : x8_1 < (l0.length : Int) := of_decide_eq_true (by first | (with_reducible assumption) | assumption)
        obtain ⟨ad236, e236, hx236_0, hx236_1, hx236_2, hx236_3, hx236_4, hx236_5, hx236_6, hx236_7, hx236_8⟩ := at_T30 HR0.out x8_1 p236 q236
        cases e236
        replace hx236_0 := up_ HB.out hx236_0
        replace hx236_1 := up_ HB.out hx236_1
        replace hx236_2 := up_ HB.out hx236_2
        replace hx236_3 := up_ HB.out hx236_3
        replace hx236_4 := up_ HB.out hx236_4
        replace hx236_5 := up_ HB.out hx236_5
        replace hx236_6 := up_ HB.out hx236_6
        replace hx236_7 := up_ HB.out hx236_7
        replace hx236_8 := up_ HB.out hx236_8
        replace p236 := eq_true p236
        replace q236 := eq_true q236
        go_wp2_with (first | ((with_reducible refine gate_dst (N := 9) rfl ?_); refine box_event ?hg (N := 9) ?hd (cs := #[.int .i64 0, .string ba16_, .string ba16_, .string ba16_, .string ba16_]) (t := 28) ?hr ?_; (case hd => rfl); (case hg => rfl); (case hr => first | (go_simp; done) | (go_simp; rfl)); intro gb237 hg w25 hbox hb; have n0_ := Aside0.mk (below_step (by repeat (first | (with_reducible first | exact HB.out | apply a1_ | apply a2_ | apply a3_) | exact HB.out)) hb); have n1_ := Aside0.mk (hbox); have n2_ := Aside0.mk ((by rw [hg]; exact (below_size (by repeat (first | (with_reducible first | exact HB.out | apply a1_ | apply a2_ | apply a3_) | exact HB.out))) : w.heap.size ≤ gb237)); have n3_ := Aside0.mk ((by rw [hg]; exact (below_size (by repeat (first | (with_reducible first | exact HB.out | apply a1_ | apply a2_ | apply a3_) | exact HB.out))) : w.heap.size ≤ gb237)); clear HB; have HB := n0_; have BK237 := n1_; have GW237 := n2_; have GE237 := n3_; clear n0_ n1_ n2_ n3_; clear hb hbox hg; have hcz26_0 : w25.cell? ⟨gb237, 0, none⟩ = some (.int .i64 0) := (blk_cell BK237.out 0).trans rfl; have hcz26_1 : w25.cell? ⟨gb237, 1, none⟩ = some (.string ba16_) := (blk_cell BK237.out 1).trans rfl; have hcz26_2 : w25.cell? ⟨gb237, 2, none⟩ = some (.string ba16_) := (blk_cell BK237.out 2).trans rfl; have hcz26_3 : w25.cell? ⟨gb237, 3, none⟩ = some (.string ba16_) := (blk_cell BK237.out 3).trans rfl; have hcz26_4 : w25.cell? ⟨gb237, 4, none⟩ = some (.string ba16_) := (blk_cell BK237.out 4).trans rfl; have hfz26_0 := blk_frozen BK237.out 0; have hfz26_1 := blk_frozen BK237.out 1; have hfz26_2 := blk_frozen BK237.out 2; have hfz26_3 := blk_frozen BK237.out 3; have hfz26_4 := blk_frozen BK237.out 4; have p238 : 0 ≤ (x8_1 : Int) := of_decide_eq_true (by first | (with_reducible assumption) | assumption); have q238 : x8_1 < (l0.length : Int) := of_decide_eq_true (by first | (with_reducible assumption) | assumption); obtain ⟨ad238, e238, hx238_0, hx238_1, hx238_2, hx238_3, hx238_4, hx238_5, hx238_6, hx238_7, hx238_8⟩ := at_T30 HR0.out x8_1 p238 q238; obtain rfl : ad236 = ad238 := (by injection e238); have hn238_0 : ad236.block ≠ gb237 := Nat.ne_of_lt (Nat.lt_of_lt_of_le (by have := World.block_lt_of_cell? _ _ hx238_0; first | rwa [add_block] at this | exact this) GW237.out); have hn238_1 : ad236.block ≠ gb237 := Nat.ne_of_lt (Nat.lt_of_lt_of_le (by have := World.block_lt_of_cell? _ _ hx238_0; first | rwa [add_block] at this | exact this) GW237.out); have hn238_2 : ad236.block ≠ gb237 := Nat.ne_of_lt (Nat.lt_of_lt_of_le (by have := World.block_lt_of_cell? _ _ hx238_0; first | rwa [add_block] at this | exact this) GW237.out); have hn238_3 : ad236.block ≠ gb237 := Nat.ne_of_lt (Nat.lt_of_lt_of_le (by have := World.block_lt_of_cell? _ _ hx238_0; first | rwa [add_block] at this | exact this) GW237.out); have hn238_4 : ad236.block ≠ gb237 := Nat.ne_of_lt (Nat.lt_of_lt_of_le (by have := World.block_lt_of_cell? _ _ hx238_0; first | rwa [add_block] at this | exact this) GW237.out); replace hx238_0 := up_ HB.out hx238_0; replace hx238_1 := up_ HB.out hx238_1; replace hx238_2 := up_ HB.out hx238_2; replace hx238_3 := up_ HB.out hx238_3; replace hx238_4 := up_ HB.out hx238_4; replace hx238_5 := up_ HB.out hx238_5; replace hx238_6 := up_ HB.out hx238_6; replace hx238_7 := up_ HB.out hx238_7; replace hx238_8 := up_ HB.out hx238_8; have f5_ := fun {q : Addr} {x : Value} (hn : q.block ≠ gb237) (h : w25.cell? q = some x) => far5_ (.int .i64 ((rd_T30 l0 x8_1).f2.f0)) (.string ((rd_T30 l0 x8_1).f2.f1)) (.string ((rd_T30 l0 x8_1).f2.f2)) (.string ((rd_T30 l0 x8_1).f2.f3)) (.string ((rd_T30 l0 x8_1).f2.f4)) hn h; replace hx238_0 := f5_ (by first | (rw [add_block]; exact hn238_0) | exact hn238_0) hx238_0; replace hx238_1 := f5_ (by first | (rw [add_block]; exact hn238_0) | exact hn238_0) hx238_1; replace hx238_2 := f5_ (by first | (rw [add_block]; exact hn238_0) | exact hn238_0) hx238_2; replace hx238_3 := f5_ (by first | (rw [add_block]; exact hn238_0) | exact hn238_0) hx238_3; replace hx238_4 := f5_ (by first | (rw [add_block]; exact hn238_0) | exact hn238_0) hx238_4; replace hx238_5 := f5_ (by first | (rw [add_block]; exact hn238_0) | exact hn238_0) hx238_5; replace hx238_6 := f5_ (by first | (rw [add_block]; exact hn238_0) | exact hn238_0) hx238_6; replace hx238_7 := f5_ (by first | (rw [add_block]; exact hn238_0) | exact hn238_0) hx238_7; replace hx238_8 := f5_ (by first | (rw [add_block]; exact hn238_0) | exact hn238_0) hx238_8; clear f5_; clear hn238_0; clear hn238_1; clear hn238_2; clear hn238_3; clear hn238_4; replace p238 := eq_true p238; replace q238 := eq_true q238))
        go_roundg k1
        case measure => have := HK1.out; omega
        case rel => exact ⟨(x7_1), (wrap64 (x8_1 + 1)), (by first | rfl | (simp; done) | (simp [*]; done)), (by first | rfl | (simp; done) | (simp [*]; done)), H', ⟨by have := HK1.out; omega⟩, ⟨by repeat (first | (with_reducible first | exact HB.out | apply a1_ | apply a2_ | apply a3_ | refine below_set ?_ GE237.out) | exact HB.out)⟩⟩
     ·rw [if_neg c6] at H
      have c6b0 : (((rd_T30 l0 x8_1).f0) == 5) = false := beq_eq_false_iff_ne.mpr c6
      have c6b1 : (((rd_T30 l0 x8_1).f0) != 5) = true := bne_iff_ne.mpr c6
      have H' := Aside0.mk H
      clear H
      have p236 : 0 ≤ (x8_1 : Int) := of_decide_eq_true (by first | (with_reducible assumption) | assumption)
      have q236 : x8_1 < (l0.length : Int) := of_decide_eq_true (by first | (with_reducible assumption) | assumption)
      obtain ⟨ad236, e236, hx236_0, hx236_1, hx236_2, hx236_3, hx236_4, hx236_5, hx236_6, hx236_7, hx236_8⟩ := at_T30 HR0.out x8_1 p236 q236
      cases e236
      replace hx236_0 := up_ HB.out hx236_0
      replace hx236_1 := up_ HB.out hx236_1
      replace hx236_2 := up_ HB.out hx236_2
      replace hx236_3 := up_ HB.out hx236_3
      replace hx236_4 := up_ HB.out hx236_4
      replace hx236_5 := up_ HB.out hx236_5
      replace hx236_6 := up_ HB.out hx236_6
      replace hx236_7 := up_ HB.out hx236_7
      replace hx236_8 := up_ HB.out hx236_8
      replace p236 := eq_true p236
      replace q236 := eq_true q236
      go_wp2_with (first | ((with_reducible refine gate_dst (N := 9) rfl ?_); refine box_event ?hg (N := 9) ?hd (cs := #[.int .i64 0, .string ba16_, .string ba16_, .string ba16_, .string ba16_]) (t := 28) ?hr ?_; (case hd => rfl); (case hg => rfl); (case hr => first | (go_simp; done) | (go_simp; rfl)); intro gb237 hg w27 hbox hb; have n0_ := Aside0.mk (below_step (by repeat (first | (with_reducible first | exact HB.out | apply a1_ | apply a2_ | apply a3_) | exact HB.out)) hb); have n1_ := Aside0.mk (hbox); have n2_ := Aside0.mk ((by rw [hg]; exact (below_size (by repeat (first | (with_reducible first | exact HB.out | apply a1_ | apply a2_ | apply a3_) | exact HB.out))) : w.heap.size ≤ gb237)); have n3_ := Aside0.mk ((by rw [hg]; exact (below_size (by repeat (first | (with_reducible first | exact HB.out | apply a1_ | apply a2_ | apply a3_) | exact HB.out))) : w.heap.size ≤ gb237)); clear HB; have HB := n0_; have BK237 := n1_; have GW237 := n2_; have GE237 := n3_; clear n0_ n1_ n2_ n3_; clear hb hbox hg; have hcz28_0 : w27.cell? ⟨gb237, 0, none⟩ = some (.int .i64 0) := (blk_cell BK237.out 0).trans rfl; have hcz28_1 : w27.cell? ⟨gb237, 1, none⟩ = some (.string ba16_) := (blk_cell BK237.out 1).trans rfl; have hcz28_2 : w27.cell? ⟨gb237, 2, none⟩ = some (.string ba16_) := (blk_cell BK237.out 2).trans rfl; have hcz28_3 : w27.cell? ⟨gb237, 3, none⟩ = some (.string ba16_) := (blk_cell BK237.out 3).trans rfl; have hcz28_4 : w27.cell? ⟨gb237, 4, none⟩ = some (.string ba16_) := (blk_cell BK237.out 4).trans rfl; have hfz28_0 := blk_frozen BK237.out 0; have hfz28_1 := blk_frozen BK237.out 1; have hfz28_2 := blk_frozen BK237.out 2; have hfz28_3 := blk_frozen BK237.out 3; have hfz28_4 := blk_frozen BK237.out 4; have p238 : 0 ≤ (x8_1 : Int) := of_decide_eq_true (by first | (with_reducible assumption) | assumption); have q238 : x8_1 < (l0.length : Int) := of_decide_eq_true (by first | (with_reducible assumption) | assumption); obtain ⟨ad238, e238, hx238_0, hx238_1, hx238_2, hx238_3, hx238_4, hx238_5, hx238_6, hx238_7, hx238_8⟩ := at_T30 HR0.out x8_1 p238 q238; obtain rfl : ad236 = ad238 := (by injection e238); have hn238_0 : ad236.block ≠ gb237 := Nat.ne_of_lt (Nat.lt_of_lt_of_le (by have := World.block_lt_of_cell? _ _ hx238_0; first | rwa [add_block] at this | exact this) GW237.out); have hn238_1 : ad236.block ≠ gb237 := Nat.ne_of_lt (Nat.lt_of_lt_of_le (by have := World.block_lt_of_cell? _ _ hx238_0; first | rwa [add_block] at this | exact this) GW237.out); have hn238_2 : ad236.block ≠ gb237 := Nat.ne_of_lt (Nat.lt_of_lt_of_le (by have := World.block_lt_of_cell? _ _ hx238_0; first | rwa [add_block] at this | exact this) GW237.out); have hn238_3 : ad236.block ≠ gb237 := Nat.ne_of_lt (Nat.lt_of_lt_of_le (by have := World.block_lt_of_cell? _ _ hx238_0; first | rwa [add_block] at this | exact this) GW237.out); have hn238_4 : ad236.block ≠ gb237 := Nat.ne_of_lt (Nat.lt_of_lt_of_le (by have := World.block_lt_of_cell? _ _ hx238_0; first | rwa [add_block] at this | exact this) GW237.out); replace hx238_0 := up_ HB.out hx238_0; replace hx238_1 := up_ HB.out hx238_1; replace hx238_2 := up_ HB.out hx238_2; replace hx238_3 := up_ HB.out hx238_3; replace hx238_4 := up_ HB.out hx238_4; replace hx238_5 := up_ HB.out hx238_5; replace hx238_6 := up_ HB.out hx238_6; replace hx238_7 := up_ HB.out hx238_7; replace hx238_8 := up_ HB.out hx238_8; have f5_ := fun {q : Addr} {x : Value} (hn : q.block ≠ gb237) (h : w27.cell? q = some x) => far5_ (.int .i64 ((rd_T30 l0 x8_1).f2.f0)) (.string ((rd_T30 l0 x8_1).f2.f1)) (.string ((rd_T30 l0 x8_1).f2.f2)) (.string ((rd_T30 l0 x8_1).f2.f3)) (.string ((rd_T30 l0 x8_1).f2.f4)) hn h; replace hx238_0 := f5_ (by first | (rw [add_block]; exact hn238_0) | exact hn238_0) hx238_0; replace hx238_1 := f5_ (by first | (rw [add_block]; exact hn238_0) | exact hn238_0) hx238_1; replace hx238_2 := f5_ (by first | (rw [add_block]; exact hn238_0) | exact hn238_0) hx238_2; replace hx238_3 := f5_ (by first | (rw [add_block]; exact hn238_0) | exact hn238_0) hx238_3; replace hx238_4 := f5_ (by first | (rw [add_block]; exact hn238_0) | exact hn238_0) hx238_4; replace hx238_5 := f5_ (by first | (rw [add_block]; exact hn238_0) | exact hn238_0) hx238_5; replace hx238_6 := f5_ (by first | (rw [add_block]; exact hn238_0) | exact hn238_0) hx238_6; replace hx238_7 := f5_ (by first | (rw [add_block]; exact hn238_0) | exact hn238_0) hx238_7; replace hx238_8 := f5_ (by first | (rw [add_block]; exact hn238_0) | exact hn238_0) hx238_8; clear f5_; clear hn238_0; clear hn238_1; clear hn238_2; clear hn238_3; clear hn238_4; replace p238 := eq_true p238; replace q238 := eq_true q238))
      go_roundg k1
      case measure => have := HK1.out; omega
      case rel => exact ⟨(x7_1), (wrap64 (x8_1 + 1)), (by first | rfl | (simp; done) | (simp [*]; done)), (by first | rfl | (simp; done) | (simp [*]; done)), H', ⟨by have := HK1.out; omega⟩, ⟨by repeat (first | (with_reducible first | exact HB.out | apply a1_ | apply a2_ | apply a3_ | refine below_set ?_ GE237.out) | exact HB.out)⟩⟩
    ·rw [if_neg c5] at H
     exact absurd H (by simp)
   ·rw [if_neg c4] at H
    have c4b0 : decide (x8_1 < (l0.length : Int)) = false := decide_eq_false c4
    clear c4
    obtain rfl := Option.some.inj H
    go_wp2
    go_ret
    exact ⟨by first | rfl | (simp [errW_none, errW_some] <;> rfl) | (simp [*, errW_none, errW_some] <;> rfl), by repeat (first | (with_reducible first | exact HB.out | apply a1_ | apply a2_ | apply a3_) | exact HB.out)⟩

end Go.Proofs.YtlmhgnkkdjpkcaaDoor.PA
