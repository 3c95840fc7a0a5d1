/- The contracts of a disk's Durable and Image. -/
import Derived.Test.YthienjmkagediaaM7
set_option linter.unusedVariables false
set_option linter.unusedSimpArgs false
namespace Go.Proofs.YthienjmkagediaaM
open Go.RowKit
attribute [local go_sem ↓] exec_load71 exec_load69 exec_store71 exec_store69 exec_alloc71 exec_alloc69 exec_build71 exec_one71
attribute [local go_sem] via_alloc71 via_alloc69 via_build71 via_one71
theorem info5 : (Try.prog.info? 5).map (fun i => (i.zero, i.size, i.bytes)) = some (some (.int .u8 0), 1, 1) := by kernel_rfl
theorem take_sec (D : List UInt8) (n k : Nat) (h : D.length = n * 512) (hk : k < n) : D.take (k * 512) ++ sec D k = D.take ((k + 1) * 512) := by
  unfold sec
  rw [show (k + 1) * 512 = k * 512 + 512 by omega, List.take_add]
/-- A call gives these bytes, in memory of its own, and turns nothing. -/
def Gives (w : World) (b : List UInt8) (e : Ending) (w' : World) : Prop := ∃ v, e = .returned v ∧ w'.ownsRow w.heap.size 5 1 v b.length (byteCells b) ∧ Below w.heap.size w w'
theorem DiskAt.new {w w' : World} {B p g n : Nat} {v : Value} {D : List UInt8} {P : List (Nat × List UInt8)} (h : DiskAt w B p g n v D P) (hb : Below w.heap.size w w') : DiskAt w' B p g n v D P :=
  h.kept (S := fun k => w.heap.size ≤ k) (.of_below' hb) fun k hk => by have := (h.lt k hk).2; omega
set_option maxRecDepth 100000 in
set_option maxHeartbeats 3200000 in
theorem durable_ok (B p g n : Nat) (v : Value) (D : List UInt8) (P : List (Nat × List UInt8)) (w : World) (h : DiskAt w B p g n v D P) :
    Calls Try.prog 18 #[.pointer (some ⟨p, 0, none⟩)] w (Gives w D) := by
  have H := Lib.hid h
  have lp := h.blk.lt
  have hc0 := h.c0
  have hn := h.top
  clear h
  obtain ⟨i0, hi0, hz0, hz1, hz2⟩ := info_parts info5
  have HI := Lib.hid (And.intro hi0 (And.intro hz0 (And.intro hz1 hz2)))
  clear hi0 hz0 hz1 hz2
  go_enter Try.func18, Try.ntmps18
  go_wp2_with (go_at_call 33; refine (is_yes p g n _ _ H.out.blk H.out.pos).mono ?_; rintro e w' ⟨rfl, rfl⟩)
  go_loopw [3, 14] (fun ov iv wr => ∃ k : Nat, k ≤ n ∧ iv = .int .i64 (k : Int) ∧ Hid (wr.ownsRow w.heap.size 5 1 ov (k * 512) (byteCells (D.take (k * 512)))) ∧ Hid (Below w.heap.size w wr)) (fun _ iv _ => n - (intOf iv).toNat)
  case atStart => exact ⟨0, Nat.zero_le _, rfl, World.ownsRow_nil _ _ _ _, Below.refl _ _⟩
  case round =>
    obtain ⟨k, hk, rfl, HO, HW⟩ := hrel
    by_cases hlt : k < n
    · have hD := H.out.new HW.out
      have f1 := via_load69 wr g (k * 512) _ (range_sec hD.dur hD.len k hlt) (by rw [byteCells_length]; exact sec_length hD.len hlt)
      have f2 := via_store69_new wr (byteCells (sec D k)) (by rw [byteCells_length]; exact sec_length hD.len hlt) (byteCells_one _)
      have hsz := HW.out.size
      have HN := Lib.hid (show ∀ j u, (byteCells (sec D k))[j]? = some u → (wr.alloc (.cells (byteCells (sec D k)).toArray 69)).cell? ((⟨wr.heap.size, 0, none⟩ : Addr).add j) = some u from fun j u hu => by
        rw [addr_add, (Blk.new wr _ 69).cell, Nat.zero_add]
        exact hu)
      have HL := Lib.hid (sec_length hD.len hlt)
      have HT := Lib.hid (take_sec D n k hD.len hlt)
      have hk' : (k : Int) < (n : Int) := by omega
      clear hD
      go_wp2_with (at_builtin; refine wpList_append_lies _ rfl _ _ 30 rfl w.heap.size 5 i0 (.int .u8 0) 1 1 Try.underlying30 HI.out.1 HI.out.2.1 HI.out.2.2.1 HI.out.2.2.2 rfl (by decide) u3 (k * 512) (byteCells (D.take (k * 512))) rfl (HO.out.alloc _) ⟨wr.heap.size, 0, none⟩ 512 512 (byteCells (sec D k)) rfl (by rw [byteCells_length]; exact HL.out) HN.out (byteCells_one _) (by omega) (by unfold maxLen; omega) (by omega) (by simp; omega) (wr.heap.size + 1) (by simp) ?_; intro gg cc w1 hown1 hgrow hat1 hlt1)
      rw [← byteCells_append, HT.out] at hown1
      have hle : w.heap.size ≤ (wr.alloc (.cells (byteCells (sec D k)).toArray 69)).heap.size := by simp; omega
      have HG := Lib.hid (And.intro hown1 ((HW.out.alloc hsz (.cells (byteCells (sec D k)).toArray 69)).grown hgrow hle fun j hj => (HO.out.lt j hj).1))
      clear hown1 hgrow hat1 hlt1
      go_wp2
      go_roundw
      case rel => exact ⟨k + 1, by omega, by go_num, show World.ownsRow _ _ _ _ _ _ _ by rw [show (k + 1) * 512 = k * 512 + 512 by omega] at *; exact HG.out.1, show Below _ _ _ from HG.out.2⟩
      case measure => simp [intOf]; omega
    · have hk' : ¬ (k : Int) < (n : Int) := by omega
      obtain rfl : k = n := by omega
      go_wp2
      go_ret
      refine ⟨_, rfl, ?_, HW.out⟩
      have := HO.out
      rw [← H.out.len, List.take_length] at this
      exact this
end Go.Proofs.YthienjmkagediaaM
