/- The contracts of a disk's small methods: how a disk lies in memory; is, has, drop, Sectors, Pending, New. -/
import Derived.Test.YthienjmkagediaaM0
import Derived.Test.YthienjmkagediaaProg
import Derived.Deep.RegionHeld3
import Derived.Deep.AppendLies
import Derived.Deep.MidRow
import Derived.Deep.DrawnRows
import Derived.Maps.AppendAt
import Derived.KernelRfl
import Derived.Recover
import Derived.Defers
import Derived.LoopTactic
import Derived.Tactics
import Derived.Tactics2
set_option linter.unusedVariables false
set_option linter.unusedSimpArgs false
namespace Go.Proofs.YthienjmkagediaaM
open Go.RowKit
/-- What is pending, as cells. -/
def encP (P : List (Nat × List UInt8)) : List Value := P.flatMap fun x => .int .i64 (x.1 : Int) :: byteCells x.2
/-- A disk of n sectors at block p, its bytes in block g, what is pending under v. -/
structure DiskAt (w : World) (B p g n : Nat) (v : Value) (D : List UInt8) (P : List (Nat × List UInt8)) : Prop where
  blk : Blk w p [.slice (some ⟨g, 0, none⟩) n n, v] 66
  dur : Blk w g (byteCells D) 69
  pend : w.ownsRow B 71 513 v P.length (encP P)
  len : D.length = n * 512
  pos : 0 < n
  top : n ≤ 1024
  ok : ∀ x ∈ P, x.1 < n ∧ x.2.length = 512
  few : P.length ≤ 100000
  bp : B ≤ p
  bg : B ≤ g
  pg : p ≠ g
  vp : v.ownBlock ≠ some p
  vg : v.ownBlock ≠ some g
/-- The blocks that are a disk's own. -/
def Own (p g : Nat) (v : Value) (k : Nat) : Prop := k = p ∨ k = g ∨ v.ownBlock = some k
theorem ownsRow_kept {w w' : World} {S : Nat → Prop} {B e size n : Nat} {v : Value} {xs : List Value} (h : w.ownsRow B e size v n xs) (hE : Elses S w w') (hv : ∀ k, v.ownBlock = some k → ¬ S k) : w'.ownsRow B e size v n xs := by
  refine ⟨h.1, ?_⟩
  rcases h.2 with h2 | ⟨g, cap, cur, rfl, hb, hg, r⟩
  · exact .inl h2
  · have hl : g < w.heap.size := (Array.getElem?_eq_some_iff.1 hg).1
    exact .inr ⟨g, cap, cur, rfl, hb, (hE.block g (hv g rfl) hl).trans hg, r⟩
theorem DiskAt.kept {w w' : World} {B p g n : Nat} {v : Value} {D : List UInt8} {P : List (Nat × List UInt8)} {S : Nat → Prop} (h : DiskAt w B p g n v D P) (hE : Elses S w w') (hS : ∀ k, Own p g v k → ¬ S k) : DiskAt w' B p g n v D P :=
  { h with blk := h.blk.kept hE (hS p (.inl rfl)), dur := h.dur.kept hE (hS g (.inr (.inl rfl))), pend := ownsRow_kept h.pend hE fun k hk => hS k (.inr (.inr hk)) }
theorem DiskAt.drew {w : World} {B p g n : Nat} {v : Value} {D : List UInt8} {P : List (Nat × List UInt8)} (h : DiskAt w B p g n v D P) : DiskAt w.drew B p g n v D P :=
  h.kept (S := fun _ => False) ((Elses.refl _ w).drew) fun _ _ h => h
theorem DiskAt.alloc {w : World} {B p g n : Nat} {v : Value} {D : List UInt8} {P : List (Nat × List UInt8)} (h : DiskAt w B p g n v D P) (o : Obj) : DiskAt (w.alloc o) B p g n v D P :=
  h.kept (S := fun _ => False) ((Elses.refl _ w).alloc o) fun _ _ h => h
theorem DiskAt.c0 {w : World} {B p g n : Nat} {v : Value} {D : List UInt8} {P : List (Nat × List UInt8)} (h : DiskAt w B p g n v D P) : w.cell? ⟨p, 0, none⟩ = some (.slice (some ⟨g, 0, none⟩) n n) := h.blk.cell 0
theorem DiskAt.c1 {w : World} {B p g n : Nat} {v : Value} {D : List UInt8} {P : List (Nat × List UInt8)} (h : DiskAt w B p g n v D P) : w.cell? ⟨p, 1, none⟩ = some v := h.blk.cell 1
theorem DiskAt.lt {w : World} {B p g n : Nat} {v : Value} {D : List UInt8} {P : List (Nat × List UInt8)} (h : DiskAt w B p g n v D P) : ∀ k, Own p g v k → B ≤ k ∧ k < w.heap.size := by
  intro k hk
  rcases hk with rfl | rfl | hk
  · exact ⟨h.bp, h.blk.lt⟩
  · exact ⟨h.bg, h.dur.lt⟩
  · exact h.pend.lt k hk
theorem info71 : (Try.prog.info? 71).map (fun i => (i.zero.map (·.cells.size), i.size, i.bytes)) = some (some 513, 513, 520) := by kernel_rfl
theorem info69 : (Try.prog.info? 69).map (fun i => (i.zero.map (·.cells), i.size, i.bytes)) = some (some (byteCells (zeros 512)).toArray, 512, 512) := by kernel_rfl
set_option maxHeartbeats 400000 in
theorem is_yes (p g n : Nat) (v : Value) (w : World) (hb : Blk w p [.slice (some ⟨g, 0, none⟩) n n, v] 66) (hn : 0 < n) :
    Calls Try.prog 33 #[.pointer (some ⟨p, 0, none⟩)] w fun e w' => e = .returned (.bool true) ∧ w = w' := by
  have h0 := hb.cell 0
  have hn' : (0 : Int) < (n : Int) := by omega
  have hd : decide ((0 : Int) < (n : Int)) = true := by simpa using hn
  clear hb
  go_enter Try.func33, Try.ntmps33
  go_wp2
  go_ret
  exact ⟨by simp_all, rfl⟩
set_option maxHeartbeats 400000 in
theorem is_nil (w : World) :
    Calls Try.prog 33 #[.pointer none] w fun e w' => e = .returned (.bool false) ∧ w = w' := by
  go_enter Try.func33, Try.ntmps33
  go_wp2
  go_ret
  exact ⟨rfl, rfl⟩
set_option maxHeartbeats 400000 in
theorem has_yes (p g n : Nat) (v : Value) (w : World) (hb : Blk w p [.slice (some ⟨g, 0, none⟩) n n, v] 66) (i : Nat) (hi : i < n) :
    Calls Try.prog 34 #[.pointer (some ⟨p, 0, none⟩), .int .i64 (i : Int)] w fun e w' => e = .returned (.bool true) ∧ w = w' := by
  have h0 := hb.cell 0
  have hd : decide (i < n) = true := by simpa using hi
  have hd0 : decide ((0 : Int) ≤ (i : Int)) = true := by simp
  clear hb
  go_enter Try.func34, Try.ntmps34
  go_wp2
  go_ret
  exact ⟨by simp_all, rfl⟩
set_option maxHeartbeats 400000 in
theorem has_no (p g n : Nat) (v : Value) (w : World) (hb : Blk w p [.slice (some ⟨g, 0, none⟩) n n, v] 66) (i : Int) (hi : i < 0 ∨ (n : Int) ≤ i) :
    Calls Try.prog 34 #[.pointer (some ⟨p, 0, none⟩), .int .i64 i] w fun e w' => e = .returned (.bool false) ∧ w = w' := by
  have h0 := hb.cell 0
  clear hb
  rcases hi with hi | hi
  · have hd0 : decide ((0 : Int) ≤ i) = false := by simpa using hi
    go_enter Try.func34, Try.ntmps34
    go_wp2
    go_ret
    exact ⟨by simp_all, rfl⟩
  · have hd0 : decide (i < (n : Int)) = false := by simpa using hi
    have h1 : (0 : Int) ≤ i := by omega
    go_enter Try.func34, Try.ntmps34
    go_wp2
    go_ret
    exact ⟨by simp_all, rfl⟩
set_option maxHeartbeats 400000 in
theorem sectors (p g n : Nat) (v : Value) (w : World) (hb : Blk w p [.slice (some ⟨g, 0, none⟩) n n, v] 66) (hn : 0 < n) :
    Calls Try.prog 24 #[.pointer (some ⟨p, 0, none⟩)] w fun e w' => e = .returned (.int .i64 (n : Int)) ∧ w = w' := by
  have HB := Lib.hid hb
  have h0 := hb.cell 0
  clear hb
  go_enter Try.func24, Try.ntmps24
  go_wp2_with (go_at_call 33; refine (is_yes p g n v _ HB.out hn).mono ?_; rintro e w' ⟨rfl, rfl⟩)
  go_ret
  exact ⟨rfl, rfl⟩
theorem len_of_own {w : World} {B e size n : Nat} {v : Value} {xs : List Value} (h : w.ownsRow B e size v n xs) : ∃ a c, v = .slice a n c := by
  rcases h.2 with ⟨rfl, rfl⟩ | ⟨g, cap, cur, rfl, _⟩
  · exact ⟨none, 0, rfl⟩
  · exact ⟨_, cap, rfl⟩
set_option maxHeartbeats 400000 in
theorem pending (B p g n : Nat) (v : Value) (D : List UInt8) (P : List (Nat × List UInt8)) (w : World) (h : DiskAt w B p g n v D P) :
    Calls Try.prog 15 #[.pointer (some ⟨p, 0, none⟩)] w fun e w' => e = .returned (.int .i64 (P.length : Int)) ∧ w = w' := by
  have HB := Lib.hid h.blk
  have hn := h.pos
  have h1 := h.c1
  obtain ⟨a, c, rfl⟩ := len_of_own h.pend
  clear h
  go_enter Try.func15, Try.ntmps15
  go_wp2_with (go_at_call 33; refine (is_yes p g n _ _ HB.out hn).mono ?_; rintro e w' ⟨rfl, rfl⟩)
  go_ret
  exact ⟨rfl, rfl⟩
end Go.Proofs.YthienjmkagediaaM
