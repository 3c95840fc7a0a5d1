/- The contract of a disk's Sync. -/
import Derived.Test.YthienjmkagediaaM5
import Derived.RegionTactic
import Derived.ChangeAlike
set_option linter.unusedVariables false
set_option linter.unusedSimpArgs false
namespace Go.Proofs.YthienjmkagediaaM
open Go.RowKit
attribute [local go_sem ↓] exec_load71 exec_load69 exec_store71 exec_store69 exec_alloc71 exec_alloc69 exec_build71 exec_one71
attribute [local go_sem] via_alloc71 via_alloc69 via_build71 via_one71
/-- The bytes behind the first k pending writes, of each so much as c says. -/
def crashK (D : List UInt8) (P : List (Nat × List UInt8)) (c : Nat → Nat) : Nat → List UInt8
  | 0 => D
  | k + 1 => splice (crashK D P c k) ((P.getD k (0, [])).1 * 512) ((P.getD k (0, [])).2.take (c k))
theorem splice_length {α : Type} (L : List α) (o : Nat) (cs : List α) (h : o + cs.length ≤ L.length) : (splice L o cs).length = L.length := length_splice L o cs h
theorem crashK_length {D : List UInt8} {n : Nat} (P : List (Nat × List UInt8)) (c : Nat → Nat) (h : D.length = n * 512) (hP : ∀ x ∈ P, x.1 < n ∧ x.2.length = 512) : ∀ k, k ≤ P.length → (crashK D P c k).length = n * 512
  | 0, _ => h
  | k + 1, hk => by
    have ih := crashK_length P c h hP k (by omega)
    have hx := hP _ (List.getElem_mem (show k < P.length by omega))
    unfold crashK
    rw [List.getD_eq_getElem?_getD, List.getElem?_eq_getElem (show k < P.length by omega), Option.getD_some]
    rw [splice_length, ih]
    rw [ih, List.length_take, hx.2]
    have := hx.1
    omega
theorem DiskAt.stored {w : World} {B p g n : Nat} {v : Value} {D D' : List UInt8} {P : List (Nat × List UInt8)} {c : Array Value} (h : DiskAt w B p g n v D P) (hc : c = (byteCells D').toArray) (hD : D'.length = n * 512) : DiskAt (w.setRow g c) B p g n v D' P := by
  subst hc
  exact { h with blk := h.blk.setRowElse h.pg _, dur := h.dur.setRow _, pend := ownsRow_kept h.pend ((Elses.refl (fun k => k = g) w).setRow (.inl rfl) _) (fun k hk e => h.vg (e ▸ hk)), len := hD }
set_option maxRecDepth 100000 in
set_option maxHeartbeats 3200000 in
theorem sync_ok (B p g n : Nat) (v : Value) (D : List UInt8) (P : List (Nat × List UInt8)) (w : World) (h : DiskAt w B p g n v D P) :
    Calls Try.prog 13 #[.pointer (some ⟨p, 0, none⟩)] w fun e w' => e = .returned (.int .i64 0) ∧ (∃ v', DiskAt w' B p g n v' (crashK D P (fun _ => 512) P.length) [] ∧ v'.ownBlock = v.ownBlock) ∧ Elses (Own p g v) w w' := by
  have H := Lib.hid h
  have lp := h.blk.lt
  have lg := h.dur.lt
  have hpg := h.pg
  have hc0 := h.c0
  have hc1 := h.c1
  obtain ⟨sa, cap, rfl, hsa⟩ := pend_form h.pend
  have HS := Lib.hid hsa
  have hlen := h.few
  clear h hsa
  go_enter Try.func13, Try.ntmps13
  go_wp2_with (go_at_call 33; refine (is_yes p g n _ _ H.out.blk H.out.pos).mono ?_; rintro e w' ⟨rfl, rfl⟩)
  go_loopw [13] (fun iv wr => ∃ k : Nat, k ≤ P.length ∧ iv = .int .i64 (k : Int) ∧ Hid (DiskAt wr B p g n (.slice sa P.length cap) (crashK D P (fun _ => 512) k) P) ∧ Hid (Elses (Own p g (.slice sa P.length cap)) w wr)) (fun iv _ => P.length - (intOf iv).toNat)
  case atStart => exact ⟨0, Nat.zero_le _, rfl, H.out, Elses.refl _ _⟩
  case round =>
    obtain ⟨k, hk, rfl, HB, HW⟩ := hrel
    by_cases hlt : k < P.length
    · obtain ⟨q, rfl⟩ := HS.out (by omega)
      have hP := H.out.ok _ (List.getElem_mem hlt)
      obtain ⟨cw, hcw⟩ : ∃ cw, cw = cellW (P[k]).1 (P[k]).2 := ⟨_, rfl⟩
      have hl : cw.length = 513 := by rw [hcw, cellW_length, hP.2]
      have hr := range_pend HB.out.pend (fun x hx => (H.out.ok x hx).2) k hlt
      rw [← hcw] at hr
      have f1 := via_load71 wr q (k * 513) cw hr hl
      have f2 := via_store71_new wr cw hl (by rw [hcw]; exact cellW_one _ _)
      have f3 : (wr.alloc (.cells cw.toArray 71)).cell? ⟨wr.heap.size, 0, none⟩ = some (.int .i64 ((P[k]).1 : Int)) := by
        rw [(Blk.new wr cw 71).cell, hcw]
        rfl
      have f4 := via_load69 (wr.alloc (.cells cw.toArray 71)).drew wr.heap.size 1 (byteCells (P[k]).2) (fun j u hu => by
        show (wr.alloc (.cells cw.toArray 71)).cell? _ = _
        rw [(Blk.new wr cw 71).cell, hcw, Nat.add_comm 1]
        exact hu) (by rw [byteCells_length]; exact hP.2)
      have hD := HB.out.alloc (.cells cw.toArray 71)
      have hcl := crashK_length P (fun _ => 512) H.out.len H.out.ok k hk
      have f0 : (wr.alloc (.cells cw.toArray 71)).cell? ⟨p, 0, none⟩ = some (.slice (some ⟨g, 0, none⟩) n n) := hD.c0
      have f5 := via_store 69 69 (wr.alloc (.cells cw.toArray 71)).drew g ((P[k]).1 * 512) _ (byteCells (P[k]).2) hD.dur.drew (by rw [byteCells_length, byteCells_length, hP.2, hcl]; have := hP.1; omega) (by rw [byteCells_length, hP.2]; exact size69) (byteCells_one _)
      rw [← byteCells_splice] at f5
      have hst : splice (crashK D P (fun _ => 512) k) ((P[k]).1 * 512) (P[k]).2 = crashK D P (fun _ => 512) (k + 1) := by
        show _ = splice _ _ _
        rw [List.getD_eq_getElem?_getD, List.getElem?_eq_getElem hlt, Option.getD_some, List.take_of_length_le (by show (P[k]).2.length ≤ 512; omega)]
      rw [hst] at f5
      have HX := Lib.hid (And.intro hD (crashK_length P (fun _ => 512) H.out.len H.out.ok (k + 1) hlt))
      obtain ⟨x1, hx1⟩ : ∃ x1, x1 = (P[k]).1 := ⟨_, rfl⟩
      obtain ⟨x2, hx2⟩ : ∃ x2, x2 = (P[k]).2 := ⟨_, rfl⟩
      obtain ⟨D2, hD2⟩ : ∃ D2, D2 = (byteCells (crashK D P (fun _ => 512) (k + 1))).toArray := ⟨_, rfl⟩
      rw [← hx1] at f3 f5 hP
      rw [← hx2] at f4 f5 hP
      rw [← hD2] at f5
      have HD := Lib.hid hD2
      have hx0 : (0 : Int) ≤ (x1 : Int) := by omega
      have hxn : (x1 : Int) < (n : Int) := by have := hP.1; omega
      clear hD hP hcw hr hx1 hx2 hD2 hst hcl
      have hk' : (k : Int) < (P.length : Int) := by omega
      go_wp2
      go_region
      all_goals
        go_wp2
        go_roundw
        case rel => exact ⟨k + 1, by omega, by go_num, show DiskAt _ _ _ _ _ _ _ _ from HX.out.1.drew.stored HD.out HX.out.2, show Elses _ _ _ from ((HW.out.alloc _).drew).setRow (.inl (.inr (.inl rfl))) _⟩
        case measure => simp [intOf]; omega
    · have hk' : ¬ (k : Int) < (P.length : Int) := by omega
      obtain rfl : k = P.length := by omega
      go_wp2_with (go_at_call 35; refine (drop B p g n _ _ _ _ HB.out).mono ?_; rintro e w1 ⟨rfl, hv', hE⟩)
      go_ret
      exact ⟨rfl, hv', HW.out.trans hE⟩
end Go.Proofs.YthienjmkagediaaM
