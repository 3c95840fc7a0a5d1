/- The contract of a disk's Crash. -/
import Derived.Test.YthienjmkagediaaM6
import Derived.Test.YthienjmkagediaaWMore
set_option linter.unusedVariables false
set_option linter.unusedSimpArgs false
namespace Go.Proofs.YthienjmkagediaaM
open Go.RowKit Go.Proofs.YthienjmkagediaaW.PrintMore
attribute [local go_sem ↓] exec_load71 exec_load69 exec_store71 exec_store69 exec_alloc71 exec_alloc69 exec_build71 exec_one71
attribute [local go_sem] via_alloc71 via_alloc69 via_build71 via_one71
attribute [local go_sem] max2_int min2_int max_two min_two
/-- How much of the k-th pending write is done, by a list of cuts. -/
def cutN (l : List Int) (k : Nat) : Nat := match l[k]? with
  | some c => if c ≤ 0 then 0 else if 512 ≤ c then 512 else c.toNat
  | none => 0
theorem cutN_le (l : List Int) (k : Nat) : cutN l k ≤ 512 := by
  unfold cutN
  split
  · split
    · omega
    · split <;> omega
  · omega
/-- The numbers that a slice of them leads to. -/
def IntsAt (w : World) (v : Value) (l : List Int) : Prop := ∃ a cap, v = .slice a l.length cap ∧ (0 < l.length → ∃ ad, a = some ad ∧ ad.block < w.heap.size ∧ ∀ j (h : j < l.length), w.cell? (ad.add j) = some (.int .i64 l[j]))
theorem mm_eq (c : Int) : (if (512 : Int) < (if (0 : Int) < c then c else 0) then (512 : Int) else (if (0 : Int) < c then c else 0)) = (((if c ≤ 0 then 0 else if 512 ≤ c then 512 else c.toNat) : Nat) : Int) := by
  by_cases h1 : c ≤ 0
  · have h2 : ¬ 0 < c := by omega
    simp [h1, h2]
  · have h2 : 0 < c := by omega
    rw [if_pos h2, if_neg h1]
    by_cases h3 : 512 ≤ c
    · rw [if_pos h3]
      by_cases h4 : 512 < c
      · rw [if_pos h4]; rfl
      · rw [if_neg h4]; omega
    · rw [if_neg h3, if_neg (by omega)]
      omega
theorem add_block (a : Addr) (j : Nat) : (a.add j).block = a.block := by unfold Addr.add; split <;> rfl
set_option maxRecDepth 100000 in
set_option maxHeartbeats 3200000 in
theorem crash_ok (B p g n : Nat) (v : Value) (D : List UInt8) (P : List (Nat × List UInt8)) (w : World) (h : DiskAt w B p g n v D P) (cv : Value) (l : List Int) (hcv : IntsAt w cv l) (hfar : ∀ a n c, cv = .slice (some a) n c → ¬ Own p g v a.block) (hll : l.length ≤ 100000) :
    Calls Try.prog 16 #[.pointer (some ⟨p, 0, none⟩), cv] w fun e w' => e = .returned (.int .i64 0) ∧ (∃ v', DiskAt w' B p g n v' (crashK D P (cutN l) P.length) [] ∧ v'.ownBlock = v.ownBlock) ∧ Elses (Own p g v) w w' := by
  have H := Lib.hid h
  have lp := h.blk.lt
  have lg := h.dur.lt
  have hpg := h.pg
  have hc0 := h.c0
  have hc1 := h.c1
  obtain ⟨sa, cap, rfl, hsa⟩ := pend_form h.pend
  obtain ⟨ca, ccap, rfl, hca⟩ := hcv
  have HS := Lib.hid hsa
  have HC := Lib.hid (And.intro hca hfar)
  have hlen := h.few
  clear h hsa hca hfar
  go_enter Try.func16, Try.ntmps16
  go_wp2_with (go_at_call 33; refine (is_yes p g n _ _ H.out.blk H.out.pos).mono ?_; rintro e w' ⟨rfl, rfl⟩)
  go_loopw [16] (fun iv wr => ∃ k : Nat, k ≤ P.length ∧ iv = .int .i64 (k : Int) ∧ Hid (DiskAt wr B p g n (.slice sa P.length cap) (crashK D P (cutN l) k) P) ∧ Hid (Elses (Own p g (.slice sa P.length cap)) w wr)) (fun iv _ => P.length - (intOf iv).toNat)
  case atStart => exact ⟨0, Nat.zero_le _, rfl, H.out, Elses.refl _ _⟩
  case round =>
    obtain ⟨k, hk, rfl, HB, HW⟩ := hrel
    by_cases hlt : k < P.length
    · obtain ⟨q, rfl⟩ := HS.out (by omega)
      have hP := H.out.ok _ (List.getElem_mem hlt)
      obtain ⟨cw, hcw⟩ : ∃ cw, cw = cellW (P[k]).1 (P[k]).2 := ⟨_, rfl⟩
      have hl : cw.length = 513 := by rw [hcw, cellW_length, hP.2]
      have hr := range_pend HB.out.pend (fun x hx => (H.out.ok x hx).2) k hlt
      rw [← hcw] at hr
      have f1 := via_load71 wr q (k * 513) cw hr hl
      have f2 := via_store71_new wr cw hl (by rw [hcw]; exact cellW_one _ _)
      have f3 : (wr.alloc (.cells cw.toArray 71)).cell? ⟨wr.heap.size, 0, none⟩ = some (.int .i64 ((P[k]).1 : Int)) := by
        rw [(Blk.new wr cw 71).cell, hcw]
        rfl
      obtain ⟨m, hm⟩ : ∃ m, m = cutN l k := ⟨_, rfl⟩
      have hm512 : m ≤ 512 := by rw [hm]; exact cutN_le l k
      have HR := Lib.hid (show ∀ j u, (byteCells ((P[k]).2.take m))[j]? = some u → (wr.alloc (.cells cw.toArray 71)).drew.cell? ((⟨wr.heap.size, 1, none⟩ : Addr).add j) = some u from fun j u hu => by
        show (wr.alloc (.cells cw.toArray 71)).cell? _ = _
        rw [addr_add, (Blk.new wr cw 71).cell, hcw, Nat.add_comm 1]
        rw [byteCells_take, List.getElem?_take] at hu
        split at hu
        · exact hu
        · cases hu)
      have hD := HB.out.alloc (.cells cw.toArray 71)
      have hcl := crashK_length P (cutN l) H.out.len H.out.ok k hk
      have f0 : (wr.alloc (.cells cw.toArray 71)).cell? ⟨p, 0, none⟩ = some (.slice (some ⟨g, 0, none⟩) n n) := hD.c0
      have hst : splice (crashK D P (cutN l) k) ((P[k]).1 * 512) ((P[k]).2.take m) = crashK D P (cutN l) (k + 1) := by
        show _ = splice _ _ _
        rw [List.getD_eq_getElem?_getD, List.getElem?_eq_getElem hlt, Option.getD_some, hm]
      have HX := Lib.hid (And.intro hD (And.intro (crashK_length P (cutN l) H.out.len H.out.ok (k + 1) hlt) (And.intro hst (And.intro hP hcl))))
      have hx0 : (0 : Int) ≤ ((P[k]).1 : Int) := by omega
      have hxn : ((P[k]).1 : Int) < (n : Int) := by have := hP.1; omega
      have hk' : (k : Int) < (P.length : Int) := by omega
      have hm0 : (0 : Int) ≤ (m : Int) := by omega
      have hm1 : (m : Int) ≤ 512 := by omega
      by_cases hkl : k < l.length
      · obtain ⟨ad, rfl, hadl, hcell⟩ := HC.out.1 (by omega)
        have hck : wr.cell? (ad.add k) = some (.int .i64 l[k]) := by
          rw [HW.out.cell (p := ad.add k) (by rw [add_block]; exact hadl) (by rw [add_block]; exact HC.out.2 ad _ _ rfl)]
          exact hcell k hkl
        have hck' : (wr.alloc (.cells cw.toArray 71)).cell? (ad.add k) = some (.int .i64 l[k]) := by
          rw [World.cell?_alloc_lt _ _ _ (World.block_lt_of_cell? _ _ hck)]
          exact hck
        have hmm := mm_eq l[k]
        have e : (if l[k] ≤ 0 then 0 else if 512 ≤ l[k] then 512 else l[k].toNat) = m := by
          rw [hm]
          unfold cutN
          rw [List.getElem?_eq_getElem hkl]
        rw [e] at hmm
        have hkl' : (k : Int) < (l.length : Int) := by omega
        obtain ⟨c, hc⟩ : ∃ c, c = l[k] := ⟨_, rfl⟩
        rw [← hc] at hck' hmm
        clear e hc hck hm hr hcw hD hst hcl hadl hP
        go_wp2
        all_goals
          (go_region_law ((refine step_copy_at rfl (.tmp 39) (.tmp 42) 30 30 (by rfl) 5 Try.underlying30 (by kernel_rfl) g ((P[k]).1 * 512) m 512 (some ⟨wr.heap.size, 1, none⟩) m 512 (by rfl) (by rfl) (byteCells (crashK D P (cutN l) k)) 69 HX.out.1.dur.drew (byteCells ((P[k]).2.take m)) (by rw [byteCells_length, List.length_take, HX.out.2.2.2.1.2, Nat.min_eq_left hm512]; exact (Nat.min_self m).symm) (fun _ => ⟨_, rfl, HR.out⟩) (by rw [byteCells_length, byteCells_length, List.length_take, HX.out.2.2.2.1.2, HX.out.2.2.2.2]; have := HX.out.2.2.2.1.1; omega) (byteCells_one _) ?_; rw [← byteCells_splice, HX.out.2.2.1])))
        all_goals
          go_wp2
          go_roundw
          case rel => exact ⟨k + 1, by omega, by go_num, show DiskAt _ _ _ _ _ _ _ _ from HX.out.1.drew.stored rfl HX.out.2.1, show Elses _ _ _ from ((HW.out.alloc _).drew).setRow (.inl (.inr (.inl rfl))) _⟩
          case measure => simp [intOf]; omega
      · have hkl' : ¬ (k : Int) < (l.length : Int) := by omega
        have hm0' : m = 0 := by
          rw [hm]
          unfold cutN
          rw [List.getElem?_eq_none (by omega)]
        subst hm0'
        clear hm hr hcw hD hst hcl hP
        go_wp2
        all_goals
          (go_region_law ((refine step_copy_at rfl (.tmp 39) (.tmp 42) 30 30 (by rfl) 5 Try.underlying30 (by kernel_rfl) g ((P[k]).1 * 512) 0 512 (some ⟨wr.heap.size, 1, none⟩) 0 512 (by rfl) (by rfl) (byteCells (crashK D P (cutN l) k)) 69 HX.out.1.dur.drew (byteCells ((P[k]).2.take 0)) (by rw [byteCells_length, List.length_take, HX.out.2.2.2.1.2, Nat.min_eq_left hm512]; exact (Nat.min_self 0).symm) (fun _ => ⟨_, rfl, HR.out⟩) (by rw [byteCells_length, byteCells_length, List.length_take, HX.out.2.2.2.1.2, HX.out.2.2.2.2]; have := HX.out.2.2.2.1.1; omega) (byteCells_one _) ?_; rw [← byteCells_splice, HX.out.2.2.1])))
        all_goals
          go_wp2
          go_roundw
          case rel => exact ⟨k + 1, by omega, by go_num, show DiskAt _ _ _ _ _ _ _ _ from HX.out.1.drew.stored rfl HX.out.2.1, show Elses _ _ _ from ((HW.out.alloc _).drew).setRow (.inl (.inr (.inl rfl))) _⟩
          case measure => simp [intOf]; omega
    · have hk' : ¬ (k : Int) < (P.length : Int) := by omega
      obtain rfl : k = P.length := by omega
      go_wp2_with (go_at_call 35; refine (drop B p g n _ _ _ _ HB.out).mono ?_; rintro e w1 ⟨rfl, hv', hE⟩)
      go_ret
      exact ⟨rfl, hv', HW.out.trans hE⟩
end Go.Proofs.YthienjmkagediaaM
