/- The document's disk (outlawref19.Disk): how it lies, and the contracts of its functions. -/
import Derived.Test.YtbbnjnpbaekfgaaEy
import Derived.Deep.RegionHeldLaw
import Derived.StillTailTactics
/- The document's disk (outlawref19.Disk), as it lies; Noughts and Join. -/
set_option linter.unusedVariables false
set_option linter.unusedSimpArgs false
namespace Go.Proofs.YtbbnjnpbaekfgaaM
open Go.RowKit Go.Proofs.YtbbnjnpbaekfgaaW.PrintMore
/-- The sectors, as strings. -/
def secStrs (D : List UInt8) (n : Nat) : List Value := (List.range n).map fun i => .string (bs (sec D i))
/-- What is pending, as numbers and strings. -/
def encS (P : List (Nat × List UInt8)) : List Value := P.flatMap fun x => [.int .i64 (x.1 : Int), .string (bs x.2)]
/-- The document's disk of n sectors at block p, its sectors under v, what is pending under u. -/
structure RefAt (w : World) (B p n : Nat) (v u : Value) (D : List UInt8) (P : List (Nat × List UInt8)) : Prop where
  blk : Blk w p [v, u] 68
  dur : w.ownsRow B 9 1 v n (secStrs D n)
  pend : w.ownsRow B 103 2 u P.length (encS P)
  len : D.length = n * 512
  pos : 0 < n
  top : n ≤ 1024
  ok : ∀ x ∈ P, x.1 < n ∧ x.2.length = 512
  few : P.length ≤ 100000
  bp : B ≤ p
/-- The blocks that are its own. -/
def ROwn (p : Nat) (v u : Value) (k : Nat) : Prop := k = p ∨ v.ownBlock = some k ∨ u.ownBlock = some k
theorem RefAt.kept {w w' : World} {B p n : Nat} {v u : Value} {D : List UInt8} {P : List (Nat × List UInt8)} {S : Nat → Prop} (h : RefAt w B p n v u D P) (hE : Elses S w w') (hS : ∀ k, ROwn p v u k → ¬ S k) : RefAt w' B p n v u D P :=
  { h with blk := h.blk.kept hE (hS p (.inl rfl)), dur := ownsRow_kept h.dur hE fun k hk => hS k (.inr (.inl hk)), pend := ownsRow_kept h.pend hE fun k hk => hS k (.inr (.inr hk)) }
theorem RefAt.drew {w : World} {B p n : Nat} {v u : Value} {D : List UInt8} {P : List (Nat × List UInt8)} (h : RefAt w B p n v u D P) : RefAt w.drew B p n v u D P :=
  h.kept (S := fun _ => False) ((Elses.refl _ w).drew) fun _ _ h => h
theorem RefAt.alloc {w : World} {B p n : Nat} {v u : Value} {D : List UInt8} {P : List (Nat × List UInt8)} (h : RefAt w B p n v u D P) (o : Obj) : RefAt (w.alloc o) B p n v u D P :=
  h.kept (S := fun _ => False) ((Elses.refl _ w).alloc o) fun _ _ h => h
theorem RefAt.lt {w : World} {B p n : Nat} {v u : Value} {D : List UInt8} {P : List (Nat × List UInt8)} (h : RefAt w B p n v u D P) : ∀ k, ROwn p v u k → B ≤ k ∧ k < w.heap.size := by
  intro k hk
  rcases hk with rfl | hk | hk
  · exact ⟨h.bp, h.blk.lt⟩
  · exact h.dur.lt k hk
  · exact h.pend.lt k hk
theorem RefAt.new {w w' : World} {B p n : Nat} {v u : Value} {D : List UInt8} {P : List (Nat × List UInt8)} (h : RefAt w B p n v u D P) (hb : Below w.heap.size w w') : RefAt w' B p n v u D P :=
  h.kept (S := fun k => w.heap.size ≤ k) (.of_below' hb) fun k hk => by have := (h.lt k hk).2; omega
theorem RefAt.base {a : World} {B p n : Nat} {v u : Value} {D : List UInt8} {P : List (Nat × List UInt8)} (h : RefAt a B p n v u D P) : B ≤ a.heap.size := by have := h.bp; have := h.blk.lt; omega
theorem RefAt.step {a b : World} {B p n : Nat} {v u : Value} {D : List UInt8} {P : List (Nat × List UInt8)} (h : RefAt a B p n v u D P) (he : Elses (ROwn p v u) a b) : Below B a b :=
  he.below h.base fun i hi => (h.lt i hi).1
theorem secStrs_length (D : List UInt8) (n : Nat) : (secStrs D n).length = n := by simp [secStrs]
theorem secStrs_get (D : List UInt8) (n i : Nat) (h : i < n) : (secStrs D n)[i]? = some (.string (bs (sec D i))) := by
  unfold secStrs
  rw [List.getElem?_map, List.getElem?_range h]
  rfl
theorem encS_length (P : List (Nat × List UInt8)) : (encS P).length = P.length * 2 := by
  induction P with
  | nil => rfl
  | cons x r ih =>
    show ([_, _] ++ encS r).length = _
    rw [List.length_append, ih, List.length_cons]
    simp
    omega
theorem encS_snoc (P : List (Nat × List UInt8)) (k : Nat) (b : List UInt8) : encS (P ++ [(k, b)]) = encS P ++ [.int .i64 (k : Int), .string (bs b)] := by simp [encS]
theorem encS_get (P : List (Nat × List UInt8)) (k : Nat) (h : k < P.length) : (encS P)[k * 2]? = some (.int .i64 ((P[k]).1 : Int)) ∧ (encS P)[k * 2 + 1]? = some (.string (bs (P[k]).2)) := by
  induction P generalizing k with
  | nil => exact absurd h (by simp)
  | cons x r ih =>
    cases k with
    | zero => exact ⟨rfl, rfl⟩
    | succ k =>
      have := ih k (by simpa using h)
      show ([_, _] ++ encS r)[(k + 1) * 2]? = _ ∧ ([_, _] ++ encS r)[(k + 1) * 2 + 1]? = _
      rw [List.getElem?_append_right (by simp; omega), List.getElem?_append_right (by simp; omega)]
      simpa [show (k + 1) * 2 - 2 = k * 2 by omega, show (k + 1) * 2 + 1 - 2 = k * 2 + 1 by omega] using this
/-- No block of the one is a block of the other: they are of other types. -/
theorem far_ref {w : World} {B p g n : Nat} {v : Value} {D : List UInt8} {P : List (Nat × List UInt8)} (h : DiskAt w B p g n v D P) {B' p' n' : Nat} {v' u' : Value} {D' : List UInt8} {P' : List (Nat × List UInt8)} (k : RefAt w B' p' n' v' u' D' P') : ∀ q, ROwn p' v' u' q → ¬ Own p g v q := by
  intro q hq
  rcases hq with rfl | hq | hq
  · exact fun hk => not_own_type h k.blk (by decide) (by decide) (by decide) hk
  · exact own_far h k.dur (by decide) (by decide) (by decide) q hq
  · exact own_far h k.pend (by decide) (by decide) (by decide) q hq
attribute [local go_sem ↓] exec_conv
set_option maxHeartbeats 400000 in
theorem noughtS (m : Nat) (hm : m ≤ 1000) (w : World) : Calls Try.prog 58 #[.int .i64 (m : Int)] w fun e w' => e = .returned (.string (bs (zeros m))) ∧ Below w.heap.size w w' := by
  have h0 : (0 : Int) ≤ (m : Int) := by omega
  have hc : (ConvVia (.slice (some ⟨w.heap.size, 0, none⟩) m m)).run Try.prog (w.alloc (.cells (byteCells (zeros m)).toArray 5)) = .ok (.value (.string (bs (zeros m)))) (w.alloc (.cells (byteCells (zeros m)).toArray 5)) := by
    have := conv_cells (w := w.alloc (.cells (byteCells (zeros m)).toArray 5)) (a := ⟨w.heap.size, 0, none⟩) (l := zeros m) (c := m) fun j u hu => by
      rw [addr_add, Nat.zero_add, World.cell?_alloc_mark]
      simpa using hu
    rw [zeros_length] at this
    exact this
  have hmk := run_makeB w m (by omega)
  rcases Nat.eq_zero_or_pos m with rfl | hp
  · have hmk0 : (Instr.makeSlice 37 (.int .i64 0) (.int .i64 0)).run Try.prog w = .ok (.slice (some ⟨w.heap.size, 0, none⟩) 0 0) (w.alloc (.cells (byteCells (zeros 0)).toArray 5)) := hmk
    clear hmk h0
    go_enter Try.func58, Try.ntmps58
    go_wp2
    go_ret
    exact ⟨rfl, (Below.refl _ w).alloc (Nat.le_refl _) _⟩
  · have hp' : (0 : Int) < (m : Int) := by omega
    go_enter Try.func58, Try.ntmps58
    go_wp2
    go_ret
    exact ⟨rfl, (Below.refl _ w).alloc (Nat.le_refl _) _⟩
/-- The sectors' bytes, up to k. -/
theorem flat_succ (D : List UInt8) (k : Nat) : (List.range (k + 1)).flatMap (sec D) = (List.range k).flatMap (sec D) ++ sec D k := by
  rw [List.range_succ, List.flatMap_append]
  simp
theorem flat_all (D : List UInt8) (n : Nat) (h : D.length = n * 512) : ∀ k, k ≤ n → (List.range k).flatMap (sec D) = D.take (k * 512)
  | 0, _ => by simp
  | k + 1, hk => by rw [flat_succ, flat_all D n h k (by omega), take_sec D n k h (by omega)]
set_option maxHeartbeats 800000 in
theorem join_ok (g c n : Nat) (D : List UInt8) (w : World) (hn : n ≤ 1024) (hD : D.length = n * 512) (hc : ∀ j, j < n → w.cell? ⟨g, j, none⟩ = some (.string (bs (sec D j)))) (hg : g < w.heap.size) :
    Calls Try.prog 62 #[.slice (some ⟨g, 0, none⟩) n c] w fun e w' => e = .returned (.string (bs D)) ∧ Below w.heap.size w w' := by
  have HC := Lib.hid (And.intro hc (And.intro hg hD))
  obtain ⟨i5, hi0, hz0, hz1, hz2⟩ := info_parts info5
  have HI := Lib.hid (And.intro hi0 (And.intro hz0 (And.intro hz1 hz2)))
  clear hi0 hz0 hz1 hz2 hc hg hD
  go_enter Try.func62, Try.ntmps62
  go_wp2_with fail
  go_loopw [3, 4] (fun ov iv wr => ∃ k : Nat, k ≤ n ∧ iv = .int .i64 (k : Int) ∧ Hid (wr.ownsRow w.heap.size 5 1 ov (k * 512) (byteCells ((List.range k).flatMap (sec D)))) ∧ Hid (Below w.heap.size w wr)) (fun _ iv _ => n - (intOf iv).toNat)
  case atStart => exact ⟨0, Nat.zero_le _, rfl, World.ownsRow_nil _ _ _ _, Below.refl _ _⟩
  case round =>
    obtain ⟨k, hk, rfl, HO, HW⟩ := hrel
    obtain ⟨wi, rfl⟩ : ∃ wi, wi = wr := ⟨wr, rfl⟩
    by_cases hlt : k < n
    · have hk' : (k : Int) < (n : Int) := by omega
      have hck : wi.cell? ⟨g, k, none⟩ = some (.string (bs (sec D k))) := (HW.out.cell (p := ⟨g, k, none⟩) HC.out.2.1).trans (HC.out.1 k hlt)
      have HL := Lib.hid (sec_length HC.out.2.2 hlt)
      have hbase := HW.out.size
      go_wp2_with (at_builtin; refine Lib.wpList_append_own_string _ rfl _ _ 37 9 rfl w.heap.size 5 i5 Try.underlying37 Try.underlying9 HI.out.1 HI.out.2.1 HI.out.2.2.1 HI.out.2.2.2 u3 (k * 512) (byteCells ((List.range k).flatMap (sec D))) rfl HO.out (bs (sec D k)) rfl (by rw [bs_size, HL.out]; unfold maxLen; omega) (by rw [bs_size, HL.out]; omega) hbase ?_; intro v6 w6 hown hgrow _; rw [bs_size, HL.out, strCells_bs, ← byteCells_append, ← flat_succ] at hown; have HE6 := Lib.hid (HW.out.grown hgrow hbase fun q hq => (HO.out.lt q hq).1); have HO6 := Lib.hid hown; clear hown hgrow)
      go_wp2
      go_roundw
      case rel => exact ⟨k + 1, by omega, by go_num, show World.ownsRow _ _ _ _ _ _ _ by rw [show (k + 1) * 512 = k * 512 + 512 by omega]; exact HO6.out, HE6.out⟩
      case measure => simp [intOf]; omega
    · have hk' : ¬ (k : Int) < (n : Int) := by omega
      obtain rfl : k = n := by omega
      have hcv := conv_own (show wi.ownsRow w.heap.size 5 1 u3 D.length (byteCells D) by have := HO.out; rw [flat_all D k HC.out.2.2 k (Nat.le_refl _), List.take_of_length_le (by rw [HC.out.2.2]; omega), ← HC.out.2.2] at this; exact this)
      go_wp2
      go_ret
      exact ⟨rfl, HW.out⟩
end Go.Proofs.YtbbnjnpbaekfgaaM
/- The document's disk: New, Of. -/
set_option linter.unusedVariables false
set_option linter.unusedSimpArgs false
namespace Go.Proofs.YtbbnjnpbaekfgaaM
open Go.RowKit Go.Proofs.YtbbnjnpbaekfgaaW.PrintMore
theorem nought_512 (w : World) : Calls Try.prog 58 #[.int .i64 512] w fun e w' => e = .returned (.string (bs (zeros 512))) ∧ Below w.heap.size w w' := noughtS 512 (by decide) w
theorem sec_zero {n i : Nat} (h : i < n) : sec (zeros (n * 512)) i = zeros 512 := by
  unfold sec zeros
  rw [List.drop_replicate, List.take_replicate]
  congr 1
  omega
theorem secStrs_zero (n : Nat) : secStrs (zeros (n * 512)) n = List.replicate n (.string (bs (zeros 512))) := by
  apply List.ext_getElem
  · rw [secStrs_length, List.length_replicate]
  · intro i h1 h2
    rw [secStrs_length] at h1
    have := secStrs_get (zeros (n * 512)) n i h1
    rw [sec_zero h1] at this
    rw [List.getElem_replicate]
    rw [List.getElem?_eq_getElem (by rw [secStrs_length]; exact h1)] at this
    exact Option.some.inj this
end Go.Proofs.YtbbnjnpbaekfgaaM
/- The document's disk: Of. -/
set_option linter.unusedVariables false
set_option linter.unusedSimpArgs false
namespace Go.Proofs.YtbbnjnpbaekfgaaM
open Go.RowKit Go.Proofs.YtbbnjnpbaekfgaaW.PrintMore
theorem refof_bad (s : ByteArray) (h : s.size / 512 < 1 ∨ 1024 < s.size / 512 ∨ s.size % 512 ≠ 0) (hm : s.size ≤ 140737488351232) (w : World) : Calls Try.prog 36 #[.string s] w fun e w' => e = .returned (.tuple #[.pointer none, .int .i64 2]) ∧ w = w' := by
  obtain ⟨q, hq⟩ : ∃ q, q = s.size / 512 := ⟨_, rfl⟩
  have h4 : (s.size : Int) / 512 = (q : Int) := by omega
  have hw : wrap64 (q : Int) = (q : Int) := by unfold wrap64; omega
  rw [← hq] at h
  clear hq hm
  by_cases h1 : q < 1
  · have h1' : (q : Int) < 1 := by omega
    clear h
    go_enter Try.func36, Try.ntmps36
    go_wp2
    all_goals
      go_ret2
      exact ⟨rfl, rfl⟩
  · have h1' : (1 : Int) ≤ (q : Int) := by omega
    by_cases h2 : 1024 < q
    · have h2' : (1024 : Int) < (q : Int) := by omega
      clear h
      by_cases h5 : s.size % 512 = 0
      · have h3 : ((s.size : Int) % 512 == 0) = true := by rw [beq_iff_eq]; omega
        have h3' : ((s.size : Int) % 512 != 0) = false := by rw [bne_eq_false_iff_eq]; omega
        have h3'' : (s.size : Int) % 512 = 0 := by omega
        clear h5
        go_enter Try.func36, Try.ntmps36
        go_wp2
        go_ret2
        exact ⟨rfl, rfl⟩
      · have h3 : ((s.size : Int) % 512 == 0) = false := by rw [beq_eq_false_iff_ne]; omega
        have h3' : ((s.size : Int) % 512 != 0) = true := by rw [bne_iff_ne]; omega
        have h3'' : ¬ ((s.size : Int) % 512 = 0) := by omega
        clear h5
        go_enter Try.func36, Try.ntmps36
        go_wp2
        go_ret2
        exact ⟨rfl, rfl⟩
    · have h2' : (q : Int) ≤ 1024 := by omega
      have h3 : ((s.size : Int) % 512 == 0) = false := by rw [beq_eq_false_iff_ne]; omega
      have h3' : ((s.size : Int) % 512 != 0) = true := by rw [bne_iff_ne]; omega
      have h3'' : ¬ ((s.size : Int) % 512 = 0) := by omega
      clear h
      go_enter Try.func36, Try.ntmps36
      go_wp2
      all_goals
        go_ret2
        exact ⟨rfl, rfl⟩
theorem bs_sec (D : List UInt8) (k : Nat) : (bs D).extract (k * 512) ((k + 1) * 512) = bs (sec D k) := by
  apply ByteArray.ext
  apply Array.toList_inj.1
  simp [bs, sec]
  rw [show (k + 1) * 512 - k * 512 = 512 by omega]
theorem secStrs_succ (D : List UInt8) (k : Nat) : secStrs D (k + 1) = secStrs D k ++ [.string (bs (sec D k))] := by simp [secStrs, List.range_succ]
theorem own_drew {w : World} {B e size n : Nat} {v : Value} {xs : List Value} (h : w.ownsRow B e size v n xs) : w.drew.ownsRow B e size v n xs := h
set_option maxHeartbeats 800000 in
theorem refof_ok (D : List UInt8) (n : Nat) (hD : D.length = n * 512) (h1 : 1 ≤ n) (h2 : n ≤ 1024) (w : World) :
    Calls Try.prog 36 #[.string (bs D)] w fun e w' => e = .returned (.tuple #[.pointer (some ⟨w.heap.size, 0, none⟩), .int .i64 0]) ∧ (∃ v, RefAt w' w.heap.size w.heap.size n v (.slice none 0 0) D []) ∧ Below w.heap.size w w' := by
  have hn1 : (1 : Int) ≤ (n : Int) := by omega
  have hn2 : (n : Int) ≤ 1024 := by omega
  have hsz : (bs D).size = n * 512 := by rw [bs_size, hD]
  obtain ⟨i9, hi0, hz0, hz1, hz2⟩ := info_parts info9
  have HI := Lib.hid (And.intro hi0 (And.intro hz0 (And.intro hz1 (And.intro hz2 hD))))
  have hsec : ∀ k, (bs D).extract (k * 512) ((k + 1) * 512) = bs (sec D k) := bs_sec D
  have HSE := Lib.hid hsec
  obtain ⟨s, hs⟩ : ∃ s, s = bs D := ⟨_, rfl⟩
  rw [← hs] at hsz HSE ⊢
  clear hi0 hz0 hz1 hz2 hD hsec hs
  have h3 : ((s.size : Int) % 512 == 0) = true := by rw [beq_iff_eq]; omega
  have h3' : ((s.size : Int) % 512 != 0) = false := by rw [bne_eq_false_iff_eq]; omega
  have h3'' : (s.size : Int) % 512 = 0 := by omega
  have h4 : (s.size : Int) / 512 = (n : Int) := by omega
  have HS := Lib.hid hsz
  clear hsz
  go_enter Try.func36, Try.ntmps36
  go_wp2_with fail
  go_loopw [6] (fun iv wr => ∃ (k : Nat) (v : Value), k ≤ n ∧ iv = .int .i64 (k : Int) ∧ Hid (Blk wr w.heap.size [v, .slice none 0 0] 68) ∧ Hid (wr.ownsRow w.heap.size 9 1 v k (secStrs D k)) ∧ Hid (Below w.heap.size w wr)) (fun iv _ => n - (intOf iv).toNat)
  case atStart => exact ⟨0, _, Nat.zero_le _, rfl, Blk.new _ _ _, World.ownsRow_nil _ _ _ _, (Below.refl _ w).alloc (Nat.le_refl _) _⟩
  case round =>
    obtain ⟨k, v, hk, rfl, HK, HO, HW⟩ := hrel
    obtain ⟨wi, rfl⟩ : ∃ wi, wi = wr := ⟨wr, rfl⟩
    by_cases hlt : k < n
    · have hk' : (k : Int) < (n : Int) := by omega
      have hk0 : (0 : Int) ≤ (k : Int) := by omega
      have HSk := HS.out
      have b0 : (0 : Int) ≤ (k : Int) * 512 := by omega
      have b1 : (k : Int) * 512 ≤ ((k : Int) + 1) * 512 := by omega
      have b2 : ((k : Int) + 1) * 512 ≤ (s.size : Int) := by omega
      have b3 : (k : Int) * 512 ≤ (s.size : Int) := by omega
      have b4 : IntKind.i64.wrap ((k : Int) * 512) = (k : Int) * 512 := by rw [IntKind.wrap_i64]; omega
      have b6 : IntKind.i64.wrap (((k : Int) + 1) * 512) = ((k : Int) + 1) * 512 := by rw [IntKind.wrap_i64]; omega
      have b10 : IntKind.i64.wrap ((k : Int) + 1) = (k : Int) + 1 := by rw [IntKind.wrap_i64]; omega
      have b5 : ((k : Int) * 512).toNat = k * 512 := by omega
      have b7 : (((k : Int) + 1) * 512).toNat = (k + 1) * 512 := by omega
      have b8 : (0 : Int) ≤ ((k : Int) + 1) * 512 := by omega
      have b9 := HSE.out k
      have hsl := run_slice_string (P := Try.prog) wi.drew 9 s .i64 .i64 ((k : Int) * 512) (((k : Int) + 1) * 512) Try.underlying9 b0 b1 b2
      rw [b5, b7, b9] at hsl
      clear HSk b5 b7 b9 b8 b3 b2 b1 b0
      go_wp2_with fail
      have hcS : wi.drew.cell? ⟨w.heap.size, 0, none⟩ = some v := HK.out.cell 0
      have hcA : (wi.alloc (.cells #[.string (bs (sec D k))] 9)).cell? ⟨w.heap.size, 0, none⟩ = some v := (HK.out.alloc _).cell 0
      go_region_law ((refine step_append_lies _ (by rfl) _ _ _ (by rfl) w.heap.size 9 i9 (.string ⟨#[]⟩) 1 16 Try.underlying34 HI.out.1 HI.out.2.1 HI.out.2.2.1 HI.out.2.2.2.1 (by rfl) (by decide) v k (secStrs D k) (by rfl) ((own_drew HO.out).alloc _) ⟨wi.heap.size, 0, none⟩ 1 1 [.string (bs (sec D k))] (by rfl) (by rfl) (cell_one_new _ _ _) (by intro u hu; rw [List.mem_singleton.1 hu]; rfl) (by decide) (by unfold maxLen; omega) (by omega) (by have := HW.out.size; simp; omega) (wi.heap.size + 1) (by simp) ?_; intro gg cc wx hown hgrow hat hlt1; have HK1 := Lib.hid ((HK.out.drew.alloc (.cells #[.string (bs (sec D k))] 9)).kept ((Elses.refl (fun q => v.ownBlock = some q) _).grown hgrow fun q hq => .inl hq) (row_ne HO.out HK.out (by decide))); have hf1 := HK1.out.frozen 0; have hcx := HK1.out.cell 0; have H1 := Lib.hid (And.intro hown ((HW.out.drew.alloc HW.out.size (.cells #[.string (bs (sec D k))] 9)).grown hgrow (by have := HW.out.size; simp; omega) fun q hq => (HO.out.lt q hq).1)); clear hown hgrow hat hlt1))
      all_goals
        go_wp2
        go_roundw
        case rel => exact ⟨k + 1, .slice (some ⟨gg, 0, none⟩) (k + 1) cc, by omega, by go_num, show Blk _ _ _ _ from HK1.out.set 0 _, show World.ownsRow _ _ _ _ _ _ _ by rw [secStrs_succ]; exact ownsRow_kept H1.out.1 ((Elses.refl (fun q => q = w.heap.size) wx).set (.inl rfl) _) (fun q hq e => row_ne H1.out.1 HK1.out (by decide) (e ▸ hq)), show Below _ _ _ from H1.out.2.setCell (p := ⟨w.heap.size, 0, none⟩) (Nat.le_refl _) _⟩
        case measure => simp [intOf]; omega
    · have hk' : ¬ (k : Int) < (n : Int) := by omega
      obtain rfl : k = n := by omega
      go_wp2
      go_ret2
      exact ⟨rfl, ⟨v, ⟨HK.out, HO.out, World.ownsRow_nil _ _ _ _, HI.out.2.2.2.2, h1, h2, fun x hx => absurd hx (by simp), by simp, Nat.le_refl _⟩⟩, HW.out⟩
end Go.Proofs.YtbbnjnpbaekfgaaM
/- The document's disk: Write. -/
set_option linter.unusedVariables false
set_option linter.unusedSimpArgs false
namespace Go.Proofs.YtbbnjnpbaekfgaaM
open Go.RowKit Go.Proofs.YtbbnjnpbaekfgaaW.PrintMore
theorem info74 : (Try.prog.info? 103).map (fun i => (i.zero, i.size, i.bytes)) = some (some (.agg #[.int .i64 0, .string ⟨#[]⟩]), 2, 24) := by kernel_rfl
theorem RefAt.c0 {w : World} {B p n : Nat} {v u : Value} {D : List UInt8} {P : List (Nat × List UInt8)} (h : RefAt w B p n v u D P) : w.cell? ⟨p, 0, none⟩ = some v := h.blk.cell 0
theorem RefAt.c1 {w : World} {B p n : Nat} {v u : Value} {D : List UInt8} {P : List (Nat × List UInt8)} (h : RefAt w B p n v u D P) : w.cell? ⟨p, 1, none⟩ = some u := h.blk.cell 1
theorem refwrite_out (B p n : Nat) (v u : Value) (D : List UInt8) (P : List (Nat × List UInt8)) (w : World) (h : RefAt w B p n v u D P) (k : Int) (hk : k < 0 ∨ (n : Int) ≤ k) (s : ByteArray) :
    Calls Try.prog 60 #[.pointer (some ⟨p, 0, none⟩), .int .i64 k, .string s] w fun e w' => e = .returned (.int .i64 2) ∧ w = w' := by
  have h0 := h.c0
  obtain ⟨gd, cd, rfl, _, _⟩ := h.dur.form h.pos
  have hn := h.top
  clear h
  rcases hk with hk | hk
  · go_enter Try.func60, Try.ntmps60
    go_wp2
    go_ret
    exact ⟨rfl, rfl⟩
  · have h1 : (0 : Int) ≤ k := by omega
    go_enter Try.func60, Try.ntmps60
    go_wp2
    go_ret
    exact ⟨rfl, rfl⟩
theorem refwrite_long (B p n : Nat) (v u : Value) (D : List UInt8) (P : List (Nat × List UInt8)) (w : World) (h : RefAt w B p n v u D P) (k : Nat) (hk : k < n) (s : ByteArray) (hs : 512 < s.size) :
    Calls Try.prog 60 #[.pointer (some ⟨p, 0, none⟩), .int .i64 (k : Int), .string s] w fun e w' => e = .returned (.int .i64 4) ∧ w = w' := by
  have h0 := h.c0
  obtain ⟨gd, cd, rfl, _, _⟩ := h.dur.form h.pos
  have hn := h.top
  clear h
  have hs' : (512 : Int) < (s.size : Int) := by omega
  have hk' : (k : Int) < (n : Int) := by omega
  go_enter Try.func60, Try.ntmps60
  go_wp2
  go_ret
  exact ⟨rfl, rfl⟩
theorem own_alloc {w : World} {B e size n : Nat} {v : Value} {xs : List Value} (h : w.ownsRow B e size v n xs) (o : Obj) : (w.alloc o).ownsRow B e size v n xs := h.alloc o
theorem cells_new (w : World) (cs : Array Value) (t : TypeId) : ∀ j u, cs.toList[j]? = some u → (w.alloc (.cells cs t)).cell? ((⟨w.heap.size, 0, none⟩ : Addr).add j) = some u := fun j u hu => by
  rw [addr_add, Nat.zero_add, World.cell?_alloc_mark]
  simpa using hu
theorem refwrite_end {w wc wx : World} {B p n : Nat} {v u : Value} {D : List UInt8} {P : List (Nat × List UInt8)} (h : RefAt wc B p n v u D P) (hb : Below w.heap.size w wc) (o : Obj) (k : Nat) (L : List UInt8) (hk : k < n) (hL : L.length = 512) (hP : P.length < 100000) (gg cc : Nat)
    (hg : (wc.alloc o).grownBy wx u.ownBlock) (hown : wx.ownsRow B 103 2 (.slice (some ⟨gg, 0, none⟩) (P.length + 1) cc) (P.length + 1) (encS P ++ [.int .i64 (k : Int), .string (bs L)])) (hgg : u.ownBlock = some gg ∨ gg = wc.heap.size + 1) (nup : u.ownBlock ≠ some p) :
    (∃ u', RefAt (wx.setCell ⟨p, 1, none⟩ (.slice (some ⟨gg, 0, none⟩) (P.length + 1) cc)) B p n v u' D (P ++ [(k, L)]) ∧ (u'.ownBlock = u.ownBlock ∨ ∃ q, w.heap.size ≤ q ∧ u'.ownBlock = some q)) ∧ Elses (ROwn p v u) w (wx.setCell ⟨p, 1, none⟩ (.slice (some ⟨gg, 0, none⟩) (P.length + 1) cc)) := by
  have hE1 : Elses (fun q => u.ownBlock = some q) (wc.alloc o) wx := (Elses.refl _ _).grown hg fun q hq => .inl hq
  have hE2 : Elses (fun q => u.ownBlock = some q) w wx := ((Elses.of_below' hb).alloc o).grown hg fun q hq => .inl hq
  have hbx := (h.blk.alloc o).kept hE1 nup
  have hdx := ownsRow_kept (h.alloc o).dur hE1 (rows_ne h.dur h.pend (by decide))
  have hlp := h.blk.lt
  refine ⟨⟨.slice (some ⟨gg, 0, none⟩) (P.length + 1) cc, { h with blk := hbx.set 1 _, dur := ?_, pend := ?_, ok := ?_, few := ?_ }, ?_⟩, ?_⟩
  · exact ownsRow_kept hdx ((Elses.refl (fun q => q = p) wx).set (.inl rfl) _) fun q hq e => row_ne hdx hbx (by decide) (e ▸ hq)
  · rw [encS_snoc, List.length_append]
    exact ownsRow_kept hown ((Elses.refl (fun q => q = p) wx).set (.inl rfl) _) fun q hq e => row_ne hown hbx (by decide) (e ▸ hq)
  · intro x hx
    rcases List.mem_append.1 hx with hx | hx
    · exact h.ok x hx
    · obtain rfl := List.mem_singleton.1 hx
      exact ⟨hk, hL⟩
  · rw [List.length_append]
    exact hP
  · rcases hgg with e | e
    · exact .inl e.symm
    · exact .inr ⟨gg, by have := hb.size; omega, rfl⟩
  · exact (hE2.mono fun i hi => .inr (.inr hi)).set (.inl (.inl rfl)) _
set_option maxHeartbeats 800000 in
theorem refwrite_ok (B p n : Nat) (v u : Value) (D : List UInt8) (P : List (Nat × List UInt8)) (w : World) (h : RefAt w B p n v u D P) (k : Nat) (hk : k < n) (l : List UInt8) (hl : l.length ≤ 512) (hP : P.length < 100000) :
    Calls Try.prog 60 #[.pointer (some ⟨p, 0, none⟩), .int .i64 (k : Int), .string (bs l)] w fun e w' => e = .returned (.int .i64 0) ∧ (∃ u', RefAt w' B p n v u' D (P ++ [(k, l ++ zeros (512 - l.length))]) ∧ (u'.ownBlock = u.ownBlock ∨ ∃ q, w.heap.size ≤ q ∧ u'.ownBlock = some q)) ∧ Elses (ROwn p v u) w w' := by
  have h0 := h.c0
  obtain ⟨gd, cd, rfl, _, _⟩ := h.dur.form h.pos
  have H := Lib.hid h
  have hn := h.top
  have nup : u.ownBlock ≠ some p := row_ne h.pend h.blk (by decide)
  have lp := h.blk.lt
  clear h
  obtain ⟨i74, hi0, hz0, hz1, hz2⟩ := info_parts info74
  have HI := Lib.hid (And.intro hi0 (And.intro hz0 (And.intro hz1 hz2)))
  clear hi0 hz0 hz1 hz2
  obtain ⟨m, hm⟩ : ∃ m, l.length + m = 512 := ⟨512 - l.length, by omega⟩
  have hm1 : 512 - l.length = m := by omega
  rw [hm1]
  obtain ⟨L, hL⟩ : ∃ L, L = l ++ zeros m := ⟨_, rfl⟩
  have hcat : bs l ++ bs (zeros m) = bs L := by rw [hL]; exact bs_append l (zeros m)
  have HL := Lib.hid (show L.length = 512 by rw [hL, List.length_append, zeros_length]; exact hm)
  rw [← hL]
  have hk' : (k : Int) < (n : Int) := by omega
  have hsz : (bs l).size = l.length := bs_size l
  have hzz : (bs (zeros m)).size = m := by rw [bs_size, zeros_length]
  have hl' : (l.length : Int) ≤ 512 := by omega
  have hwm : IntKind.i64.wrap (m : Int) = (m : Int) := by rw [IntKind.wrap_i64]; omega
  have hwm2 : (512 : Int) - (l.length : Int) = (m : Int) := by omega
  have hsum : (9223372036854775807 < l.length + m) = False := eq_false (by omega)
  have HM := Lib.hid (show m ≤ 1000 by omega)
  clear hL hm hm1
  go_enter Try.func60, Try.ntmps60
  go_wp2_with fail
  have hc1 : w.drew.cell? ⟨p, 1, none⟩ = some u := H.out.c1
  go_region_law (first
    | (refine step_append_lies _ (by rfl) _ _ _ (by rfl) B 103 i74 (.agg #[.int .i64 0, .string ⟨#[]⟩]) 2 24 Try.underlying66 HI.out.1 HI.out.2.1 HI.out.2.2.1 HI.out.2.2.2 (by rfl) (by decide) u P.length (encS P) (by rfl) (own_alloc HC.out.1.pend _) ⟨wc.heap.size, 0, none⟩ 1 1 [.int .i64 (k : Int), .string (bs L)] (by rfl) (by rfl) (cells_new _ _ _) (by intro x hx; rcases List.mem_cons.1 hx with rfl | hx; rfl; rw [List.mem_singleton.1 hx]; rfl) (by decide) (by unfold maxLen; omega) (by omega) (by have := HC.out.1.base; simp; omega) (wc.heap.size + 1) (by simp) ?_; intro gg cc wx hown hgrow hat hlt1; have HG := Lib.hid (And.intro hown (And.intro hgrow hat)); have hb1 := (HC.out.1.blk.alloc (.cells #[.int .i64 (k : Int), .string (bs L)] 103)).kept ((Elses.refl (fun q => u.ownBlock = some q) _).grown hgrow fun q hq => .inl hq) nup; have hf1 := hb1.frozen 1; have hcx := hb1.cell 1; clear hown hgrow hat hlt1 hb1)
    | (go_simp; go_at_call 58; refine (noughtS m HM.out _).mono ?_; rintro e wc ⟨rfl, hbc⟩; have HC := Lib.hid (And.intro (H.out.drew.new hbc) hbc); have hcc := HC.out.1.c1; have hcA := (HC.out.1.alloc (.cells #[.int .i64 (k : Int), .string (bs L)] 103)).c1; clear hbc))
  all_goals
    go_wp2
    go_ret
    exact ⟨rfl, refwrite_end HC.out.1 ((Below.refl _ w).drew.trans HC.out.2) _ k L hk HL.out hP gg cc HG.out.2.1 HG.out.1 HG.out.2.2 nup⟩
end Go.Proofs.YtbbnjnpbaekfgaaM
/- The document's disk: Read. -/
set_option linter.unusedVariables false
set_option linter.unusedSimpArgs false
namespace Go.Proofs.YtbbnjnpbaekfgaaM
open Go.RowKit Go.Proofs.YtbbnjnpbaekfgaaW.PrintMore
theorem refread_out (B p n : Nat) (v u : Value) (D : List UInt8) (P : List (Nat × List UInt8)) (w : World) (h : RefAt w B p n v u D P) (k : Int) (hk : k < 0 ∨ (n : Int) ≤ k) :
    Calls Try.prog 59 #[.pointer (some ⟨p, 0, none⟩), .int .i64 k] w fun e w' => e = .returned (.tuple #[.string ⟨#[]⟩, .int .i64 2]) ∧ w = w' := by
  have h0 := h.c0
  obtain ⟨gd, cd, rfl, _, _⟩ := h.dur.form h.pos
  have hn := h.top
  clear h
  rcases hk with hk | hk
  · go_enter Try.func59, Try.ntmps59
    go_wp2
    go_ret2
    exact ⟨rfl, rfl⟩
  · have h1 : (0 : Int) ≤ k := by omega
    go_enter Try.func59, Try.ntmps59
    go_wp2
    go_ret2
    exact ⟨rfl, rfl⟩
theorem ret_read {a b : List UInt8} (h : a = b) : Ending.returned (.tuple #[.string (bs a), .int .i64 0]) = .returned (.tuple #[.string (bs b), .int .i64 0]) := by rw [h]
theorem pend_cells {w : World} {B p n q c : Nat} {v : Value} {D : List UInt8} {P : List (Nat × List UInt8)} (h : RefAt w B p n v (.slice (some ⟨q, 0, none⟩) P.length c) D P) {j : Nat} (hj : j < P.length) :
    w.cell? ⟨q, j * 2, none⟩ = some (.int .i64 ((P[j]).1 : Int)) ∧ w.cell? ⟨q, j * 2 + 1, none⟩ = some (.string (bs (P[j]).2)) := by
  have h1 := h.pend.cells (g := q) rfl (j * 2) _ (encS_get P j hj).1
  have h2 := h.pend.cells (g := q) rfl (j * 2 + 1) _ (encS_get P j hj).2
  rw [addr_add, Nat.zero_add] at h1 h2
  exact ⟨h1, h2⟩
theorem dur_cell {w : World} {B p n g c : Nat} {u : Value} {D : List UInt8} {P : List (Nat × List UInt8)} (h : RefAt w B p n (.slice (some ⟨g, 0, none⟩) n c) u D P) {j : Nat} (hj : j < n) :
    w.cell? ⟨g, j, none⟩ = some (.string (bs (sec D j))) := by
  have h1 := h.dur.cells (g := g) rfl j _ (secStrs_get D n j hj)
  rw [addr_add, Nat.zero_add] at h1
  exact h1
set_option maxHeartbeats 800000 in
theorem refread_ok (B p n : Nat) (v u : Value) (D : List UInt8) (P : List (Nat × List UInt8)) (w : World) (h : RefAt w B p n v u D P) (k : Nat) (hk : k < n) :
    Calls Try.prog 59 #[.pointer (some ⟨p, 0, none⟩), .int .i64 (k : Int)] w fun e w' => e = .returned (.tuple #[.string (bs (readP D P k)), .int .i64 0]) ∧ w = w' := by
  have h0 := h.c0
  have h1 := h.c1
  have hd := h.dur
  obtain ⟨gd, cd, rfl, _, _⟩ := h.dur.form h.pos
  obtain ⟨ua, uc, rfl⟩ := len_of_own h.pend
  have H := Lib.hid h
  have hn := h.top
  have hf := h.few
  clear h hd
  have hk' : (k : Int) < (n : Int) := by omega
  go_enter Try.func59, Try.ntmps59
  go_wp2_with fail
  go_loopw [6] (fun iv wr => wr = w ∧ ∃ j : Nat, j ≤ P.length ∧ iv = .int .i64 ((j : Int) - 1) ∧ Hid (readP D P k = readP D (P.take j) k)) (fun iv _ => ((intOf iv) + 1).toNat)
  case atStart => exact ⟨rfl, P.length, Nat.le_refl _, rfl, show _ = _ by rw [List.take_length]⟩
  case round =>
    obtain ⟨rfl, j, hj, rfl, HR⟩ := hrel
    cases j with
    | zero =>
      rw [show ((0 : Nat) : Int) - 1 = -1 from rfl]
      have hcd := (dur_cell H.out hk)
      go_wp2
      go_ret2
      exact ⟨ret_read (by rw [HR.out]; rfl), rfl⟩
    | succ j =>
      rw [show ((j + 1 : Nat) : Int) - 1 = (j : Int) by omega]
      obtain ⟨q, c, e, _, _⟩ := H.out.pend.form (by omega)
      cases e
      have hjl : j < P.length := by omega
      have HSN := Lib.hid (readP_snoc D P k j hjl)
      obtain ⟨hca, hcb⟩ := pend_cells H.out hjl
      obtain ⟨x, hx⟩ : ∃ x, x = (P[j]).1 := ⟨_, rfl⟩
      obtain ⟨y, hy⟩ : ∃ y, y = (P[j]).2 := ⟨_, rfl⟩
      rw [← hx] at hca
      rw [← hy] at hcb
      have HXY := Lib.hid (And.intro hx hy)
      have hj' : (j : Int) < (P.length : Int) := by omega
      have hj0 : (0 : Int) ≤ (j : Int) := by omega
      clear hx hy
      by_cases hxk : x = k
      · have hxk' : (x : Int) = (k : Int) := by omega
        have HXK := Lib.hid hxk
        clear hxk
        go_wp2
        go_ret2
        exact ⟨ret_read (by rw [HR.out, HSN.out, ← HXY.out.1, ← HXY.out.2, if_pos HXK.out]), rfl⟩
      · have hxk' : ¬ (x : Int) = (k : Int) := by omega
        have HXK := Lib.hid hxk
        clear hxk
        go_wp2
        go_roundw
        case rel => exact ⟨trivial, j, by omega, by go_num, show _ = _ by rw [HR.out, HSN.out, ← HXY.out.1, if_neg HXK.out]⟩
        case measure => simp [intOf]
end Go.Proofs.YtbbnjnpbaekfgaaM
/- The document's disk: Crash. -/
set_option linter.unusedVariables false
set_option linter.unusedSimpArgs false
namespace Go.Proofs.YtbbnjnpbaekfgaaM
open Go.RowKit Go.Proofs.YtbbnjnpbaekfgaaW.PrintMore
theorem mm_eq2 (c : Int) : (if (512 : Int) < (if c < 0 then 0 else c) then (512 : Int) else (if c < 0 then 0 else c)) = (((if c ≤ 0 then 0 else if 512 ≤ c then 512 else c.toNat) : Nat) : Int) := by
  by_cases h1 : c < 0
  · rw [if_pos h1, if_neg (by decide), if_pos (by omega)]
    rfl
  · rw [if_neg h1]
    by_cases h0 : c ≤ 0
    · rw [if_pos h0, if_neg (by omega)]
      omega
    · rw [if_neg h0]
      by_cases h3 : 512 ≤ c
      · rw [if_pos h3]
        by_cases h4 : 512 < c
        · rw [if_pos h4]; rfl
        · rw [if_neg h4]; omega
      · rw [if_neg h3, if_neg (by omega)]
        omega
theorem bs_cut (l : List UInt8) (m : Nat) : (bs l).extract 0 m = bs (l.take m) := by
  apply ByteArray.ext
  apply Array.toList_inj.1
  simp [bs]
theorem own_set1 {w : World} {B e g n c : Nat} {xs : List Value} (h : w.ownsRow B e 1 (.slice (some ⟨g, 0, none⟩) n c) n xs) (i : Nat) (x : Value) : (w.setCell ⟨g, i, none⟩ x).ownsRow B e 1 (.slice (some ⟨g, 0, none⟩) n c) n (xs.set i x) := by
  rcases h.2 with ⟨e0, _⟩ | ⟨g', cap', cur, e0, hb, hg, hnc, hcm, hcs, htk⟩
  · cases e0
  · cases e0
    have hb2 : Blk w g cur.toList e := by unfold Blk; rw [hg]
    have hb3 := hb2.set i x
    refine ⟨by rw [List.length_set]; exact h.1, .inr ⟨g, c, (cur.toList.set i x).toArray, rfl, hb, hb3, hnc, hcm, by simpa using hcs, ?_⟩⟩
    show (cur.toList.set i x).take (n * 1) = _
    rw [List.take_set, htk]
theorem secStrs_cut (L b : List UInt8) (n x : Nat) (hL : L.length = n * 512) (hx : x < n) (hb : b.length ≤ 512) : secStrs (splice L (x * 512) b) n = (secStrs L n).set x (.string (bs (b ++ (sec L x).drop b.length))) := by
  apply List.ext_getElem?
  intro j
  by_cases hj : j < n
  · rw [secStrs_get _ _ _ hj, sec_cut L b n x j hL hx hb, List.getElem?_set]
    by_cases e : x = j
    · subst e
      rw [if_pos rfl, if_pos rfl, if_pos (by rw [secStrs_length]; exact hj)]
    · rw [if_neg e, if_neg e, secStrs_get _ _ _ hj]
  · rw [List.getElem?_eq_none (by rw [secStrs_length]; omega), List.getElem?_eq_none (by rw [List.length_set, secStrs_length]; omega)]
theorem RefAt.cut {w : World} {B p n g c : Nat} {u : Value} {D : List UInt8} {P : List (Nat × List UInt8)} (h : RefAt w B p n (.slice (some ⟨g, 0, none⟩) n c) u D P) (x : Nat) (b : List UInt8) (hx : x < n) (hb : b.length ≤ 512) :
    RefAt (w.setCell ⟨g, x, none⟩ (.string (bs (b ++ (sec D x).drop b.length)))) B p n (.slice (some ⟨g, 0, none⟩) n c) u (splice D (x * 512) b) P := by
  have hE : Elses (fun q => q = g) w (w.setCell ⟨g, x, none⟩ (.string (bs (b ++ (sec D x).drop b.length)))) := (Elses.refl (fun q => q = g) w).set (.inl rfl) _
  refine { h with blk := h.blk.kept hE fun e => row_ne h.dur h.blk (by decide) (by rw [e]; rfl), dur := ?_, pend := ownsRow_kept h.pend hE fun q hq e => rows_ne h.dur h.pend (by decide) q (by rw [e]; rfl) hq, len := ?_ }
  · rw [secStrs_cut D b n x h.len hx hb]
    exact own_set1 h.dur x _
  · rw [splice_length _ _ _ (by have := h.len; omega)]
    exact h.len
theorem RefAt.dropP {w : World} {B p n : Nat} {v u : Value} {D : List UInt8} {P : List (Nat × List UInt8)} (h : RefAt w B p n v u D P) : RefAt (w.setCell ⟨p, 1, none⟩ (.slice none 0 0)) B p n v (.slice none 0 0) D [] :=
  { h with blk := h.blk.set 1 _, dur := ownsRow_kept h.dur ((Elses.refl (fun q => q = p) w).set (.inl rfl) _) fun q hq e => row_ne h.dur h.blk (by decide) (e ▸ hq), pend := World.ownsRow_nil _ _ _ _, ok := fun x hx => absurd hx (by simp), few := by simp }
theorem dur_frozen {w : World} {B p n g c : Nat} {u : Value} {D : List UInt8} {P : List (Nat × List UInt8)} (h : RefAt w B p n (.slice (some ⟨g, 0, none⟩) n c) u D P) (j : Nat) : w.frozen? ⟨g, j, none⟩ = false := by
  rcases h.dur.2 with ⟨e0, _⟩ | ⟨g', cap', cur, e0, _, hg, _⟩
  · cases e0
  · cases e0
    exact Blk.frozen (c := cur.toList) (t := 9) (by unfold Blk; rw [hg]) j
theorem bs_drop (l : List UInt8) (m : Nat) (h : l.length = 512) : (bs l).extract m 512 = bs (l.drop m) := by
  apply ByteArray.ext
  apply Array.toList_inj.1
  simp [bs]
  rw [List.take_of_length_le (by rw [List.length_drop]; omega)]
attribute [local go_sem] max2_int min2_int max_two min_two
set_option maxRecDepth 100000 in
set_option maxHeartbeats 1600000 in
theorem refcrash_ok (B p n : Nat) (v u : Value) (D : List UInt8) (P : List (Nat × List UInt8)) (w : World) (h : RefAt w B p n v u D P) (cv : Value) (l : List Int) (hcv : IntsAt w cv l) (hfar : ∀ a n c, cv = .slice (some a) n c → 0 < l.length → ¬ ROwn p v u a.block) (hll : l.length ≤ 100000) :
    Calls Try.prog 40 #[.pointer (some ⟨p, 0, none⟩), cv] w fun e w' => e = .returned (.tuple #[]) ∧ RefAt w' B p n v (.slice none 0 0) (crashK D P (cutN l) P.length) [] ∧ Elses (ROwn p v u) w w' := by
  obtain ⟨gd, cd, rfl, _, _⟩ := h.dur.form h.pos
  obtain ⟨ua, uc, rfl⟩ := len_of_own h.pend
  obtain ⟨ca, cc, rfl, hci⟩ := hcv
  have H := Lib.hid h
  have HC := Lib.hid (And.intro hci hfar)
  have hn := h.top
  have hf := h.few
  clear h hci hfar
  go_enter Try.func40, Try.ntmps40
  go_wp2_with fail
  go_loopw [4] (fun iv wr => ∃ k : Nat, k ≤ P.length ∧ iv = .int .i64 (k : Int) ∧ Hid (RefAt wr B p n (.slice (some ⟨gd, 0, none⟩) n cd) (.slice ua P.length uc) (crashK D P (cutN l) k) P) ∧ Hid (Elses (ROwn p (.slice (some ⟨gd, 0, none⟩) n cd) (.slice ua P.length uc)) w wr)) (fun iv _ => P.length - (intOf iv).toNat)
  case atStart => exact ⟨0, Nat.zero_le _, rfl, H.out, Elses.refl _ _⟩
  case round =>
    obtain ⟨k, hk, rfl, HR, HE⟩ := hrel
    obtain ⟨wi, rfl⟩ : ∃ wi, wi = wr := ⟨wr, rfl⟩
    have hc0 := HR.out.c0
    have hc1 := HR.out.c1
    by_cases hlt : k < P.length
    · obtain ⟨q, c, e, _, _⟩ := HR.out.pend.form (by omega)
      cases e
      obtain ⟨hca, hcb⟩ := pend_cells HR.out hlt
      obtain ⟨hx1, hb1⟩ := H.out.ok _ (List.getElem_mem hlt)
      obtain ⟨D1, hD1⟩ : ∃ D1, D1 = crashK D P (cutN l) k := ⟨_, rfl⟩
      have hnext : crashK D P (cutN l) (k + 1) = splice D1 ((P[k]).1 * 512) ((P[k]).2.take (cutN l k)) := by
        rw [hD1]
        show splice _ _ _ = _
        rw [List.getD_eq_getElem?_getD, List.getElem?_eq_getElem hlt]
        rfl
      obtain ⟨x, hx⟩ : ∃ x, x = (P[k]).1 := ⟨_, rfl⟩
      obtain ⟨pb, hpb⟩ : ∃ pb, pb = (P[k]).2 := ⟨_, rfl⟩
      rw [← hx] at hca hx1
      rw [← hpb] at hcb hb1
      rw [← hx, ← hpb] at hnext
      have hd := dur_cell HR.out hx1
      rw [← hD1] at hd
      obtain ⟨sx, hsx⟩ : ∃ sx, sx = sec D1 x := ⟨_, rfl⟩
      rw [← hsx] at hd
      have hsl : sx.length = 512 := by rw [hsx, hD1]; exact sec_length HR.out.len hx1
      obtain ⟨m, hm⟩ : ∃ m, cutN l k = m := ⟨_, rfl⟩
      have hm512 : m ≤ 512 := by rw [← hm]; exact cutN_le l k
      rw [hm] at hnext
      have hfr : wi.frozen? ⟨gd, x, none⟩ = false := dur_frozen HR.out x
      have HX := Lib.hid (And.intro hnext (And.intro hsx (And.intro hD1 (And.intro hb1 hsl))))
      have hps : (bs pb).size = 512 := by rw [bs_size, hb1]
      have hss : (bs sx).size = 512 := by rw [bs_size, hsl]
      have hcut := bs_cut pb m
      have hcut2 : (bs sx).extract m 512 = bs (sx.drop m) := bs_drop sx m hsl
      have hcat : bs (pb.take m) ++ bs (sx.drop m) = bs (pb.take m ++ sx.drop m) := bs_append _ _
      have hsum : (9223372036854775807 < (bs (pb.take m)).size + (bs (sx.drop m)).size) = False := eq_false (by rw [bs_size, bs_size, List.length_take, List.length_drop]; omega)
      have hm0 : (0 : Int) ≤ (m : Int) := by omega
      have hm1 : (m : Int) ≤ 512 := by omega
      have hx0 : (0 : Int) ≤ (x : Int) := by omega
      have hxn : (x : Int) < (n : Int) := by omega
      have hk0 : (0 : Int) ≤ (k : Int) := by omega
      have hkP : (k : Int) < (P.length : Int) := by omega
      have HN := Lib.hid (show RefAt (wi.setCell ⟨gd, x, none⟩ (.string (bs (pb.take m ++ sx.drop m)))) B p n (.slice (some ⟨gd, 0, none⟩) n cd) (.slice (some ⟨q, 0, none⟩) P.length uc) (crashK D P (cutN l) (k + 1)) P by
        have := HR.out.cut x (pb.take m) hx1 (by rw [List.length_take]; omega)
        rw [show (pb.take m).length = m by rw [List.length_take]; omega, ← hD1, ← hsx, ← hnext] at this
        exact this)
      have HEN := Lib.hid (show Elses (ROwn p (.slice (some ⟨gd, 0, none⟩) n cd) (.slice (some ⟨q, 0, none⟩) P.length uc)) w (wi.setCell ⟨gd, x, none⟩ (.string (bs (pb.take m ++ sx.drop m)))) from HE.out.set (p := ⟨gd, x, none⟩) (.inl (.inr (.inl rfl))) _)
      have HB := Lib.hid hb1
      clear hx hpb hsx hD1 hnext hb1 hsl
      by_cases hkc : k < l.length
      · obtain ⟨ad3, rfl, hadl3, hc3⟩ := HC.out.1 (by omega)
        have hcw3 := hc3 k hkc
        have hck3 : wi.cell? (ad3.add k) = some (.int .i64 l[k]) := by
          rw [HE.out.cell (p := ad3.add k) (by rw [add_block]; exact hadl3) (by rw [add_block]; exact HC.out.2 ad3 _ _ rfl (by omega))]
          exact hcw3
        have hmm := mm_eq2 l[k]
        have e : (if l[k] ≤ 0 then 0 else if 512 ≤ l[k] then 512 else l[k].toNat) = m := by
          rw [← hm]
          unfold cutN
          rw [List.getElem?_eq_getElem hkc]
        rw [e] at hmm
        obtain ⟨c, hc⟩ : ∃ c, c = l[k] := ⟨_, rfl⟩
        rw [← hc] at hck3 hmm
        have hkc' : (k : Int) < (l.length : Int) := by omega
        clear e hc hcw3 hc3 hadl3 hm
        go_wp2_with fail
        all_goals
          go_still_tail 26, (by kernel_rfl)
          go_wp2
          go_roundw
          case rel => exact ⟨k + 1, by omega, by go_num, HN.out.drew, HEN.out.drew⟩
          case measure => simp [intOf]; omega
      · have hkc' : ¬ (k : Int) < (l.length : Int) := by omega
        have hm0' : m = 0 := by
          rw [← hm]
          unfold cutN
          rw [List.getElem?_eq_none (by omega)]
        subst hm0'
        clear hm hcat hcut
        go_wp2_with fail
        go_still_tail 26, (by kernel_rfl)
        go_wp2
        go_roundw
        case rel => exact ⟨k + 1, by omega, by go_num, HN.out.drew, HEN.out.drew⟩
        case measure => simp [intOf]; omega
    · have hk' : ¬ (k : Int) < (P.length : Int) := by omega
      obtain rfl : k = P.length := by omega
      have hf1 := HR.out.blk.frozen 1
      go_wp2
      go_end0
      exact ⟨rfl, HR.out.dropP, HE.out.set (.inl (.inl rfl)) _⟩
end Go.Proofs.YtbbnjnpbaekfgaaM
/- The document's disk: Sync, Durable, Image. -/
set_option linter.unusedVariables false
set_option linter.unusedSimpArgs false
namespace Go.Proofs.YtbbnjnpbaekfgaaM
open Go.RowKit Go.Proofs.YtbbnjnpbaekfgaaW.PrintMore
theorem ref_far {w : World} {B p n : Nat} {v u : Value} {D : List UInt8} {P : List (Nat × List UInt8)} (h : RefAt w B p n v u D P) {B' e size m : Nat} {y : Value} {xs : List Value} (ho : w.ownsRow B' e size y m xs) (h1 : e ≠ 68) (h2 : e ≠ 9) (h3 : e ≠ 103) : ∀ k, y.ownBlock = some k → ¬ ROwn p v u k := by
  intro k hk hr
  rcases hr with rfl | hr | hr
  · exact row_ne ho h.blk h1 hk
  · exact rows_ne ho h.dur h2 k hk hr
  · exact rows_ne ho h.pend h3 k hk hr
theorem cut_rep {m j : Nat} (h : j < m) : cutN (List.replicate m (512 : Int)) j = 512 := by
  unfold cutN
  rw [List.getElem?_replicate, if_pos h]
  rfl
set_option maxHeartbeats 800000 in
theorem refsync_ok (B p n : Nat) (v u : Value) (D : List UInt8) (P : List (Nat × List UInt8)) (w : World) (h : RefAt w B p n v u D P) :
    Calls Try.prog 61 #[.pointer (some ⟨p, 0, none⟩)] w fun e w' => e = .returned (.tuple #[]) ∧ RefAt w' B p n v (.slice none 0 0) (syncD D P) [] ∧ Elses (ROwn p v u) w w' := by
  obtain ⟨ua, uc, rfl⟩ := len_of_own h.pend
  obtain ⟨i3, hi0, hz0, hz1, hz2⟩ := info_parts info3
  have HI := Lib.hid (And.intro hi0 (And.intro hz0 (And.intro hz1 hz2)))
  clear hi0 hz0 hz1 hz2
  have H := Lib.hid h
  have HF := Lib.hid h.few
  clear h
  go_enter Try.func61, Try.ntmps61
  go_wp2_with fail
  go_loopw [2, 3] (fun av iv wr => ∃ k : Nat, k ≤ P.length ∧ iv = .int .i64 (k : Int) ∧ Hid (wr.ownsRow w.heap.size 3 1 av k (List.replicate k (.int .i64 512))) ∧ Hid (Below w.heap.size w wr)) (fun _ iv _ => P.length - (intOf iv).toNat)
  case atStart => exact ⟨0, Nat.zero_le _, rfl, World.ownsRow_nil _ _ _ _, Below.refl _ _⟩
  case round =>
    obtain ⟨k, hk, rfl, HO, HW⟩ := hrel
    obtain ⟨wi, rfl⟩ : ∃ wi, wi = wr := ⟨wr, rfl⟩
    have hc1 := (H.out.new HW.out).c1
    have hbase := HW.out.size
    by_cases hlt : k < P.length
    · have hk' : (k : Int) < (P.length : Int) := by omega
      have hk1 : k + 1 ≤ 100000 := by have := HF.out; omega
      go_wp2_with (at_builtin; refine wpList_append_own _ rfl _ _ 40 rfl w.heap.size 3 i3 (.int .i64 0) 1 8 Try.underlying40 HI.out.1 HI.out.2.1 HI.out.2.2.1 HI.out.2.2.2 rfl (by decide) u2 k (List.replicate k (.int .i64 512)) rfl (HO.out.alloc _) ⟨wi.heap.size, 0, none⟩ 1 1 [.int .i64 512] rfl rfl (cell_one_new _ _ _) (by simp [Value.oneCell']) (by unfold maxLen; omega) (by omega) (by simp; omega) ?_; intro v' wz hown hgrow _; have HG := Lib.hid (And.intro hown ((HW.out.alloc hbase (.cells #[.int .i64 512] 3)).grown hgrow (by simp; omega) fun q hq => (HO.out.lt q hq).1)); clear hown hgrow)
      go_wp2
      go_roundw
      case rel => exact ⟨k + 1, by omega, by go_num, show World.ownsRow _ _ _ _ _ _ _ by rw [List.replicate_succ']; exact HG.out.1, HG.out.2⟩
      case measure => simp [intOf]; omega
    · have hk' : ¬ (k : Int) < (P.length : Int) := by omega
      obtain rfl : k = P.length := by omega
      go_wp2_with fail
      have hR := H.out.new HW.out
      have hia : IntsAt wi u2 (List.replicate P.length (512 : Int)) := ints_own (by rw [List.length_replicate, List.map_replicate]; exact HO.out)
      refine (refcrash_ok _ _ _ _ _ _ _ _ hR u2 _ hia (fun a n c e _ => ref_far hR HO.out (by decide) (by decide) (by decide) a.block (by rw [e]; rfl)) (by rw [List.length_replicate]; exact HF.out)).mono ?_
      rintro e w' ⟨rfl, hr, he⟩
      rw [crashK_congr (c' := fun _ => 512) P.length (fun j hj => cut_rep hj)] at hr
      have HE := Lib.hid (And.intro hr ((Elses.of_below' HW.out).trans he))
      clear hr he hR hia
      go_wp2
      go_end0
      exact ⟨rfl, HE.out.1, HE.out.2⟩
theorem row_frozen {w : World} {B e g n c : Nat} {xs : List Value} (h : w.ownsRow B e 1 (.slice (some ⟨g, 0, none⟩) n c) n xs) (j : Nat) : w.frozen? ⟨g, j, none⟩ = false := by
  rcases h.2 with ⟨e0, _⟩ | ⟨g', cap', cur, e0, _, hg, _⟩
  · cases e0
  · cases e0
    exact Blk.frozen (c := cur.toList) (t := e) (by unfold Blk; rw [hg]) j
theorem row_lt {w : World} {B e g n c : Nat} {xs : List Value} (h : w.ownsRow B e 1 (.slice (some ⟨g, 0, none⟩) n c) n xs) : g < w.heap.size := (h.lt g rfl).2
theorem row_cell {w : World} {B e g n c : Nat} {xs : List Value} (h : w.ownsRow B e 1 (.slice (some ⟨g, 0, none⟩) n c) n xs) (j : Nat) (u : Value) (hu : xs[j]? = some u) : w.cell? ⟨g, j, none⟩ = some u := by
  have h1 := h.cells (g := g) rfl j u hu
  rw [addr_add, Nat.zero_add] at h1
  exact h1
theorem row_some {w : World} {B e g n c : Nat} {xs : List Value} (h : w.ownsRow B e 1 (.slice (some ⟨g, 0, none⟩) n c) n xs) (j : Nat) (hj : j < xs.length) : ∃ y, w.cell? ⟨g, j, none⟩ = some y := ⟨_, row_cell h j _ (List.getElem?_eq_getElem hj)⟩
theorem secs_one (D : List UInt8) (n : Nat) : ∀ u ∈ secStrs D n, u.oneCell' = true := by
  intro u hu
  obtain ⟨x, _, rfl⟩ := List.mem_map.1 hu
  rfl
set_option maxRecDepth 100000 in
set_option maxHeartbeats 800000 in
theorem refimage_ok (B p n : Nat) (v u : Value) (D : List UInt8) (P : List (Nat × List UInt8)) (w : World) (h : RefAt w B p n v u D P) :
    Calls Try.prog 41 #[.pointer (some ⟨p, 0, none⟩)] w fun e w' => e = .returned (.string (bs (syncD D P))) ∧ Below w.heap.size w w' := by
  obtain ⟨gd, cd, rfl, _, hgl⟩ := h.dur.form h.pos
  obtain ⟨ua, uc, rfl⟩ := len_of_own h.pend
  obtain ⟨i9, hi0, hz0, hz1, hz2⟩ := info_parts info9
  have HI := Lib.hid (And.intro hi0 (And.intro hz0 (And.intro hz1 hz2)))
  clear hi0 hz0 hz1 hz2
  have H := Lib.hid h
  have HT := Lib.hid (And.intro h.pos h.top)
  have HE := Lib.hid (show (w.alloc (.cells #[] 9)).ownsRow w.heap.size 9 1 (.slice (some ⟨w.heap.size, 0, none⟩) 0 0) 0 [] from World.ownsRow_made w #[] 0 (Nat.le_refl _) (by unfold maxLen; omega) (by simp))
  have HN := Lib.hid (show ∀ j u, (secStrs D n)[j]? = some u → (w.alloc (.cells #[] 9)).cell? ((⟨gd, 0, none⟩ : Addr).add j) = some u from fun j u hu => by
    have hj : j < n := by rw [← secStrs_length D n]; exact (List.getElem?_eq_some_iff.1 hu).1
    rw [secStrs_get D n j hj] at hu
    cases hu
    rw [addr_add, Nat.zero_add]
    exact dur_cell (h.alloc _) hj)
  have hc0 := (h.alloc (.cells #[] 9)).c0
  clear h
  go_enter Try.func41, Try.ntmps41
  go_wp2_with (at_builtin; refine wpList_append_own _ rfl _ _ 34 rfl w.heap.size 9 i9 (.string ⟨#[]⟩) 1 16 Try.underlying34 HI.out.1 HI.out.2.1 HI.out.2.2.1 HI.out.2.2.2 rfl (by decide) (.slice (some ⟨w.heap.size, 0, none⟩) 0 0) 0 [] rfl HE.out ⟨gd, 0, none⟩ n cd (secStrs D n) rfl (by rw [secStrs_length, Nat.mul_one]) HN.out (secs_one D n) (by have := HT.out.2; unfold maxLen; omega) (by have := HT.out.2; omega) (by simp) ?_; intro v' w1 hown hgrow _; have HG := Lib.hid (And.intro hown (((Below.refl w.heap.size w).alloc (Nat.le_refl _) (.cells #[] 9)).grown hgrow (by simp) fun k hk => by simp [Value.ownBlock] at hk; omega)); clear hown hgrow)
  obtain ⟨gl, cl, rfl, hbl, _⟩ := HG.out.1.form (by have := HT.out.1; omega)
  have hrow0 := HG.out.1
  rw [Nat.zero_add, List.nil_append] at hrow0
  have HG0 := Lib.hid (And.intro hrow0 HG.out.2)
  have HBL := Lib.hid hbl
  clear hrow0 hbl HG
  rw [Nat.zero_add]
  go_loopw [4] (fun iv wr => ∃ k : Nat, k ≤ P.length ∧ iv = .int .i64 (k : Int) ∧ Hid (wr.ownsRow w.heap.size 9 1 (.slice (some ⟨gl, 0, none⟩) n cl) n (secStrs (crashK D P (fun _ => 512) k) n)) ∧ Hid (Below w.heap.size w wr)) (fun iv _ => P.length - (intOf iv).toNat)
  case atStart => exact ⟨0, Nat.zero_le _, rfl, HG0.out.1, HG0.out.2⟩
  case round =>
    obtain ⟨k, hk, rfl, HO, HW⟩ := hrel
    obtain ⟨wi, rfl⟩ : ∃ wi, wi = wr := ⟨wr, rfl⟩
    have hc1 := (H.out.new HW.out).c1
    clear hc0
    by_cases hlt : k < P.length
    · obtain ⟨q, c, e, _, _⟩ := H.out.pend.form (by omega)
      cases e
      obtain ⟨hca, hcb⟩ := pend_cells (H.out.new HW.out) hlt
      obtain ⟨hx1, hb1⟩ := H.out.ok _ (List.getElem_mem hlt)
      obtain ⟨D1, hD1⟩ : ∃ D1, D1 = crashK D P (fun _ => 512) k := ⟨_, rfl⟩
      have hl1 : D1.length = n * 512 := by rw [hD1]; exact crashK_length P _ H.out.len H.out.ok k (by omega)
      have hnext : crashK D P (fun _ => 512) (k + 1) = splice D1 ((P[k]).1 * 512) (P[k]).2 := by
        rw [hD1]
        show splice _ _ _ = _
        rw [List.getD_eq_getElem?_getD, List.getElem?_eq_getElem hlt]
        show splice _ _ (List.take 512 (P[k]).2) = _
        rw [List.take_of_length_le (by omega)]
        rfl
      obtain ⟨x, hx⟩ : ∃ x, x = (P[k]).1 := ⟨_, rfl⟩
      obtain ⟨pb, hpb⟩ : ∃ pb, pb = (P[k]).2 := ⟨_, rfl⟩
      rw [← hx] at hca hx1
      rw [← hpb] at hcb hb1
      rw [← hx, ← hpb] at hnext
      have hss := secStrs_cut D1 pb n x hl1 hx1 (by omega)
      rw [hb1, List.drop_eq_nil_of_le (by rw [sec_length hl1 hx1]; omega), List.append_nil] at hss
      have hrow := own_set1 HO.out x (.string (bs pb))
      rw [← hD1, ← hss, ← hnext] at hrow
      have HN := Lib.hid (And.intro hrow (HW.out.setCell (p := ⟨gl, x, none⟩) HBL.out (.string (bs pb))))
      have hfr : wi.frozen? ⟨gl, x, none⟩ = false := row_frozen HO.out x
      have hco := row_some HO.out x (by rw [secStrs_length]; omega)
      obtain ⟨y, hy⟩ := hco
      have hx0 : (0 : Int) ≤ (x : Int) := by omega
      have hxn : (x : Int) < (n : Int) := by omega
      have hk0 : (0 : Int) ≤ (k : Int) := by omega
      have hkP : (k : Int) < (P.length : Int) := by omega
      have hfew : P.length ≤ 100000 := H.out.few
      clear hx hpb hD1 hl1 hnext hss hrow hb1
      go_wp2_with fail
      go_still_tail 18, (by kernel_rfl)
      go_wp2
      go_roundw
      case rel => exact ⟨k + 1, by omega, by go_num, HN.out.1, HN.out.2.drew⟩
      case measure => simp [intOf]; omega
    · have hk' : ¬ (k : Int) < (P.length : Int) := by omega
      obtain rfl : k = P.length := by omega
      go_wp2_with fail
      refine (join_ok gl cl n (syncD D P) _ HT.out.2 (syncD_length P H.out.len H.out.ok) (fun j hj => row_cell HO.out j _ (secStrs_get _ n j hj)) (row_lt HO.out)).mono ?_
      rintro e w' ⟨rfl, hb⟩
      have HB := Lib.hid (HW.out.trans (hb.mono HW.out.size))
      clear hb
      go_wp2
      go_ret
      exact ⟨rfl, HB.out⟩
end Go.Proofs.YtbbnjnpbaekfgaaM
