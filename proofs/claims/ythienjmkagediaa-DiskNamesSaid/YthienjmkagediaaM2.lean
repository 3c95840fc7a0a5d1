/- The contracts of a disk's drop, New and Write. -/
import Derived.Test.YthienjmkagediaaM1
set_option linter.unusedVariables false
set_option linter.unusedSimpArgs false
namespace Go.Proofs.YthienjmkagediaaM
open Go.RowKit
theorem run_clear_own {P : Program} (w : World) (B e size n : Nat) (v : Value) (xs : List Value) (t ty : TypeId) (z : Value) (ht : P.underlying t = some (.slice e)) (hz : ∀ w, (zeroValue e).run P w = .ok z w) (hzs : z.cells.size = size) (hz1 : ∀ u ∈ z.cells.toList, u.oneCell' = true) (h0 : 0 < size)
    (h : w.ownsRow B e size v n xs) :
    ∃ w', (Builtin.clear_ #[t] ty #[v]).run P w = .ok (.tuple #[]) w' ∧ w.grownBy w' v.ownBlock ∧
      ((v = .slice none 0 0 ∧ n = 0) ∨ ∃ g cap cur, v = .slice (some ⟨g, 0, none⟩) n cap ∧ B ≤ g ∧ w'.heap[g]? = some (.cells cur e (0, 0)) ∧ cap ≤ maxLen ∧ cur.size = cap * size) := by
  have same : w.grownBy w v.ownBlock := ⟨rfl, rfl, rfl, Nat.le_refl _, fun _ _ _ => rfl⟩
  rcases h.2 with ⟨rfl, rfl⟩ | ⟨g, cap, cur, rfl, hb, hg, hnc, hcm, hcs, htk⟩
  · exact ⟨w, by simp [Builtin.clear_, run_underlying ht], same, .inl ⟨rfl, rfl⟩⟩
  · by_cases hn : n = 0
    · subst hn
      exact ⟨w, by simp [Builtin.clear_, run_underlying ht], same, .inr ⟨g, cap, cur, rfl, hb, hg, hcm, hcs⟩⟩
    · obtain ⟨m, rfl⟩ : ∃ m, n = m + 1 := ⟨n - 1, by omega⟩
      have hl : (Builtin.zeroCells z.cells (m + 1)).toList.length = (m + 1) * size := by rw [Array.length_toList, size_zeroCells, hzs]
      have hone : ∀ u ∈ (Builtin.zeroCells z.cells (m + 1)).toList, u.oneCell' = true := by
        intro u hu
        simp only [Builtin.zeroCells, Array.toList_map, List.mem_map] at hu
        obtain ⟨i, _, rfl⟩ := hu
        have hi : i % z.cells.size < z.cells.size := Nat.mod_lt _ (by omega)
        rw [getElem!_pos z.cells _ hi]
        exact hz1 _ (by simp)
      have hle : (m + 1) * size ≤ cap * size := Nat.mul_le_mul_right _ hnc
      have hst := run_storeCells_at P g 0 e (Builtin.zeroCells z.cells (m + 1)).toList 0 cur w hg (by rw [hl, hcs]; omega) hone
      generalize hC : (List.take (0 + 0) cur.toList ++ (Builtin.zeroCells z.cells (m + 1)).toList ++ List.drop (0 + 0 + (Builtin.zeroCells z.cells (m + 1)).toList.length) cur.toList).toArray = C at hst
      have hCs : C.size = cap * size := by
        rw [← hC]
        simp only [List.size_toArray, List.length_append, List.length_take, List.length_drop, hl]
        simp only [Array.length_toList, hcs]
        omega
      refine ⟨w.setRow g C, ?_, ⟨rfl, rfl, rfl, by simp, fun k _ hk => setRow_other w g k _ (fun e => hk (by simp [Value.ownBlock, e]))⟩, .inr ⟨g, cap, C, rfl, hb, setRow_heap w g cur _ e _ hg, hcm, hCs⟩⟩
      simp [Builtin.clear_, run_underlying ht, hz, hst]
theorem wpList_clear_own {P : Program} {ops : Array Oper} {rest : List Oper} {o : Oper} {a : Act} {w : World} {Q : Exit → Act → World → Prop} (hgd : o.guard = none) (x : Operand) (t : TypeId)
    (ho : o.op = .call { callee := .builtin .clear, args := #[x], argTypes := #[t] })
    (B e size n : Nat) (v : Value) (xs : List Value) (hx : a.eval x = v) (z : Value) (ht : P.underlying t = some (.slice e)) (hz : ∀ w, (zeroValue e).run P w = .ok z w) (hzs : z.cells.size = size) (hz1 : ∀ u ∈ z.cells.toList, u.oneCell' = true) (h0 : 0 < size)
    (h : w.ownsRow B e size v n xs)
    (hK : ∀ w', w.grownBy w' v.ownBlock → ((v = .slice none 0 0 ∧ n = 0) ∨ ∃ g cap cur, v = .slice (some ⟨g, 0, none⟩) n cap ∧ B ≤ g ∧ w'.heap[g]? = some (.cells cur e (0, 0)) ∧ cap ≤ maxLen ∧ cur.size = cap * size) → wpList P ops Q rest (a.put o.dst (.tuple #[])) w') : wpList P ops Q (o :: rest) a w := by
  obtain ⟨w', hr, h1, h2⟩ := run_clear_own (P := P) w B e size n v xs t o.type z ht hz hzs hz1 h0 h
  refine wpList_plain hgd fun K hk => ?_
  unfold Oper.wp
  simp [execOp, ho, resolve, invoke, builtin, hx, hr, Result.andThen]
  exact hk _ _ (hK w' h1 h2)
theorem zero71 : ∃ z, (∀ w, (zeroValue 71).run Try.prog w = .ok z w) ∧ z.cells.size = 513 ∧ (∀ u ∈ z.cells.toList, u.oneCell' = true) ∧ ∃ i, Try.prog.info? 71 = some i ∧ i.zero = some z ∧ i.size = 513 ∧ i.bytes = 520 := by
  have h : (Try.prog.info? 71).map (fun i => (i.zero.map (fun z => (z.cells.size, z.cells.toList.all (·.oneCell'))), i.size, i.bytes)) = some (some (513, true), 513, 520) := by kernel_rfl
  cases hq : Try.prog.info? 71 with
  | none => simp [hq] at h
  | some i =>
    cases hz : i.zero with
    | none => simp [hq, hz] at h
    | some z =>
      simp [hq, hz] at h
      exact ⟨z, fun w => by simp [zeroValue, typeInfo, hq, hz], h.1.1, fun u hu => by
        obtain ⟨k, hk, rfl⟩ := List.mem_iff_getElem.1 hu
        simpa using h.1.2 k (by simpa using hk), i, rfl, hz, h.2.1, h.2.2⟩
set_option maxHeartbeats 1000000 in
theorem drop (B p g n : Nat) (v : Value) (D : List UInt8) (P : List (Nat × List UInt8)) (w : World) (h : DiskAt w B p g n v D P) :
    Calls Try.prog 35 #[.pointer (some ⟨p, 0, none⟩)] w fun e w' => e = .returned (.tuple #[]) ∧ (∃ v', DiskAt w' B p g n v' D [] ∧ v'.ownBlock = v.ownBlock) ∧ Elses (Own p g v) w w' := by
  have H := Lib.hid h
  have h1 := h.c1
  obtain ⟨z, hz, hzs, hz1, _⟩ := zero71
  have HZ := Lib.hid (And.intro hz (And.intro hzs hz1))
  clear h hz hzs hz1
  go_enter Try.func35, Try.ntmps35
  go_wp2_with (refine wpList_clear_own rfl _ _ rfl B 71 513 P.length v (encP P) rfl z (by first | exact Try.underlying64 | rfl) HZ.out.1 HZ.out.2.1 HZ.out.2.2 (by omega) H.out.pend ?_)
  intro w1 hg1 hv
  have hE1 : Elses (Own p g v) w w1 := (Elses.refl _ w).grown hg1 fun k hk => .inl (.inr (.inr hk))
  have hE2 : Elses (fun k => v.ownBlock = some k) w w1 := (Elses.refl _ w).grown hg1 fun k hk => .inl hk
  have hb1 := H.out.blk.kept hE2 H.out.vp
  have hd1 := H.out.dur.kept hE2 H.out.vg
  have h2 := hb1.cell 1
  have h3 := hb1.frozen 1
  have HH := Lib.hid (And.intro hE1 (And.intro hb1 hd1))
  clear hE1 hE2 hb1 hd1 hg1 h1
  rcases hv with ⟨rfl, hP⟩ | ⟨q, cap, rfl, hq, cur, hc, hm, hs⟩
  · clear hP
    go_wp2_with fail
    go_end0
    refine ⟨rfl, ⟨.slice none 0 0, { H.out with blk := ?_, dur := HH.out.2.2.setElse (Ne.symm H.out.pg) _ _, pend := World.ownsRow_nil _ _ _ _, ok := (fun _ h => absurd h (by simp)), few := by simp }, rfl⟩, HH.out.1.set (.inl (.inl rfl)) _⟩
    simpa using HH.out.2.1.set 1 (.slice none 0 0)
  · have HC := Lib.hid (And.intro hq (And.intro hc (And.intro hm hs)))
    have hcap : (0 : Int) ≤ (cap : Int) := by omega
    clear hq hc hm hs
    go_wp2_with fail
    go_end0
    refine ⟨rfl, ⟨.slice (some ⟨q, 0, none⟩) 0 cap, { H.out with blk := ?_, dur := HH.out.2.2.setElse (Ne.symm H.out.pg) _ _, pend := ⟨by simp [encP], .inr ⟨q, cap, cur, rfl, HC.out.1, ?_, by simp, HC.out.2.2.1, HC.out.2.2.2, by simp [encP]⟩⟩, ok := (fun _ h => absurd h (by simp)), few := by simp, vp := H.out.vp, vg := H.out.vg }, rfl⟩, HH.out.1.set (.inl (.inl rfl)) _⟩
    · simpa using HH.out.2.1.set 1 (.slice (some ⟨q, 0, none⟩) 0 cap)
    · rw [Below.heap_setCell _ _ _ _ (fun e => H.out.vp (by rw [show q = p from e]; rfl))]
      exact HC.out.2.1
theorem made_get (z : Array Value) (n i : Nat) (h : i < (madeCells z n).size) : (madeCells z n)[i] = z[i % z.size]! := by simp [madeCells]
theorem made_zero (n : Nat) : madeCells (byteCells (zeros 512)).toArray n = (byteCells (zeros n)).toArray := by
  have hs : (byteCells (zeros 512)).toArray.size = 512 := by rw [List.size_toArray, byteCells_length, zeros_length]
  apply Array.ext
  · rw [size_madeCells, List.size_toArray, byteCells_length, zeros_length]
  · intro i h1 h2
    have hi : i % (byteCells (zeros 512)).toArray.size < (byteCells (zeros 512)).toArray.size := Nat.mod_lt _ (by rw [hs]; omega)
    rw [made_get, getElem!_pos (byteCells (zeros 512)).toArray _ hi, List.getElem_toArray, List.getElem_toArray, byteCells_get, byteCells_get, zeros_get, zeros_get]
theorem zero69 : ∃ i z, Try.prog.info? 69 = some i ∧ i.zero = some z ∧ z.cells = (byteCells (zeros 512)).toArray ∧ i.size = 512 ∧ i.bytes = 512 := by
  have h := info69
  generalize (byteCells (zeros 512)).toArray = C at h ⊢
  cases hq : Try.prog.info? 69 with
  | none => simp [hq] at h
  | some i =>
    cases hz : i.zero with
    | none => simp [hq, hz] at h
    | some z =>
      simp only [hq, hz, Option.map_some, Option.some.injEq, Prod.mk.injEq] at h
      exact ⟨i, z, rfl, hz, h.1, h.2.1, h.2.2⟩
theorem run_make69 (w : World) (n : Nat) (h : n ≤ 1024) : (Instr.makeSlice 63 (.int .i64 (n : Int)) (.int .i64 (n : Int))).run Try.prog w = .ok (.slice (some ⟨w.heap.size, 0, none⟩) n n) (w.alloc (.cells (byteCells (zeros (n * 512))).toArray 69)) := by
  obtain ⟨i, z, hi, hz, hzc, hs, hb⟩ := zero69
  have := run_make (P := Try.prog) w 63 69 i z Try.underlying63 hi hz .i64 .i64 n n (by omega) (by omega) (by rw [hb]; omega) (by omega)
  rw [hzc, hs, Int.toNat_natCast, made_zero] at this
  exact this
set_option maxHeartbeats 1000000 in
theorem new_ok (n : Nat) (h1 : 0 < n) (h2 : n ≤ 1024) (w : World) :
    Calls Try.prog 10 #[.int .i64 (n : Int)] w fun e w' => e = .returned (.tuple #[.pointer (some ⟨w.heap.size + 1, 0, none⟩), .int .i64 0]) ∧
      DiskAt w' w.heap.size (w.heap.size + 1) w.heap.size n (.slice none 0 0) (zeros (n * 512)) [] ∧ Below w.heap.size w w' := by
  have g1 : ¬ ((n : Int) < 1) := by omega
  have g2 : ¬ (1024 < (n : Int)) := by omega
  have HD := Lib.hid (Blk.new w (byteCells (zeros (n * 512))) 69)
  go_enter Try.func10, Try.ntmps10
  go_wp2_with (at_make; refine wpList_makes rfl _ _ _ rfl _ _ (run_make69 w n h2) ?_)
  go_ret2
  refine ⟨rfl, { blk := ?_, dur := HD.out.alloc _, pend := World.ownsRow_nil _ _ _ _, len := zeros_length _, pos := h1, top := h2, ok := (fun _ h => absurd h (by simp)), few := by simp, bp := by omega, bg := by omega, pg := by omega, vp := by simp [Value.ownBlock], vg := by simp [Value.ownBlock] }, ((Below.refl _ _).alloc (Nat.le_refl _) _).alloc (by simp) _⟩
  have := Blk.new (w.alloc (.cells (byteCells (zeros (n * 512))).toArray 69)) [.slice (some ⟨w.heap.size, 0, none⟩) n n, .slice none 0 0] 66
  simpa using this
set_option maxHeartbeats 1000000 in
theorem new_no (n : Int) (h : n < 1 ∨ 1024 < n) (w : World) :
    Calls Try.prog 10 #[.int .i64 n] w fun e w' => e = .returned (.tuple #[.pointer none, .int .i64 2]) ∧ w = w' := by
  rcases h with h | h
  · go_enter Try.func10, Try.ntmps10
    go_wp2
    go_ret2
    exact ⟨rfl, rfl⟩
  · have g1 : ¬ (n < 1) := by omega
    go_enter Try.func10, Try.ntmps10
    go_wp2
    go_ret2
    exact ⟨rfl, rfl⟩
end Go.Proofs.YthienjmkagediaaM
