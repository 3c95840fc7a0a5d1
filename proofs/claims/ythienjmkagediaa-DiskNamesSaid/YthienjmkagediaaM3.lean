/- Laws of this session's own: variables of many cells made, built, and laid in a slice of one. -/
import Derived.Test.YthienjmkagediaaM2
set_option linter.unusedVariables false
set_option linter.unusedSimpArgs false
namespace Go.Proofs.YthienjmkagediaaM
open Go.RowKit
/-- A pending write, as cells. -/
def cellW (k : Int) (b : List UInt8) : List Value := .int .i64 k :: byteCells b
theorem cellW_length (k : Int) (b : List UInt8) : (cellW k b).length = b.length + 1 := by simp [cellW, byteCells_length]
theorem cellW_one (k : Int) (b : List UInt8) : ∀ v ∈ cellW k b, v.oneCell' = true := by
  intro v hv
  rcases List.mem_cons.1 hv with rfl | hv
  · rfl
  · exact byteCells_one b v hv
theorem fill_from : ∀ (l : List Value) (k : Nat) (Z : Array Value), k + l.length ≤ Z.size →
    (l.zipIdx k).foldl (fun (cs : Array Value) p => cs.setIfInBounds p.2 p.1) Z = (Z.toList.take k ++ l ++ Z.toList.drop (k + l.length)).toArray
  | [], k, Z, _ => by simp
  | v :: rest, k, Z, h => by
    rw [List.zipIdx_cons, List.foldl_cons, fill_from rest (k + 1) _ (by simp at h ⊢; omega)]
    have e := list_seg_step Z.toList k v rest (by simp at h ⊢; omega)
    apply congrArg List.toArray
    simpa [Array.toList_setIfInBounds] using e
theorem fill_all (C Z : Array Value) (h : C.size = Z.size) : C.zipIdx.foldl (fun (cs : Array Value) (x : Value × Nat) => cs.setIfInBounds (0 + x.2) x.1) Z = C := by
  have := fill_from C.toList 0 Z (by simp; omega)
  rw [← Array.foldl_toList, Array.toList_zipIdx]
  simp only [Nat.zero_add]
  rw [this]
  have hd : Z.toList.drop (0 + C.toList.length) = [] := List.drop_eq_nil_of_le (by simp; omega)
  rw [hd]
  simp
theorem run_buildSlice_one {P : Program} (w : World) (t e : TypeId) (i : TypeInfo) (z : Value) (C : Array Value) (ht : P.underlying t = some (.slice e)) (hi : P.info? e = some i) (hz : i.zero = some z) (hs : i.size = C.size) (h0 : 0 < C.size) (h1 : C.size ≤ 16777216) :
    (Instr.buildSlice t 1 #[(0, .agg C)]).run P w = .ok (.slice (some ⟨w.heap.size, 0, none⟩) 1 1) (w.alloc (.cells C e)) := by
  have hf : ∀ Z : Array Value, C.size = Z.size → Instr.fill (fun i => some (i * C.size, C.size)) Z [(0, .agg C)] = some C := by
    intro Z hZ
    have := fill_all C Z hZ
    simp only [Nat.zero_add] at this
    have hZ' := hZ.symm
    simp [Instr.fill, Value.cells, hZ']
    rw [← Array.size_zipIdx (xs := C) (k := 0)]
    exact this
  have hne : ¬ C.size = 0 := by omega
  have hle : ¬ 2 ^ 24 < C.size := by omega
  simp [Instr.buildSlice, run_underlying ht, sizeOf, typeInfo, hi, hs, zeroValue, hz, hne, newRow, hf, show ¬ 16777216 < C.size by omega]
theorem info71' : (Try.prog.info? 71).map (fun i => (i.zero.map (·.cells), i.size, i.bytes)) = some (some (cellW 0 (zeros 512)).toArray, 513, 520) := by kernel_rfl
theorem zero71' : ∃ i z, Try.prog.info? 71 = some i ∧ i.zero = some z ∧ z.cells = (cellW 0 (zeros 512)).toArray ∧ i.size = 513 ∧ i.bytes = 520 := by
  have h := info71'
  generalize (cellW 0 (zeros 512)).toArray = C at h ⊢
  cases hq : Try.prog.info? 71 with
  | none => simp [hq] at h
  | some i =>
    cases hz : i.zero with
    | none => simp [hq, hz] at h
    | some z =>
      simp only [hq, hz, Option.map_some, Option.some.injEq, Prod.mk.injEq] at h
      exact ⟨i, z, rfl, hz, h.1, h.2.1, h.2.2⟩
theorem run_alloc71 (w : World) : (Instr.alloc 71 true (.tuple #[])).run Try.prog w = .ok (.pointer (some ⟨w.heap.size, 0, none⟩)) (w.alloc (.cells (cellW 0 (zeros 512)).toArray 71)) := by
  obtain ⟨i, z, hi, hz, hzc, hs, hb⟩ := zero71'
  rw [← hzc]
  simp [Instr.alloc, zeroValue, typeInfo, hi, hz, newVar, newRow]
theorem run_alloc69 (w : World) : (Instr.alloc 69 true (.tuple #[])).run Try.prog w = .ok (.pointer (some ⟨w.heap.size, 0, none⟩)) (w.alloc (.cells (byteCells (zeros 512)).toArray 69)) := by
  obtain ⟨i, z, hi, hz, hzc, hs, hb⟩ := zero69
  rw [← hzc]
  simp [Instr.alloc, zeroValue, typeInfo, hi, hz, newVar, newRow]
theorem built71 (k : Int) : Try.prog.built 71 [(0, .int .i64 k)] = some (cellW k (zeros 512)).toArray := by kernel_rfl
theorem run_build71 (w : World) (k : Int) : (Instr.build 71 #[(0, .int .i64 k)]).run Try.prog w = .ok (.agg (cellW k (zeros 512)).toArray) w := run_build w 71 _ _ (built71 k)
theorem run_buildSlice71 (w : World) (k : Int) (b : List UInt8) (hb : b.length = 512) : (Instr.buildSlice 64 1 #[(0, .agg (cellW k b).toArray)]).run Try.prog w = .ok (.slice (some ⟨w.heap.size, 0, none⟩) 1 1) (w.alloc (.cells (cellW k b).toArray 71)) := by
  obtain ⟨i, z, hi, hz, hzc, hs, _⟩ := zero71'
  have hsz : (cellW k b).toArray.size = 513 := by rw [List.size_toArray, cellW_length, hb]
  exact run_buildSlice_one w 64 71 i z _ Try.underlying64 hi hz (by rw [hs, hsz]) (by omega) (by omega)
theorem splice_cellW (k : Int) (b : List UInt8) (n : Nat) (h : b.length ≤ n) : splice (cellW k (zeros n)) 1 (byteCells b) = cellW k (b ++ zeros (n - b.length)) := by
  unfold splice cellW
  simp only [List.take_succ_cons, List.take_zero, List.cons_append, List.nil_append, byteCells_length, Nat.add_comm 1, List.drop_succ_cons]
  rw [byteCells_append, ← byteCells_drop]
  congr 3
  simp [zeros]
/-! Operations on variables of many cells, under names of their own, so that the walk does not lay them open. -/
def LoadVia (t : TypeId) (v : Value) : Sem Next := do pure (.value (← Instr.loadAt t v))
def StoreVia (t : TypeId) (p v : Value) : Sem Next := do Instr.storeAt t p v; pure .skip
def AllocVia (t : TypeId) : Sem Next := do pure (.value (← Instr.alloc t true (.tuple #[])))
def BuildVia (t : TypeId) (v : Value) : Sem Next := do pure (.value (← Instr.build t #[(0, v)]))
def OneVia (t : TypeId) (v : Value) : Sem Next := do pure (.value (← Instr.buildSlice t 1 #[(0, v)]))
section
variable (ρ : Operand → Value) (dst : Option Tmp) (x y : Operand) (ty : TypeId) (pos : String) (after : Array Edge) (guard : Option (Nat × Bool))
theorem exec_load71 : execOp ρ { dst := dst, op := .load 71 x, type := ty, pos := pos, after := after, guard := guard } = LoadVia 71 (ρ x) := rfl
theorem exec_load69 : execOp ρ { dst := dst, op := .load 69 x, type := ty, pos := pos, after := after, guard := guard } = LoadVia 69 (ρ x) := rfl
theorem exec_store71 : execOp ρ { dst := dst, op := .store 71 x y, type := ty, pos := pos, after := after, guard := guard } = StoreVia 71 (ρ x) (ρ y) := rfl
theorem exec_store69 : execOp ρ { dst := dst, op := .store 69 x y, type := ty, pos := pos, after := after, guard := guard } = StoreVia 69 (ρ x) (ρ y) := rfl
theorem exec_alloc71 : execOp ρ { dst := dst, op := .alloc 71, type := ty, pos := pos, after := after, guard := guard } = AllocVia 71 := rfl
theorem exec_alloc69 : execOp ρ { dst := dst, op := .alloc 69, type := ty, pos := pos, after := after, guard := guard } = AllocVia 69 := rfl
theorem exec_build71 : execOp ρ { dst := dst, op := .build 71 #[(0, x)], type := ty, pos := pos, after := after, guard := guard } = BuildVia 71 (ρ x) := by
  simp only [execOp, BuildVia, List.map_toArray, List.map_cons, List.map_nil]
theorem exec_one71 : execOp ρ { dst := dst, op := .buildSlice 64 1 #[(0, x)], type := ty, pos := pos, after := after, guard := guard } = OneVia 64 (ρ x) := by
  simp only [execOp, OneVia, List.map_toArray, List.map_cons, List.map_nil]
end
theorem size69 : (Try.prog.info? 69).map (·.size) = some 512 := by kernel_rfl
theorem size71 : (Try.prog.info? 71).map (·.size) = some 513 := by kernel_rfl
theorem via_alloc71 (w : World) : (AllocVia 71).run Try.prog w = .ok (.value (.pointer (some ⟨w.heap.size, 0, none⟩))) (w.alloc (.cells (cellW 0 (zeros 512)).toArray 71)) := by
  unfold AllocVia
  rw [Sem.run_bind, run_alloc71]
  rfl
theorem via_alloc69 (w : World) : (AllocVia 69).run Try.prog w = .ok (.value (.pointer (some ⟨w.heap.size, 0, none⟩))) (w.alloc (.cells (byteCells (zeros 512)).toArray 69)) := by
  unfold AllocVia
  rw [Sem.run_bind, run_alloc69]
  rfl
theorem via_build71 (w : World) (k : Int) : (BuildVia 71 (.int .i64 k)).run Try.prog w = .ok (.value (.agg (cellW k (zeros 512)).toArray)) w := by
  unfold BuildVia
  rw [Sem.run_bind, run_build71]
  rfl
theorem via_one71 (w : World) (l : List Value) (h : l.length = 513) : (OneVia 64 (.agg l.toArray)).run Try.prog w = .ok (.value (.slice (some ⟨w.heap.size, 0, none⟩) 1 1)) (w.alloc (.cells l.toArray 71)) := by
  unfold OneVia
  obtain ⟨j, z, hj, hz, hzc, hsz, _⟩ := zero71'
  have hs : l.toArray.size = 513 := by rw [List.size_toArray]; exact h
  rw [Sem.run_bind, run_buildSlice_one (P := Try.prog) w 64 71 j z l.toArray Try.underlying64 hj hz (by rw [hsz, hs]) (by omega) (by omega)]
  rfl
theorem via_load71 (w : World) (b o : Nat) (cs : List Value) (h : w.rangeAt b o cs) (hl : cs.length = 513) : (LoadVia 71 (.pointer (some ⟨b, o, none⟩))).run Try.prog w = .ok (.value (.agg cs.toArray)) w := by
  unfold LoadVia
  rw [Sem.run_bind, run_loadAt_mid w b o 71 cs _ h Try.underlying71 rfl (by rw [hl]; exact size71)]
  rfl
theorem via_load69 (w : World) (b o : Nat) (cs : List Value) (h : w.rangeAt b o cs) (hl : cs.length = 512) : (LoadVia 69 (.pointer (some ⟨b, o, none⟩))).run Try.prog w = .ok (.value (.agg cs.toArray)) w := by
  unfold LoadVia
  rw [Sem.run_bind, run_loadAt_mid w b o 69 cs _ h Try.underlying69 rfl (by rw [hl]; exact size69)]
  rfl
theorem via_store (t ty : TypeId) (w : World) (b o : Nat) (c cs : List Value) (h : Blk w b c t) (hfit : o + cs.length ≤ c.length) (hi : (Try.prog.info? ty).map (·.size) = some cs.length) (h1 : ∀ v ∈ cs, v.oneCell' = true) :
    (StoreVia ty (.pointer (some ⟨b, o, none⟩)) (.agg cs.toArray)).run Try.prog w = .ok .skip (w.setRow b (splice c o cs).toArray) := by
  unfold StoreVia
  rw [Sem.run_bind, run_store_at w b o t ty c cs h hfit hi h1]
  rfl
theorem splice_all (c cs : List Value) (h : c.length = cs.length) : splice c 0 cs = cs := by
  unfold splice
  rw [List.drop_eq_nil_of_le (by omega)]
  simp
theorem via_store_new (t ty : TypeId) (w : World) (c cs : List Value) (hl : c.length = cs.length) (hi : (Try.prog.info? ty).map (·.size) = some cs.length) (h1 : ∀ v ∈ cs, v.oneCell' = true) :
    (StoreVia ty (.pointer (some ⟨w.heap.size, 0, none⟩)) (.agg cs.toArray)).run Try.prog (w.alloc (.cells c.toArray t)) = .ok .skip (w.alloc (.cells cs.toArray t)) := by
  rw [via_store t ty _ w.heap.size 0 c cs (Blk.new w c t) (by omega) hi h1, splice_all c cs hl, World.setRow_alloc_new]
/-- A variable of the type write, made and written. -/
theorem via_store71_new (w : World) (cs : List Value) (hl : cs.length = 513) (h1 : ∀ v ∈ cs, v.oneCell' = true) :
    (StoreVia 71 (.pointer (some ⟨w.heap.size, 0, none⟩)) (.agg cs.toArray)).run Try.prog (w.alloc (.cells (cellW 0 (zeros 512)).toArray 71)) = .ok .skip (w.alloc (.cells cs.toArray 71)) :=
  via_store_new 71 71 w _ cs (by rw [cellW_length, zeros_length, hl]) (by rw [hl]; exact size71) h1
theorem via_store69_new (w : World) (cs : List Value) (hl : cs.length = 512) (h1 : ∀ v ∈ cs, v.oneCell' = true) :
    (StoreVia 69 (.pointer (some ⟨w.heap.size, 0, none⟩)) (.agg cs.toArray)).run Try.prog (w.alloc (.cells (byteCells (zeros 512)).toArray 69)) = .ok .skip (w.alloc (.cells cs.toArray 69)) :=
  via_store_new 69 69 w _ cs (by rw [byteCells_length, zeros_length, hl]) (by rw [hl]; exact size69) h1
/-- The bytes that a slice of them leads to. -/
def BytesAt (w : World) (v : Value) (b : List UInt8) : Prop := ∃ a cap, v = .slice a b.length cap ∧ (0 < b.length → ∃ ad, a = some ad ∧ ∀ j u, (byteCells b)[j]? = some u → w.cell? (ad.add j) = some u)
theorem cell_far' {w w' : World} {row : Option Nat} (hg : w.grownBy w' row) (b o : Nat) (hlt : b < w.heap.size) (hne : row ≠ some b) : w'.cell? ⟨b, o, none⟩ = w.cell? ⟨b, o, none⟩ := hg.cell_far ⟨b, o, none⟩ hlt (Ne.symm hne)
theorem frozen_far' {w w' : World} {row : Option Nat} (hg : w.grownBy w' row) (b o : Nat) (hlt : b < w.heap.size) (hne : row ≠ some b) : w'.frozen? ⟨b, o, none⟩ = w.frozen? ⟨b, o, none⟩ := hg.frozen_far ⟨b, o, none⟩ hlt (Ne.symm hne)
theorem encP_snoc (P : List (Nat × List UInt8)) (k : Nat) (b : List UInt8) : encP (P ++ [(k, b)]) = encP P ++ cellW k b := by simp [encP, cellW]
theorem write_end {w w1 : World} {B p g n : Nat} {v : Value} {D : List UInt8} {P : List (Nat × List UInt8)} (h : DiskAt w B p g n v D P) (o1 o2 : Obj) (k : Nat) (pb : List UInt8) (hk : k < n) (hpb : pb.length = 512) (hP : P.length + 1 ≤ 100000) (gg cc : Nat)
    (hg : ((w.alloc o1).drew.alloc o2).grownBy w1 v.ownBlock) (hown : w1.ownsRow B 71 513 (.slice (some ⟨gg, 0, none⟩) (P.length + 1) cc) (P.length + 1) (encP P ++ cellW k pb)) (hgg : v.ownBlock = some gg ∨ gg = w.heap.size + 2) :
    (∃ v', DiskAt (w1.setCell ⟨p, 1, none⟩ (.slice (some ⟨gg, 0, none⟩) (P.length + 1) cc)) B p g n v' D (P ++ [(k, pb)]) ∧ (v'.ownBlock = v.ownBlock ∨ ∃ k, w.heap.size ≤ k ∧ v'.ownBlock = some k)) ∧ Elses (Own p g v) w (w1.setCell ⟨p, 1, none⟩ (.slice (some ⟨gg, 0, none⟩) (P.length + 1) cc)) := by
  have hE2 : Elses (fun k => v.ownBlock = some k) w w1 := ((((Elses.refl _ w).alloc o1).drew).alloc o2).grown hg fun k hk => .inl hk
  have hlp := h.blk.lt
  have hlg := h.dur.lt
  have hgp : gg ≠ p := by
    rcases hgg with e | e
    · exact fun x => h.vp (x ▸ e)
    · omega
  have hgg' : gg ≠ g := by
    rcases hgg with e | e
    · exact fun x => h.vg (x ▸ e)
    · omega
  refine ⟨⟨.slice (some ⟨gg, 0, none⟩) (P.length + 1) cc, { h with blk := ?_, dur := (h.dur.kept hE2 h.vg).setElse (Ne.symm h.pg) _ _, pend := ?_, ok := ?_, few := ?_, vp := ?_, vg := ?_ }, ?_⟩, (hE2.mono fun i hi => .inr (.inr hi)).set (.inl (.inl rfl)) _⟩
  · simpa using (h.blk.kept hE2 h.vp).set 1 (.slice (some ⟨gg, 0, none⟩) (P.length + 1) cc)
  · rw [encP_snoc, List.length_append]
    exact ownsRow_kept hown ((Elses.refl (fun k => k = p) w1).set (.inl rfl) _) fun k hk => by
      simp only [Value.ownBlock, Option.some.injEq] at hk
      omega
  · intro x hx
    rcases List.mem_append.1 hx with hx | hx
    · exact h.ok x hx
    · obtain rfl := List.mem_singleton.1 hx
      exact ⟨hk, hpb⟩
  · rw [List.length_append]
    exact hP
  · intro e
    exact hgp (Option.some.inj e)
  · intro e
    exact hgg' (Option.some.inj e)
  · rcases hgg with e | e
    · exact .inl e.symm
    · exact .inr ⟨gg, by omega, rfl⟩
attribute [local go_sem ↓] exec_load71 exec_load69 exec_store71 exec_store69 exec_alloc71 exec_alloc69 exec_build71 exec_one71
attribute [local go_sem] via_alloc71 via_alloc69 via_build71 via_one71
set_option maxRecDepth 100000 in
set_option maxHeartbeats 3200000 in
theorem write_ok (B p g n : Nat) (v : Value) (D : List UInt8) (P : List (Nat × List UInt8)) (w : World) (h : DiskAt w B p g n v D P) (at_ : Nat) (hat : at_ < n) (bv : Value) (b : List UInt8) (hb : BytesAt w bv b) (hl : b.length ≤ 512) (hP : P.length < 100000) :
    Calls Try.prog 11 #[.pointer (some ⟨p, 0, none⟩), .int .i64 (at_ : Int), bv] w fun e w' => e = .returned (.int .i64 0) ∧ (∃ v', DiskAt w' B p g n v' D (P ++ [(at_, b ++ zeros (512 - b.length))]) ∧ (v'.ownBlock = v.ownBlock ∨ ∃ k, w.heap.size ≤ k ∧ v'.ownBlock = some k)) ∧ Elses (Own p g v) w w' := by
  have H := Lib.hid h
  have lp := h.blk.lt
  have nvp : v.ownBlock ≠ some p := h.vp
  have hbase : B ≤ w.heap.size := by have := h.bp; omega
  clear h
  obtain ⟨a, cap, rfl, hsrc⟩ := hb
  have HS := Lib.hid hsrc
  clear hsrc
  have hl' : (b.length : Int) ≤ 512 := by omega
  obtain ⟨i0, z0, hi0, hz0, hzc0, hs0, hby0⟩ := zero71'
  have HI := Lib.hid (And.intro hi0 (And.intro hz0 (And.intro hzc0 (And.intro hs0 hby0))))
  clear hi0 hz0 hzc0 hs0 hby0
  obtain ⟨cw, hcw⟩ : ∃ cw, cw = cellW at_ (b ++ zeros (512 - b.length)) := ⟨_, rfl⟩
  have hlen : cw.length = 513 := by rw [hcw, cellW_length, List.length_append, zeros_length]; omega
  have hone : ∀ u ∈ cw, u.oneCell' = true := by rw [hcw]; exact cellW_one _ _
  have HW := Lib.hid hcw
  have H1 := Lib.hid hone
  clear hcw hone
  have hz0' : z0.cells.size = 513 := by rw [HI.out.2.2.1, List.size_toArray, cellW_length, zeros_length]
  have hu71 := Try.underlying71
  have hi71 : (Try.prog.info? 71).map (·.size) = some cw.length := by rw [hlen]; exact size71
  have HP : P.length + 1 ≤ 100000 := hP
  have hst := via_store71_new w (cellW at_ (zeros 512)) (by rw [cellW_length, zeros_length]) (cellW_one _ _)
  go_enter Try.func11, Try.ntmps11
  go_wp2_with (first | (go_at_call 33; refine (is_yes p g n _ _ H.out.blk H.out.pos).mono ?_; rintro e w' ⟨rfl, rfl⟩) | (go_at_call 34; refine (has_yes p g n _ _ H.out.blk at_ hat).mono ?_; rintro e w' ⟨rfl, rfl⟩) | (refine wpList_copy_new rfl _ _ 30 30 rfl 5 Try.underlying30 (by kernel_rfl) 1 512 512 a b.length cap rfl rfl (cellW at_ (zeros 512)) 71 (byteCells b) (by rw [byteCells_length]; exact (Nat.min_eq_left hl).symm) (by rw [byteCells_length]; exact HS.out) (by rw [byteCells_length, cellW_length, zeros_length]; omega) (byteCells_one b) ?_; rw [splice_cellW _ _ _ hl, byteCells_length, ← HW.out]))
  have hc1 : (w.alloc (.cells cw.toArray 71)).cell? ⟨p, 1, none⟩ = some v := (H.out.alloc _).c1
  have hf1 : (w.alloc (.cells cw.toArray 71)).frozen? ⟨p, 1, none⟩ = false := (H.out.alloc _).blk.frozen 1
  have hld : (LoadVia 71 (.pointer (some ⟨w.heap.size, 0, none⟩))).run Try.prog (w.alloc (.cells cw.toArray 71)).drew = .ok (.value (.agg cw.toArray)) (w.alloc (.cells cw.toArray 71)).drew :=
    via_load71 _ _ _ cw (fun j u hu => by
      rw [Nat.zero_add]
      exact (cell_of_row _ _ _ _ _ _ (heap_alloc_new w _)).trans (by simpa using hu)) hlen
  have HN := Lib.hid (show ∀ j u, cw[j]? = some u → ((w.alloc (.cells cw.toArray 71)).drew.alloc (.cells cw.toArray 71)).cell? ((⟨w.heap.size + 1, 0, none⟩ : Addr).add j) = some u by
    have hs : (w.alloc (.cells cw.toArray 71)).drew.heap.size = w.heap.size + 1 := by simp
    have := World.news_of_block (cs := cw.toArray) (heap_alloc_new (w.alloc (.cells cw.toArray 71)).drew (.cells cw.toArray 71 (0, 0)))
    rw [hs] at this
    exact this)
  have lp1 : p < w.heap.size + 1 := by omega
  have lp2 : p < w.heap.size + 1 + 1 := by omega
  go_region_law ((refine step_append_lies _ (by rfl) _ _ _ (by rfl) B 71 i0 z0 513 520 Try.underlying64 HI.out.1 HI.out.2.1 HI.out.2.2.2.1 HI.out.2.2.2.2 hz0' (by omega) v P.length (encP P) (by rfl) ((((H.out.pend).alloc _).drew).alloc _) ⟨w.heap.size + 1, 0, none⟩ 1 1 cw (by rfl) (by omega) HN.out H1.out (by omega) (by unfold maxLen; omega) (by omega) (by simp; omega) (w.heap.size + 2) (by simp) ?_; intro gg cc w1 hown1 hgrow hat1 hlt1; have hcp := cell_far' hgrow p 1 (by simp; omega) nvp; have hfp := frozen_far' hgrow p 1 (by simp; omega) nvp))
  all_goals
    go_wp2
    go_ret
    obtain rfl := HW.out
    exact ⟨rfl, write_end H.out _ _ at_ _ hat (by rw [List.length_append, zeros_length]; omega) HP gg cc hgrow hown1 hat1⟩
end Go.Proofs.YthienjmkagediaaM
