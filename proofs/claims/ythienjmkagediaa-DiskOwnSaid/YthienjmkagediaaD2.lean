/- The law DiskOwn, walked: it says yes. -/
import Derived.Test.YthienjmkagediaaN2
import Derived.Test.YthienjmkagediaaN3
set_option linter.unusedVariables false
set_option linter.unusedSimpArgs false
namespace Go.Proofs.YthienjmkagediaaM
open Go.RowKit Go.Proofs.YthienjmkagediaaW.PrintMore
attribute [local go_sem] via_same via_same_drew
attribute [local go_sem] max2_int min2_int max_two min_two
theorem pick_n (a : Int) (n : Nat) (h0 : 0 < n) (hn : n ≤ 1000) (w : World) :
    Calls Try.prog 14 #[.int .i64 a, .int .i64 ((n : Int) * 512)] w fun e w' => e = .returned (.int .i64 (pickN a (n * 512) : Int)) ∧ Below w.heap.size w w' := by
  have := pick_ok a (n * 512) (by omega) (by omega) w
  rw [show ((n * 512 : Nat) : Int) = (n : Int) * 512 by omega] at this
  exact this
theorem DiskAt.far {w : World} {B p g n : Nat} {v : Value} {D : List UInt8} {P : List (Nat × List UInt8)} (h : DiskAt w B p g n v D P) (b o : Nat) (u : Value) (hb : b < B ∨ ¬ Own p g v b) : DiskAt (w.setCell ⟨b, o, none⟩ u) B p g n v D P :=
  h.kept ((Elses.refl (fun j => j = b) w).set (.inl rfl) _) fun j hj e => by
    have := (h.lt j hj).1
    rcases hb with hb | hb
    · omega
    · exact hb (e ▸ hj)
theorem size_set (w : World) (a : Addr) (u : Value) : (w.setCell a u).heap.size = w.heap.size := by simp [World.setCell]
theorem read_q (B p g n : Nat) (v : Value) (D : List UInt8) (P : List (Nat × List UInt8)) (w : World) (h : DiskAt w B p g n v D P) (k : Nat) (hi : k / 512 < n) :
    Calls Try.prog 23 #[.pointer (some ⟨p, 0, none⟩), .int .i64 ((k : Int) / 512)] w fun e w' => e = .returned (.tuple #[.slice (some ⟨w.heap.size, 0, none⟩) 512 512, .int .i64 0]) ∧ Blk w' w.heap.size (byteCells (readP D P (k / 512))) 69 ∧ Below w.heap.size w w' := by
  have := read_ok B p g n v D P w h (k / 512) hi
  rw [show ((k / 512 : Nat) : Int) = (k : Int) / 512 by omega] at this
  exact this
theorem read_0 (B p g n : Nat) (v : Value) (D : List UInt8) (P : List (Nat × List UInt8)) (w : World) (h : DiskAt w B p g n v D P) :
    Calls Try.prog 23 #[.pointer (some ⟨p, 0, none⟩), .int .i64 0] w fun e w' => e = .returned (.tuple #[.slice (some ⟨w.heap.size, 0, none⟩) 512 512, .int .i64 0]) ∧ Blk w' w.heap.size (byteCells (readP D P 0)) 69 ∧ Below w.heap.size w w' := read_ok B p g n v D P w h 0 h.pos
def written : List UInt8 := [119, 114, 105, 116, 116, 101, 110]
def oP : List (Nat × List UInt8) := [(0, written ++ zeros (512 - written.length))]
theorem byteCells_at {l : List UInt8} {k : Nat} (h : k < l.length) : (byteCells l)[k]? = some (.int .u8 (l[k].toNat : Int)) := by
  unfold byteCells
  rw [List.getElem?_map, List.getElem?_eq_getElem h]
  rfl
theorem own_at {w : World} {B g n c : Nat} {l : List UInt8} (h : w.ownsRow B 5 1 (.slice (some ⟨g, 0, none⟩) n c) n (byteCells l)) (hl : l.length = n) {k : Nat} (hk : k < l.length) : w.cell? ⟨g, k, none⟩ = some (.int .u8 (l[k].toNat : Int)) ∧ w.frozen? ⟨g, k, none⟩ = false :=
  ⟨by rw [h.cellAt k (by omega), byteCells_at hk], h.frozenAt k⟩
theorem conv_z {w : World} {b : Nat} (h : Blk w b (byteCells (written ++ zeros (512 - written.length))) 69) : (ConvVia (.slice (some ⟨b, 0, none⟩) 7 512)).run Try.prog w = .ok (.value (.string ⟨#[119, 114, 105, 116, 116, 101, 110]⟩)) w :=
  conv_cells (c := 512) (l := written) (h.addcells 0 (byteCells written) (by rw [List.drop_zero, byteCells_append, List.take_left]))
/-- v[512:], under a name of its own. -/
def SliceVia (v : Value) : Sem Next := do pure (.value (← Instr.sliceAt 30 v (some (.int .i64 512)) none none))
theorem exec_slice (a : Act) (dst : Option Tmp) (x : Operand) (ty : TypeId) (pos : String) (after : Array Edge) (guard : Option (Nat × Bool)) : execOp a.eval { dst := dst, op := .slice 30 x (some (.const (.int .i64 512))) none none, type := ty, pos := pos, after := after, guard := guard } = SliceVia (a.eval x) := rfl
theorem via_slice (g n c : Nat) (h1 : 512 ≤ n) (h2 : n ≤ c) (hn : n ≤ 1000000) (w : World) : (SliceVia (.slice (some ⟨g, 0, none⟩) n c)).run Try.prog w = .ok (.value (.slice (some (if c = 512 then (⟨g, 0, none⟩ : Addr) else ⟨g, 512, none⟩)) (n - 512) (c - 512))) w := by
  have hi : (Try.prog.info? 5).map (·.size) = some 1 := by kernel_rfl
  have hn0 : (512 : Int) ≤ (n : Int) := by omega
  cases hq : Try.prog.info? 5 with
  | none => simp [hq] at hi
  | some i =>
    have hs1 : i.size = 1 := by simpa [hq] using hi
    by_cases hc : c = 512
    · subst hc
      simp [SliceVia, Instr.sliceAt, Instr.slice, Instr.sliceBounds, Instr.sliceBound, run_underlying Try.underlying30, go_sem, hn0, sizeOf, typeInfo, hq, hs1, Result.andThen]
    · simp [SliceVia, Instr.sliceAt, Instr.slice, Instr.sliceBounds, Instr.sliceBound, run_underlying Try.underlying30, go_sem, hn0, hc, sizeOf, typeInfo, hq, hs1, Addr.add, Result.andThen]
theorem own_from {w : World} {B g n c : Nat} {l : List UInt8} (h : w.ownsRow B 5 1 (.slice (some ⟨g, 0, none⟩) n c) n (byteCells l)) (hl : l.length = n) (h5 : 512 ≤ n) (hn : n ≤ 1000000)
    (hcf : (ConvVia (.slice (some (if c = 512 then (⟨g, 0, none⟩ : Addr) else ⟨g, 512, none⟩)) (n - 512) (c - 512))).run Try.prog w = .ok (.value (.string (bs (l.drop 512)))) w) :
    ∃ vs, (∀ w, (SliceVia (.slice (some ⟨g, 0, none⟩) n c)).run Try.prog w = .ok (.value vs) w) ∧ (ConvVia vs).run Try.prog w = .ok (.value (.string (bs (l.drop 512)))) w := by
  have hnc : n ≤ c := by
    rcases h.2 with ⟨e, _⟩ | ⟨g', cap', cur, e, _, _, hnc, _⟩
    · cases e
    · cases e
      exact hnc
  exact ⟨_, fun w => via_slice g n c h5 hnc hn w, hcf⟩
theorem conv_from {w : World} {B g n c : Nat} {l : List UInt8} (h : w.ownsRow B 5 1 (.slice (some ⟨g, 0, none⟩) n c) n (byteCells l)) (hl : l.length = n) (h5 : 512 ≤ n) :
    (ConvVia (.slice (some (if c = 512 then (⟨g, 0, none⟩ : Addr) else ⟨g, 512, none⟩)) (n - 512) (c - 512))).run Try.prog w = .ok (.value (.string (bs (l.drop 512)))) w := by
  have hd : (l.drop 512).length = n - 512 := by rw [List.length_drop, hl]
  rw [← hd]
  apply conv_cells
  intro j u hu
  have hj : j < (l.drop 512).length := by rw [← byteCells_length]; exact (List.getElem?_eq_some_iff.1 hu).1
  have hnc : n ≤ c := by
    rcases h.2 with ⟨e, _⟩ | ⟨g', cap', cur, e, _, _, hnc, _⟩
    · cases e
    · cases e
      exact hnc
  rw [if_neg (by omega), addr_add, h.cellAt _ (by omega)]
  rw [byteCells_drop, List.getElem?_drop] at hu
  exact hu
attribute [local go_sem ↓] exec_conv exec_same exec_slice Go.wp_at_zero Go.wp_at_succ
set_option maxRecDepth 100000 in
set_option maxHeartbeats 3200000 in
theorem diskOwn (a0 : ByteArray) (a1 : Int) (w : World) (hs : a0.size ≤ 140737488351232) : Calls Try.prog 5 #[.string a0, .int .i64 a1] w fun e w' => e = .returned (.bool true) ∧ Below w.heap.size w w' := by
  obtain ⟨m, hm⟩ : ∃ m, m = min a0.size 2048 := ⟨_, rfl⟩
  obtain ⟨n, hn⟩ : ∃ n, n = m / 512 := ⟨_, rfl⟩
  have hif : (if (2048 : Int) < (a0.size : Int) then (2048 : Int) else (a0.size : Int)) = (m : Int) := by split <;> omega
  have hm0 : (0 : Int) ≤ (m : Int) := by omega
  have hm1 : (m : Int) ≤ 2048 := by omega
  have hq : (m : Int) / 512 = (n : Int) := by omega
  have hn4 : n ≤ 4 := by omega
  have hn1 : (n : Int) * 512 ≤ (a0.size : Int) := by omega
  have hn2 : (0 : Int) ≤ (n : Int) * 512 := by omega
  have hn3 : (n : Int) ≤ 4 := by omega
  have hn5 : ((n : Int) * 512).toNat = n * 512 := by omega
  have HM := Lib.hid (And.intro hm hn)
  have hle : n * 512 ≤ a0.size := by omega
  clear hm hn
  obtain ⟨L, hL⟩ : ∃ L, L = a0.data.toList.take (n * 512) := ⟨_, rfl⟩
  have hLl : L.length = n * 512 := by
    rw [hL, List.length_take, Array.length_toList]
    exact Nat.min_eq_left hle
  have hext : a0.extract 0 (n * 512) = bs L := by
    apply ByteArray.ext
    apply Array.toList_inj.1
    rw [hL]
    simp [bs]
  have HL := Lib.hid hLl
  clear hL hLl hle
  go_enter Try.func5, Try.ntmps5
  go_wp2_with fail
  refine (lives_yes _).mono ?_
  rintro e w1 ⟨rfl, hb1⟩
  have HB1 := Lib.hid hb1
  clear hb1
  go_wp2_with (refine wpList_bytes rfl _ rfl L (by rw [HL.out]; omega) rfl ?_; intro cap w2 hcap hcm hcells hf2 hb2 hs2; rw [HL.out] at hcap hf2 ⊢; have HC2 := Lib.hid (And.intro hcap (And.intro hcm (And.intro hcells (And.intro hf2 (HB1.out.trans (hb2.mono HB1.out.size)))))); have HS2 := Lib.hid hs2; clear hcap hcm hcells hb2 hf2 hs2)
  by_cases h0 : n = 0
  · refine (of_size _ _ _ n rfl (by unfold maxLen; omega) (.inl (by omega)) _).mono ?_
    rintro e w' ⟨rfl, rfl⟩
    have hbs : bs L = ⟨#[]⟩ := by
      rw [show L = [] from List.eq_nil_of_length_eq_zero (by rw [HL.out]; omega)]
      rfl
    go_wp2_with fail
    go_ret
    exact ⟨rfl, HC2.out.2.2.2.2⟩
  · have hn0 : 0 < n := by omega
    have hn0' : (0 : Int) < (n : Int) := by omega
    refine (of_ok L n HL.out hn0 (by omega) w2 _ cap HC2.out.1 HC2.out.2.1 HC2.out.2.2.1).mono ?_
    rintro e w3 ⟨rfl, hd3, hb3⟩
    have HD3 := Lib.hid (And.intro hd3 (And.intro (HC2.out.2.2.2.2.trans (hb3.mono HC2.out.2.2.2.2.size)) hb3))
    clear hd3 hb3
    have hbs : bs L ≠ ⟨#[]⟩ := fun e => by
      have := congrArg ByteArray.size e
      rw [bs_size, HL.out] at this
      simp [ByteArray.size] at this
      omega
    have hbs2 : (bs L).toList.isEmpty = false := by
      rw [ByteArray.toList_eq]
      show L.toArray.toList.isEmpty = false
      rw [List.isEmpty_eq_false_iff]
      intro e
      have := HL.out
      rw [show L = [] from e] at this
      simp at this
      omega
    have hkl : pickN a1 (n * 512) < n * 512 := pickN_lt a1 (by omega)
    obtain ⟨k, hk⟩ : ∃ k, k = pickN a1 (n * 512) := ⟨_, rfl⟩
    rw [← hk] at hkl
    have HK := Lib.hid hk
    clear hk
    have hk0 : (0 : Int) ≤ (k : Int) := by omega
    have hk1 : (k : Int) < ((n * 512 : Nat) : Int) := by omega
    have hk2 : (k : Int) < (n : Int) * 512 := by omega
    go_wp2_with fail
    refine (pick_n a1 n hn0 (by omega) _).mono ?_
    rintro e w4 ⟨rfl, hb4⟩
    rw [← HK.out]
    have HD4 := Lib.hid (And.intro (HD3.out.1.new hb4) (HD3.out.2.1.trans (hb4.mono HD3.out.2.1.size)))
    have hs24 : w2.heap.size ≤ w4.heap.size := Nat.le_trans HD3.out.2.2.size hb4.size
    have hkL : k < L.length := by rw [HL.out]; exact hkl
    have hc4 : w4.cell? ⟨w1.heap.size, k, none⟩ = some (.int .u8 (L[k].toNat : Int)) := by
      rw [hb4.cell (p := ⟨w1.heap.size, k, none⟩) (by have := HD3.out.2.2.size; have := HS2.out; show w1.heap.size < _; omega), HD3.out.2.2.cell (p := ⟨w1.heap.size, k, none⟩) (by have := HS2.out; show w1.heap.size < _; omega)]
      apply HC2.out.2.2.1
      unfold byteCells
      rw [List.getElem?_map, List.getElem?_eq_getElem hkL]
      rfl
    have hf4 : w4.frozen? ⟨w1.heap.size, k, none⟩ = false := by
      rw [hb4.frozen (p := ⟨w1.heap.size, k, none⟩) (by have := HD3.out.2.2.size; have := HS2.out; show w1.heap.size < _; omega), HD3.out.2.2.frozen (p := ⟨w1.heap.size, k, none⟩) (by have := HS2.out; show w1.heap.size < _; omega)]
      exact HC2.out.2.2.2.1 k hkl
    have HS4 := Lib.hid (And.intro hs24 (And.intro HS2.out HB1.out.size))
    clear hb4 hs24
    obtain ⟨V4, hV4⟩ : ∃ V4, V4 = Value.int .u8 (bits BinOp.xor IntKind.u8 (L[k].toNat : Int) 255) := ⟨_, rfl⟩
    go_wp2_with fail
    rw [← hV4]
    clear hV4
    refine (image_ok _ _ _ _ _ _ _ _ (HD4.out.1.far w1.heap.size k V4 (.inl (by have := HS4.out; omega)))).mono ?_
    rintro e w5 ⟨vx, rfl, hx, hb5⟩
    have HD5 := Lib.hid (And.intro ((HD4.out.1.far w1.heap.size k V4 (.inl (by have := HS4.out; omega))).new hb5) ((HD4.out.2.setCell (p := ⟨w1.heap.size, k, none⟩) HS4.out.2.2 V4).trans (hb5.mono (by rw [size_set]; exact HD4.out.2.size))))
    rw [show syncD L [] = L from rfl, HL.out, size_set] at hx
    have hs5 := hb5.size
    rw [size_set] at hs5
    clear hb5 hc4 hf4
    obtain ⟨gx, cx, rfl, hgx, hgx5⟩ := hx.form (by omega)
    have HX := Lib.hid hx
    have HG := Lib.hid (And.intro hgx (And.intro hgx5 hs5))
    clear hx hgx hgx5 hs5
    go_wp2_with fail
    refine (durable_ok _ _ _ _ _ _ _ _ HD5.out.1).mono ?_
    rintro e w6 ⟨vy, rfl, hy, hb6⟩
    rw [HL.out] at hy
    have HD6 := Lib.hid (And.intro (HD5.out.1.new hb6) (And.intro (HD5.out.2.trans (hb6.mono HD5.out.2.size)) hb6.size))
    obtain ⟨gy, cy, rfl, hgy, hgy6⟩ := hy.form (by omega)
    obtain ⟨hcx, hfx⟩ := own_at (own_below HX.out hb6) HL.out hkL
    obtain ⟨hcy, hfy⟩ := own_at hy HL.out hkL
    have hne : gy ≠ gx := by have := HG.out.2.1; omega
    have hne' : gx ≠ gy := fun e => hne e.symm
    have HN := Lib.hid (And.intro hne (And.intro hgy hgy6))
    clear hy hb6 hgy hgy6
    go_upto_region 17 with fail
    obtain ⟨w7, hw7⟩ : ∃ w7, w7 = (w6.setCell ⟨gx, k, none⟩ (.int .u8 (bits BinOp.xor IntKind.u8 (L[k].toNat : Int) 255))).setCell ⟨gy, k, none⟩ (.int .u8 (bits BinOp.xor IntKind.u8 (L[k].toNat : Int) 255)) := ⟨_, rfl⟩
    rw [← hw7]
    have hfarx : ∀ j, Own (w2.heap.size + 1) w2.heap.size (.slice none 0 0) j → j < w4.heap.size := fun j hj => (HD4.out.1.lt j hj).2
    have HD7 := Lib.hid (show DiskAt w7 w2.heap.size (w2.heap.size + 1) w2.heap.size n (.slice none 0 0) L [] ∧ Below w.heap.size w w7 ∧ w7.heap.size = w6.heap.size from by
      have a1 := HG.out.1
      have a2 := HN.out.2.1
      have a3 := HG.out.2.2
      have a4 := HD4.out.2.size
      rw [hw7]
      refine ⟨(HD6.out.1.far gx k _ (.inr fun hj => by have := hfarx _ hj; omega)).far gy k _ (.inr fun hj => by have := hfarx _ hj; omega), (HD6.out.2.1.setCell (p := ⟨gx, k, none⟩) (by show w.heap.size ≤ gx; omega) _).setCell (p := ⟨gy, k, none⟩) (by show w.heap.size ≤ gy; omega) _, by rw [size_set, size_set]⟩)
    clear hw7 hcx hfx hcy hfy hne hne'
    have hkn : k / 512 < n := by omega
    go_wp2_with fail
    refine (read_q _ _ _ _ _ _ _ _ HD7.out.1 k hkn).mono ?_
    rintro e w8 ⟨rfl, hx8, hb8⟩
    have hR : (readP L [] (k / 512)).length = 512 := readP_length HL.out hkn [] (fun _ h => absurd h (by simp))
    obtain ⟨R, hRR⟩ : ∃ R, R = readP L [] (k / 512) := ⟨_, rfl⟩
    rw [← hRR] at hx8 hR
    clear hRR
    have hR0 : 0 < R.length := by omega
    have hc8 : w8.cell? ⟨w7.heap.size, 0, none⟩ = some (.int .u8 (R[0].toNat : Int)) := by rw [hx8.cell, byteCells_at hR0]
    have hf8 := hx8.frozen 0
    have HD8 := Lib.hid (And.intro (HD7.out.1.new hb8) (And.intro (HD7.out.2.1.trans (hb8.mono HD7.out.2.1.size)) hb8.size))
    have HF8 := Lib.hid (show ¬ Own (w2.heap.size + 1) w2.heap.size (.slice none 0 0) w7.heap.size from fun hj => absurd (HD7.out.1.lt _ hj).2 (Nat.lt_irrefl _))
    clear hx8 hb8
    go_upto_region 21 with fail
    obtain ⟨w9, hw9⟩ : ∃ w9, w9 = w8.setCell ⟨w7.heap.size, 0, none⟩ (.int .u8 (bits BinOp.xor IntKind.u8 (R[0].toNat : Int) 255)) := ⟨_, rfl⟩
    rw [← hw9]
    have HD9 := Lib.hid (show DiskAt w9 w2.heap.size (w2.heap.size + 1) w2.heap.size n (.slice none 0 0) L [] ∧ Below w.heap.size w w9 from by
      rw [hw9]
      exact ⟨HD8.out.1.far _ _ _ (.inr HF8.out), HD8.out.2.1.setCell (p := ⟨w7.heap.size, 0, none⟩) HD7.out.2.1.size _⟩)
    clear hw9 hc8 hf8
    go_wp2_with fail
    refine (write_0 _ _ _ _ _ _ _ _ (HD9.out.1.alloc _) _ written (bytesAt_marked w9 written (7, 8)) (by decide) (by decide)).mono ?_
    rintro e wa ⟨rfl, ⟨va, hda, hva⟩, hea⟩
    have hfr : ¬ Own (w2.heap.size + 1) w2.heap.size (.slice none 0 0) w9.heap.size := fun hj => absurd (HD9.out.1.lt _ hj).2 (Nat.lt_irrefl _)
    have hca : wa.cell? ⟨w9.heap.size, 0, none⟩ = some (.int .u8 119) := by
      rw [hea.cell (p := ⟨w9.heap.size, 0, none⟩) (by simp) hfr, World.cell?_alloc_mark]
      rfl
    have hfa : wa.frozen? ⟨w9.heap.size, 0, none⟩ = false := by
      rw [hea.frozen (p := ⟨w9.heap.size, 0, none⟩) (by simp) hfr]
      have : (w9.alloc (.cells (byteCells written).toArray 5 (7, 8))).heap[w9.heap.size]? = some (.cells (byteCells written).toArray 5 (7, 8)) := by
        show (w9.heap.push _)[w9.heap.size]? = _
        simp
      show (w9.alloc (.cells (byteCells written).toArray 5 (7, 8))).frozen? _ = false
      simp only [World.frozen?, this]
      rfl
    have HDa := Lib.hid (show DiskAt wa w2.heap.size (w2.heap.size + 1) w2.heap.size n va L oP ∧ Below w.heap.size w wa ∧ w9.heap.size < wa.heap.size from ⟨hda, (HD9.out.2.alloc HD9.out.2.size _).trans (((HD9.out.1.alloc _).step hea).mono (by have := HS4.out; omega)), Nat.lt_of_lt_of_le (by simp) hea.size⟩)
    have HVa := Lib.hid (show ¬ Own (w2.heap.size + 1) w2.heap.size va w9.heap.size from fun hj => by
      rcases hj with e | e | e
      · exact hfr (.inl e)
      · exact hfr (.inr (.inl e))
      · rcases hva with e2 | ⟨j, hj, e2⟩
        · exact hfr (.inr (.inr (e2 ▸ e)))
        · rw [e2] at e
          simp at hj e
          omega)
    clear hda hea hva hfr
    go_upto_region 24 with fail
    obtain ⟨wb, hwb⟩ : ∃ wb, wb = wa.setCell ⟨w9.heap.size, 0, none⟩ (.int .u8 120) := ⟨_, rfl⟩
    rw [← hwb]
    have HDb := Lib.hid (show DiskAt wb w2.heap.size (w2.heap.size + 1) w2.heap.size n va L oP ∧ Below w.heap.size w wb from by
      rw [hwb]
      exact ⟨HDa.out.1.far _ _ _ (.inr HVa.out), HDa.out.2.1.setCell (p := ⟨w9.heap.size, 0, none⟩) HD9.out.2.size _⟩)
    clear hwb hca hfa
    go_wp2_with fail
    refine (read_0 _ _ _ _ _ _ _ _ HDb.out.1).mono ?_
    rintro e wc ⟨rfl, hxc, hbc⟩
    rw [show readP L oP 0 = written ++ zeros (512 - written.length) from rfl] at hxc
    have HDc := Lib.hid (And.intro (HDb.out.1.new hbc) (And.intro (HDb.out.2.trans (hbc.mono HDb.out.2.size)) (And.intro hxc hbc.size)))
    clear hxc hbc
    have hSl : (syncD L oP).length = n * 512 := syncD_length oP HL.out HDb.out.1.ok
    have hSd : (syncD L oP).drop 512 = L.drop 512 := by
      show (splice L 0 (List.take 512 (written ++ zeros (512 - written.length)))).drop 512 = _
      have e : (List.take 512 (written ++ zeros (512 - written.length))).length = 512 := by decide +kernel
      unfold splice
      rw [List.take_zero, List.nil_append, List.drop_append, e, List.drop_eq_nil_of_le (by omega), List.nil_append]
      rfl
    obtain ⟨S, hS⟩ : ∃ S, S = syncD L oP := ⟨_, rfl⟩
    rw [← hS] at hSl hSd
    have HSS := Lib.hid (And.intro hS (And.intro hSl hSd))
    clear hS hSl hSd
    go_wp2_with fail
    refine (image_ok _ _ _ _ _ _ _ _ HDc.out.1).mono ?_
    rintro e wd ⟨vd, rfl, hdd, hbd⟩
    rw [← HSS.out.1, HSS.out.2.1] at hdd
    obtain ⟨gd, cd', rfl, hgd, hgd6⟩ := hdd.form (by omega)
    have HDd := Lib.hid (And.intro (HDc.out.1.new hbd) (And.intro (HDc.out.2.1.trans (hbd.mono HDc.out.2.1.size)) (HDc.out.2.2.1.below hbd HDc.out.2.2.1.lt)))
    clear hdd hbd hgd hgd6
    go_wp2_with fail
    have hwr : bs written = ⟨#[119, 114, 105, 116, 116, 101, 110]⟩ := rfl
    have hbsz : (bs L).size = n * 512 := by rw [bs_size, HL.out]
    have hcut : (bs L).extract 512 (n * 512) = bs (L.drop 512) := by
      apply ByteArray.ext
      apply Array.toList_inj.1
      simp [bs]
      rw [List.take_of_length_le (by rw [List.length_drop, HL.out]; omega)]
    have h512 : 512 ≤ n * 512 := by omega
    have h512i : (512 : Int) ≤ (n : Int) * 512 := by omega
    go_region_held (fun _ => True) (trivial) (first
      | (go_at_call 18; refine (durable_ok _ _ _ _ _ _ _ _ HDd.out.1.drew).mono ?_; rintro e we ⟨ve, rfl, hve, hbe⟩; have hcv := conv_own hve; have hcz := conv_z (HDd.out.2.2.drew.below hbe HDd.out.2.2.drew.lt); have HDe := Lib.hid (And.intro (HDd.out.1.drew.new hbe) (HDd.out.2.1.drew.trans (hbe.mono HDd.out.2.1.size))); clear hve hbe)
      | (go_at_call 19; refine (image_ok _ _ _ _ _ _ _ _ HDe.out.1).mono ?_; rintro e wf ⟨vf, rfl, hvf, hbf⟩; rw [← HSS.out.1, HSS.out.2.1] at hvf; obtain ⟨gf, cf, rfl, _, _⟩ := hvf.form (by omega); have hcf := conv_from hvf HSS.out.2.1 h512; obtain ⟨vs, hvs, hcs⟩ := own_from hvf HSS.out.2.1 h512 (by omega) hcf; rw [HSS.out.2.2] at hcs; have HDf := Lib.hid (And.intro hvf (HDe.out.2.trans (hbf.mono HDe.out.2.size))); clear hvf hbf hcv hcf))
    all_goals
      go_wp2
      go_ret
      exact ⟨rfl, HDf.out.2⟩
theorem diskOwn_walk (a0 : ByteArray) (a1 : Int) (w : World) (hs : a0.size ≤ 140737488351232) (_ : (Lit.int .i64 a1).wf = true) : Calls Try.prog 5 #[.string a0, .int .i64 a1] w fun e w' => e = .returned (.bool true) ∧ Below w.heap.size w w' := diskOwn a0 a1 w hs
end Go.Proofs.YthienjmkagediaaM
