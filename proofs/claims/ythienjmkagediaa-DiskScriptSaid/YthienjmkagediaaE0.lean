/- What DiskSyncs and DiskScript do besides: lists of acts, light; several disks. -/
import Derived.Test.YthienjmkagediaaD3
set_option linter.unusedVariables false
set_option linter.unusedSimpArgs false
namespace Go.Proofs.YthienjmkagediaaM
open Go.RowKit
/-- An act. -/
structure ActD where
  kind : Int
  at_ : Int
  b : ByteArray
  cuts : List Int
/-- The acts that a slice of them leads to. -/
def ActsAt (w : World) (a : Option Addr) (l : List ActD) : Prop := 0 < l.length → ∃ bl of, a = some ⟨bl, of, none⟩ ∧ bl < w.heap.size ∧ ∀ j (h : j < l.length),
  w.cell? ⟨bl, of + j * 4, none⟩ = some (.int .i64 l[j].kind) ∧ w.cell? ⟨bl, of + j * 4 + 1, none⟩ = some (.int .i64 l[j].at_) ∧ w.cell? ⟨bl, of + j * 4 + 2, none⟩ = some (.string l[j].b) ∧
  ∃ ca cc, w.cell? ⟨bl, of + j * 4 + 3, none⟩ = some (.slice ca l[j].cuts.length cc) ∧ IntsAt w (.slice ca l[j].cuts.length cc) l[j].cuts ∧ (ca = none → cc = 0)
theorem ActsAt.below {w w' : World} {a : Option Addr} {l : List ActD} {B : Nat} (h : ActsAt w a l) (hb : Below B w w') (hB : w.heap.size ≤ B) : ActsAt w' a l := fun h0 => by
  obtain ⟨bl, of, e, hl, hc⟩ := h h0
  have hcell : ∀ m, w'.cell? ⟨bl, m, none⟩ = w.cell? ⟨bl, m, none⟩ := fun m => hb.cell (p := ⟨bl, m, none⟩) (by show bl < B; omega)
  refine ⟨bl, of, e, Nat.lt_of_lt_of_le hl hb.size, fun j hj => ?_⟩
  obtain ⟨h1, h2, h3, ca, cc, h4, h5, h6⟩ := hc j hj
  exact ⟨by rw [hcell]; exact h1, by rw [hcell]; exact h2, by rw [hcell]; exact h3, ca, cc, by rw [hcell]; exact h4, h5.below hb hB, h6⟩
/-- Are acts gone through? -/
def lightA (l : List ActD) : Bool := l.all (fun x => decide (x.b.size ≤ 600) && decide (x.cuts.length ≤ 40)) && decide (l.length ≤ 40)
theorem lightA_no {l : List ActD} {k : Nat} (h : k < l.length) (hb : ¬ (l[k].b.size ≤ 600 ∧ l[k].cuts.length ≤ 40)) : lightA l = false := by
  unfold lightA
  rw [Bool.and_eq_false_iff]
  left
  rw [List.all_eq_false]
  refine ⟨l[k], List.getElem_mem h, ?_⟩
  simp
  omega
theorem lightA_all {l : List ActD} (h : ∀ j (h : j < l.length), l[j].b.size ≤ 600 ∧ l[j].cuts.length ≤ 40) : lightA l = decide (l.length ≤ 40) := by
  unfold lightA
  rw [show l.all (fun x => decide (x.b.size ≤ 600) && decide (x.cuts.length ≤ 40)) = true from by
    rw [List.all_eq_true]
    intro x hx
    obtain ⟨j, hj, rfl⟩ := List.mem_iff_getElem.1 hx
    simpa using h j hj]
  rfl
theorem ret_bool {a b : Bool} (h : a = b) : Ending.returned (.bool a) = .returned (.bool b) := by rw [h]
set_option maxHeartbeats 400000 in
theorem light_acts (a : Option Addr) (l : List ActD) (c : Nat) (w : World) (h : ActsAt w a l) (hl : l.length ≤ 140737488351232) :
    Calls Try.prog 20 #[.slice a l.length c] w fun e w' => e = .returned (.bool (lightA l)) ∧ w = w' := by
  have H := Lib.hid h
  clear h
  go_enter Try.func20, Try.ntmps20
  go_wp2
  go_loop [3] (fun iv => ∃ k : Nat, k ≤ l.length ∧ iv = .int .i64 (k : Int) ∧ Hid (∀ j (h : j < l.length), j < k → l[j].b.size ≤ 600 ∧ l[j].cuts.length ≤ 40)) (fun iv => l.length - (intOf iv).toNat)
  case atStart => exact ⟨0, Nat.zero_le _, rfl, fun j _ h => by omega⟩
  case round =>
    obtain ⟨k, hk, rfl, HA⟩ := hrel
    by_cases hlt : k < l.length
    · obtain ⟨bl, of, rfl, _, hc⟩ := H.out (by omega)
      obtain ⟨_, _, hcb, ca, cc, hcc, _, _⟩ := hc k hlt
      obtain ⟨s, hs⟩ : ∃ s, s = l[k].b := ⟨_, rfl⟩
      obtain ⟨m, hm⟩ : ∃ m, m = l[k].cuts.length := ⟨_, rfl⟩
      rw [← hs] at hcb
      rw [← hm] at hcc
      have HSS := Lib.hid (And.intro hs hm)
      clear hc hs hm
      have hk' : (k : Int) < (l.length : Int) := by omega
      by_cases hbad : s.size ≤ 600 ∧ m ≤ 40
      · have h1 : (s.size : Int) ≤ 600 := by omega
        have h2 : (m : Int) ≤ 40 := by omega
        clear hbad
        go_wp2
        go_round
        case rel => exact ⟨k + 1, by omega, by go_num, show ∀ _ _, _ → _ from fun j hj hjk => by
          by_cases e : j = k
          · subst e
            rw [← HSS.out.1, ← HSS.out.2]
            exact ⟨by omega, by omega⟩
          · exact HA.out j hj (by omega)⟩
        case measure => simp [intOf]; omega
      · have HB := Lib.hid hbad
        by_cases hs6 : s.size ≤ 600
        · have h1 : (s.size : Int) ≤ 600 := by omega
          have h2 : (40 : Int) < (m : Int) := by omega
          clear hbad
          go_wp2
          go_ret
          exact ⟨ret_bool (lightA_no hlt (by rw [← HSS.out.1, ← HSS.out.2]; exact HB.out)).symm, rfl⟩
        · have h1 : (600 : Int) < (s.size : Int) := by omega
          clear hbad
          go_wp2
          go_ret
          exact ⟨ret_bool (lightA_no hlt (by rw [← HSS.out.1, ← HSS.out.2]; exact HB.out)).symm, rfl⟩
    · have hk' : ¬ (k : Int) < (l.length : Int) := by omega
      obtain rfl : k = l.length := by omega
      have HT := Lib.hid (lightA_all fun j hj => HA.out j hj hj)
      by_cases h40 : l.length ≤ 40
      · have h4 : (l.length : Int) ≤ 40 := by omega
        go_wp2
        go_ret
        exact ⟨ret_bool (by rw [HT.out, decide_eq_true h40]), rfl⟩
      · have h4 : (40 : Int) < (l.length : Int) := by omega
        go_wp2
        go_ret
        exact ⟨ret_bool (by rw [HT.out, decide_eq_false h40]; exact decide_eq_false (by omega)), rfl⟩
/-- The writes that acts ask for, of those that are not too long. -/
def actP (n : Nat) (l : List ActD) : List (Nat × List UInt8) := l.filterMap fun x => if x.b.size ≤ 512 then some (pickN x.at_ n, pad x.b) else none
theorem actP_take (n : Nat) (l : List ActD) (k : Nat) (h : k < l.length) : actP n (l.take (k + 1)) = if l[k].b.size ≤ 512 then actP n (l.take k) ++ [(pickN l[k].at_ n, pad l[k].b)] else actP n (l.take k) := by
  unfold actP
  rw [List.take_succ_eq_append_getElem h, List.filterMap_append]
  by_cases hs : l[k].b.size ≤ 512
  · rw [if_pos hs]
    simp [hs]
  · rw [if_neg hs]
    simp [hs]
theorem actP_length (n : Nat) (l : List ActD) : (actP n l).length ≤ l.length := List.length_filterMap_le _ _
/-- A disk among several: its blocks lie from B on, before T. -/
structure Hd where
  B : Nat
  p : Nat
  g : Nat
  v : Value
  T : Nat
def HdAt (w : World) (D : List UInt8) (P : List (Nat × List UInt8)) (h : Hd) : Prop := DiskAt w h.B h.p h.g 8 h.v D P ∧ (∀ k, Own h.p h.g h.v k → k < h.T) ∧ h.T ≤ w.heap.size
def Chain (lo : Nat) : List Hd → Nat → Prop
  | [], hi => lo ≤ hi
  | h :: r, hi => lo ≤ h.B ∧ h.B ≤ h.T ∧ Chain h.T r hi
theorem Chain.snoc {lo hi : Nat} {hs : List Hd} {h : Hd} (hc : Chain lo hs hi) (h1 : hi ≤ h.B) (h2 : h.B ≤ h.T) : Chain lo (hs ++ [h]) h.T := by
  induction hs generalizing lo with
  | nil => exact ⟨Nat.le_trans hc h1, h2, Nat.le_refl _⟩
  | cons x r ih => exact ⟨hc.1, hc.2.1, ih hc.2.2⟩
theorem Chain.mono {lo hi hi' : Nat} {hs : List Hd} (hc : Chain lo hs hi) (h : hi ≤ hi') : Chain lo hs hi' := by
  induction hs generalizing lo with
  | nil => exact Nat.le_trans hc h
  | cons x r ih => exact ⟨hc.1, hc.2.1, ih hc.2.2⟩
theorem HdAt.kept {w w' : World} {D : List UInt8} {P : List (Nat × List UInt8)} {h : Hd} {n : Nat} (hd : HdAt w D P h) (hb : Below n w w') (hn : h.T ≤ n) (hw : n ≤ w.heap.size) : HdAt w' D P h :=
  ⟨hd.1.kept (S := fun k => n ≤ k) (.of_below hb fun _ _ h => by omega) fun k hk => by have := hd.2.1 k hk; omega, hd.2.1, Nat.le_trans hd.2.2 hb.size⟩
/-- The world behind []byte(s). -/
def BW (w : World) (l : List UInt8) : World := w.drew.alloc (.cells (bytesRow (bs l) (grownCap w l.length 0 5)) 5 ((bytesRow (bs l) (grownCap w l.length 0 5)).size, (bytesRow (bs l) (grownCap w l.length 0 5)).size + 1))
def BytesVia (v : Value) : Sem Next := do pure (.value (← convert 9 30 v))
theorem exec_bytes (ρ : Operand → Value) (dst : Option Tmp) (x : Operand) (ty : TypeId) (pos : String) (after : Array Edge) (guard : Option (Nat × Bool)) : execOp ρ { dst := dst, op := .convert 9 30 x, type := ty, pos := pos, after := after, guard := guard } = BytesVia (ρ x) := rfl
theorem via_bytes (w : World) (l : List UInt8) : (BytesVia (.string (bs l))).run Try.prog w = .ok (.value (.slice (some ⟨w.heap.size, 0, none⟩) l.length (grownCap w l.length 0 5))) (BW w l) := by
  have hr := run_bytes_of_string (P := Try.prog) w 9 30 5 (bs l) Try.underlying9 Try.underlying30 Try.underlying5
  rw [bs_size] at hr
  unfold BytesVia
  rw [Sem.run_bind, hr]
  rfl
theorem bw_below (w : World) (l : List UInt8) : Below w.heap.size w (BW w l) := (Below.refl _ w).drew.alloc (Nat.le_refl _) _
theorem bw_keep {n : Nat} {a w : World} (h : Below n a w) (hn : n ≤ a.heap.size) (l : List UInt8) : Below n a (BW w l) := h.trans ((bw_below w l).mono (Nat.le_trans hn h.size))
theorem bw_bytes (w : World) (l : List UInt8) (c : Nat) : BytesAt (BW w l) (.slice (some ⟨w.heap.size, 0, none⟩) l.length c) l :=
  ⟨_, c, rfl, fun _ => ⟨_, rfl, fun j u hu => by
    rw [addr_add, Nat.zero_add]
    exact (World.cell?_alloc_mark w.drew _ 5 _ j).trans (bytesRow_bs l _ j u hu)⟩⟩
theorem BytesAt.below {w w' : World} {v : Value} {l : List UInt8} (h : BytesAt w v l) (hb : Below w.heap.size w w') : BytesAt w' v l := by
  obtain ⟨a, c, e, hh⟩ := h
  refine ⟨a, c, e, fun h0 => ?_⟩
  obtain ⟨ad, e2, hc⟩ := hh h0
  exact ⟨ad, e2, fun j u hu => by rw [hb.cell (p := ad.add j) (World.block_lt_of_cell? w _ (hc j u hu))]; exact hc j u hu⟩
theorem new_8 (w : World) : Calls Try.prog 10 #[.int .i64 8] w fun e w' => e = .returned (.tuple #[.pointer (some ⟨w.heap.size + 1, 0, none⟩), .int .i64 0]) ∧
      DiskAt w' w.heap.size (w.heap.size + 1) w.heap.size 8 (.slice none 0 0) (zeros 4096) [] ∧ Below w.heap.size w w' := new_ok 8 (by omega) (by omega) w
theorem pick_8 (a : Int) (w : World) : Calls Try.prog 14 #[.int .i64 a, .int .i64 8] w fun e w' => e = .returned (.int .i64 (pickN a 8 : Int)) ∧ Below w.heap.size w w' := pick_ok a 8 (by decide) (by decide) w
theorem times_4096 (w : World) : Calls Try.prog 21 #[.string ⟨#[0]⟩, .int .i64 4096] w fun e w' => e = .returned (.string (bs (zeros 4096))) ∧ Below w.heap.size w w' := times_z 4096 (by decide) w
theorem info26 : (Try.prog.info? 26).map (fun i => (i.zero, i.size, i.bytes)) = some (some (.pointer none), 1, 8) := by kernel_rfl
end Go.Proofs.YthienjmkagediaaM
