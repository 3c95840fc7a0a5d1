/- The contract of the law's first examples (lives): it says yes. -/
import Derived.Test.YthienjmkagediaaN0
import Derived.Deep.QuietTactic
import Derived.BigQuiet
import Derived.Deep.RegionWith
set_option linter.unusedVariables false
set_option linter.unusedSimpArgs false
namespace Go.Proofs.YthienjmkagediaaM
open Go.RowKit
/-- string(b), under a name of its own. -/
def ConvVia (v : Value) : Sem Next := do pure (.value (← convert 30 9 v))
theorem exec_conv (ρ : Operand → Value) (dst : Option Tmp) (x : Operand) (ty : TypeId) (pos : String) (after : Array Edge) (guard : Option (Nat × Bool)) : execOp ρ { dst := dst, op := .convert 30 9 x, type := ty, pos := pos, after := after, guard := guard } = ConvVia (ρ x) := rfl
theorem conv_cells {w : World} {a : Addr} {l : List UInt8} {c : Nat} (h : ∀ j u, (byteCells l)[j]? = some u → w.cell? (a.add j) = some u) : (ConvVia (.slice (some a) l.length c)).run Try.prog w = .ok (.value (.string (bs l))) w := by
  unfold ConvVia
  rw [Sem.run_bind, run_convert_bytes_back w 30 9 5 a c l Try.underlying30 Try.underlying5 Try.underlying9 fun j hj => by
    rw [h j (.int .u8 (l[j].toNat : Int)) (by unfold byteCells; rw [List.getElem?_map, List.getElem?_eq_getElem hj]; rfl)]]
  rfl
theorem conv_own {w : World} {B : Nat} {v : Value} {l : List UInt8} (h : w.ownsRow B 5 1 v l.length (byteCells l)) : (ConvVia v).run Try.prog w = .ok (.value (.string (bs l))) w := by
  rcases h.2 with ⟨rfl, h0⟩ | ⟨g, cap, cur, rfl, _⟩
  · obtain rfl : l = [] := List.eq_nil_of_length_eq_zero h0
    unfold ConvVia
    rw [Sem.run_bind, run_convert_bytes_nil w 30 5 Try.underlying30 Try.underlying5 _ _ 9 Try.underlying9]
    rfl
  · exact conv_cells (h.cells (g := g) rfl)
/-- []byte of a constant: the row that was just made bears the mark of a conversion. -/
def SameVia (v : Value) : Sem Next := do pure (.value (← convert 30 30 v))
theorem exec_same (ρ : Operand → Value) (dst : Option Tmp) (x : Operand) (ty : TypeId) (pos : String) (after : Array Edge) (guard : Option (Nat × Bool)) : execOp ρ { dst := dst, op := .convert 30 30 x, type := ty, pos := pos, after := after, guard := guard } = SameVia (ρ x) := rfl
theorem via_same (w : World) (C : Array Value) (n c : Nat) :
    (SameVia (.slice (some ⟨w.heap.size, 0, none⟩) n c)).run Try.prog (w.alloc (.cells C 5)) = .ok (.value (.slice (some ⟨w.heap.size, 0, none⟩) n c)) (w.alloc (.cells C 5 (C.size, C.size + 1))) := by
  have hsh : (w.alloc (.cells C 5)).shape? w.heap.size = some (5, C.size) := by
    have : (w.alloc (.cells C 5)).heap[w.heap.size]? = some (.cells C 5) := by
      show (w.heap.push (.cells C 5))[w.heap.size]? = _
      simp
    unfold World.shape?
    rw [this]
  have hfr : (w.alloc (.cells C 5)).freeze ⟨w.heap.size, C.size, none⟩ 1 = w.alloc (.cells C 5 (C.size, C.size + 1)) := by
    have hm : ∀ (a : Array Obj) (x : Obj) (f : Obj → Obj), (a.push x).modify a.size f = a.push (f x) := by
      intro a x f
      apply Array.ext
      · simp
      · intro i h1 h2
        simp only [Array.getElem_modify, Array.getElem_push]
        by_cases h : a.size = i
        · subst h
          simp
        · have hi : i < a.size := by simp at h1; omega
          simp [h, hi]
    unfold World.freeze
    rw [if_neg (by decide)]
    show ({ w.alloc (.cells C 5) with heap := (w.heap.push (.cells C 5)).modify w.heap.size _ } : World) = _
    rw [hm]
    rfl
  unfold SameVia
  simp [convert, run_underlying Try.underlying30, run_underlying Try.underlying5, markStringish, hsh, Result.andThen]
  exact hfr
theorem via_same_drew (w : World) (C : Array Value) (n c : Nat) :
    (SameVia (.slice (some ⟨w.heap.size, 0, none⟩) n c)).run Try.prog (w.alloc (.cells C 5)).drew = .ok (.value (.slice (some ⟨w.heap.size, 0, none⟩) n c)) (w.alloc (.cells C 5 (C.size, C.size + 1))).drew := via_same w.drew C n c
theorem bytesAt_marked (w : World) (l : List UInt8) (fr : Nat × Nat) : BytesAt (w.alloc (.cells (byteCells l).toArray 5 fr)) (.slice (some ⟨w.heap.size, 0, none⟩) l.length l.length) l :=
  ⟨_, l.length, rfl, fun _ => ⟨_, rfl, fun j u hu => by
    rw [addr_add, Nat.zero_add, World.cell?_alloc_mark]
    simpa using hu⟩⟩
theorem new_1 (w : World) : Calls Try.prog 10 #[.int .i64 1] w fun e w' => e = .returned (.tuple #[.pointer (some ⟨w.heap.size + 1, 0, none⟩), .int .i64 0]) ∧
      DiskAt w' w.heap.size (w.heap.size + 1) w.heap.size 1 (.slice none 0 0) (zeros 512) [] ∧ Below w.heap.size w w' := new_ok 1 (by omega) (by omega) w
theorem write_0 (B p g n : Nat) (v : Value) (D : List UInt8) (P : List (Nat × List UInt8)) (w : World) (h : DiskAt w B p g n v D P) (bv : Value) (b : List UInt8) (hb : BytesAt w bv b) (hl : b.length ≤ 512) (hP : P.length < 100000) :
    Calls Try.prog 11 #[.pointer (some ⟨p, 0, none⟩), .int .i64 0, bv] w fun e w' => e = .returned (.int .i64 0) ∧ (∃ v', DiskAt w' B p g n v' D (P ++ [(0, b ++ zeros (512 - b.length))]) ∧ (v'.ownBlock = v.ownBlock ∨ ∃ k, w.heap.size ≤ k ∧ v'.ownBlock = some k)) ∧ Elses (Own p g v) w w' :=
  write_ok B p g n v D P w h 0 h.pos bv b hb hl hP
theorem DiskAt.step {a b : World} {B p g n : Nat} {v : Value} {D : List UInt8} {P : List (Nat × List UInt8)} (h : DiskAt a B p g n v D P) (he : Elses (Own p g v) a b) : Below B a b :=
  he.below (by have := h.bp; have := h.blk.lt; omega) fun i hi => (h.lt i hi).1
theorem DiskAt.base {a : World} {B p g n : Nat} {v : Value} {D : List UInt8} {P : List (Nat × List UInt8)} (h : DiskAt a B p g n v D P) : B ≤ a.heap.size := by have := h.bp; have := h.blk.lt; omega
theorem ints_new (w : World) (l : List Int) : IntsAt (w.alloc (.cells (l.map (Value.int .i64)).toArray 3)) (.slice (some ⟨w.heap.size, 0, none⟩) l.length l.length) l :=
  ⟨_, l.length, rfl, fun _ => ⟨_, rfl, by simp, fun j hj => by
    rw [addr_add, Nat.zero_add, World.cell?_alloc_mark]
    simp [hj]⟩⟩
theorem crash_new (B p g n : Nat) (v : Value) (D : List UInt8) (P : List (Nat × List UInt8)) (w : World) (h : DiskAt w B p g n v D P) (l : List Int) (hll : l.length ≤ 100000) :
    Calls Try.prog 16 #[.pointer (some ⟨p, 0, none⟩), .slice (some ⟨w.heap.size, 0, none⟩) l.length l.length] (w.alloc (.cells (l.map (Value.int .i64)).toArray 3)) fun e w' => e = .returned (.int .i64 0) ∧ (∃ v', DiskAt w' B p g n v' (crashK D P (cutN l) P.length) [] ∧ v'.ownBlock = v.ownBlock) ∧ Elses (Own p g v) (w.alloc (.cells (l.map (Value.int .i64)).toArray 3)) w' :=
  crash_ok B p g n v D P _ (h.alloc _) _ l (ints_new w l) (fun a n c e hk => by
    obtain ⟨rfl, _, _⟩ := Value.slice.inj e |>.imp_left Option.some.inj
    have := (h.lt _ hk).2
    exact absurd this (Nat.lt_irrefl _)) hll
theorem crash_none (B p g n : Nat) (v : Value) (D : List UInt8) (P : List (Nat × List UInt8)) (w : World) (h : DiskAt w B p g n v D P) :
    Calls Try.prog 16 #[.pointer (some ⟨p, 0, none⟩), .slice none 0 0] w fun e w' => e = .returned (.int .i64 0) ∧ (∃ v', DiskAt w' B p g n v' (crashK D P (cutN []) P.length) [] ∧ v'.ownBlock = v.ownBlock) ∧ Elses (Own p g v) w w' :=
  crash_ok B p g n v D P w h _ [] ⟨none, 0, rfl, fun h => absurd h (by simp)⟩ (fun a n c e => by cases e) (by simp)
theorem times_511 (w : World) : Calls Try.prog 21 #[.string ⟨#[0]⟩, .int .i64 511] w fun e w' => e = .returned (.string (bs (zeros 511))) ∧ Below w.heap.size w w' := times_z 511 (by decide) w
theorem times_510 (w : World) : Calls Try.prog 21 #[.string ⟨#[0]⟩, .int .i64 510] w fun e w' => e = .returned (.string (bs (zeros 510))) ∧ Below w.heap.size w w' := times_z 510 (by decide) w
theorem own_below {w w' : World} {B e size n : Nat} {v : Value} {xs : List Value} (h : w.ownsRow B e size v n xs) (hb : Below w.heap.size w w') : w'.ownsRow B e size v n xs :=
  ownsRow_kept h (S := fun k => w.heap.size ≤ k) (.of_below' hb) fun k hk => by have := (h.lt k hk).2; omega
def ab : List UInt8 := [97, 98]
def cd : List UInt8 := [99, 100]
theorem lives_1 : crashK (zeros 512) ([] ++ [(0, ab ++ zeros (512 - ab.length))]) (cutN [1]) ([] ++ [(0, ab ++ zeros (512 - ab.length))]).length = 97 :: zeros 511 := by decide +kernel
theorem lives_2 : crashK (97 :: zeros 511) ([] ++ [(0, ab ++ zeros (512 - ab.length))]) (fun _ => 512) ([] ++ [(0, ab ++ zeros (512 - ab.length))]).length = ab ++ zeros 510 := by decide +kernel
theorem lives_3 (P : List (Nat × List UInt8)) (hP : P = [] ++ [(0, cd ++ zeros (512 - cd.length))]) : crashK (ab ++ zeros 510) P (cutN []) P.length = ab ++ zeros 510 := by subst hP; decide +kernel
theorem cat_1 : (⟨#[97]⟩ : ByteArray) ++ bs (zeros 511) = bs (97 :: zeros 511) := bs_append [97] (zeros 511)
theorem cat_2 : (⟨#[97, 98]⟩ : ByteArray) ++ bs (zeros 510) = bs (ab ++ zeros 510) := bs_append ab (zeros 510)
theorem siz_1 : (⟨#[97]⟩ : ByteArray).size + (bs (zeros 511)).size ≤ 9223372036854775807 := by rw [bs_size, zeros_length]; decide
theorem siz_2 : (⟨#[97, 98]⟩ : ByteArray).size + (bs (zeros 510)).size ≤ 9223372036854775807 := by rw [bs_size, zeros_length]; decide
end Go.Proofs.YthienjmkagediaaM
