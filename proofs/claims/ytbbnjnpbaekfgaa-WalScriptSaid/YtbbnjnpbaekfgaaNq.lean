import Derived.Test.YtbbnjnpbaekfgaaMq
import Derived.Test.YtbbnjnpbaekfgaaPAx2
import Derived.Test.YtbbnjnpbaekfgaaPAx3
import Derived.Deep.QuietTactic
import Derived.BigQuiet
import Derived.Deep.RegionWith
import Derived.Lib.AppendStr
import Derived.Laws.AppendOwnNone
import Derived.IntWalk
import Derived.Laws.DeepStrings4
import Derived.RegionTactic
import Derived.Laws.BitsLemmas
import Derived.WalkSmall
import Derived.Lib.Strings
import Derived.RangeFuncNested
import Derived.RangeFuncBound
import Derived.RangeFuncCalls
import Derived.RangeFuncLeaves
import Derived.Shelf.Abstract
import Derived.Shelf.RegionOpen
import Derived.OwnWalkIn
import Derived.TacticsInMore
import Derived.LoopNIn
import Derived.LoopIn
/- What the laws of a log call besides: Times, Pick, strings of bytes. -/
set_option linter.unusedVariables false
set_option linter.unusedSimpArgs false
namespace Go.Proofs.YtbbnjnpbaekfgaaM
open Go.RowKit Go.Proofs.YtbbnjnpbaekfgaaW.PrintMore Go.Proofs.Ytbbnjnpbaekfgaa.PA
open Go.Proofs.YtbbnjnpbaekfgaaW.PrintWords hiding encs encs_append
/-- A string of these bytes. -/
def bs (l : List UInt8) : ByteArray := ⟨l.toArray⟩
theorem bs_size (l : List UInt8) : (bs l).size = l.length := by simp [bs, ByteArray.size]
theorem bs_append (l m : List UInt8) : bs l ++ bs m = bs (l ++ m) := by
  apply ByteArray.ext
  simp [bs]
theorem bs_data (s : ByteArray) : bs s.data.toList = s := by
  apply ByteArray.ext
  simp [bs]
theorem bs_inj {l m : List UInt8} (h : bs l = bs m) : l = m := by
  have := congrArg (fun x : ByteArray => x.data.toList) h
  simpa [bs] using this
/-- So many times this byte. -/
def rep (c : UInt8) (n : Nat) : List UInt8 := List.replicate n c
theorem rep_length (c : UInt8) (n : Nat) : (rep c n).length = n := List.length_replicate
theorem rep_add (c : UInt8) (m n : Nat) : rep c m ++ rep c n = rep c (m + n) := List.replicate_append_replicate
theorem zeros_rep (n : Nat) : zeros n = rep 0 n := rfl
theorem tm2 (n : Nat) : Int.tmod (n : Int) 2 = ((n % 2 : Nat) : Int) := by
  rw [Int.tmod_eq_emod_of_nonneg (by omega)]
  omega
theorem td2 (n : Nat) (h : n ≤ 1000000000000) : wrap64 (Int.tdiv (n : Int) 2) = ((n / 2 : Nat) : Int) := by
  rw [Int.tdiv_eq_ediv_of_nonneg (by omega)]
  unfold wrap64
  omega
theorem times_l0 (c : UInt8) : ∀ (k n a b : Nat), n < 2 ^ k → b + a * n ≤ 1000000000000 → n ≤ 1000000000000 → outlawkit_Times.l0 (k + 1) (bs (rep c a)) (n : Int) (bs (rep c b)) = some (bs (rep c (b + a * n)))
  | 0, n, a, b, hn, _, _ => by
    obtain rfl : n = 0 := by omega
    simp only [outlawkit_Times.l0]
    rw [if_neg (by omega), Nat.mul_zero, Nat.add_zero]
  | k + 1, n, a, b, hn, hm, hn2 => by
    rw [outlawkit_Times.l0]
    by_cases h0 : n = 0
    · subst h0
      rw [if_neg (by omega), Nat.mul_zero, Nat.add_zero]
    · have hk : n / 2 < 2 ^ k := by
        rw [Nat.pow_succ] at hn
        omega
      have ha : a ≤ 1000000000000 := Nat.le_trans (Nat.le_trans (Nat.le_mul_of_pos_right a (by omega)) (Nat.le_add_left _ b)) hm
      rw [if_pos (by omega), tm2, td2 n hn2]
      rcases Nat.mod_two_eq_zero_or_one n with h2 | h2
      · have e : n = 2 * (n / 2) := by omega
        have em : (a + a) * (n / 2) = a * n := by
          rw [← Nat.two_mul, Nat.mul_comm 2 a, Nat.mul_assoc, ← e]
        rw [if_neg (by rw [h2]; omega), if_pos (by rw [bs_size, rep_length]; omega), bs_append, rep_add, times_l0 c k (n / 2) (a + a) b hk (by rw [em]; exact hm) (by omega), em]
      · have e : n = 2 * (n / 2) + 1 := by omega
        have em : (a + a) * (n / 2) + a = a * n := by
          rw [← Nat.two_mul, Nat.mul_comm 2 a, Nat.mul_assoc]
          conv => rhs; rw [e, Nat.mul_add, Nat.mul_one]
        rw [if_pos (by rw [h2]; rfl), if_pos (by rw [bs_size, bs_size, rep_length, rep_length]; have : b ≤ 1000000000000 := Nat.le_trans (Nat.le_add_right b _) hm; omega), if_pos (by rw [bs_size, rep_length]; omega), bs_append, bs_append, rep_add, rep_add, times_l0 c k (n / 2) (a + a) (b + a) hk (by omega) (by omega), Nat.add_assoc, Nat.add_comm a, em]
theorem times_ok (c : UInt8) (n : Nat) (hn : n ≤ 1000000) (w : World) :
    Calls Try.prog 12 #[.string (bs [c]), .int .i64 (n : Int)] w fun e w' => e = .returned (.string (bs (rep c n))) ∧ Below w.heap.size w w' := by
  have h : outlawkit_Times.f 21 (bs [c]) (n : Int) = some (bs (rep c n)) := by
    have := times_l0 c 20 n 1 0 (by omega) (by omega) (by omega)
    rw [Nat.zero_add, Nat.one_mul] at this
    exact this
  refine (outlawkit_Times.calls 21 _ _ _ w h).mono ?_
  rintro e w' ⟨rfl, hd⟩
  exact ⟨rfl, hd.below⟩
theorem times_z (n : Nat) (hn : n ≤ 1000000) (w : World) :
    Calls Try.prog 12 #[.string ⟨#[0]⟩, .int .i64 (n : Int)] w fun e w' => e = .returned (.string (bs (zeros n))) ∧ Below w.heap.size w w' := times_ok 0 n hn w
theorem times_x (n : Nat) (hn : n ≤ 1000000) (w : World) :
    Calls Try.prog 12 #[.string ⟨#[120]⟩, .int .i64 (n : Int)] w fun e w' => e = .returned (.string (bs (rep 120 n))) ∧ Below w.heap.size w w' := times_ok 120 n hn w
/-- n modulo m, from 0 on. -/
def pickN (a : Int) (m : Nat) : Nat := (a % (m : Int)).toNat
theorem pickN_lt (a : Int) {m : Nat} (h : 0 < m) : pickN a m < m := by
  have := Int.emod_nonneg a (show (m : Int) ≠ 0 by omega)
  have := Int.emod_lt_of_pos a (show (0 : Int) < m by omega)
  unfold pickN
  omega
theorem pick_ok (a : Int) (m : Nat) (h0 : 0 < m) (hm : m ≤ 1000000000000) (w : World) :
    Calls Try.prog 11 #[.int .i64 a, .int .i64 (m : Int)] w fun e w' => e = .returned (.int .i64 (pickN a m : Int)) ∧ Below w.heap.size w w' := by
  have he : ((pickN a m : Nat) : Int) = a % (m : Int) := by
    have := Int.emod_nonneg a (show (m : Int) ≠ 0 by omega)
    unfold pickN
    omega
  have h : outlawkit_Pick.f a (m : Int) = some ((pickN a m : Nat) : Int) := by
    rw [he]
    unfold outlawkit_Pick.f
    rw [if_neg (by omega), if_neg (by omega)]
    have h1 := Int.emod_nonneg a (show (m : Int) ≠ 0 by omega)
    have h2 := Int.emod_lt_of_pos a (show (0 : Int) < m by omega)
    have h3 := @Int.tmod_eq_emod a (m : Int)
    by_cases hc : 0 ≤ a ∨ (m : Int) ∣ a
    · rw [if_pos hc] at h3
      rw [if_neg (by omega)]
      exact congrArg some (by omega)
    · rw [if_neg hc] at h3
      have h4 : ((m : Int).natAbs : Int) = m := by omega
      rw [h4] at h3
      rw [if_pos (by omega)]
      apply congrArg some
      unfold wrap64
      omega
  refine (outlawkit_Pick.calls _ _ _ w h).mono ?_
  rintro e w' ⟨rfl, hd⟩
  exact ⟨rfl, hd.below⟩
end Go.Proofs.YtbbnjnpbaekfgaaM
/- Strings of bytes and bytes of strings, under names of their own; disks made and crashed. -/
set_option linter.unusedVariables false
set_option linter.unusedSimpArgs false
namespace Go.Proofs.YtbbnjnpbaekfgaaM
open Go.RowKit
/-- string(b), under a name of its own. -/
def ConvVia (v : Value) : Sem Next := do pure (.value (← convert 37 9 v))
theorem exec_conv (ρ : Operand → Value) (dst : Option Tmp) (x : Operand) (ty : TypeId) (pos : String) (after : Array Edge) (guard : Option (Nat × Bool)) : execOp ρ { dst := dst, op := .convert 37 9 x, type := ty, pos := pos, after := after, guard := guard } = ConvVia (ρ x) := rfl
theorem conv_cells {w : World} {a : Addr} {l : List UInt8} {c : Nat} (h : ∀ j u, (byteCells l)[j]? = some u → w.cell? (a.add j) = some u) : (ConvVia (.slice (some a) l.length c)).run Try.prog w = .ok (.value (.string (bs l))) w := by
  unfold ConvVia
  rw [Sem.run_bind, run_convert_bytes_back w 37 9 5 a c l Try.underlying37 Try.underlying5 Try.underlying9 fun j hj => by
    rw [h j (.int .u8 (l[j].toNat : Int)) (by unfold byteCells; rw [List.getElem?_map, List.getElem?_eq_getElem hj]; rfl)]]
  rfl
theorem conv_own {w : World} {B : Nat} {v : Value} {l : List UInt8} (h : w.ownsRow B 5 1 v l.length (byteCells l)) : (ConvVia v).run Try.prog w = .ok (.value (.string (bs l))) w := by
  rcases h.2 with ⟨rfl, h0⟩ | ⟨g, cap, cur, rfl, _⟩
  · obtain rfl : l = [] := List.eq_nil_of_length_eq_zero h0
    unfold ConvVia
    rw [Sem.run_bind, run_convert_bytes_nil w 37 5 Try.underlying37 Try.underlying5 _ _ 9 Try.underlying9]
    rfl
  · exact conv_cells (h.cells (g := g) rfl)
/-- []byte of a constant: the row that was just made bears the mark of a conversion. -/
def SameVia (v : Value) : Sem Next := do pure (.value (← convert 37 37 v))
theorem exec_same (ρ : Operand → Value) (dst : Option Tmp) (x : Operand) (ty : TypeId) (pos : String) (after : Array Edge) (guard : Option (Nat × Bool)) : execOp ρ { dst := dst, op := .convert 37 37 x, type := ty, pos := pos, after := after, guard := guard } = SameVia (ρ x) := rfl
theorem via_same (w : World) (C : Array Value) (n c : Nat) :
    (SameVia (.slice (some ⟨w.heap.size, 0, none⟩) n c)).run Try.prog (w.alloc (.cells C 5)) = .ok (.value (.slice (some ⟨w.heap.size, 0, none⟩) n c)) (w.alloc (.cells C 5 (C.size, C.size + 1))) := by
  have hsh : (w.alloc (.cells C 5)).shape? w.heap.size = some (5, C.size) := by
    have : (w.alloc (.cells C 5)).heap[w.heap.size]? = some (.cells C 5) := by
      show (w.heap.push (.cells C 5))[w.heap.size]? = _
      simp
    unfold World.shape?
    rw [this]
  have hfr : (w.alloc (.cells C 5)).freeze ⟨w.heap.size, C.size, none⟩ 1 = w.alloc (.cells C 5 (C.size, C.size + 1)) := by
    have hm : ∀ (a : Array Obj) (x : Obj) (f : Obj → Obj), (a.push x).modify a.size f = a.push (f x) := by
      intro a x f
      apply Array.ext
      · simp
      · intro i h1 h2
        simp only [Array.getElem_modify, Array.getElem_push]
        by_cases h : a.size = i
        · subst h
          simp
        · have hi : i < a.size := by simp at h1; omega
          simp [h, hi]
    unfold World.freeze
    rw [if_neg (by decide)]
    show ({ w.alloc (.cells C 5) with heap := (w.heap.push (.cells C 5)).modify w.heap.size _ } : World) = _
    rw [hm]
    rfl
  unfold SameVia
  simp [convert, run_underlying Try.underlying37, run_underlying Try.underlying5, markStringish, hsh, Result.andThen]
  exact hfr
theorem via_same_drew (w : World) (C : Array Value) (n c : Nat) :
    (SameVia (.slice (some ⟨w.heap.size, 0, none⟩) n c)).run Try.prog (w.alloc (.cells C 5)).drew = .ok (.value (.slice (some ⟨w.heap.size, 0, none⟩) n c)) (w.alloc (.cells C 5 (C.size, C.size + 1))).drew := via_same w.drew C n c
theorem bytesAt_marked (w : World) (l : List UInt8) (fr : Nat × Nat) : BytesAt (w.alloc (.cells (byteCells l).toArray 5 fr)) (.slice (some ⟨w.heap.size, 0, none⟩) l.length l.length) l :=
  ⟨_, l.length, rfl, fun _ => ⟨_, rfl, fun j u hu => by
    rw [addr_add, Nat.zero_add, World.cell?_alloc_mark]
    simpa using hu⟩⟩
theorem new_1 (w : World) : Calls Try.prog 13 #[.int .i64 1] w fun e w' => e = .returned (.tuple #[.pointer (some ⟨w.heap.size + 1, 0, none⟩), .int .i64 0]) ∧
      DiskAt w' w.heap.size (w.heap.size + 1) w.heap.size 1 (.slice none 0 0) (zeros 512) [] ∧ Below w.heap.size w w' := new_ok 1 (by omega) (by omega) w
theorem write_0 (B p g n : Nat) (v : Value) (D : List UInt8) (P : List (Nat × List UInt8)) (w : World) (h : DiskAt w B p g n v D P) (bv : Value) (b : List UInt8) (hb : BytesAt w bv b) (hl : b.length ≤ 512) (hP : P.length < 100000) :
    Calls Try.prog 46 #[.pointer (some ⟨p, 0, none⟩), .int .i64 0, bv] w fun e w' => e = .returned (.int .i64 0) ∧ (∃ v', DiskAt w' B p g n v' D (P ++ [(0, b ++ zeros (512 - b.length))]) ∧ (v'.ownBlock = v.ownBlock ∨ ∃ k, w.heap.size ≤ k ∧ v'.ownBlock = some k)) ∧ Elses (Own p g v) w w' :=
  write_ok B p g n v D P w h 0 h.pos bv b hb hl hP
theorem DiskAt.step {a b : World} {B p g n : Nat} {v : Value} {D : List UInt8} {P : List (Nat × List UInt8)} (h : DiskAt a B p g n v D P) (he : Elses (Own p g v) a b) : Below B a b :=
  he.below (by have := h.bp; have := h.blk.lt; omega) fun i hi => (h.lt i hi).1
theorem DiskAt.base {a : World} {B p g n : Nat} {v : Value} {D : List UInt8} {P : List (Nat × List UInt8)} (h : DiskAt a B p g n v D P) : B ≤ a.heap.size := by have := h.bp; have := h.blk.lt; omega
theorem ints_new (w : World) (l : List Int) : IntsAt (w.alloc (.cells (l.map (Value.int .i64)).toArray 3)) (.slice (some ⟨w.heap.size, 0, none⟩) l.length l.length) l :=
  ⟨_, l.length, rfl, fun _ => ⟨_, rfl, by simp, fun j hj => by
    rw [addr_add, Nat.zero_add, World.cell?_alloc_mark]
    simp [hj]⟩⟩
theorem crash_new (B p g n : Nat) (v : Value) (D : List UInt8) (P : List (Nat × List UInt8)) (w : World) (h : DiskAt w B p g n v D P) (l : List Int) (hll : l.length ≤ 100000) :
    Calls Try.prog 25 #[.pointer (some ⟨p, 0, none⟩), .slice (some ⟨w.heap.size, 0, none⟩) l.length l.length] (w.alloc (.cells (l.map (Value.int .i64)).toArray 3)) fun e w' => e = .returned (.int .i64 0) ∧ (∃ v', DiskAt w' B p g n v' (crashK D P (cutN l) P.length) [] ∧ v'.ownBlock = v.ownBlock) ∧ Elses (Own p g v) (w.alloc (.cells (l.map (Value.int .i64)).toArray 3)) w' :=
  crash_ok B p g n v D P _ (h.alloc _) _ l (ints_new w l) (fun a n c e hk => by
    obtain ⟨rfl, _, _⟩ := Value.slice.inj e |>.imp_left Option.some.inj
    have := (h.lt _ hk).2
    exact absurd this (Nat.lt_irrefl _)) hll
theorem crash_none (B p g n : Nat) (v : Value) (D : List UInt8) (P : List (Nat × List UInt8)) (w : World) (h : DiskAt w B p g n v D P) :
    Calls Try.prog 25 #[.pointer (some ⟨p, 0, none⟩), .slice none 0 0] w fun e w' => e = .returned (.int .i64 0) ∧ (∃ v', DiskAt w' B p g n v' (crashK D P (cutN []) P.length) [] ∧ v'.ownBlock = v.ownBlock) ∧ Elses (Own p g v) w w' :=
  crash_ok B p g n v D P w h _ [] ⟨none, 0, rfl, fun h => absurd h (by simp)⟩ (fun a n c e => by cases e) (by simp)
theorem own_below {w w' : World} {B e size n : Nat} {v : Value} {xs : List Value} (h : w.ownsRow B e size v n xs) (hb : Below w.heap.size w w') : w'.ownsRow B e size v n xs :=
  ownsRow_kept h (S := fun k => w.heap.size ≤ k) (.of_below' hb) fun k hk => by have := (h.lt k hk).2; omega
end Go.Proofs.YtbbnjnpbaekfgaaM
/- More of what the laws of a disk do: bytes made, strings made bytes, methods of no disk. -/
set_option linter.unusedVariables false
set_option linter.unusedSimpArgs false
namespace Go.Proofs.YtbbnjnpbaekfgaaM
open Go.RowKit
theorem made_u8 (n : Nat) : madeCells #[.int .u8 0] n = (byteCells (zeros n)).toArray := by
  apply Array.ext
  · rw [size_madeCells, List.size_toArray, byteCells_length, zeros_length]
  · intro i h1 h2
    rw [made_get, List.getElem_toArray, byteCells_get, zeros_get]
    simp [Nat.mod_one]
theorem run_makeB (w : World) (n : Nat) (h : n ≤ 1000000) : (Instr.makeSlice 37 (.int .i64 (n : Int)) (.int .i64 (n : Int))).run Try.prog w = .ok (.slice (some ⟨w.heap.size, 0, none⟩) n n) (w.alloc (.cells (byteCells (zeros n)).toArray 5)) := by
  obtain ⟨i0, hi, hz, hs, hb⟩ := info_parts info5
  have := run_make (P := Try.prog) w 37 5 i0 (.int .u8 0) Try.underlying37 hi hz .i64 .i64 n n (by omega) (by omega) (by rw [hb]; omega) (by omega)
  rw [hs, Int.toNat_natCast, Nat.mul_one] at this
  rw [this]
  show Result.ok _ (w.alloc (.cells (madeCells #[.int .u8 0] n) 5)) = _
  rw [made_u8]
theorem bytesRow_bs (l : List UInt8) (cap j : Nat) (u : Value) (h : (byteCells l)[j]? = some u) : (bytesRow (bs l) cap)[j]? = some u := by
  have hj : j < l.length := by rw [← byteCells_length]; exact (List.getElem?_eq_some_iff.1 h).1
  unfold bytesRow bs
  rw [Array.getElem?_append_left (by simpa using hj)]
  simpa [byteCells] using h
/-- []byte(s). -/
theorem wpList_bytes {ops : Array Oper} {rest : List Oper} {o : Oper} {a : Act} {w : World} {Q : Exit → Act → World → Prop} (hgd : o.guard = none) (x : Operand) (ho : o.op = .convert 9 37 x) (l : List UInt8) (hl : l.length ≤ 1000000) (hx : a.eval x = .string (bs l))
    (h : ∀ cap w', l.length ≤ cap → cap ≤ maxLen → (∀ j u, (byteCells l)[j]? = some u → w'.cell? ⟨w.heap.size, j, none⟩ = some u) → (∀ j, j < l.length → w'.frozen? ⟨w.heap.size, j, none⟩ = false) → Below w.heap.size w w' → w'.heap.size = w.heap.size + 1 → wpList Try.prog ops Q rest (a.put o.dst (.slice (some ⟨w.heap.size, 0, none⟩) l.length cap)) w') : wpList Try.prog ops Q (o :: rest) a w := by
  have hr := run_bytes_of_string (P := Try.prog) w 9 37 5 (bs l) Try.underlying9 Try.underlying37 Try.underlying5
  rw [bs_size] at hr
  have hge := grownCap_ge w l.length 0 5
  have hle := grownCap_le_maxLen w l.length 0 5 (by unfold maxLen; omega)
  generalize grownCap w l.length 0 5 = cap at hr hge hle
  have hbr : ∀ (fr : Nat × Nat) j, (w.drew.alloc (.cells (bytesRow (bs l) cap) 5 fr)).cell? ⟨w.heap.size, j, none⟩ = (bytesRow (bs l) cap)[j]? := fun fr j => World.cell?_alloc_mark w.drew _ 5 fr j
  have hsz : l.length ≤ (bytesRow (bs l) cap).size := by
    unfold bytesRow
    simp only [Array.size_append, Array.size_map]
    have : (bs l).data.size = l.length := by simp [bs]
    omega
  refine wpList_run (.slice (some ⟨w.heap.size, 0, none⟩) l.length cap) (w.drew.alloc (.cells (bytesRow (bs l) cap) 5 ((bytesRow (bs l) cap).size, (bytesRow (bs l) cap).size + 1))) hgd ?_ (h cap _ hge hle (fun j u hj => (hbr _ j).trans (bytesRow_bs l cap j u hj)) (fun j hj => ?_) ((Below.refl _ w).drew.alloc (Nat.le_refl _) _) (by simp))
  · unfold execOp
    simp only [ho, hx, Sem.run_bind, hr, Result.andThen_ok, Sem.run_pure]
  · have : (w.drew.alloc (.cells (bytesRow (bs l) cap) 5 ((bytesRow (bs l) cap).size, (bytesRow (bs l) cap).size + 1))).heap[w.heap.size]? = some (.cells (bytesRow (bs l) cap) 5 ((bytesRow (bs l) cap).size, (bytesRow (bs l) cap).size + 1)) := by
      show (w.heap.push _)[w.heap.size]? = _
      simp
    simp only [World.frozen?, this]
    simp
    omega
theorem sync_nil (w : World) : Calls Try.prog 49 #[.pointer none] w fun e w' => e = .returned (.int .i64 1) ∧ w = w' := by
  go_enter Try.func49, Try.ntmps49
  go_wp2_with (go_at_call 53; refine (is_nil _).mono ?_; rintro e w' ⟨rfl, rfl⟩)
  go_ret
  exact ⟨rfl, rfl⟩
theorem sectors_nil (w : World) : Calls Try.prog 43 #[.pointer none] w fun e w' => e = .returned (.int .i64 0) ∧ w = w' := by
  go_enter Try.func43, Try.ntmps43
  go_wp2_with (go_at_call 53; refine (is_nil _).mono ?_; rintro e w' ⟨rfl, rfl⟩)
  go_ret
  exact ⟨rfl, rfl⟩
theorem image_nil (w : World) : Calls Try.prog 19 #[.pointer none] w fun e w' => e = .returned (.slice none 0 0) ∧ w = w' := by
  go_enter Try.func19, Try.ntmps19
  go_wp2_with (go_at_call 43; refine (sectors_nil _).mono ?_; rintro e w' ⟨rfl, rfl⟩)
  go_loop [3, 9] (fun o i => o = .slice none 0 0 ∧ i = .int .i64 0) (fun _ _ => 0)
  case atStart => exact ⟨rfl, rfl⟩
  case round =>
    obtain ⟨rfl, rfl⟩ := hrel
    go_wp2
    go_ret
    exact ⟨rfl, rfl⟩
theorem new_0 (w : World) : Calls Try.prog 13 #[.int .i64 0] w fun e w' => e = .returned (.tuple #[.pointer none, .int .i64 2]) ∧ w = w' := new_no 0 (by decide) w
theorem new_1025 (w : World) : Calls Try.prog 13 #[.int .i64 1025] w fun e w' => e = .returned (.tuple #[.pointer none, .int .i64 2]) ∧ w = w' := new_no 1025 (by decide) w
end Go.Proofs.YtbbnjnpbaekfgaaM
/- What DiskCrash does besides: lists of strings and of numbers that came in, bytes of strings copied and appended. -/
set_option linter.unusedVariables false
set_option linter.unusedSimpArgs false
namespace Go.Proofs.YtbbnjnpbaekfgaaM
open Go.RowKit
/-- The strings that a slice of them leads to. -/
def StrsAt (w : World) (a : Option Addr) (l : List ByteArray) : Prop := 0 < l.length → ∃ ad, a = some ad ∧ ad.block < w.heap.size ∧ ∀ j (h : j < l.length), w.cell? (ad.add j) = some (.string l[j])
theorem StrsAt.below {w w' : World} {a : Option Addr} {l : List ByteArray} {B : Nat} (h : StrsAt w a l) (hb : Below B w w') (hB : w.heap.size ≤ B) : StrsAt w' a l := fun h0 => by
  obtain ⟨ad, e, hl, hc⟩ := h h0
  exact ⟨ad, e, Nat.lt_of_lt_of_le hl hb.size, fun j hj => by rw [hb.cell (p := ad.add j) (by rw [add_block]; omega)]; exact hc j hj⟩
theorem IntsAt.below {w w' : World} {v : Value} {l : List Int} {B : Nat} (h : IntsAt w v l) (hb : Below B w w') (hB : w.heap.size ≤ B) : IntsAt w' v l := by
  obtain ⟨a, cap, e, hh⟩ := h
  refine ⟨a, cap, e, fun h0 => ?_⟩
  obtain ⟨ad, e, hl, hc⟩ := hh h0
  exact ⟨ad, e, Nat.lt_of_lt_of_le hl hb.size, fun j hj => by rw [hb.cell (p := ad.add j) (by rw [add_block]; omega)]; exact hc j hj⟩
/-- Are texts gone through? -/
def lightB (l : List ByteArray) (m b : Nat) : Bool := l.all (fun s => decide (s.size ≤ b)) && decide (l.length ≤ m)
set_option maxHeartbeats 400000 in
theorem lights (a : Option Addr) (l : List ByteArray) (c m b : Nat) (w : World) (h : StrsAt w a l) (hl : l.length ≤ 140737488351232) :
    Calls Try.prog 20 #[.slice a l.length c, .int .i64 (m : Int), .int .i64 (b : Int)] w fun e w' => e = .returned (.bool (lightB l m b)) ∧ w = w' := by
  have H := Lib.hid h
  clear h
  go_enter Try.func20, Try.ntmps20
  go_wp2
  go_loop [7] (fun iv => ∃ k : Nat, k ≤ l.length ∧ iv = .int .i64 (k : Int) ∧ Hid (∀ j (h : j < l.length), j < k → l[j].size ≤ b)) (fun iv => l.length - (intOf iv).toNat)
  case atStart => exact ⟨0, Nat.zero_le _, rfl, fun j _ h => by omega⟩
  case round =>
    obtain ⟨k, hk, rfl, HA⟩ := hrel
    by_cases hlt : k < l.length
    · obtain ⟨ad, rfl, _, hc⟩ := H.out (by omega)
      have hck := hc k hlt
      obtain ⟨s, hs⟩ : ∃ s, s = l[k] := ⟨_, rfl⟩
      rw [← hs] at hck
      have HSS := Lib.hid hs
      clear hc hs
      have hk' : (k : Int) < (l.length : Int) := by omega
      by_cases hsz : s.size ≤ b
      · have hsz' : ¬ (b : Int) < (s.size : Int) := by omega
        have hsd : decide (b < s.size) = false := by simpa using hsz
        go_wp2
        go_round
        case rel => exact ⟨k + 1, by omega, by go_num, show ∀ _ _, _ → _ from fun j hj hjk => by
          by_cases e : j = k
          · subst e
            rw [← HSS.out]
            exact hsz
          · exact HA.out j hj (by omega)⟩
        case measure => simp [intOf]; omega
      · have hsz' : (b : Int) < (s.size : Int) := by omega
        have hsd : decide (b < s.size) = true := by simpa using hsz
        go_wp2
        go_ret
        refine ⟨?_, rfl⟩
        have : lightB l m b = false := by
          unfold lightB
          rw [Bool.and_eq_false_iff]
          left
          rw [List.all_eq_false]
          exact ⟨s, by rw [HSS.out]; exact List.getElem_mem hlt, by simpa using hsz⟩
        rw [this]
        rfl
    · have hk' : ¬ (k : Int) < (l.length : Int) := by omega
      obtain rfl : k = l.length := by omega
      go_wp2
      go_ret
      refine ⟨?_, rfl⟩
      have : lightB l m b = decide (l.length ≤ m) := by
        unfold lightB
        rw [show l.all (fun s => decide (s.size ≤ b)) = true from by
          rw [List.all_eq_true]
          intro s hs
          obtain ⟨j, hj, rfl⟩ := List.mem_iff_getElem.1 hs
          simpa using HA.out j hj hj]
        rfl
      rw [this]
      simp
/-- copy(dst, s), as one step of a region that draws its order. -/
theorem step_copy_string {ops : Array Oper} {o : Oper} {a : Act} {w : World} {K : Act → World → Prop} {Q : Exit → Act → World → Prop} {E : Prop} (hgd : o.guard = none) (d s : Operand)
    (ho : o.op = .call { callee := .builtin .copy, args := #[d, s], argTypes := #[37, 9] })
    (g off dLen dCap : Nat) (l : List UInt8) (hd : a.eval d = .slice (some ⟨g, off, none⟩) dLen dCap) (hs : a.eval s = .string (bs l)) (hle : l.length ≤ dLen)
    (c : List Value) (t : TypeId) (hg : Blk w g c t) (hfit : off + l.length ≤ c.length)
    (h : K (a.put o.dst (goInt l.length)) (w.setRow g (splice c off (byteCells l)).toArray)) : if Region.wanted o (yielded ops a.tmps) = true then Oper.wp Try.prog o a w K Q else E := by
  have hw : Region.wanted o (yielded ops a.tmps) = true := by simp [Region.wanted, hgd]
  rw [if_pos hw]
  have hst := run_storeCells_at Try.prog g off t (byteCells l) 0 c.toArray w hg (by rw [byteCells_length]; simpa using hfit) (byteCells_one l)
  have e : (c.toArray.toList.take (off + 0) ++ byteCells l ++ c.toArray.toList.drop (off + 0 + (byteCells l).length)).toArray = (splice c off (byteCells l)).toArray := by simp [splice]
  rw [e] at hst
  have hcells : (((bs l).extract 0 l.length).data.map fun b => Value.int .u8 (b.toNat : Int)) = (byteCells l).toArray := by
    apply Array.toList_inj.1
    simp [bs, byteCells]
  have hrun : (Builtin.copy_ #[37, 9] o.type #[.slice (some ⟨g, off, none⟩) dLen dCap, .string (bs l)]).run Try.prog w = .ok (goInt l.length) (w.setRow g (splice c off (byteCells l)).toArray) := by
    have hcl : List.take l.length (List.map (fun b => Value.int .u8 (b.toNat : Int)) (bs l).data.toList) = byteCells l  := by
      simp only [bs, byteCells]
      exact List.take_of_length_le (by simp)
    have hi : (Try.prog.info? 5).map (·.size) = some 1 := by kernel_rfl
    cases hq : Try.prog.info? 5 with
    | none => simp [hq] at hi
    | some i =>
      have hs1 : i.size = 1 := by simpa [hq] using hi
      have hmin : Nat.min l.length dLen = l.length := Nat.min_eq_left hle
      simp [Builtin.copy_, run_underlying Try.underlying37, Builtin.lenOf, Builtin.firstCells, sizeOf, typeInfo, hq, hs1, bs_size, hmin, hcl, hst]
  unfold Oper.wp
  simp only [execOp, ho, resolve, invoke, builtin, Sem.run_bind, Sem.run_pure, Result.andThen_ok, List.map_toArray, List.map_cons, List.map_nil, hd, hs, hrun]
  exact h
theorem strCells_bs (l : List UInt8) : Lib.strCells (bs l) = byteCells l := by simp [Lib.strCells, bs, byteCells]
theorem info3 : (Try.prog.info? 3).map (fun i => (i.zero, i.size, i.bytes)) = some (some (.int .i64 0), 1, 8) := by kernel_rfl
/-- A call gives these numbers, in memory of its own, and turns nothing. -/
def GivesInts (w : World) (l : List Int) (e : Ending) (w' : World) : Prop := ∃ v, e = .returned v ∧ w'.ownsRow w.heap.size 3 1 v l.length (l.map (Value.int .i64)) ∧ Below w.heap.size w w'
set_option maxHeartbeats 400000 in
theorem own_ints (a : Option Addr) (l : List Int) (c : Nat) (w : World) (h : IntsAt w (.slice a l.length c) l) (hl : l.length ≤ 1000000) (hnil : a = none → c = 0) :
    Calls Try.prog 26 #[.slice a l.length c] w (GivesInts w l) := by
  obtain ⟨i0, hi0, hz0, hz1, hz2⟩ := info_parts info3
  have HI := Lib.hid (And.intro hi0 (And.intro hz0 (And.intro hz1 hz2)))
  have H := Lib.hid h
  clear hi0 hz0 hz1 hz2 h
  have HE := Lib.hid (show (w.alloc (.cells #[] 3)).ownsRow w.heap.size 3 1 (.slice (some ⟨w.heap.size, 0, none⟩) 0 0) 0 [] from World.ownsRow_made w #[] 0 (Nat.le_refl _) (by unfold maxLen; omega) (by simp))
  cases a with
  | none =>
    obtain rfl := hnil rfl
    have h0 : l.length = 0 := by
      obtain ⟨a', c', e', hh⟩ := H.out
      cases e'
      by_cases h : l.length = 0
      · exact h
      · obtain ⟨ad, e, _⟩ := hh (by omega)
        cases e
    obtain rfl : l = [] := List.eq_nil_of_length_eq_zero h0
    go_enter Try.func26, Try.ntmps26
    go_wp2_with (at_builtin; refine wpList_append_own_none rfl _ _ 40 rfl w.heap.size 3 i0 1 Try.underlying40 HI.out.1 (.slice (some ⟨w.heap.size, 0, none⟩) 0 0) 0 [] rfl HE.out rfl ?_)
    go_ret
    exact ⟨_, rfl, HE.out, (Below.refl w.heap.size w).alloc (Nat.le_refl _) _⟩
  | some ad =>
    have HN := Lib.hid (show ∀ j u, (l.map (Value.int .i64))[j]? = some u → (w.alloc (.cells #[] 3)).cell? (ad.add j) = some u from fun j u hu => by
      rw [List.getElem?_map] at hu
      cases hj : l[j]? with
      | none => rw [hj] at hu; cases hu
      | some x =>
        rw [hj] at hu
        cases hu
        obtain ⟨hjl, hx⟩ := List.getElem?_eq_some_iff.1 hj
        obtain ⟨a', c', e', hh⟩ := H.out
        cases e'
        obtain ⟨ad', e, hal, hc⟩ := hh (by omega)
        cases e
        rw [World.cell?_alloc_lt _ _ _ (by rw [add_block]; exact hal), hc j hjl, hx])
    go_enter Try.func26, Try.ntmps26
    go_wp2_with (at_builtin; refine wpList_append_own _ rfl _ _ 40 rfl w.heap.size 3 i0 (.int .i64 0) 1 8 Try.underlying40 HI.out.1 HI.out.2.1 HI.out.2.2.1 HI.out.2.2.2 rfl (by decide) (.slice (some ⟨w.heap.size, 0, none⟩) 0 0) 0 [] rfl HE.out ad l.length c (l.map (Value.int .i64)) rfl (by simp) HN.out (by intro u hu; obtain ⟨x, _, rfl⟩ := List.mem_map.1 hu; rfl) (by unfold maxLen; omega) (by omega) (by simp) ?_; intro v' w1 hown hgrow _; have HG := Lib.hid (And.intro hown (((Below.refl w.heap.size w).alloc (Nat.le_refl _) (.cells #[] 3)).grown hgrow (by simp) fun k hk => by simp [Value.ownBlock] at hk; omega)); clear hown hgrow)
    go_ret
    refine ⟨_, rfl, ?_, HG.out.2⟩
    have := HG.out.1
    rw [Nat.zero_add, List.nil_append] at this
    exact this
end Go.Proofs.YtbbnjnpbaekfgaaM
/- The contracts of a log's small functions: Need, number, framed. -/
set_option linter.unusedVariables false
set_option linter.unusedSimpArgs false
namespace Go.Proofs.YtbbnjnpbaekfgaaM
open Go.RowKit
theorem splice_length' {α : Type} (L : List α) (o : Nat) (cs : List α) (h : o + cs.length ≤ L.length) : (splice L o cs).length = L.length := length_splice L o cs h
/-- One cell more, ahead of what was written. -/
theorem set_splice {c cs : List Value} {o : Nat} (v : Value) (h : o + 1 + cs.length ≤ c.length) : (splice c (o + 1) cs).set o v = splice c o (v :: cs) := by
  apply List.ext_getElem?
  intro j
  rw [List.getElem?_set, splice_get _ _ _ _ h, splice_get _ _ _ _ (by simp only [List.length_cons]; omega)]
  simp only [List.length_cons]
  by_cases hj : o = j
  · subst hj
    rw [if_pos rfl, if_pos (by rw [splice_length' _ _ _ h]; omega), if_pos (by omega)]
    simp
  · rw [if_neg hj]
    by_cases h1 : o + 1 ≤ j ∧ j < o + 1 + cs.length
    · rw [if_pos h1, if_pos (by omega), show j - o = (j - (o + 1)) + 1 by omega]
      simp
    · rw [if_neg h1, if_neg (by omega)]
theorem byteCells_cons (b : UInt8) (l : List UInt8) : byteCells (b :: l) = .int .u8 (b.toNat : Int) :: byteCells l := rfl
theorem shr_byte (n k : Nat) : ((n : Int) / 2 ^ (8 * k)) % 256 = ((UInt8.ofNat (n / 256 ^ k)).toNat : Int) := by
  have e2 : (2 : Nat) ^ (8 * k) = 256 ^ k := by rw [Nat.pow_mul]
  have e3 : ((2 : Int) ^ (8 * k)) = ((256 ^ k : Nat) : Int) := by rw [← e2]; simp
  rw [e3]
  simp only [UInt8.toNat_ofNat']
  omega
set_option maxHeartbeats 1000000 in
theorem number_ok (g off L cap n : Nat) (c : List Value) (t : TypeId) (hL : L ≤ 8) (hn : n < 18446744073709551616) (w : World) (hb : Blk w g c t) (hfit : off + L ≤ c.length) :
    Calls Try.prog 68 #[.slice (some ⟨g, off, none⟩) L cap, .int .u64 (n : Int)] w fun e w' => e = .returned (.tuple #[]) ∧ Blk w' g (splice c off (byteCells (be L n))) t ∧ Elses (fun k => k = g) w w' := by
  have HB := Lib.hid (And.intro hb hfit)
  clear hb hfit
  go_enter Try.func68, Try.ntmps68
  go_wp2
  go_loopw [7] (fun iv wr => ∃ k : Nat, k ≤ L ∧ iv = .int .i64 (k : Int) ∧ Hid (Blk wr g (splice c (off + (L - k)) (byteCells (be k n))) t) ∧ Hid (Elses (fun k => k = g) w wr)) (fun iv _ => L - (intOf iv).toNat)
  case atStart => exact ⟨0, Nat.zero_le _, rfl, show Blk _ _ _ _ by simpa [be, byteCells, splice] using HB.out.1, Elses.refl _ _⟩
  case round =>
    obtain ⟨k, hk, rfl, HK, HE⟩ := hrel
    by_cases hlt : k < L
    · have hk' : (k : Int) < (L : Int) := by omega
      have hsh := shr_byte n k
      have hcl : (splice c (off + (L - k)) (byteCells (be k n))).length = c.length := splice_length' _ _ _ (by rw [byteCells_length, be_length]; have := HB.out.2; omega)
      obtain ⟨x, hx⟩ : ∃ x, (splice c (off + (L - k)) (byteCells (be k n)))[off + (L - 1 - k)]? = some x := ⟨_, List.getElem?_eq_getElem (by rw [hcl]; have := HB.out.2; omega)⟩
      have hc := (HK.out.cell (off + (L - 1 - k))).trans hx
      have hf := HK.out.frozen (off + (L - 1 - k))
      have HS := Lib.hid (And.intro hcl hsh)
      clear hx hcl hsh
      go_wp2
      go_roundw
      case rel =>
        refine ⟨k + 1, by omega, by go_num, ?_, ?_⟩
        · show Blk _ _ _ _
          rw [HS.out.2, show L - (k + 1) = L - 1 - k by omega]
          show Blk _ _ (splice c _ (byteCells (UInt8.ofNat (n / 256 ^ k) :: be k n))) _
          rw [byteCells_cons, ← set_splice _ (by rw [byteCells_length, be_length]; have := HB.out.2; omega), show off + (L - 1 - k) + 1 = off + (L - k) by omega]
          exact HK.out.set _ _
        · exact HE.out.set (.inl rfl) _
      case measure => simp [intOf]; omega
    · have hk' : ¬ (k : Int) < (L : Int) := by omega
      obtain rfl : k = L := by omega
      go_wp2
      go_end0
      have := HK.out
      rw [Nat.sub_self, Nat.add_zero] at this
      exact ⟨rfl, this, HE.out⟩
end Go.Proofs.YtbbnjnpbaekfgaaM
/- The contract of a log's framed: a sector of a record's part. -/
set_option linter.unusedVariables false
set_option linter.unusedSimpArgs false
namespace Go.Proofs.YtbbnjnpbaekfgaaM
open Go.RowKit
theorem info90 : (Try.prog.info? 90).map (fun i => (i.zero.map (·.cells), i.size, i.bytes)) = some (some (byteCells (zeros 512)).toArray, 512, 512) := by kernel_rfl
theorem zero90 : ∃ i z, Try.prog.info? 90 = some i ∧ i.zero = some z ∧ z.cells = (byteCells (zeros 512)).toArray ∧ i.size = 512 ∧ i.bytes = 512 := by
  have h := info90
  generalize (byteCells (zeros 512)).toArray = C at h ⊢
  cases hq : Try.prog.info? 90 with
  | none => simp [hq] at h
  | some i =>
    cases hz : i.zero with
    | none => simp [hq, hz] at h
    | some z =>
      simp only [hq, hz, Option.map_some, Option.some.injEq, Prod.mk.injEq] at h
      exact ⟨i, z, rfl, hz, h.1, h.2.1, h.2.2⟩
theorem size90 : (Try.prog.info? 90).map (·.size) = some 512 := by kernel_rfl
theorem run_alloc90 (w : World) : (Instr.alloc 90 true (.tuple #[])).run Try.prog w = .ok (.pointer (some ⟨w.heap.size, 0, none⟩)) (w.alloc (.cells (byteCells (zeros 512)).toArray 90)) := by
  obtain ⟨i, z, hi, hz, hzc, hs, hb⟩ := zero90
  rw [← hzc]
  simp [Instr.alloc, zeroValue, typeInfo, hi, hz, newVar, newRow]
section
variable (ρ : Operand → Value) (dst : Option Tmp) (x y : Operand) (ty : TypeId) (pos : String) (after : Array Edge) (guard : Option (Nat × Bool))
theorem exec_load90 : execOp ρ { dst := dst, op := .load 90 x, type := ty, pos := pos, after := after, guard := guard } = LoadVia 90 (ρ x) := rfl
theorem exec_store90 : execOp ρ { dst := dst, op := .store 90 x y, type := ty, pos := pos, after := after, guard := guard } = StoreVia 90 (ρ x) (ρ y) := rfl
theorem exec_alloc90 : execOp ρ { dst := dst, op := .alloc 90, type := ty, pos := pos, after := after, guard := guard } = AllocVia 90 := rfl
end
theorem via_alloc90 (w : World) : (AllocVia 90).run Try.prog w = .ok (.value (.pointer (some ⟨w.heap.size, 0, none⟩))) (w.alloc (.cells (byteCells (zeros 512)).toArray 90)) := by
  unfold AllocVia
  rw [Sem.run_bind, run_alloc90]
  rfl
theorem via_load90 (w : World) (b o : Nat) (cs : List Value) (h : w.rangeAt b o cs) (hl : cs.length = 512) : (LoadVia 90 (.pointer (some ⟨b, o, none⟩))).run Try.prog w = .ok (.value (.agg cs.toArray)) w := by
  unfold LoadVia
  rw [Sem.run_bind, run_loadAt_mid w b o 90 cs _ h Try.underlying90 rfl (by rw [hl]; exact size90)]
  rfl
theorem Blk.range {w : World} {I : Nat} {c : List Value} {t : TypeId} (h : Blk w I c t) : w.rangeAt I 0 c := fun j u hu => by
  rw [h.cell, Nat.zero_add]
  exact hu
theorem via_store90_self (w : World) (b : Nat) (cs : List Value) (h : Blk w b cs 90) (hl : cs.length = 512) (h1 : ∀ v ∈ cs, v.oneCell' = true) : (StoreVia 90 (.pointer (some ⟨b, 0, none⟩)) (.agg cs.toArray)).run Try.prog w = .ok .skip w := by
  rw [via_store 90 90 w b 0 cs cs h (by omega) (by rw [hl]; exact size90) h1, splice_all _ _ rfl, setRow_self w b cs.toArray 90 (0, 0) h]
/-- copy(dst, s). -/
theorem wpList_copy_string {ops : Array Oper} {rest : List Oper} {o : Oper} {a : Act} {w : World} {Q : Exit → Act → World → Prop} (hgd : o.guard = none) (d s : Operand)
    (ho : o.op = .call { callee := .builtin .copy, args := #[d, s], argTypes := #[37, 9] })
    (g off dLen dCap : Nat) (l : List UInt8) (hd : a.eval d = .slice (some ⟨g, off, none⟩) dLen dCap) (hs : a.eval s = .string (bs l)) (hle : l.length ≤ dLen)
    (c : List Value) (t : TypeId) (hg : Blk w g c t) (hfit : off + l.length ≤ c.length)
    (h : wpList Try.prog ops Q rest (a.put o.dst (goInt l.length)) (w.setRow g (splice c off (byteCells l)).toArray)) : wpList Try.prog ops Q (o :: rest) a w := by
  refine wpList_plain hgd fun K hK => ?_
  have := step_copy_string (ops := ops) (o := o) (a := a) (w := w) (K := K) (Q := Q) (E := True) hgd d s ho g off dLen dCap l hd hs hle c t hg hfit
  have hw : Region.wanted o (yielded ops a.tmps) = true := by simp [Region.wanted, hgd]
  rw [if_pos hw] at this
  exact this (hK _ _ h)
attribute [local go_sem ↓] exec_load90 exec_store90 exec_alloc90
attribute [local go_sem] via_alloc90
theorem zeros_add (m n : Nat) : zeros (m + n) = zeros m ++ zeros n := (rep_add 0 m n).symm
theorem zeros_take (m n : Nat) (h : m ≤ n) : (zeros n).take m = zeros m := by
  unfold zeros
  rw [List.take_replicate, Nat.min_eq_left h]
theorem zeros_drop (m n : Nat) : (zeros n).drop m = zeros (n - m) := by
  unfold zeros
  rw [List.drop_replicate]
theorem splice_mid {α : Type} (A B C X : List α) (o : Nat) (ho : o = A.length) (hB : B.length = X.length) : splice (A ++ (B ++ C)) o X = A ++ (X ++ C) := by
  subst ho
  unfold splice
  rw [List.take_append_of_le_length (Nat.le_refl _), List.take_length, List.drop_append, List.drop_eq_nil_of_le (by omega), List.nil_append, Nat.add_sub_cancel_left, List.drop_append, List.drop_eq_nil_of_le (by omega), List.nil_append, ← hB, Nat.sub_self, List.drop_zero]
/-- The bytes as they're filled in. -/
theorem fill_sec (a : Nat) (part : List UInt8) (last : Bool) (hp : part.length ≤ 493) :
    splice (splice ((splice (splice (byteCells (zeros 512)) 0 (byteCells (be 8 (a + 1)))) 504 (byteCells (be 8 (a + 1)))).set 8 (.int .u8 (if last then 1 else 0))) 9 (byteCells (be 2 part.length))) 11 (byteCells part) = byteCells (secF a last part) := by
  have h8 := be_length 8 (a + 1)
  have h2 := be_length 2 part.length
  have z1 : zeros 512 = [] ++ (zeros 8 ++ zeros 504) := by rw [← zeros_add]; rfl
  have z2 : zeros 504 = zeros 496 ++ zeros 8 := by rw [← zeros_add]
  have z3 : zeros 496 = [0] ++ (zeros 2 ++ (zeros part.length ++ zeros (493 - part.length))) := by
    rw [← zeros_add, ← zeros_add, show part.length + (493 - part.length) = 493 by omega]
    show _ = zeros 1 ++ _
    rw [← zeros_add]
  have e0 : splice (splice (zeros 512) 0 (be 8 (a + 1))) 504 (be 8 (a + 1)) = be 8 (a + 1) ++ ([0] ++ (zeros 2 ++ (zeros part.length ++ (zeros (493 - part.length) ++ be 8 (a + 1))))) := by
    rw [z1, splice_mid [] (zeros 8) (zeros 504) _ 0 rfl (by rw [h8, zeros_length]), List.nil_append, z2]
    have : be 8 (a + 1) ++ (zeros 496 ++ zeros 8) = (be 8 (a + 1) ++ zeros 496) ++ (zeros 8 ++ []) := by rw [List.append_nil, List.append_assoc]
    rw [this, splice_mid (be 8 (a + 1) ++ zeros 496) (zeros 8) [] _ 504 (by rw [List.length_append, h8, zeros_length]) (by rw [h8, zeros_length]), List.append_nil, z3]
    simp only [List.append_assoc]
  rw [← byteCells_splice, ← byteCells_splice, e0]
  have e2 : (byteCells (be 8 (a + 1) ++ ([0] ++ (zeros 2 ++ (zeros part.length ++ (zeros (493 - part.length) ++ be 8 (a + 1))))))).set 8 (.int .u8 (if last then 1 else 0)) = byteCells (be 8 (a + 1) ++ ([if last then (1 : UInt8) else 0] ++ (zeros 2 ++ (zeros part.length ++ (zeros (493 - part.length) ++ be 8 (a + 1)))))) := by
    rw [byteCells_append, byteCells_append, List.set_append_right _ _ (by rw [byteCells_length, h8]; exact Nat.le_refl _), byteCells_length, h8, byteCells_append (be 8 (a + 1)) ([if last = true then (1 : UInt8) else 0] ++ _), byteCells_append [if last = true then (1 : UInt8) else 0]]
    cases last <;> rfl
  rw [e2, ← byteCells_splice, ← byteCells_splice]
  congr 1
  rw [← List.append_assoc (be 8 (a + 1)), splice_mid _ (zeros 2) _ (be 2 part.length) 9 (by rw [List.length_append, h8]; rfl) (by rw [h2, zeros_length]), ← List.append_assoc, splice_mid _ (zeros part.length) _ part 11 (by rw [List.length_append, List.length_append, h8, h2]; rfl) (by rw [zeros_length])]
  unfold secF
  simp only [List.append_assoc, List.cons_append, List.nil_append]
theorem fill_len1 (a : Nat) : (splice (byteCells (zeros 512)) 0 (byteCells (be 8 (a + 1)))).length = 512 := by
  rw [splice_length' _ _ _ (by rw [byteCells_length, byteCells_length, be_length, zeros_length]; omega), byteCells_length, zeros_length]
theorem fill_len2 (a : Nat) : (splice (splice (byteCells (zeros 512)) 0 (byteCells (be 8 (a + 1)))) 504 (byteCells (be 8 (a + 1)))).length = 512 := by
  rw [splice_length' _ _ _ (by rw [fill_len1, byteCells_length, be_length]; omega), fill_len1]
theorem fill_at8 (a : Nat) : (splice (splice (byteCells (zeros 512)) 0 (byteCells (be 8 (a + 1)))) 504 (byteCells (be 8 (a + 1))))[8]? = some (.int .u8 0) := by
  rw [splice_get _ _ _ _ (by rw [fill_len1, byteCells_length, be_length]; omega), if_neg (by omega), splice_get _ _ _ _ (by rw [byteCells_length, byteCells_length, be_length, zeros_length]; omega), if_neg (by rw [byteCells_length, be_length]; omega)]
  rfl
theorem set_self {c : List Value} {i : Nat} {v : Value} (h : c[i]? = some v) : c.set i v = c := by
  apply List.ext_getElem?
  intro j
  rw [List.getElem?_set]
  split
  · rename_i e
    subst e
    rw [if_pos (List.getElem?_eq_some_iff.1 h).1, h]
  · rfl
theorem fill_one (c : List Value) (v : Value) : (c.set 8 v).length = c.length := List.length_set
theorem res90 {w : World} {a : Addr} {R : List Value} {tmps : Array Value} (h : (LoadVia 90 (.pointer (some a))).run Try.prog w = .ok (.value (.agg R.toArray)) w) (ht : tmps.getD 6 undef = .pointer (some a)) :
    (results Try.f52 tmps).run Try.prog w = .ok (.agg R.toArray) w := by
  have h2 : (Instr.loadAt 90 (.pointer (some a))).run Try.prog w = .ok (.agg R.toArray) w := by
    unfold LoadVia at h
    rw [Sem.run_bind] at h
    cases hq : (Instr.loadAt 90 (.pointer (some a))).run Try.prog w with
    | ok v w' =>
      rw [hq] at h
      simp only [Result.andThen_ok, Sem.run_pure, Result.ok.injEq, Next.value.injEq] at h
      rw [h.1, h.2]
    | halt x w' =>
      rw [hq] at h
      cases h
  have h3 : (loadVar 90 a).run Try.prog w = .ok (.agg R.toArray) w := h2
  have hr : Try.f52.results = #[.cell 6 90] := by kernel_rfl
  unfold results
  rw [hr]
  have ht' : tmps[6]?.getD undef = .pointer (some a) := by simpa using ht
  simp [ht', Sem.run_bind, h3, Result.andThen, asAddr]
set_option maxRecDepth 100000 in
set_option maxHeartbeats 3200000 in
theorem framed_ok (a : Nat) (part : List UInt8) (last : Bool) (ha : a < 1000000) (hp : part.length ≤ 493) (w : World) :
    Calls Try.prog 52 #[.int .i64 (a : Int), .string (bs part), .bool last] w fun e w' => e = .returned (.agg (byteCells (secF a last part)).toArray) ∧ Below w.heap.size w w' := by
  have HB := Lib.hid (Blk.new w (byteCells (zeros 512)) 90)
  have HF := Lib.hid (fill_sec a part last hp)
  have hsz : (bs part).size = part.length := bs_size part
  have HSZ := Lib.hid hsz
  obtain ⟨c2, hc2⟩ : ∃ c2, c2 = splice (splice (byteCells (zeros 512)) 0 (byteCells (be 8 (a + 1)))) 504 (byteCells (be 8 (a + 1))) := ⟨_, rfl⟩
  have HL2 := Lib.hid (show c2.length = 512 ∧ c2[8]? = some (.int .u8 0) by rw [hc2]; exact ⟨fill_len2 a, fill_at8 a⟩)
  rw [← hc2] at HF
  have H2 := Lib.hid hc2
  obtain ⟨R, hR⟩ : ∃ R, R = byteCells (secF a last part) := ⟨_, rfl⟩
  rw [← hR] at HF
  have HR := Lib.hid (show R.length = 512 ∧ ∀ v ∈ R, v.oneCell' = true by rw [hR]; exact ⟨by rw [byteCells_length, secF_length _ _ _ hp], byteCells_one _⟩)
  rw [← hR]
  clear hc2 hR
  go_enter Try.func52, Try.ntmps52
  go_wp2_with fail
  refine (number_ok w.heap.size 0 8 512 (a + 1) _ 90 (by omega) (by omega) _ HB.out (by rw [byteCells_length, zeros_length]; omega)).mono ?_
  rintro e w1 ⟨rfl, hb1, he1⟩
  have HB1 := Lib.hid hb1
  have HE1 := Lib.hid ((Elses.of_new ((Below.refl w.heap.size w).alloc (Nat.le_refl _) _)).trans (he1.mono (T := fun k => w.heap.size ≤ k) fun i (h : i = w.heap.size) => by omega))
  clear hb1 he1
  go_wp2_with fail
  refine (number_ok w.heap.size 504 8 8 (a + 1) _ 90 (by omega) (by omega) _ HB1.out (by rw [fill_len1]; omega)).mono ?_
  rintro e w2 ⟨rfl, hb2, he2⟩
  rw [← H2.out] at hb2
  have HB2 := Lib.hid hb2
  have HE2 := Lib.hid (HE1.out.trans (he2.mono (T := fun k => w.heap.size ≤ k) fun i (h : i = w.heap.size) => by omega))
  have hc8 := (hb2.cell 8).trans HL2.out.2
  have hf8 := hb2.frozen 8
  clear hb2 he2 hsz
  have hpi : (part.length : Int) ≤ 493 := by omega
  have hwr : IntKind.u64.wrap ((bs part).size : Int) = (part.length : Int) := by rw [HSZ.out]; exact IntWalk.u64_in _ (by omega)
  cases last
  · have HG := Lib.hid (show splice (splice (c2.set 8 (.int .u8 0)) 9 (byteCells (be 2 part.length))) 11 (byteCells part) = R from HF.out)
    go_wp2_with fail
    refine (number_ok w.heap.size 9 2 503 part.length _ 90 (by omega) (by omega) _ (show Blk w2 w.heap.size (c2.set 8 (.int .u8 0)) 90 by rw [set_self HL2.out.2]; exact HB2.out) (by rw [List.length_set, HL2.out.1]; omega)).mono ?_
    rintro e w3 ⟨rfl, hb3, he3⟩
    have HB3 := Lib.hid hb3
    have HBR := Lib.hid (show Blk (w3.setRow w.heap.size R.toArray) w.heap.size R 90 from hb3.setRow R)
    have HE3 := Lib.hid ((HE2.out).trans (he3.mono (T := fun k => w.heap.size ≤ k) fun i (h : i = w.heap.size) => by omega))
    have hld := via_load90 (w3.setRow w.heap.size R.toArray) w.heap.size 0 R HBR.out.range HR.out.1
    have hst := via_store90_self (w3.setRow w.heap.size R.toArray) w.heap.size R HBR.out HR.out.1 HR.out.2
    clear hb3 he3 hc8 hf8
    go_wp2_with (refine wpList_copy_string rfl _ _ rfl w.heap.size 11 501 501 part rfl rfl (by omega) _ 90 HB3.out (by rw [splice_length' _ _ _ (by rw [byteCells_length, be_length, List.length_set, HL2.out.1]; omega), List.length_set, HL2.out.1]; omega) ?_; rw [HG.out])
    refine bodyPost_ret (v := .agg R.toArray) (res90 hld rfl) rfl ?_
    exact ⟨rfl, (HE3.out.setRow (.inl (Nat.le_refl _)) _).below (Nat.le_refl _) fun i h => h⟩
  · have HG := Lib.hid (show splice (splice (c2.set 8 (.int .u8 1)) 9 (byteCells (be 2 part.length))) 11 (byteCells part) = R from HF.out)
    go_wp2_with fail
    refine (number_ok w.heap.size 9 2 503 part.length _ 90 (by omega) (by omega) _ (HB2.out.set 8 (.int .u8 1)) (by rw [List.length_set, HL2.out.1]; omega)).mono ?_
    rintro e w3 ⟨rfl, hb3, he3⟩
    have HB3 := Lib.hid hb3
    have HBR := Lib.hid (show Blk (w3.setRow w.heap.size R.toArray) w.heap.size R 90 from hb3.setRow R)
    have HE3 := Lib.hid ((HE2.out.set (p := ⟨w.heap.size, 8, none⟩) (.inl (Nat.le_refl _)) _).trans (he3.mono (T := fun k => w.heap.size ≤ k) fun i (h : i = w.heap.size) => by omega))
    have hld := via_load90 (w3.setRow w.heap.size R.toArray) w.heap.size 0 R HBR.out.range HR.out.1
    have hst := via_store90_self (w3.setRow w.heap.size R.toArray) w.heap.size R HBR.out HR.out.1 HR.out.2
    clear hb3 he3 hc8 hf8
    go_wp2_with (refine wpList_copy_string rfl _ _ rfl w.heap.size 11 501 501 part rfl rfl (by omega) _ 90 HB3.out (by rw [splice_length' _ _ _ (by rw [byteCells_length, be_length, List.length_set, HL2.out.1]; omega), List.length_set, HL2.out.1]; omega) ?_; rw [HG.out])
    refine bodyPost_ret (v := .agg R.toArray) (res90 hld rfl) rfl ?_
    exact ⟨rfl, (HE3.out.setRow (.inl (Nat.le_refl _)) _).below (Nat.le_refl _) fun i h => h⟩
end Go.Proofs.YtbbnjnpbaekfgaaM
/- The contracts of a log's Need and Frame. -/
set_option linter.unusedVariables false
set_option linter.unusedSimpArgs false
namespace Go.Proofs.YtbbnjnpbaekfgaaM
open Go.RowKit Go.Proofs.YtbbnjnpbaekfgaaW.PrintMore
attribute [local go_sem ↓] exec_load90 exec_store90 exec_alloc90 exec_conv
attribute [local go_sem] via_alloc90
attribute [local go_sem] max2_int min2_int max_two min_two
theorem need_eq (m : Nat) : (if (1 : Int) < ((m : Int) + 493 - 1) / 493 then ((m : Int) + 493 - 1) / 493 else 1) = (needN m : Int) := by
  unfold needN
  split <;> omega
theorem need_ok (m : Nat) (h : m ≤ 4400) (w : World) : Calls Try.prog 23 #[.int .i64 (m : Int)] w fun e w' => e = .returned (.int .i64 (needN m : Int)) ∧ w = w' := by
  have h0 : ¬ ((m : Int) < 0) := by omega
  have h1 : ¬ (4400 < (m : Int)) := by omega
  have hd0 : decide ((m : Int) < 0) = false := decide_eq_false h0
  have hd1 : decide (4400 < (m : Int)) = false := decide_eq_false h1
  have hm0 : (0 : Int) ≤ m := by omega
  have hm1 : (m : Int) ≤ 4400 := by omega
  have hn := need_eq m
  go_enter Try.func23, Try.ntmps23
  go_wp2
  go_ret
  exact ⟨rfl, rfl⟩
theorem need_no (m : Int) (h : m < 0 ∨ 4400 < m) (w : World) : Calls Try.prog 23 #[.int .i64 m] w fun e w' => e = .returned (.int .i64 0) ∧ w = w' := by
  rcases h with h | h
  · have hd0 : decide (m < 0) = true := by simpa using h
    go_enter Try.func23, Try.ntmps23
    go_wp2
    go_ret
    exact ⟨rfl, rfl⟩
  · have hd0 : decide (m < 0) = false := by rw [decide_eq_false_iff_not]; omega
    have hd1 : decide (4400 < m) = true := by simpa using h
    go_enter Try.func23, Try.ntmps23
    go_wp2
    go_ret
    exact ⟨rfl, rfl⟩
theorem bs_extract (l : List UInt8) (i j : Nat) : (bs l).extract i j = bs ((l.drop i).take (j - i)) := by
  apply ByteArray.ext
  apply Array.toList_inj.1
  simp [bs]
theorem part_cut (r : List UInt8) (i : Nat) : (bs r).extract (i * 493) (min r.length ((i + 1) * 493)) = bs (partOf r i) := by
  rw [bs_extract]
  unfold partOf
  congr 1
  by_cases h : r.length ≤ (i + 1) * 493
  · rw [Nat.min_eq_left h, List.take_of_length_le (by rw [List.length_drop]; omega), List.take_of_length_le (by rw [List.length_drop]; omega)]
  · rw [Nat.min_eq_right (by omega), show (i + 1) * 493 - i * 493 = 493 by omega]
/-- Sectors, as strings. -/
def strs (l : List (List UInt8)) : List Value := l.map fun s => .string (bs s)
theorem strs_length (l : List (List UInt8)) : (strs l).length = l.length := by simp [strs]
theorem strs_append (l m : List (List UInt8)) : strs (l ++ m) = strs l ++ strs m := by simp [strs]
/-- A call gives these strings, in memory of its own, and turns nothing. -/
def GivesStrs (w : World) (l : List (List UInt8)) (e : Ending) (w' : World) : Prop := ∃ v, e = .returned v ∧ w'.ownsRow w.heap.size 9 1 v l.length (strs l) ∧ Below w.heap.size w w'
theorem info9 : (Try.prog.info? 9).map (fun i => (i.zero, i.size, i.bytes)) = some (some (.string ⟨#[]⟩), 1, 16) := by kernel_rfl
set_option maxRecDepth 100000 in
set_option maxHeartbeats 3200000 in
theorem frame_ok (a : Nat) (r : List UInt8) (ha : a < 100000) (hr : r.length ≤ 4400) (w : World) :
    Calls Try.prog 22 #[.int .i64 (a : Int), .string (bs r)] w (GivesStrs w (frameS a r)) := by
  obtain ⟨i9, hi0, hz0, hz1, hz2⟩ := info_parts info9
  have HI := Lib.hid (And.intro hi0 (And.intro hz0 (And.intro hz1 hz2)))
  clear hi0 hz0 hz1 hz2
  have hsz : (bs r).size = r.length := bs_size r
  have hnp := needN_pos r.length
  have hnl := needN_le r.length hr
  obtain ⟨n, hn⟩ : ∃ n, n = needN r.length := ⟨_, rfl⟩
  have HNN := Lib.hid hn
  rw [← hn] at hnp hnl
  have ha0 : decide ((a : Int) < 0) = false := by rw [decide_eq_false_iff_not]; omega
  have hn0 : ((n : Int) == 0) = false := by rw [beq_eq_false_iff_ne]; omega
  have HC := Lib.hid (show ∀ w, Calls Try.prog 23 #[.int .i64 (r.length : Int)] w fun e w' => e = .returned (.int .i64 (n : Int)) ∧ w = w' from fun w => by rw [hn]; exact need_ok r.length hr w)
  clear hn
  go_enter Try.func22, Try.ntmps22
  go_wp2_with fail
  refine (HC.out _).mono ?_
  rintro e w' ⟨rfl, rfl⟩
  go_wp2_with fail
  go_loopw [6, 20] (fun ov iv wr => ∃ k : Nat, k ≤ n ∧ iv = .int .i64 (k : Int) ∧ Hid (wr.ownsRow w.heap.size 9 1 ov k (strs ((List.range k).map (frameI a r)))) ∧ Hid (Below w.heap.size w wr)) (fun _ iv _ => n - (intOf iv).toNat)
  case atStart => exact ⟨0, Nat.zero_le _, rfl, World.ownsRow_nil _ _ _ _, Below.refl _ _⟩
  case round =>
    obtain ⟨k, hk, rfl, HO, HW⟩ := hrel
    obtain ⟨wi, rfl⟩ : ∃ wi, wi = wr := ⟨wr, rfl⟩
    by_cases hlt : k < n
    · have hk' : (k : Int) < (n : Int) := by omega
      have hk0 : (0 : Int) ≤ (k : Int) := by omega
      have hk9 : (k : Int) ≤ 8 := by omega
      obtain ⟨M, hM⟩ : ∃ M, M = min r.length ((k + 1) * 493) := ⟨_, rfl⟩
      have hmin : (if ((k : Int) + 1) * 493 < (r.length : Int) then ((k : Int) + 1) * 493 else (r.length : Int)) = (M : Int) := by rw [hM]; split <;> omega
      have hcut : (bs r).extract (k * 493) M = bs (partOf r k) := by rw [hM]; exact part_cut r k
      have hM1 : (k : Int) * 493 ≤ (M : Int) := by
        have := HNN.out
        unfold needN at this
        omega
      have hM2 : (M : Int) ≤ (r.length : Int) := by omega
      have hM3 : k * 493 ≤ M := by omega
      obtain ⟨l, hl⟩ : ∃ l, l = (k + 1 == n) := ⟨_, rfl⟩
      have hlast : ((k : Int) == (n : Int) - 1) = l := by
        rw [hl]
        by_cases e : k + 1 = n
        · rw [beq_iff_eq.2 e, beq_iff_eq.2 (by omega)]
        · rw [beq_eq_false_iff_ne.2 e, beq_eq_false_iff_ne.2 (by omega)]
      have HFR := Lib.hid (show ∀ w, Calls Try.prog 52 #[.int .i64 ((a : Int) + (k : Int)), .string (bs (partOf r k)), .bool l] w fun e w' => e = .returned (.agg (byteCells (frameI a r k)).toArray) ∧ Below w.heap.size w w' from fun w => by
        have := framed_ok (a + k) (partOf r k) l (by omega) (partOf_le r k) w
        rw [Int.natCast_add] at this
        rw [hl, HNN.out] at this ⊢
        exact this)
      have hak : (a : Int) + (k : Int) ≤ 200000 := by omega
      have hM0 : (0 : Int) ≤ (k : Int) * 493 := by omega
      have hsl : ∀ wx, (Instr.slice 9 (.string (bs r)) (some (.int .i64 ((k : Int) * 493))) (some (.int .i64 (M : Int))) none).run Try.prog wx = .ok (.string (bs (partOf r k))) wx := fun wx => by
        rw [run_slice_string_if wx 9 (bs r) .i64 .i64 _ _ Try.underlying9, if_pos (by rw [bs_size]; omega), if_pos (by omega), show ((k : Int) * 493).toNat = k * 493 by omega, Int.toNat_natCast, hcut]
      clear hM hl hcut
      go_wp2_with fail
      refine (HFR.out _).mono ?_
      rintro e w1 ⟨rfl, hw1⟩
      obtain ⟨F, hF⟩ : ∃ F, F = frameI a r k := ⟨_, rfl⟩
      have hFl : F.length = 512 := by rw [hF]; exact frameI_length a r k
      have HF := Lib.hid (And.intro hF hFl)
      rw [← hF]
      have hst := via_store_new 90 90 w1 (byteCells (zeros 512)) (byteCells F) (by rw [byteCells_length, byteCells_length, zeros_length, hFl]) (by rw [byteCells_length, hFl]; exact size90) (byteCells_one _)
      have hcv := conv_cells (w := w1.alloc (.cells (byteCells F).toArray 90)) (a := ⟨w1.heap.size, 0, none⟩) (l := F) (c := 512) fun j u hu => by
        rw [addr_add, Nat.zero_add, (Blk.new w1 (byteCells F) 90).cell]
        exact hu
      rw [hFl] at hcv
      have hsz1 := hw1.size
      have hszw := HW.out.size
      have HO1 := Lib.hid (ownsRow_kept HO.out (Elses.of_below' (S := fun k => wi.heap.size ≤ k) hw1) fun j hj => by have := (HO.out.lt j hj).2; omega)
      have HW1 := Lib.hid (HW.out.trans (hw1.mono hszw))
      have HN := Lib.hid (show ∀ j u, ([.string (bs F)] : List Value)[j]? = some u → ((w1.alloc (.cells (byteCells F).toArray 90)).alloc (.cells [Value.string (bs F)].toArray 9)).cell? ((⟨w1.heap.size + 1, 0, none⟩ : Addr).add j) = some u from fun j u hu => by
        have := (Blk.new (w1.alloc (.cells (byteCells F).toArray 90)) [.string (bs F)] 9).cell j
        rw [World.size_alloc] at this
        rw [addr_add, Nat.zero_add, this]
        exact hu)
      clear hF hFl hw1 hmin hM1 hM2 hM3 hM0 hlast hsl
      go_wp2_with (at_builtin; refine wpList_append_lies _ rfl _ _ 34 rfl w.heap.size 9 i9 (.string ⟨#[]⟩) 1 16 Try.underlying34 HI.out.1 HI.out.2.1 HI.out.2.2.1 HI.out.2.2.2 rfl (by decide) u6 k (strs ((List.range k).map (frameI a r))) rfl ((HO1.out.alloc _).alloc _) ⟨w1.heap.size + 1, 0, none⟩ 1 1 [.string (bs F)] rfl rfl HN.out (by intro u hu; rw [List.mem_singleton.1 hu]; rfl) (by omega) (by unfold maxLen; omega) (by omega) (by simp; omega) (w1.heap.size + 2) (by simp) ?_; intro gg cc w6 hown hgrow hat1 hlt1)
      have HZ := Lib.hid (And.intro hown (((HW1.out.alloc (by omega) (.cells (byteCells F).toArray 90)).alloc (by simp; omega) (.cells [Value.string (bs F)].toArray 9)).grown hgrow (by simp; omega) fun j hj => (HO1.out.lt j hj).1))
      clear hown hgrow hat1 hlt1
      go_roundw
      case rel => exact ⟨k + 1, by omega, by go_num, show World.ownsRow _ _ _ _ _ _ _ by rw [List.range_succ, List.map_append, strs_append, show (List.map (frameI a r) [k]) = [F] by rw [HF.out.1]; rfl]; exact HZ.out.1, HZ.out.2⟩
      case measure => simp [intOf]; omega
    · have hk' : ¬ (k : Int) < (n : Int) := by omega
      obtain rfl : k = n := by omega
      go_wp2
      go_ret
      refine ⟨_, rfl, ?_, HW.out⟩
      have := HO.out
      rw [HNN.out] at this
      rw [frameS_length]
      exact this
end Go.Proofs.YtbbnjnpbaekfgaaM
/- The contract of a log's read: what a sector has of a record. -/
set_option linter.unusedVariables false
set_option linter.unusedSimpArgs false
namespace Go.Proofs.YtbbnjnpbaekfgaaM
open Go.RowKit
attribute [local go_sem ↓] exec_load90 exec_store90 exec_alloc90 exec_conv
attribute [local go_sem] via_alloc90
theorem bs_toList_inj {l m : List UInt8} (h : (bs l).toList = (bs m).toList) : l = m := by
  rw [Lib.toList_data, Lib.toList_data] at h
  exact h
/-- What read says of a sector. -/
def ReadSays (a : Nat) (s : List UInt8) (e : Ending) : Prop := match readS a s with
  | some (p, l) => e = .returned (.tuple #[.agg #[.string (bs p), .bool l], .bool true])
  | none => ∃ q l, e = .returned (.tuple #[.agg #[.string q, .bool l], .bool false])
theorem getD_byte {s : List UInt8} {i : Nat} (h : i < s.length) : (byteCells s)[i]? = some (.int .u8 ((s.getD i 0).toNat : Int)) := by
  unfold byteCells
  rw [List.getElem?_map, List.getD_eq_getElem?_getD, List.getElem?_eq_getElem h]
  rfl
set_option maxRecDepth 100000 in
set_option maxHeartbeats 400000 in
theorem read_no (a g off : Nat) (s : List UInt8) (cap : Nat) (hs : s.length = 512) (w : World) (hc : ∀ j u, (byteCells s)[j]? = some u → w.cell? ⟨g, off + j, none⟩ = some u)
    (h : 493 < sizeOfS s ∨ 1 < (flagOf s).toNat ∨ ((flagOf s).toNat = 0 ∧ sizeOfS s < 493)) :
    Calls Try.prog 67 #[.int .i64 (a : Int), .slice (some ⟨g, off, none⟩) 512 cap] w fun e w' => (∃ q l, e = .returned (.tuple #[.agg #[.string q, .bool l], .bool false])) ∧ Below w.heap.size w w' := by
  have c8 := hc 8 _ (getD_byte (by omega))
  have c9 := hc 9 _ (getD_byte (by omega))
  have c10 := hc 10 _ (getD_byte (by omega))
  have hg : g < w.heap.size := World.block_lt_of_cell? w _ c8
  obtain ⟨x8, h8⟩ : ∃ x, x = (s.getD 8 0).toNat := ⟨_, rfl⟩
  obtain ⟨x9, h9⟩ : ∃ x, x = (s.getD 9 0).toNat := ⟨_, rfl⟩
  obtain ⟨x10, h10⟩ : ∃ x, x = (s.getD 10 0).toNat := ⟨_, rfl⟩
  rw [← h8] at c8
  rw [← h9] at c9
  rw [← h10] at c10
  have b8 : (x8 : Int) < 256 := by rw [h8]; have := (s.getD 8 0).toNat_lt; omega
  have b9 : (x9 : Int) < 256 := by rw [h9]; have := (s.getD 9 0).toNat_lt; omega
  have b10 : (x10 : Int) < 256 := by rw [h10]; have := (s.getD 10 0).toNat_lt; omega
  obtain ⟨n, hn⟩ : ∃ n, n = x9 * 256 + x10 := ⟨_, rfl⟩
  have hor : bits .or .i64 ((x9 : Int) * 256) (x10 : Int) = (n : Int) := by
    rw [hn, bits_join .i64 16 (by decide) (fun n h0 h1 => IntWalk.i64_in _ (by omega)) 8] <;> omega
  have hz : sizeOfS s = n := by unfold sizeOfS; rw [hn, h9, h10]
  have hf : (flagOf s).toNat = x8 := by unfold flagOf; rw [h8]
  rw [hz, hf] at h
  clear h8 h9 h10 hn hc hz hf
  have h' : (decide (493 < (n : Int)) = true) ∨ (decide (493 < (n : Int)) = false ∧ decide (1 < (x8 : Int)) = true) ∨ (decide (493 < (n : Int)) = false ∧ decide (1 < (x8 : Int)) = false ∧ ((x8 : Int) == 0) = true ∧ decide ((n : Int) < 493) = true) := by
    simp only [decide_eq_true_eq, decide_eq_false_iff_not, beq_iff_eq]
    omega
  clear h
  rcases h' with k1 | ⟨k1, k2⟩ | ⟨k1, k2, k3, k4⟩
  all_goals
    go_enter Try.func67, Try.ntmps67
    go_wp2_with fail
    go_quiet (fail)
    go_wp2_with fail
  all_goals
    refine bodyPost_ret (v := .tuple #[.agg #[.string ⟨#[]⟩, .bool false], .bool false]) (by simp [results, Try.results67, go_sem]) rfl ?_
    exact ⟨⟨_, _, rfl⟩, ((below_drewN ((Below.refl _ w).alloc (Nat.le_refl _) _) _).setCell (p := ⟨w.heap.size, 0, none⟩) (Nat.le_refl _) _).setCell (p := ⟨w.heap.size, 1, none⟩) (Nat.le_refl _) _⟩
set_option maxRecDepth 100000 in
set_option maxHeartbeats 1600000 in
theorem read_yes (a g off : Nat) (ha : a < 1000000) (s : List UInt8) (cap : Nat) (hcap : 512 ≤ cap) (hs : s.length = 512) (w : World) (hc : ∀ j u, (byteCells s)[j]? = some u → w.cell? ⟨g, off + j, none⟩ = some u)
    (h : ¬ (493 < sizeOfS s ∨ 1 < (flagOf s).toNat ∨ ((flagOf s).toNat = 0 ∧ sizeOfS s < 493))) (part : List UInt8) (hp : part = (s.drop 11).take (sizeOfS s)) (l : Bool) (hl : l = (flagOf s == 1)) (v : Bool) (hv : v = decide (secF a l part = s)) :
    Calls Try.prog 67 #[.int .i64 (a : Int), .slice (some ⟨g, off, none⟩) 512 cap] w fun e w' => e = .returned (.tuple #[.agg #[.string (bs part), .bool l], .bool v]) ∧ Below w.heap.size w w' := by
  have c8 := hc 8 _ (getD_byte (by omega))
  have c9 := hc 9 _ (getD_byte (by omega))
  have c10 := hc 10 _ (getD_byte (by omega))
  have hg : g < w.heap.size := World.block_lt_of_cell? w _ c8
  obtain ⟨x8, h8⟩ : ∃ x, x = (s.getD 8 0).toNat := ⟨_, rfl⟩
  obtain ⟨x9, h9⟩ : ∃ x, x = (s.getD 9 0).toNat := ⟨_, rfl⟩
  obtain ⟨x10, h10⟩ : ∃ x, x = (s.getD 10 0).toNat := ⟨_, rfl⟩
  rw [← h8] at c8
  rw [← h9] at c9
  rw [← h10] at c10
  have b8 : (x8 : Int) < 256 := by rw [h8]; have := (s.getD 8 0).toNat_lt; omega
  have b9 : (x9 : Int) < 256 := by rw [h9]; have := (s.getD 9 0).toNat_lt; omega
  have b10 : (x10 : Int) < 256 := by rw [h10]; have := (s.getD 10 0).toNat_lt; omega
  obtain ⟨n, hn⟩ : ∃ n, n = x9 * 256 + x10 := ⟨_, rfl⟩
  have hor : bits .or .i64 ((x9 : Int) * 256) (x10 : Int) = (n : Int) := by
    rw [hn, bits_join .i64 16 (by decide) (fun n h0 h1 => IntWalk.i64_in _ (by omega)) 8] <;> omega
  have hz : sizeOfS s = n := by unfold sizeOfS; rw [hn, h9, h10]
  have hf : (flagOf s).toNat = x8 := by unfold flagOf; rw [h8]
  have hl1 : ((x8 : Int) == 1) = l := by
    rw [hl, Bool.eq_iff_iff, beq_iff_eq, beq_iff_eq]
    constructor
    · intro e
      apply UInt8.toNat_inj.1
      rw [hf]
      show x8 = 1
      omega
    · intro e
      rw [e] at hf
      have : (1 : UInt8).toNat = 1 := rfl
      omega
  rw [hz, hf] at h
  rw [hz] at hp
  have hpl : part.length = n := by rw [hp, List.length_take, List.length_drop]; omega
  have HS := Lib.hid (show ∀ j u, (byteCells part)[j]? = some u → w.cell? ⟨g, off + 11 + j, none⟩ = some u from fun j u hu => by
    rw [Nat.add_assoc]
    apply hc
    rw [hp, byteCells_take, byteCells_drop, List.getElem?_take] at hu
    split at hu
    · rw [List.getElem?_drop] at hu
      exact hu
    · cases hu)
  have HC := Lib.hid (And.intro hc (And.intro hs hv))
  have hn1 : decide (493 < (n : Int)) = false := by rw [decide_eq_false_iff_not]; omega
  have hx1 : decide (1 < (x8 : Int)) = false := by rw [decide_eq_false_iff_not]; omega
  have hni : (n : Int) ≤ 493 := by omega
  have h' : ((x8 : Int) == 0) = false ∨ (((x8 : Int) == 0) = true ∧ decide ((n : Int) < 493) = false) := by
    simp only [beq_iff_eq, beq_eq_false_iff_ne, decide_eq_false_iff_not]
    omega
  have HFR := Lib.hid (fun wx => framed_ok a part l ha (by omega) wx)
  have HL := Lib.hid (And.intro hpl (secF_length a l part (by omega)))
  obtain ⟨F, hF⟩ : ∃ F, F = secF a l part := ⟨_, rfl⟩
  rw [← hF] at HFR HL HC
  have hcv : ∀ nq, (ConvVia (.slice (some ⟨g, off + 11, none⟩) n (cap - 11))).run Try.prog ((w.alloc (.cells #[.string ⟨#[]⟩, .bool false] 88)).drewN nq) = .ok (.value (.string (bs part))) ((w.alloc (.cells #[.string ⟨#[]⟩, .bool false] 88)).drewN nq) := fun nq => by
    have := conv_cells (w := (w.alloc (.cells #[.string ⟨#[]⟩, .bool false] 88)).drewN nq) (a := ⟨g, off + 11, none⟩) (l := part) (c := cap - 11) fun j u hu => by
      rw [addr_add]
      exact ((below_drewN ((Below.refl w.heap.size w).alloc (Nat.le_refl _) (.cells #[.string ⟨#[]⟩, .bool false] 88)) nq).cell (p := ⟨g, off + 11 + j, none⟩) hg).trans (HS.out j u hu)
    rw [HL.out.1] at this
    exact this
  clear h h8 h9 h10 hn hc hz hf hl hp hpl hv hF hs
  rcases h' with k3 | ⟨k3, k4⟩
  all_goals
    go_enter Try.func67, Try.ntmps67
    go_wp2_with fail
    go_quiet (fail)
    go_wp2_with fail
    refine (HFR.out _).mono ?_
    rintro e w1 ⟨rfl, hw1⟩
    have hb1 : Below w.heap.size w w1 := (((below_drewN ((Below.refl w.heap.size w).alloc (Nat.le_refl _) (.cells #[.string ⟨#[]⟩, .bool false] 88)) nq).alloc (by simp) (.cells #[.string (bs part), .bool l] 88))).trans (hw1.mono (by simp; omega))
    have hsz1 : w.heap.size + 2 ≤ w1.heap.size := by have := hw1.size; simp at this; omega
    have hszA : w.heap.size + 1 < w1.heap.size := by omega
    have hszB : w.heap.size < w1.heap.size := by omega
    have p0 : w1.cell? ⟨w.heap.size + 1, 0, none⟩ = some (.string (bs part)) := by
      rw [hw1.cell (p := ⟨w.heap.size + 1, 0, none⟩) (by simp)]
      go_simp
    have p1 : w1.cell? ⟨w.heap.size + 1, 1, none⟩ = some (.bool l) := by
      rw [hw1.cell (p := ⟨w.heap.size + 1, 1, none⟩) (by simp)]
      go_simp
    have p2 : w1.cell? ⟨w.heap.size, 0, none⟩ = some (.string ⟨#[]⟩) := by
      rw [hw1.cell (p := ⟨w.heap.size, 0, none⟩) (by simp; omega)]
      go_simp
    have p3 : w1.cell? ⟨w.heap.size, 1, none⟩ = some (.bool false) := by
      rw [hw1.cell (p := ⟨w.heap.size, 1, none⟩) (by simp; omega)]
      go_simp
    have p4 : w1.frozen? ⟨w.heap.size, 0, none⟩ = false := by
      rw [hw1.frozen (p := ⟨w.heap.size, 0, none⟩) (by simp; omega)]
      go_simp
    have p5 : w1.frozen? ⟨w.heap.size, 1, none⟩ = false := by
      rw [hw1.frozen (p := ⟨w.heap.size, 1, none⟩) (by simp; omega)]
      go_simp
    have hst := via_store_new 90 90 w1 (byteCells (zeros 512)) (byteCells F) (by rw [byteCells_length, byteCells_length, zeros_length, HL.out.2]) (by rw [byteCells_length, HL.out.2]; exact size90) (byteCells_one _)
    have HX := Lib.hid (show ∀ X, Elses (fun k => k = w.heap.size) (w1.alloc (.cells (byteCells F).toArray 90)) X → (ConvVia (.slice (some ⟨w1.heap.size, 0, none⟩) 512 512)).run Try.prog X = .ok (.value (.string (bs F))) X ∧ (ConvVia (.slice (some ⟨g, off, none⟩) 512 cap)).run Try.prog X = .ok (.value (.string (bs s))) X from fun X hX => by
      have e1 := conv_cells (w := X) (a := ⟨w1.heap.size, 0, none⟩) (l := F) (c := 512) fun j u hu => by
        rw [addr_add, Nat.zero_add, hX.cell (p := ⟨w1.heap.size, j, none⟩) (by simp) (by show ¬ w1.heap.size = w.heap.size; omega), (Blk.new w1 (byteCells F) 90).cell]
        exact hu
      have e2 := conv_cells (w := X) (a := ⟨g, off, none⟩) (l := s) (c := cap) fun j u hu => by
        rw [addr_add, hX.cell (p := ⟨g, off + j, none⟩) (by simp; omega) (by show ¬ g = w.heap.size; omega)]
        exact ((hb1.alloc (by omega) _).cell (p := ⟨g, off + j, none⟩) hg).trans (HC.out.1 j u hu)
      rw [HL.out.2] at e1
      rw [HC.out.2.1] at e2
      exact ⟨e1, e2⟩)
    obtain ⟨x1, x2⟩ := HX.out _ (Elses.refl _ _).drew
    have he : ((w1.alloc (.cells (byteCells F).toArray 90)).setCell ⟨w.heap.size, 0, none⟩ (.string (bs part))).setCell ⟨w.heap.size, 1, none⟩ (.bool l) = (((w1.setCell ⟨w.heap.size, 0, none⟩ (.string (bs part))).setCell ⟨w.heap.size, 1, none⟩ (.bool l))).alloc (.cells (byteCells F).toArray 90) := by go_simp
    obtain ⟨x3, x4⟩ := HX.out _ (((Elses.refl (fun k => k = w.heap.size) (w1.alloc (.cells (byteCells F).toArray 90))).set (p := ⟨w.heap.size, 0, none⟩) (.inl rfl) (.string (bs part))).set (p := ⟨w.heap.size, 1, none⟩) (.inl rfl) (.bool l)).drew
    rw [he] at x3 x4
    have HB1 := Lib.hid hb1
    have hq : ((bs F).toList == (bs s).toList) = v := by
      rw [HC.out.2.2, Bool.eq_iff_iff, beq_iff_eq, decide_eq_true_eq]
      exact ⟨fun e => bs_toList_inj e, fun e => by rw [e]⟩
    clear he hcv hw1 hb1 c8 c9 c10 hor
    go_wp2_with fail
    go_region
    all_goals
      go_wp2_with fail
      refine bodyPost_ret (v := .tuple #[.agg #[.string (bs part), .bool l], .bool v]) (by simp [results, Try.results67, go_sem, hszB, p2, p3]) rfl ?_
      exact ⟨rfl, (((HB1.out.setCell (p := ⟨w.heap.size, 0, none⟩) (Nat.le_refl _) _).setCell (p := ⟨w.heap.size, 1, none⟩) (Nat.le_refl _) _).alloc (by simp; omega) _).drew⟩
/-- read, at a whole sector's bytes. -/
theorem wread_ok (a g off : Nat) (ha : a < 1000000) (s : List UInt8) (cap : Nat) (hcap : 512 ≤ cap) (hs : s.length = 512) (w : World) (hc : ∀ j u, (byteCells s)[j]? = some u → w.cell? ⟨g, off + j, none⟩ = some u) :
    Calls Try.prog 67 #[.int .i64 (a : Int), .slice (some ⟨g, off, none⟩) 512 cap] w fun e w' => ReadSays a s e ∧ Below w.heap.size w w' := by
  by_cases h : 493 < sizeOfS s ∨ 1 < (flagOf s).toNat ∨ ((flagOf s).toNat = 0 ∧ sizeOfS s < 493)
  · refine (read_no a g off s cap hs w hc h).mono ?_
    rintro e w' ⟨he, hb⟩
    refine ⟨?_, hb⟩
    unfold ReadSays readS
    rw [if_pos h]
    exact he
  · refine (read_yes a g off ha s cap hcap hs w hc h _ rfl _ rfl _ rfl).mono ?_
    rintro e w' ⟨he, hb⟩
    refine ⟨?_, hb⟩
    unfold ReadSays readS
    rw [if_neg h]
    by_cases hq : secF a (flagOf s == 1) ((s.drop 11).take (sizeOfS s)) = s
    · rw [if_pos hq]
      rw [decide_eq_true hq] at he
      exact he
    · rw [if_neg hq]
      rw [decide_eq_false hq] at he
      exact ⟨_, _, he⟩
end Go.Proofs.YtbbnjnpbaekfgaaM
/- A range over a function, in this session's own form: entering it, one round of it, leaving a function that holds one; slices.Chunk as an iterator. -/
set_option linter.unusedVariables false
set_option linter.unusedSimpArgs false
namespace Go.Proofs.YtbbnjnpbaekfgaaM
open Go.RowKit Go.Shelf
attribute [local go_sem] Oper.semAt_some
/-- A loop's record while a round runs; when one has ended; when one has ended by a return. -/
def busyOf (r : Loop) : Loop := { r with state := .busy }
def readyOf (r : Loop) : Loop := { r with state := .ready, pending := none }
def doneOf (r : Loop) : Loop := { r with state := .done, pending := some .ret }
theorem readyOf_self {r : Loop} (h1 : r.state = .ready) (h2 : r.pending = none) : readyOf r = r := by
  cases r
  simp only at h1 h2
  subst h1 h2
  rfl
theorem doneOf_state (r : Loop) : (doneOf r).state ≠ .busy := by simp [doneOf]
theorem doneOf_pending (r : Loop) : (doneOf r).pending = some .ret := rfl
/-- How a round may be left: off its end, or by a return. -/
def roundEnd (rec : Loop) (l : Nat) (R : Ending → World → Prop) : Exit → Act → World → Prop
  | .normal, _, W => W.heap[l]? = some (.loop (busyOf rec)) ∧ R (.returned (.bool true)) (W.putObj l (.loop (readyOf rec)))
  | .ret, _, W => W.heap[l]? = some (.loop (busyOf rec)) ∧ R (.returned (.bool false)) (W.putObj l (.loop (doneOf rec)))
  | _, _, _ => False
/-- One round. -/
theorem yield_round {P : Program} {l m : Nat} {rec : Loop} {args : Array Value} {W : World} {R : Ending → World → Prop} (hl : W.heap[l]? = some (.loop rec)) (hr : rec.state = .ready) (hs : args.size = rec.params.size)
    (h : rec.assign.wpIn (Fence.wide.inRound l) m P (Exit.then (fun a₁ W₁ => W₁.heap[l]? = some (.loop rec) ∧ rec.body.wpIn (Fence.wide.inRound l) m P (roundEnd rec l R) a₁ (W₁.putObj l (.loop (busyOf rec)))) (fun _ _ _ => False))
      { tmps := (rec.params.zip args).foldl (fun t (p, v) => t.setIfInBounds p v) rec.tmps, defers := [] } W) : YieldAt Fence.wide m P l args W R := by
  refine ⟨_, _, _, _, run_yield hl hs, roundIn_of_wpIn trivial (wpIn_mono h ?_)⟩
  rintro e a₁ W₁ hq
  cases e with
  | normal =>
    obtain ⟨hl1, hb⟩ := hq
    refine ⟨_, run_beginRound hl1 hr, wpIn_mono hb ?_⟩
    rintro e a3 W3 hp
    cases e with
    | normal => exact ⟨_, _, run_endRound none hp.1, hp.2⟩
    | ret => exact ⟨_, _, run_endRound (some .ret) hp.1, hp.2⟩
    | exit id => exact hp.elim
    | goto t => exact hp.elim
    | panic c => exact hp.elim
    | outgrown => exact hp.elim
  | ret => exact hq.elim
  | exit id => exact hq.elim
  | goto t => exact hq.elim
  | panic c => exact hq.elim
  | outgrown => exact hq.elim
/-- Entering a range over a function, in a frame of its own. -/
theorem enter_range {P : Program} {n : Nat} {g : Operand} {ps : Array Tmp} {assign body : Code} {Q : Exit → Act → World → Prop} {a : Act} {w : World} {gf : Nat} {lb : Array Value}
    (hg : a.eval g = .func (.func gf) #[] lb) (eg : ∀ args w, (callFunc gf args).run P w = .ok (.enter gf args) w)
    (h : ∀ rec : Loop, rec.state = .ready → rec.pending = none → rec.tmps = a.tmps → rec.params = ps → rec.assign = assign → rec.body = body →
      CallsIn Fence.wide (n - 1) P gf (#[.func (.yield (w.heap.size + 1)) #[] #[]] ++ lb) ((w.alloc (.deferred (some []))).alloc (.loop rec)) fun e W2 => (∃ v, e = .returned v) ∧
        ∃ r, W2.heap[w.heap.size + 1]? = some (.loop r) ∧ r.state ≠ .busy ∧
          ((r.pending = none ∧ ∀ o, Q .normal { a with defers := { target := .collected w.heap.size, args := #[] } :: a.defers } (W2.putObj (w.heap.size + 1) (.loop o))) ∨
           (r.pending = some .ret ∧ ∀ o, Code.ret.wpIn Fence.wide n P Q { a with defers := { target := .collected w.heap.size, args := #[] } :: a.defers } (W2.putObj (w.heap.size + 1) (.loop o))))) :
    (Code.rangeFunc g ps assign body).wpIn Fence.wide n P Q a w := by
  refine wpIn_rangeFunc ?_
  intro fn hfn
  obtain ⟨rec, hrec⟩ : ∃ rec : Loop, rec = { state := .ready, pending := none, fn, tmps := a.tmps, params := ps, assign, body, defers := w.heap.size } := ⟨_, rfl⟩
  obtain ⟨W1, hW1⟩ : ∃ W1, (w.alloc (.deferred (some []))).alloc (.loop rec) = W1 := ⟨_, rfl⟩
  have h' := h rec (by rw [hrec]) (by rw [hrec]) (by rw [hrec]) (by rw [hrec]) (by rw [hrec]) (by rw [hrec])
  rw [hW1] at h'
  refine ⟨w.heap.size + 1, [{ target := .collected w.heap.size, args := #[] }], W1, { target := .fn (.func gf) lb, args := #[.func (.yield (w.heap.size + 1)) #[] #[]] }, W1, gf,
    #[.func (.yield (w.heap.size + 1)) #[] #[]] ++ lb, W1, ?_, ?_, ?_, ?_, ?_, ?_⟩
  · rw [← hW1, hrec]
    exact run_enterLoop_outer _ _ _ _ _
  · simp only [resolve, hg]
    simp [go_sem]
  · intro f' hf'
    trivial
  · simp [invoke, go_sem, eg]
  · intro hd
    exact absurd hd (by simp [Fence.wide])
  · refine h'.mono ?_
    rintro e W2 ⟨⟨v, rfl⟩, r, hr, hb, hq⟩
    rcases hq with ⟨hp, hq⟩ | ⟨hp, hq⟩
    · refine ⟨none, _, ?_, hq { r with state := .exhausted }⟩
      rw [← hp]
      exact run_endLoop hr hb
    · refine ⟨some .ret, _, ?_, hq { r with state := .exhausted }⟩
      rw [← hp]
      exact run_endLoop hr hb
set_option maxRecDepth 100000 in
set_option maxHeartbeats 2000000 in
/-- slices.Chunk's iterator, at 512: the chunks of a slice of bytes, till yield says no. -/
theorem chunk_in (n l Bs Bn b len cap : Nat) (hlen : len ≤ 1000000) (hcap : len ≤ cap) (J : Nat → World → Prop) (Jx : World → Prop)
    (hJc : ∀ k W, J k W → W.cell? ⟨Bs, 0, none⟩ = some (.slice (some ⟨b, 0, none⟩) len cap) ∧ W.cell? ⟨Bn, 0, none⟩ = some (.int .i64 512)) (hJd : ∀ k W, J k W → J k W.drew)
    (hY : ∀ k m W1, J k W1 → k * 512 < len → m = min 512 (len - k * 512) → YieldAt Fence.wide (n - 1) Try.prog l #[.slice (some ⟨b, k * 512, none⟩) m m] W1 fun e W' => (e = .returned (.bool true) ∧ J (k + 1) W') ∨ (e = .returned (.bool false) ∧ Jx W'))
    (W : World) (h0 : J 0 W) : CallsIn Fence.wide n Try.prog 70 #[.func (.yield l) #[] #[], .pointer (some ⟨Bs, 0, none⟩), .pointer (some ⟨Bn, 0, none⟩)] W fun e W' => (∃ v, e = .returned v) ∧ ((∃ k, len ≤ k * 512 ∧ J k W') ∨ Jx W') := by
  refine callsIn_of_wp Try.func70 rfl trivial ?_ rfl
  simp only [Try.ntmps70, List.size_toArray, List.length_cons, List.length_nil, Nat.reduceAdd, Nat.reduceSub, Array.replicate_succ, Array.replicate_zero, List.push_toArray, List.append_toArray, List.nil_append, List.cons_append]
  gi_wp2
  gi_loopw [4] (fun i wr => ∃ k : Nat, k * 512 < len + 512 ∧ i = .int .i64 ((k * 512 : Nat) : Int) ∧ Hid (J k wr)) (fun i _ => (len + 1024) - (intOf i).toNat)
  case atStart => exact ⟨0, by omega, rfl, h0⟩
  case round =>
    obtain ⟨k, hk, rfl, HJ⟩ := hrel
    obtain ⟨c1, c2⟩ := hJc k wr HJ.out
    have hk0 : (0 : Int) ≤ ((k * 512 : Nat) : Int) := by omega
    by_cases hlt : k * 512 < len
    · have hlt' : ((k * 512 : Nat) : Int) < (len : Int) := by omega
      obtain ⟨m, hm⟩ : ∃ m, m = min 512 (len - k * 512) := ⟨_, rfl⟩
      have hmin : (if ((len - k * 512 : Nat) : Int) < 512 then ((len - k * 512 : Nat) : Int) else 512) = (m : Int) := by rw [hm]; split <;> omega
      obtain ⟨fn, tmps, assign, body, hy, hR⟩ := hY k m wr.drew (hJd k wr HJ.out) hlt hm
      have hm1 : k * 512 + m ≤ len := by omega
      have hm2 : (m : Int) ≤ 512 := by omega
      have hm3 : (0 : Int) ≤ (m : Int) := by omega
      have hm4 : ((k * 512 : Nat) : Int) + (m : Int) ≤ (len : Int) := by omega
      have HM := Lib.hid hm
      clear hm
      gi_wp2
      gi_region
      gi_wp2
      refine ⟨fun h => absurd h (by simp [Fence.wide]), hR.mono ?_⟩
      clear hy hR hmin
      rintro e W3 (⟨rfl, hJ3⟩ | ⟨rfl, hJx⟩)
      · obtain ⟨d1, d2⟩ := hJc _ W3 hJ3
        have HJ3 := Lib.hid hJ3
        clear hJ3 c1 c2
        gi_wp2
        go_roundw
        case rel => exact ⟨k + 1, by omega, by go_num, HJ3.out⟩
        case measure => simp [intOf]; omega
      · have HJX := Lib.hid hJx
        clear hJx
        gi_wp2
        refine bodyPost_ret (results_none rfl _ _ _) rfl ?_
        exact ⟨⟨_, rfl⟩, .inr HJX.out⟩
    · have hlt' : ¬ ((k * 512 : Nat) : Int) < (len : Int) := by omega
      gi_wp2
      go_end0
      exact ⟨⟨_, rfl⟩, .inl ⟨k, by omega, HJ.out⟩⟩
end Go.Proofs.YtbbnjnpbaekfgaaM
/- The plain theory of a log's sectors, third part: the pieces that sectors have, one behind the other, and what is found in them. -/
set_option linter.unusedVariables false
set_option linter.unusedSimpArgs false
namespace Go.Proofs.YtbbnjnpbaekfgaaM
/-- What sectors have, as long as they're whole. -/
def pcsL : Nat → List (List UInt8) → List (List UInt8 × Bool)
  | _, [] => []
  | a, x :: r => match readS a x with
    | none => []
    | some y => y :: pcsL (a + 1) r
theorem pcsL_bad {a : Nat} {x : List UInt8} (h : readS a x = none) (r : List (List UInt8)) : pcsL a (x :: r) = [] := by simp [pcsL, h]
theorem pcsL_good {a : Nat} {x : List UInt8} {y : List UInt8 × Bool} (h : readS a x = some y) (r : List (List UInt8)) : pcsL a (x :: r) = y :: pcsL (a + 1) r := by simp [pcsL, h]
theorem pcsL_le : ∀ (xs : List (List UInt8)) (a : Nat), (pcsL a xs).length ≤ xs.length
  | [], _ => Nat.le_refl _
  | x :: xs, a => by
    cases h : readS a x with
    | none => rw [pcsL_bad h]; simp
    | some y => rw [pcsL_good h]; have := pcsL_le xs (a + 1); simp only [List.length_cons]; omega
theorem pcsL_some (xs : List (List UInt8)) : ∀ (a k : Nat) (x : List UInt8) (y : List UInt8 × Bool), xs[k]? = some x → k ≤ (pcsL a xs).length → readS (a + k) x = some y → (pcsL a xs)[k]? = some y := by
  induction xs with
  | nil => intro a k x y h; simp at h
  | cons z xs ih =>
    intro a k x y h hk hr
    cases k with
    | zero =>
      rw [Nat.add_zero] at hr
      simp only [List.getElem?_cons_zero, Option.some.injEq] at h
      subst h
      rw [pcsL_good hr]
      rfl
    | succ k =>
      cases hz : readS a z with
      | none => rw [pcsL_bad hz] at hk; exact absurd hk (by simp)
      | some u =>
        rw [pcsL_good hz] at hk ⊢
        rw [List.getElem?_cons_succ] at h ⊢
        exact ih (a + 1) k x y h (by simpa using hk) (by rw [← hr]; congr 1; omega)
theorem pcsL_none (xs : List (List UInt8)) : ∀ (a k : Nat) (x : List UInt8), xs[k]? = some x → k ≤ (pcsL a xs).length → readS (a + k) x = none → (pcsL a xs).length = k := by
  induction xs with
  | nil => intro a k x h; simp at h
  | cons z xs ih =>
    intro a k x h hk hr
    cases k with
    | zero =>
      rw [Nat.add_zero] at hr
      simp only [List.getElem?_cons_zero, Option.some.injEq] at h
      subst h
      rw [pcsL_bad hr]
      rfl
    | succ k =>
      cases hz : readS a z with
      | none => rw [pcsL_bad hz] at hk; exact absurd hk (by simp)
      | some u =>
        rw [pcsL_good hz] at hk ⊢
        rw [List.getElem?_cons_succ] at h
        simp only [List.length_cons]
        rw [ih (a + 1) k x h (by simpa using hk) (by rw [← hr]; congr 1; omega)]
/-- What is found in pieces. -/
def collect : Nat → List (List UInt8 × Bool) → Found → Found
  | _, [], s => s
  | a, y :: r, s => collect (a + 1) r (s.step a y)
theorem scanL_collect : ∀ (xs : List (List UInt8)) (a : Nat) (s : Found), scanL a xs s = collect a (pcsL a xs) s
  | [], _, _ => rfl
  | x :: xs, a, s => by
    cases h : readS a x with
    | none => rw [scanL_bad h, pcsL_bad h]; rfl
    | some y => rw [scanL_good h, pcsL_good h]; exact scanL_collect xs (a + 1) _
theorem collect_snoc : ∀ (ys : List (List UInt8 × Bool)) (y : List UInt8 × Bool) (a : Nat) (s : Found), collect a (ys ++ [y]) s = (collect a ys s).step (a + ys.length) y
  | [], y, a, s => rfl
  | z :: ys, y, a, s => by
    show collect (a + 1) (ys ++ [y]) _ = (collect (a + 1) ys _).step (a + (ys.length + 1)) y
    rw [collect_snoc ys y (a + 1), Nat.add_assoc, Nat.add_comm 1]
/-- The sectors of an image. -/
def secs (D : List UInt8) : List (List UInt8) := (List.range (D.length / 512)).map fun i => (D.drop (i * 512)).take 512
theorem secs_length (D : List UInt8) : (secs D).length = D.length / 512 := by simp [secs]
theorem secs_get (D : List UInt8) (k : Nat) (h : k < D.length / 512) : (secs D)[k]? = some ((D.drop (k * 512)).take 512) := by
  unfold secs
  rw [List.getElem?_map, List.getElem?_range h]
  rfl
/-- The pieces of an image. -/
def pcs (D : List UInt8) : List (List UInt8 × Bool) := pcsL 0 (secs D)
theorem pcs_le (D : List UInt8) : (pcs D).length ≤ D.length / 512 := by
  have := pcsL_le (secs D) 0
  rw [secs_length] at this
  exact this
/-- What is found in an image after k pieces. -/
def foundK (D : List UInt8) (k : Nat) : Found := collect 0 ((pcs D).take k) ⟨[], [], 0⟩
/-- What is found in an image. -/
def found (D : List UInt8) : Found := scanL 0 (secs D) ⟨[], [], 0⟩
theorem found_all (D : List UInt8) : foundK D (pcs D).length = found D := by
  unfold foundK found
  rw [List.take_length, scanL_collect]
  rfl
theorem foundK_succ (D : List UInt8) (k : Nat) (y : List UInt8 × Bool) (h : (pcs D)[k]? = some y) : foundK D (k + 1) = (foundK D k).step k y := by
  obtain ⟨hk, he⟩ := List.getElem?_eq_some_iff.1 h
  unfold foundK
  rw [List.take_succ_eq_append_getElem hk, he, collect_snoc, List.length_take, Nat.min_eq_left (by omega), Nat.zero_add]
/-- How much a scan's state may hold: nothing more than the bytes that were gone through. -/
theorem pcs_part (D : List UInt8) : ∀ y ∈ pcs D, y.1.length ≤ 493 := by
  have : ∀ (xs : List (List UInt8)) (a : Nat), ∀ y ∈ pcsL a xs, y.1.length ≤ 493 := by
    intro xs
    induction xs with
    | nil => intro a y h; simp [pcsL] at h
    | cons x xs ih =>
      intro a y h
      cases hr : readS a x with
      | none => rw [pcsL_bad hr] at h; simp at h
      | some z =>
        rw [pcsL_good hr] at h
        rcases List.mem_cons.1 h with rfl | h
        · exact (readS_some (p := y.1) (l := y.2) hr).2.1
        · exact ih (a + 1) y h
  exact this _ _
theorem step_acc (s : Found) (a : Nat) (y : List UInt8 × Bool) (h : y.1.length ≤ 493) : (s.step a y).acc.length ≤ s.acc.length + 493 := by
  unfold Found.step
  split
  · simp
  · simp only [List.length_append]; omega
theorem foundK_acc (D : List UInt8) : ∀ k, k ≤ (pcs D).length → (foundK D k).acc.length ≤ k * 493
  | 0, _ => by simp [foundK, collect]
  | k + 1, h => by
    have hk : k < (pcs D).length := by omega
    rw [foundK_succ D k _ (List.getElem?_eq_getElem hk)]
    have := foundK_acc D k (by omega)
    have := step_acc (foundK D k) k (pcs D)[k] (pcs_part D _ (List.getElem_mem hk))
    omega
theorem foundK_recs (D : List UInt8) : ∀ k, k ≤ (pcs D).length → (foundK D k).recs.length ≤ k
  | 0, _ => by simp [foundK, collect]
  | k + 1, h => by
    have hk : k < (pcs D).length := by omega
    rw [foundK_succ D k _ (List.getElem?_eq_getElem hk)]
    have := foundK_recs D k (by omega)
    unfold Found.step
    split
    · simp only [List.length_append, List.length_singleton]; omega
    · show (foundK D k).recs.length ≤ _; omega
theorem foundK_fin (D : List UInt8) : ∀ k, k ≤ (pcs D).length → (foundK D k).fin ≤ k
  | 0, _ => by simp [foundK, collect]
  | k + 1, h => by
    have hk : k < (pcs D).length := by omega
    rw [foundK_succ D k _ (List.getElem?_eq_getElem hk)]
    have := foundK_fin D k (by omega)
    unfold Found.step
    split
    · exact Nat.le_refl _
    · show (foundK D k).fin ≤ _; omega
end Go.Proofs.YtbbnjnpbaekfgaaM
/- The contract of a log's pieces, as an iterator over an image's sectors. -/
set_option linter.unusedVariables false
set_option linter.unusedSimpArgs false
namespace Go.Proofs.YtbbnjnpbaekfgaaM
open Go.RowKit Go.Shelf
attribute [local go_sem] Oper.semAt_some
/-- An object that is a row of strings. -/
def Rowy (o : Obj) : Prop := ∃ c i, o = .cells c 9 i
/-- What an iterator that began at n does: whatever lay below, and all rows of strings, are as they were. -/
structure Quiet (n : Nat) (W W' : World) : Prop where
  os : W'.os = W.os
  tape : W'.tape = W.tape
  output : W'.output = W.output
  size : W.heap.size ≤ W'.heap.size
  block : ∀ k o, W.heap[k]? = some o → (k < n ∨ Rowy o) → W'.heap[k]? = some o
/-- What a body of a loop over an iterator that began at n does: whatever lies from there on and is no row of strings is as it was. -/
structure Loud (n : Nat) (W W' : World) : Prop where
  size : W.heap.size ≤ W'.heap.size
  block : ∀ k o, W.heap[k]? = some o → n ≤ k → ¬ Rowy o → W'.heap[k]? = some o
theorem Quiet.refl (n : Nat) (W : World) : Quiet n W W := ⟨rfl, rfl, rfl, Nat.le_refl _, fun _ _ h _ => h⟩
theorem Quiet.trans {n : Nat} {A B C : World} (h : Quiet n A B) (k : Quiet n B C) : Quiet n A C :=
  ⟨k.os.trans h.os, k.tape.trans h.tape, k.output.trans h.output, Nat.le_trans h.size k.size, fun i o ho hi => k.block i o (h.block i o ho hi) hi⟩
theorem Quiet.drew {n : Nat} {A B : World} (h : Quiet n A B) : Quiet n A B.drew := ⟨h.os, h.tape, h.output, h.size, h.block⟩
theorem Quiet.below {n : Nat} {A B : World} (h : Below A.heap.size A B) : Quiet n A B :=
  ⟨h.os, h.tape, h.output, h.size, fun k o ho _ => (h.block k (Array.getElem?_eq_some_iff.1 ho).1).trans ho⟩
theorem Quiet.alloc (n : Nat) (A : World) (o : Obj) : Quiet n A (A.alloc o) := .below ((Below.refl _ _).alloc (Nat.le_refl _) _)
/-- A change of one object that is no row of strings, from n on. -/
theorem Quiet.one {n l : Nat} {A B : World} (hs : A.heap.size ≤ B.heap.size) (ho : B.os = A.os ∧ B.tape = A.tape ∧ B.output = A.output) (hb : ∀ k, k ≠ l → B.heap[k]? = A.heap[k]?) (hn : n ≤ l) (hr : ∀ o, A.heap[l]? = some o → ¬ Rowy o) : Quiet n A B :=
  ⟨ho.1, ho.2.1, ho.2.2, hs, fun k o h1 h2 => by
    by_cases e : k = l
    · subst e
      rcases h2 with h2 | h2
      · omega
      · exact absurd h2 (hr o h1)
    · rw [hb k e]
      exact h1⟩
theorem Quiet.putObj {n l : Nat} {A : World} {o : Obj} (hn : n ≤ l) (hl : A.heap[l]? = some o) (hr : ¬ Rowy o) (o' : Obj) : Quiet n A (A.putObj l o') :=
  .one (l := l) (by simp) ⟨rfl, rfl, rfl⟩ (fun k hk => World.putObj_heap_other hk) hn fun o1 h1 => by rw [hl] at h1; cases h1; exact hr
theorem Blk.notRowy {t : TypeId} (c : List Value) (h : t ≠ 9) : ¬ Rowy (.cells c.toArray t (0, 0)) := by
  rintro ⟨d, i, e⟩
  simp only [Obj.cells.injEq] at e
  exact h e.2.1
theorem Quiet.set {n I : Nat} {A : World} {c : List Value} {t : TypeId} (hn : n ≤ I) (hb : Blk A I c t) (ht : t ≠ 9) (o : Nat) (v : Value) : Quiet n A (A.setCell ⟨I, o, none⟩ v) :=
  .one (l := I) (by simp [World.setCell]) ⟨rfl, rfl, rfl⟩ (fun k hk => Below.heap_setCell _ _ _ _ hk) hn fun o1 h1 => by
    unfold Blk at hb
    rw [hb] at h1
    cases h1
    exact Blk.notRowy c ht
theorem Blk.loud {n I : Nat} {A B : World} {c : List Value} {t : TypeId} (h : Blk A I c t) (hq : Loud n A B) (hn : n ≤ I) (ht : t ≠ 9) : Blk B I c t := hq.block I _ h hn (Blk.notRowy c ht)
theorem Blk.putObj {I l : Nat} {A : World} {c : List Value} {t : TypeId} (h : Blk A I c t) (hl : I ≠ l) (o : Obj) : Blk (A.putObj l o) I c t := (World.putObj_heap_other hl).trans h
theorem Blk.belowAll {I : Nat} {A B : World} {c : List Value} {t : TypeId} (h : Blk A I c t) (hb : Below A.heap.size A B) : Blk B I c t := (hb.block I h.lt).trans h
theorem not_rowy_loop (r : Loop) : ¬ Rowy (.loop r) := by rintro ⟨_, _, e⟩; cases e
theorem not_rowy_def (d : Option (List Deferred)) : ¬ Rowy (.deferred d) := by rintro ⟨_, _, e⟩; cases e
/-- The cells of pieces's iterator that began at N, k sectors having been gone through. -/
structure In65 (N lo b len cap k : Nat) (W : World) : Prop where
  y : Blk W N [.func (.yield lo) #[] #[]] 107
  i : Blk W (N + 1) [.int .i64 (k : Int)] 3
  s : Blk W (N + 2) [.slice (some ⟨b, 0, none⟩) len cap] 37
  m : Blk W (N + 3) [.int .i64 512] 3
  d : W.heap[N + 4]? = some (.deferred (some []))
theorem In65.loud {N lo b len cap k : Nat} {A B : World} (h : In65 N lo b len cap k A) (hq : Loud N A B) : In65 N lo b len cap k B :=
  ⟨h.y.loud hq (by omega) (by decide), h.i.loud hq (by omega) (by decide), h.s.loud hq (by omega) (by decide), h.m.loud hq (by omega) (by decide), hq.block _ _ h.d (by omega) (not_rowy_def _)⟩
theorem In65.below {N lo b len cap k : Nat} {A B : World} (h : In65 N lo b len cap k A) (hb : Below A.heap.size A B) : In65 N lo b len cap k B :=
  ⟨h.y.belowAll hb, h.i.belowAll hb, h.s.belowAll hb, h.m.belowAll hb, (hb.block _ (Array.getElem?_eq_some_iff.1 h.d).1).trans h.d⟩
theorem In65.putObj {N lo b len cap k : Nat} {A : World} (h : In65 N lo b len cap k A) (o : Obj) : In65 N lo b len cap k (A.putObj (N + 5) o) :=
  ⟨h.y.putObj (by omega) _, h.i.putObj (by omega) _, h.s.putObj (by omega) _, h.m.putObj (by omega) _, (World.putObj_heap_other (by omega)).trans h.d⟩
theorem In65.next {N lo b len cap k : Nat} {A : World} (h : In65 N lo b len cap k A) : In65 N lo b len cap (k + 1) (A.setCell ⟨N + 1, 0, none⟩ (.int .i64 ((k : Int) + 1))) :=
  ⟨h.y.setElse (by omega) _ _, by have := h.i.set 0 (.int .i64 ((k : Int) + 1)); simpa using this, h.s.setElse (by omega) _ _, h.m.setElse (by omega) _ _, (Below.heap_setCell _ _ _ _ (by show N + 4 ≠ N + 1; omega)).trans h.d⟩
set_option maxHeartbeats 400000 in
theorem chunk_new (a : Option Addr) (len cap : Nat) (w : World) : Calls Try.prog 66 #[.slice a len cap, .int .i64 512] w fun e w' =>
    e = .returned (.func (.func 70) #[] #[.pointer (some ⟨w.heap.size, 0, none⟩), .pointer (some ⟨w.heap.size + 1, 0, none⟩)]) ∧ w' = (w.alloc (.cells #[.slice a len cap] 37)).alloc (.cells #[.int .i64 512] 3) := by
  go_enter Try.func66, Try.ntmps66
  go_wp2
  go_ret
  exact ⟨rfl, rfl⟩
set_option maxRecDepth 100000 in
set_option maxHeartbeats 4000000 in
theorem pieces_in (n lo Bi b cap : Nat) (D : List UInt8) (hlen : D.length ≤ 1000000) (hcap : D.length ≤ cap) (W0 : World) (J : Nat → World → Prop)
    (hJb : ∀ k W, J k W → ∀ j u, (byteCells D)[j]? = some u → W.cell? ⟨b, j, none⟩ = some u)
    (hJq : ∀ k W W', J k W → Quiet W0.heap.size W W' → J k W')
    (hY : ∀ m k p l W1, J k W1 → (pcs D)[k]? = some (p, l) → YieldAt Fence.wide m Try.prog lo #[.int .i64 (k : Int), .agg #[.string (bs p), .bool l]] W1 fun e W' => e = .returned (.bool true) ∧ J (k + 1) W' ∧ Loud W0.heap.size W1 W')
    (hBi : W0.cell? ⟨Bi, 0, none⟩ = some (.slice (some ⟨b, 0, none⟩) D.length cap)) (h0 : J 0 W0) :
    CallsIn Fence.wide n Try.prog 65 #[.func (.yield lo) #[] #[], .pointer (some ⟨Bi, 0, none⟩)] W0 fun e W' => (∃ v, e = .returned v) ∧ J (pcs D).length W' := by
  refine callsIn_of_wp_marks Try.func65 rfl trivial ?_ rfl
  simp only [Try.ntmps65, List.size_toArray, List.length_cons, List.length_nil, Nat.reduceAdd, Nat.reduceSub, Array.replicate_succ, Array.replicate_zero, List.push_toArray, List.append_toArray, List.nil_append, List.cons_append]
  have hBl : Bi < W0.heap.size := World.block_lt_of_cell? W0 _ hBi
  have hBl1 : Bi < W0.heap.size + 1 := by omega
  gi_wp2
  refine ⟨trivial, fun h => absurd h (by simp [Fence.wide]), (callsIn_wide.2 (chunk_new _ _ _ _)).mono ?_⟩
  rintro e w' ⟨rfl, rfl⟩
  gi_wp2
  refine enter_range (gf := 70) rfl (enters_of Try.func70 (by kernel_rfl) rfl) ?_
  intro rec hr1 hr2 hr3 hr4 hr5 hr6
  obtain ⟨w4, hw4⟩ : ∃ w4, w4 = (((W0.alloc (.cells #[.func (.yield lo) #[] #[]] 107)).alloc (.cells #[.int .i64 0] 3)).alloc (.cells #[.slice (some ⟨b, 0, none⟩) D.length cap] 37)).alloc (.cells #[.int .i64 512] 3) := ⟨_, rfl⟩
  rw [← hw4]
  have hsz : w4.heap.size = W0.heap.size + 4 := by rw [hw4]; simp
  rw [hsz]
  obtain ⟨N, hN⟩ : ∃ N, N = W0.heap.size := ⟨_, rfl⟩
  rw [← hN] at hsz hJq hY hBl hBl1 hr3 ⊢
  have HN := Lib.hid (And.intro hN hw4)
  clear hN hw4
  refine (chunk_in (n - 1) (N + 5) (N + 2) (N + 3) b D.length cap hlen hcap (fun k W => J k W ∧ In65 N lo b D.length cap k W ∧ W.heap[N + 5]? = some (.loop rec) ∧ k ≤ (pcs D).length)
    (fun W => J (pcs D).length W ∧ W.heap[N + 4]? = some (.deferred (some [])) ∧ ∃ r, W.heap[N + 5]? = some (.loop r) ∧ r.state ≠ .busy ∧ r.pending = some .ret) ?hJc ?hJd ?hY _ ?h0).mono ?_
  case hJc =>
    rintro k W ⟨hj, hin, hrec, hkl⟩
    exact ⟨hin.s.cell 0, hin.m.cell 0⟩
  case hJd =>
    rintro k W ⟨hj, hin, hrec, hkl⟩
    exact ⟨hJq _ _ _ hj (Quiet.refl _ _).drew, ⟨hin.y, hin.i, hin.s, hin.m, hin.d⟩, hrec, hkl⟩
  case h0 =>
    obtain ⟨hN, hw4⟩ := HN.out
    have hlt : w4.heap.size < (w4.alloc (.deferred (some []))).heap.size := by simp
    have b1 := Blk.new W0 [.func (.yield lo) #[] #[]] 107
    have b2 := Blk.new (W0.alloc (.cells #[.func (.yield lo) #[] #[]] 107)) [.int .i64 0] 3
    have b3 := Blk.new ((W0.alloc (.cells #[.func (.yield lo) #[] #[]] 107)).alloc (.cells #[.int .i64 0] 3)) [.slice (some ⟨b, 0, none⟩) D.length cap] 37
    have b4 := Blk.new (((W0.alloc (.cells #[.func (.yield lo) #[] #[]] 107)).alloc (.cells #[.int .i64 0] 3)).alloc (.cells #[.slice (some ⟨b, 0, none⟩) D.length cap] 37)) [.int .i64 512] 3
    simp only [World.size_alloc, ← hN] at b1 b2 b3 b4
    have e5 : (w4.alloc (.deferred (some []))).heap.size = N + 5 := by simp [hsz]
    refine ⟨hJq 0 _ _ h0 (Quiet.below (A := W0) ?_), ⟨?_, ?_, ?_, ?_, ?_⟩, ?_, Nat.zero_le _⟩
    · rw [hw4, ← hN]
      have e : ∀ (w : World), N ≤ w.heap.size → Below N W0 w → ∀ o, Below N W0 (w.alloc o) := fun w h1 h2 o => h2.alloc h1 o
      exact e _ (by simp; omega) (e _ (by simp; omega) (e _ (by simp; omega) (e _ (by simp; omega) (e _ (by simp; omega) (e _ (by omega) (Below.refl _ _) _) _) _) _) _) _
    · rw [hw4]
      exact ((((b1.alloc _).alloc _).alloc _).alloc _).alloc _
    · rw [hw4]
      exact (((b2.alloc _).alloc _).alloc _).alloc _
    · rw [hw4]
      exact ((b3.alloc _).alloc _).alloc _
    · rw [hw4]
      exact (b4.alloc _).alloc _
    · have := World.alloc_heap_new w4 (.deferred (some []))
      rw [hsz] at this
      exact (Below.heap_alloc _ _ _ (by rw [e5]; omega)).trans this
    · have := World.alloc_heap_new (w4.alloc (.deferred (some []))) (.loop rec)
      rw [e5] at this
      exact this
  case hY =>
    rintro k m W1 ⟨hj, hin, hrec, hkl⟩ hk hm
    refine yield_round hrec hr1 (by rw [hr4]; rfl) ?_
    rw [hr5, hr6, hr4, hr3]
    have HJ := Lib.hid hj
    have HIN := Lib.hid hin
    have HREC := Lib.hid hrec
    have HRR := Lib.hid (readyOf_self hr1 hr2)
    have HM := Lib.hid hm
    clear hm
    clear hj hin hrec hr1 hr2 hr3 hr4 hr5 hr6
    gi_wp2
    refine ⟨HREC.out, ?_⟩
    have hjb : J k (W1.putObj (N + 5) (.loop (busyOf rec))) := hJq _ _ _ HJ.out (Quiet.putObj (by omega) HREC.out (not_rowy_loop rec) _)
    have hinb : In65 N lo b D.length cap k (W1.putObj (N + 5) (.loop (busyOf rec))) := HIN.out.putObj _
    have hbz : (W1.putObj (N + 5) (.loop (busyOf rec))).heap[N + 5]? = some (.loop (busyOf rec)) := World.putObj_heap_same (Array.getElem?_eq_some_iff.1 HREC.out).1
    obtain ⟨Wb, hWb⟩ : ∃ Wb, Wb = W1.putObj (N + 5) (.loop (busyOf rec)) := ⟨_, rfl⟩
    rw [← hWb] at hjb hinb hbz ⊢
    have cY := hinb.y.cell 0
    have cI := hinb.i.cell 0
    have fI := hinb.i.frozen 0
    simp only [List.getElem?_cons_zero] at cY cI
    have lY := hinb.y.lt
    have lI := hinb.i.lt
    have HJB := Lib.hid hjb
    have HINB := Lib.hid hinb
    have HBZ := Lib.hid hbz
    have HKL := Lib.hid hkl
    have hpl := pcs_le D
    clear hWb hjb hinb hbz HJ HIN HREC
    by_cases hm5 : m < 512
    · have hm5' : (m : Int) < 512 := by omega
      have hkp : (pcs D).length = k := by have := HM.out; omega
      have HKP := Lib.hid hkp
      clear hkp hkl hpl
      gi_wp2
      rw [HKP.out] at *
      exact ⟨HBZ.out, .inr ⟨rfl, by rw [HKP.out]; exact hJq _ _ _ HJB.out (Quiet.putObj (by omega) HBZ.out (not_rowy_loop _) _), (HINB.out.putObj _).d, doneOf rec, World.putObj_heap_same (Array.getElem?_eq_some_iff.1 HBZ.out).1, doneOf_state rec, doneOf_pending rec⟩⟩
    · obtain rfl : m = 512 := by have := HM.out; omega
      have hkn : k < D.length / 512 := by have := HM.out; omega
      obtain ⟨s, hs⟩ : ∃ s, s = (D.drop (k * 512)).take 512 := ⟨_, rfl⟩
      have hsl : s.length = 512 := by rw [hs, List.length_take, List.length_drop]; omega
      have hget : (secs D)[k]? = some s := by rw [hs]; exact secs_get D k hkn
      have HSC := Lib.hid (show ∀ j u, (byteCells s)[j]? = some u → Wb.cell? ⟨b, k * 512 + j, none⟩ = some u from fun j u hu => by
        apply hJb k Wb HJB.out
        rw [hs, byteCells_take, byteCells_drop, List.getElem?_take] at hu
        split at hu
        · rw [List.getElem?_drop] at hu
          exact hu
        · cases hu)
      have HRD := Lib.hid (wread_ok k b (k * 512) (by omega) s 512 (Nat.le_refl _) hsl Wb HSC.out)
      have HG := Lib.hid hget
      clear hs hget hpl
      gi_wp2
      refine ⟨trivial, fun h => absurd h (by simp [Fence.wide]), (CallsIn.inRound (N + 5) (callsIn_wide.2 HRD.out)).mono ?_⟩
      rintro e w1 ⟨hsay, hb1⟩
      have HB1 := Lib.hid hb1
      have hJ1 : ∀ o, J k (w1.alloc o) := fun o => hJq _ _ _ HJB.out ((Quiet.below hb1).trans (Quiet.alloc _ _ _))
      have HJ1 := Lib.hid hJ1
      have HIN1 := Lib.hid (HINB.out.below hb1)
      have hbz1 : w1.heap[N + 5]? = some (.loop (busyOf rec)) := (hb1.block _ (Array.getElem?_eq_some_iff.1 HBZ.out).1).trans HBZ.out
      have HBZ1 := Lib.hid hbz1
      have cY1 := HIN1.out.y.cell 0
      have cI1 := HIN1.out.i.cell 0
      simp only [List.getElem?_cons_zero] at cY1 cI1
      have lY1 := HIN1.out.y.lt
      have lI1 := HIN1.out.i.lt
      clear hb1 hJ1 hbz1
      cases hrs : readS k s with
      | none =>
        unfold ReadSays at hsay
        rw [hrs] at hsay
        obtain ⟨q, l, rfl⟩ := hsay
        have hkp : (pcs D).length = k := by
          have := pcsL_none (secs D) 0 k s HG.out hkl (by rw [Nat.zero_add]; exact hrs)
          exact this
        have HKP := Lib.hid hkp
        clear hkp hrs hkl cY cI fI lY lI
        gi_wp2
        refine ⟨fun _ h => (by cases h), ?_⟩
        gi_wp2
        have hz2 : (w1.alloc (.cells #[.string q, .bool l] 88)).heap[N + 5]? = some (.loop (busyOf rec)) := (Below.heap_alloc _ _ _ (Array.getElem?_eq_some_iff.1 HBZ1.out).1).trans HBZ1.out
        refine ⟨hz2, .inr ⟨rfl, ?_, ((HIN1.out.below ((Below.refl _ _).alloc (Nat.le_refl _) _)).putObj _).d, doneOf rec, World.putObj_heap_same (Array.getElem?_eq_some_iff.1 hz2).1, doneOf_state rec, doneOf_pending rec⟩⟩
        rw [HKP.out]
        exact hJq _ _ _ (HJ1.out _) (Quiet.putObj (by omega) hz2 (not_rowy_loop _) _)
      | some y =>
        obtain ⟨p, l⟩ := y
        unfold ReadSays at hsay
        rw [hrs] at hsay
        obtain rfl := hsay
        have hpc : (pcs D)[k]? = some (p, l) := pcsL_some (secs D) 0 k s (p, l) HG.out hkl (by rw [Nat.zero_add]; exact hrs)
        obtain ⟨fn, tmps, assign, body, hy, hR⟩ := hY (n - 1 - 1 - 1) k p l _ (HJ1.out (.cells #[.string (bs p), .bool l] 88)) hpc
        have HPC := Lib.hid (List.getElem?_eq_some_iff.1 hpc).1
        clear hpc hrs hkl cY cI fI lY lI
        gi_wp2
        refine ⟨fun h => absurd h (by simp [Fence.wide]), RoundIn.mono (show RoundIn Fence.wide _ _ _ _ _ _ _ _ _ from hR) ?_⟩
        rintro e W3 ⟨rfl, hJ3, hL3⟩
        have HIN3 := Lib.hid ((HIN1.out.below ((Below.refl _ _).alloc (Nat.le_refl _) (.cells #[.string (bs p), .bool l] 88))).loud hL3)
        have hz2 : (w1.alloc (.cells #[.string (bs p), .bool l] 88)).heap[N + 5]? = some (.loop (busyOf rec)) := (Below.heap_alloc _ _ _ (Array.getElem?_eq_some_iff.1 HBZ1.out).1).trans HBZ1.out
        have HBZ3 := Lib.hid (hL3.block _ _ hz2 (by omega) (not_rowy_loop _))
        have HJ3 := Lib.hid hJ3
        have cI3 := HIN3.out.i.cell 0
        have fI3 := HIN3.out.i.frozen 0
        simp only [List.getElem?_cons_zero] at cI3
        have lI3 := HIN3.out.i.lt
        have hki : (k : Int) ≤ 1000000 := by omega
        have hki0 : (0 : Int) ≤ (k : Int) := by omega
        clear hy hR hJ3 hL3 hz2 cY1 cI1 lY1 lI1
        gi_wp2
        have hz4 : (W3.setCell ⟨N + 1, 0, none⟩ (.int .i64 ((k : Int) + 1))).heap[N + 5]? = some (.loop (busyOf rec)) := (Below.heap_setCell _ _ _ _ (by show N + 5 ≠ N + 1; omega)).trans HBZ3.out
        refine ⟨hz4, .inl ⟨rfl, ?_, HIN3.out.next.putObj _, ?_, HPC.out⟩⟩
        · exact hJq _ _ _ HJ3.out ((Quiet.set (by omega) HIN3.out.i (by decide) 0 _).trans (Quiet.putObj (by omega) hz4 (not_rowy_loop _) _))
        · rw [World.putObj_heap_same (Array.getElem?_eq_some_iff.1 hz4).1, HRR.out]
  · rintro e W2 ⟨hv, hq⟩
    refine ⟨hv, ?_⟩
    rcases hq with ⟨k, hk, hj, hin, hrec, hkl⟩ | ⟨hj, hd, r, hr, hb, hp⟩
    · have hkp : (pcs D).length = k := by have := pcs_le D; omega
      refine ⟨rec, hrec, by rw [hr1]; decide, .inl ⟨hr2, fun o => ?_⟩⟩
      have HJ2 := Lib.hid (hJq _ _ _ hj (Quiet.putObj (by omega) hrec (not_rowy_loop _) (.loop o)))
      have HD2 := Lib.hid (hin.putObj (.loop o)).d
      clear hr1 hr2 hr3 hr4 hr5 hr6 hin hrec hkl hj
      gi_wp2
      refine ⟨by simp, .inl ⟨_, _, rfl, run_takeDeferred HD2.out, ?_⟩⟩
      exact ⟨_, results_none rfl _ _ _, ⟨_, rfl⟩, by rw [hkp]; exact hJq _ _ _ HJ2.out (Quiet.putObj (by omega) HD2.out (not_rowy_def _) _)⟩
    · refine ⟨r, hr, hb, .inr ⟨hp, fun o => ?_⟩⟩
      have HJ2 := Lib.hid (hJq _ _ _ hj (Quiet.putObj (by omega) hr (not_rowy_loop _) (.loop o)))
      have HD2 := Lib.hid (show (W2.putObj (N + 5) (.loop o)).heap[N + 4]? = some (.deferred (some [])) from (World.putObj_heap_other (by omega)).trans hd)
      clear hr1 hr2 hr3 hr4 hr5 hr6 hd hr hb hp hj
      gi_wp2
      refine ⟨by simp, .inl ⟨_, _, rfl, run_takeDeferred HD2.out, ?_⟩⟩
      exact ⟨_, results_none rfl _ _ _, ⟨_, rfl⟩, hJq _ _ _ HJ2.out (Quiet.putObj (by omega) HD2.out (not_rowy_def _) _)⟩
end Go.Proofs.YtbbnjnpbaekfgaaM
/- The contract of a log's Scan: the records that are found in an image. -/
set_option linter.unusedVariables false
set_option linter.unusedSimpArgs false
namespace Go.Proofs.YtbbnjnpbaekfgaaM
open Go.RowKit Go.Shelf
attribute [local go_sem] Oper.semAt_some
theorem own_base {w : World} {B C e size n : Nat} {v : Value} {xs : List Value} (h : w.ownsRow B e size v n xs) (hC : C ≤ B) : w.ownsRow C e size v n xs := by
  refine ⟨h.1, ?_⟩
  rcases h.2 with h2 | ⟨g, cap, cur, rfl, hb, r⟩
  · exact .inl h2
  · exact .inr ⟨g, cap, cur, rfl, by omega, r⟩
theorem own_heap {w w' : World} {B e size n : Nat} {v : Value} {xs : List Value} (h : w.ownsRow B e size v n xs) (hk : ∀ g, v.ownBlock = some g → ∀ o, w.heap[g]? = some o → (∃ c, o = .cells c e (0, 0)) → w'.heap[g]? = some o) : w'.ownsRow B e size v n xs := by
  refine ⟨h.1, ?_⟩
  rcases h.2 with h2 | ⟨g, cap, cur, rfl, hb, hg, r⟩
  · exact .inl h2
  · exact .inr ⟨g, cap, cur, rfl, hb, hk g rfl _ hg ⟨_, rfl⟩, r⟩
/-- Scan's own cells, where k pieces of D have come. -/
structure ScanAt (w : World) (D : List UInt8) (k : Nat) (v : Value) (W : World) : Prop where
  r : Blk W w.heap.size [v] 34
  e : Blk W (w.heap.size + 1) [.int .i64 ((foundK D k).fin : Int)] 3
  a : Blk W (w.heap.size + 2) [.string (bs (foundK D k).acc)] 9
  own : W.ownsRow (w.heap.size + 6) 9 1 v (foundK D k).recs.length (strs (foundK D k).recs)
  d : W.heap[w.heap.size + 4]? = some (.deferred (some []))
  bel : Below w.heap.size w W
theorem ScanAt.quiet {w : World} {D : List UInt8} {k : Nat} {v : Value} {A B : World} (h : ScanAt w D k v A) (hq : Quiet (w.heap.size + 6) A B) : ScanAt w D k v B :=
  ⟨hq.block _ _ h.r (.inl (by omega)), hq.block _ _ h.e (.inl (by omega)), hq.block _ _ h.a (.inl (by omega)), own_heap h.own fun g _ o ho hc => hq.block g o ho (.inr (by obtain ⟨c, rfl⟩ := hc; exact ⟨c, _, rfl⟩)),
    hq.block _ _ h.d (.inl (by omega)), ⟨hq.os.trans h.bel.os, hq.tape.trans h.bel.tape, hq.output.trans h.bel.output, Nat.le_trans h.bel.size hq.size, fun i hi => by
      have hl : i < A.heap.size := Nat.lt_of_lt_of_le hi h.bel.size
      rw [hq.block i _ (Array.getElem?_eq_getElem hl) (.inl (by omega)), ← Array.getElem?_eq_getElem hl]
      exact h.bel.block i hi⟩⟩
theorem ScanAt.putObj {w : World} {D : List UInt8} {k : Nat} {v : Value} {A : World} {r : Loop} (h : ScanAt w D k v A) (hr : A.heap[w.heap.size + 5]? = some (.loop r)) (o : Obj) : ScanAt w D k v (A.putObj (w.heap.size + 5) o) :=
  ⟨h.r.putObj (by omega) _, h.e.putObj (by omega) _, h.a.putObj (by omega) _, own_heap h.own fun g hg o1 ho hc => by
      rw [World.putObj_heap_other (fun e => by have := (h.own.lt g hg).1; omega)]
      exact ho,
    (World.putObj_heap_other (by omega)).trans h.d, h.bel.grown (grownBy_putObj' A _ o) h.bel.size fun k e => by cases e; omega⟩
theorem ScanAt.alloc {w : World} {D : List UInt8} {k : Nat} {v : Value} {A : World} (h : ScanAt w D k v A) (o : Obj) : ScanAt w D k v (A.alloc o) := h.quiet (Quiet.alloc _ _ _)
set_option maxHeartbeats 400000 in
theorem pieces_new (a : Option Addr) (len cap : Nat) (w : World) : Calls Try.prog 51 #[.slice a len cap] w fun e w' =>
    e = .returned (.func (.func 65) #[] #[.pointer (some ⟨w.heap.size, 0, none⟩)]) ∧ w' = w.alloc (.cells #[.slice a len cap] 37) := by
  go_enter Try.func51, Try.ntmps51
  go_wp2
  go_ret
  exact ⟨rfl, rfl⟩
theorem Loud.refl (n : Nat) (W : World) : Loud n W W := ⟨Nat.le_refl _, fun _ _ h _ _ => h⟩
theorem Loud.trans {n : Nat} {A B C : World} (h : Loud n A B) (k : Loud n B C) : Loud n A C := ⟨Nat.le_trans h.size k.size, fun i o ho hi hr => k.block i o (h.block i o ho hi hr) hi hr⟩
theorem Loud.alloc (n : Nat) (A : World) (o : Obj) : Loud n A (A.alloc o) := ⟨by simp, fun i o1 ho _ _ => (Below.heap_alloc _ _ _ (Array.getElem?_eq_some_iff.1 ho).1).trans ho⟩
theorem Loud.putObj {n l : Nat} (A : World) (hl : l < n) (o : Obj) : Loud n A (A.putObj l o) := ⟨by simp, fun i o1 ho hi _ => (World.putObj_heap_other (by omega)).trans ho⟩
theorem Loud.set {n : Nat} (A : World) {p : Addr} (hl : p.block < n) (v : Value) : Loud n A (A.setCell p v) := ⟨by simp [World.setCell], fun i o1 ho hi _ => (Below.heap_setCell _ _ _ _ (by omega)).trans ho⟩
theorem Loud.grown {n : Nat} {A B : World} {row : Option Nat} (hg : A.grownBy B row) (hr : ∀ g, row = some g → ∀ o, A.heap[g]? = some o → Rowy o) : Loud n A B :=
  ⟨hg.size, fun i o ho hi hn => (hg.block i (Array.getElem?_eq_some_iff.1 ho).1 (fun e => hn (hr i e.symm o ho))).trans ho⟩
theorem heap_other {A : World} {I J : Nat} {o : Option Obj} (h : A.heap[I]? = o) (v : Value) (x : Nat) (hne : I ≠ J) : (A.setCell ⟨J, x, none⟩ v).heap[I]? = o := (Below.heap_setCell _ _ _ _ hne).trans h
theorem own_set {A : World} {B e size n J : Nat} {v : Value} {xs : List Value} (h : A.ownsRow B e size v n xs) (hJ : J < B) (x : Nat) (u : Value) : (A.setCell ⟨J, x, none⟩ u).ownsRow B e size v n xs :=
  own_heap h fun g hg o ho _ => heap_other ho u x (by have := (h.lt g hg).1; omega)
theorem ScanAt.part {w : World} {D : List UInt8} {k : Nat} {v : Value} {A : World} (h : ScanAt w D k v A) (p : List UInt8) (hs : foundK D (k + 1) = ⟨(foundK D k).recs, (foundK D k).acc ++ p, (foundK D k).fin⟩) :
    ScanAt w D (k + 1) v (A.setCell ⟨w.heap.size + 2, 0, none⟩ (.string (bs ((foundK D k).acc ++ p)))) := by
  refine ⟨h.r.setElse (by omega) _ _, ?_, ?_, ?_, heap_other h.d _ _ (by omega), h.bel.setCell (p := ⟨w.heap.size + 2, 0, none⟩) (by show _ ≤ _ + 2; omega) _⟩
  · rw [hs]
    exact h.e.setElse (by omega) _ _
  · rw [hs]
    have := h.a.set 0 (.string (bs ((foundK D k).acc ++ p)))
    simpa using this
  · rw [hs]
    exact own_set h.own (by omega) _ _
theorem ScanAt.more {w : World} {D : List UInt8} {k : Nat} {v : Value} {A A6 : World} (h : ScanAt w D k v A) (x : List UInt8) (hs : foundK D (k + 1) = ⟨(foundK D k).recs ++ [x], [], k + 1⟩) (y : Value) (o : Obj) {gg cc : Nat}
    (hg : ((A.setCell ⟨w.heap.size + 2, 0, none⟩ y).alloc o).grownBy A6 v.ownBlock) (hown : A6.ownsRow (w.heap.size + 6) 9 1 (.slice (some ⟨gg, 0, none⟩) ((foundK D k).recs.length + 1) cc) ((foundK D k).recs.length + 1) (strs (foundK D k).recs ++ [.string (bs x)])) :
    ScanAt w D (k + 1) (.slice (some ⟨gg, 0, none⟩) ((foundK D k).recs.length + 1) cc) (((A6.setCell ⟨w.heap.size, 0, none⟩ (.slice (some ⟨gg, 0, none⟩) ((foundK D k).recs.length + 1) cc)).setCell ⟨w.heap.size + 2, 0, none⟩ (.string ⟨#[]⟩)).setCell ⟨w.heap.size + 1, 0, none⟩ (.int .i64 ((k : Int) + 1))) := by
  have hgB : ∀ i o1, ((A.setCell ⟨w.heap.size + 2, 0, none⟩ y).alloc o).heap[i]? = some o1 → i < w.heap.size + 6 → A6.heap[i]? = some o1 := fun i o1 h1 hi =>
    (hg.block i (Array.getElem?_eq_some_iff.1 h1).1 fun e => by have := (h.own.lt i e.symm).1; omega).trans h1
  have r6 : Blk A6 w.heap.size [v] 34 := hgB _ _ ((h.r.setElse (by omega) 0 y).alloc o) (by omega)
  have e6 : Blk A6 (w.heap.size + 1) [.int .i64 ((foundK D k).fin : Int)] 3 := hgB _ _ ((h.e.setElse (by omega) 0 y).alloc o) (by omega)
  have a6 : Blk A6 (w.heap.size + 2) [y] 9 := hgB _ _ ((by have := h.a.set 0 y; simpa using this : Blk _ _ [y] 9).alloc o) (by omega)
  have d6 : A6.heap[w.heap.size + 4]? = some (.deferred (some [])) := hgB _ _ ((Below.heap_alloc _ _ _ (by have := (Array.getElem?_eq_some_iff.1 h.d).1; simp; omega)).trans (heap_other h.d y 0 (by omega))) (by omega)
  have b6 : Below w.heap.size w A6 := ((h.bel.setCell (p := ⟨w.heap.size + 2, 0, none⟩) (by show _ ≤ _ + 2; omega) y).alloc (by have := h.bel.size; simp; omega) o).grown hg (by have := h.bel.size; simp; omega) fun i e => by have := (h.own.lt i e).1; omega
  refine ⟨?_, ?_, ?_, ?_, ?_, ?_⟩
  · have := ((r6.set 0 (.slice (some ⟨gg, 0, none⟩) ((foundK D k).recs.length + 1) cc)).setElse (J := w.heap.size + 2) (by omega) 0 (.string ⟨#[]⟩)).setElse (J := w.heap.size + 1) (by omega) 0 (.int .i64 ((k : Int) + 1))
    simpa using this
  · have := ((e6.setElse (J := w.heap.size) (by omega) 0 (.slice (some ⟨gg, 0, none⟩) ((foundK D k).recs.length + 1) cc)).setElse (J := w.heap.size + 2) (by omega) 0 (.string ⟨#[]⟩)).set 0 (.int .i64 ((k : Int) + 1))
    rw [hs]
    simpa using this
  · have := ((a6.setElse (J := w.heap.size) (by omega) 0 (.slice (some ⟨gg, 0, none⟩) ((foundK D k).recs.length + 1) cc)).set 0 (.string ⟨#[]⟩)).setElse (J := w.heap.size + 1) (by omega) 0 (.int .i64 ((k : Int) + 1))
    rw [hs]
    show Blk _ _ [.string ⟨#[]⟩] 9
    simpa using this
  · rw [hs]
    have := own_set (own_set (own_set hown (J := w.heap.size) (by omega) 0 (.slice (some ⟨gg, 0, none⟩) ((foundK D k).recs.length + 1) cc)) (J := w.heap.size + 2) (by omega) 0 (.string ⟨#[]⟩)) (J := w.heap.size + 1) (by omega) 0 (.int .i64 ((k : Int) + 1))
    rw [List.length_append, strs_append]
    exact this
  · exact heap_other (heap_other (heap_other d6 _ _ (by omega)) _ _ (by omega)) _ _ (by omega)
  · exact ((b6.setCell (p := ⟨w.heap.size, 0, none⟩) (Nat.le_refl _) _).setCell (p := ⟨w.heap.size + 2, 0, none⟩) (by show _ ≤ _ + 2; omega) _).setCell (p := ⟨w.heap.size + 1, 0, none⟩) (by show _ ≤ _ + 1; omega) _
theorem own_rowy {A : World} {B size n : Nat} {v : Value} {xs : List Value} (h : A.ownsRow B 9 size v n xs) (g : Nat) (hg : v.ownBlock = some g) (o : Obj) (ho : A.heap[g]? = some o) : Rowy o := by
  rcases h.2 with ⟨rfl, _⟩ | ⟨g', cap, cur, rfl, _, hh, _⟩
  · cases hg
  · cases hg
    rw [hh] at ho
    cases ho
    exact ⟨_, _, rfl⟩
/-- What Scan says. -/
def ScanSays (w : World) (D : List UInt8) (e : Ending) (w' : World) : Prop := ∃ v, e = .returned (.tuple #[v, .int .i64 ((found D).fin : Int)]) ∧ w'.ownsRow w.heap.size 9 1 v (found D).recs.length (strs (found D).recs) ∧ Below w.heap.size w w'
theorem info34 : Try.prog.underlying 34 = some (.slice 9) := Try.underlying34
theorem bs_nil : (⟨#[]⟩ : ByteArray) = bs [] := rfl
set_option maxRecDepth 100000 in
set_option maxHeartbeats 8000000 in
theorem scan_in (n b cap : Nat) (D : List UInt8) (hlen : D.length ≤ 1000000) (hcap : D.length ≤ cap) (w : World) (hb : b < w.heap.size) (hc : ∀ j u, (byteCells D)[j]? = some u → w.cell? ⟨b, j, none⟩ = some u) :
    CallsIn Fence.wide n Try.prog 18 #[.slice (some ⟨b, 0, none⟩) D.length cap] w (ScanSays w D) := by
  have HC := Lib.hid hc
  clear hc
  refine callsIn_of_wp_marks Try.func18 rfl trivial ?_ rfl
  simp only [Try.ntmps18, List.size_toArray, List.length_cons, List.length_nil, Nat.reduceAdd, Nat.reduceSub, Array.replicate_succ, Array.replicate_zero, List.push_toArray, List.append_toArray, List.nil_append, List.cons_append]
  gi_wp2
  refine ⟨trivial, fun h => absurd h (by simp [Fence.wide]), (callsIn_wide.2 (pieces_new _ _ _ _)).mono ?_⟩
  rintro e w' ⟨rfl, rfl⟩
  gi_wp2
  refine enter_range (gf := 65) rfl (enters_of Try.func65 (by kernel_rfl) rfl) ?_
  intro rec hr1 hr2 hr3 hr4 hr5 hr6
  obtain ⟨w4, hw4⟩ : ∃ w4, w4 = (((w.alloc (.cells #[.slice none 0 0] 34)).alloc (.cells #[.int .i64 0] 3)).alloc (.cells #[.string ⟨#[]⟩] 9)).alloc (.cells #[.slice (some ⟨b, 0, none⟩) D.length cap] 37) := ⟨_, rfl⟩
  rw [← hw4]
  have hsz : w4.heap.size = w.heap.size + 4 := by rw [hw4]; simp
  rw [hsz]
  have e5 : (w4.alloc (.deferred (some []))).heap.size = w.heap.size + 5 := by simp [hsz]
  have e6 : ((w4.alloc (.deferred (some []))).alloc (.loop rec)).heap.size = w.heap.size + 6 := by simp [hsz]
  have HW4 := Lib.hid hw4
  clear hw4
  refine (pieces_in (n - 1) (w.heap.size + 5) (w.heap.size + 3) b cap D hlen hcap ((w4.alloc (.deferred (some []))).alloc (.loop rec)) (fun k W => (∃ v, ScanAt w D k v W) ∧ W.heap[w.heap.size + 5]? = some (.loop rec)) ?hJb ?hJq ?hY ?hBi ?h0).mono ?_
  case hJb =>
    rintro k W ⟨⟨v, hs⟩, _⟩ j u hu
    rw [hs.bel.cell (p := ⟨b, j, none⟩) hb]
    exact HC.out j u hu
  case hJq =>
    rintro k W W' ⟨⟨v, hs⟩, hr⟩ hq
    rw [e6] at hq
    exact ⟨⟨v, hs.quiet hq⟩, hq.block _ _ hr (.inl (by omega))⟩
  case hBi =>
    have b4 := Blk.new (((w.alloc (.cells #[.slice none 0 0] 34)).alloc (.cells #[.int .i64 0] 3)).alloc (.cells #[.string ⟨#[]⟩] 9)) [.slice (some ⟨b, 0, none⟩) D.length cap] 37
    simp only [World.size_alloc] at b4
    have := (((HW4.out ▸ b4 : Blk w4 (w.heap.size + 3) [.slice (some ⟨b, 0, none⟩) D.length cap] 37).alloc (.deferred (some []))).alloc (.loop rec)).cell 0
    exact this
  case h0 =>
    have b1 := Blk.new w [.slice none 0 0] 34
    have b2 := Blk.new (w.alloc (.cells #[.slice none 0 0] 34)) [.int .i64 0] 3
    have b3 := Blk.new ((w.alloc (.cells #[.slice none 0 0] 34)).alloc (.cells #[.int .i64 0] 3)) [.string ⟨#[]⟩] 9
    simp only [World.size_alloc] at b1 b2 b3
    refine ⟨⟨.slice none 0 0, ⟨?_, ?_, ?_, World.ownsRow_nil _ _ _ _, ?_, ?_⟩⟩, ?_⟩
    · rw [HW4.out]
      exact ((((b1.alloc _).alloc _).alloc _).alloc _).alloc _
    · rw [HW4.out]
      exact (((b2.alloc _).alloc _).alloc _).alloc _
    · rw [HW4.out]
      exact ((b3.alloc _).alloc _).alloc _
    · have := World.alloc_heap_new w4 (.deferred (some []))
      rw [hsz] at this
      exact (Below.heap_alloc _ _ _ (by rw [e5]; omega)).trans this
    · rw [HW4.out]
      have e : ∀ (x : World), w.heap.size ≤ x.heap.size → Below w.heap.size w x → ∀ o, Below w.heap.size w (x.alloc o) := fun x h1 h2 o => h2.alloc h1 o
      exact e _ (by first | (simp; done) | (simp; omega)) (e _ (by first | (simp; done) | (simp; omega)) (e _ (by first | (simp; done) | (simp; omega)) (e _ (by first | (simp; done) | (simp; omega)) (e _ (by first | (simp; done) | (simp; omega)) (e _ (Nat.le_refl _) (Below.refl _ _) _) _) _) _) _) _
    · have := World.alloc_heap_new (w4.alloc (.deferred (some []))) (.loop rec)
      rw [e5] at this
      exact this
  case hY =>
    rintro m k p l W1 ⟨⟨v, hs⟩, hrec⟩ hpc
    rw [e6]
    refine yield_round hrec hr1 (by rw [hr4]; rfl) ?_
    rw [hr5, hr6, hr4, hr3]
    have HS := Lib.hid hs
    have HREC := Lib.hid hrec
    have HRR := Lib.hid (readyOf_self hr1 hr2)
    have HPC := Lib.hid hpc
    clear hs hrec hr1 hr2 hr3 hr4 hr5 hr6 hpc
    gi_wp2
    have hrec1 : (W1.alloc (.cells #[.string (bs p), .bool l] 88)).heap[w.heap.size + 5]? = some (.loop rec) := (Below.heap_alloc _ _ _ (Array.getElem?_eq_some_iff.1 HREC.out).1).trans HREC.out
    refine ⟨hrec1, ?_⟩
    have hsb := (HS.out.alloc (.cells #[.string (bs p), .bool l] 88)).putObj hrec1 (.loop (busyOf rec))
    have hbz : ((W1.alloc (.cells #[.string (bs p), .bool l] 88)).putObj (w.heap.size + 5) (.loop (busyOf rec))).heap[w.heap.size + 5]? = some (.loop (busyOf rec)) := World.putObj_heap_same (Array.getElem?_eq_some_iff.1 hrec1).1
    have hsz1 : w.heap.size + 6 ≤ W1.heap.size := (Array.getElem?_eq_some_iff.1 HREC.out).1
    have hpb := (Blk.new W1 [.string (bs p), .bool l] 88).putObj (l := w.heap.size + 5) (by omega) (.loop (busyOf rec))
    obtain ⟨Wb, hWb⟩ : ∃ Wb, Wb = (W1.alloc (.cells #[.string (bs p), .bool l] 88)).putObj (w.heap.size + 5) (.loop (busyOf rec)) := ⟨_, rfl⟩
    rw [← hWb] at hsb hbz hpb ⊢
    have HB := Lib.hid (And.intro hbz (And.intro hsb hWb))
    have cA := hsb.a.cell 0
    have fA := hsb.a.frozen 0
    have cR := hsb.r.cell 0
    have fR := hsb.r.frozen 0
    have cE := hsb.e.cell 0
    have fE := hsb.e.frozen 0
    have cP0 := hpb.cell 0
    have cP1 := hpb.cell 1
    simp only [List.getElem?_cons_zero, List.getElem?_cons_succ] at cA cR cE cP0 cP1
    have lA := hsb.a.lt
    have hk : k ≤ (pcs D).length := by have := (List.getElem?_eq_some_iff.1 HPC.out).1; omega
    have hpl := pcs_le D
    have hk6 : k ≤ 2000 := by omega
    have hpn := pcs_part D (p, l) (List.mem_iff_getElem?.2 ⟨k, HPC.out⟩)
    have han := foundK_acc D k hk
    have hrn := foundK_recs D k hk
    have hfn := foundK_fin D k hk
    have HST := Lib.hid (foundK_succ D k (p, l) HPC.out)
    obtain ⟨acc, hacc⟩ : ∃ acc, acc = (foundK D k).acc := ⟨_, rfl⟩
    obtain ⟨rs, hrs⟩ : ∃ rs, rs = (foundK D k).recs := ⟨_, rfl⟩
    obtain ⟨fi, hfi⟩ : ∃ fi, fi = (foundK D k).fin := ⟨_, rfl⟩
    rw [← hacc] at cA han
    rw [← hfi] at cE hfn
    rw [← hrs] at hrn
    have HAC := Lib.hid (And.intro hacc (And.intro hrs hfi))
    have hcat : bs acc ++ bs p = bs (acc ++ p) := bs_append _ _
    have hsum : (9223372036854775807 < (bs acc).size + (bs p).size) = False := eq_false (by rw [bs_size, bs_size]; simp only at hpn; omega)
    have HOW := Lib.hid (show Wb.ownsRow (w.heap.size + 6) 9 1 v rs.length (strs rs) by rw [hrs]; exact hsb.own)
    clear hbz hsb hWb hacc hrs hfi hpb
    have hki : (k : Int) ≤ 2000 := by omega
    have hki0 : (0 : Int) ≤ (k : Int) := by omega
    have hrs6 : rs.length ≤ 2000 := by omega
    have HLD := Lib.hid (show Loud (w.heap.size + 6) W1 Wb by rw [HB.out.2.2]; exact (Loud.alloc _ _ _).trans (Loud.putObj _ (by omega) _))
    cases l
    · gi_wp2
      have hz : (Wb.setCell ⟨w.heap.size + 2, 0, none⟩ (.string (bs (acc ++ p)))).heap[w.heap.size + 5]? = some (.loop (busyOf rec)) := heap_other HB.out.1 _ _ (by omega)
      refine ⟨hz, rfl, ⟨⟨v, ?_⟩, ?_⟩, (HLD.out.trans (Loud.set _ (p := ⟨w.heap.size + 2, 0, none⟩) (by show _ + 2 < _; omega) _)).trans (Loud.putObj _ (by omega) _)⟩
      · have := HB.out.2.1.part p HST.out
        rw [← HAC.out.1] at this
        exact this.putObj hz _
      · rw [World.putObj_heap_same (Array.getElem?_eq_some_iff.1 hz).1, HRR.out]
    · have HOS := Lib.hid (own_set HOW.out (J := w.heap.size + 2) (by omega) 0 (.string (bs (acc ++ p))))
      obtain ⟨i9, hi0, hz0, hz1, hz2⟩ := info_parts info9
      have HI := Lib.hid (And.intro hi0 (And.intro hz0 (And.intro hz1 hz2)))
      have HN1 := Lib.hid (show ∀ j u, ([.string (bs (acc ++ p))] : List Value)[j]? = some u → ((Wb.setCell ⟨w.heap.size + 2, 0, none⟩ (.string (bs (acc ++ p)))).alloc (.cells [Value.string (bs (acc ++ p))].toArray 9)).cell? ((⟨Wb.heap.size, 0, none⟩ : Addr).add j) = some u from fun j u hu => by
        have := (Blk.new (Wb.setCell ⟨w.heap.size + 2, 0, none⟩ (.string (bs (acc ++ p)))) [.string (bs (acc ++ p))] 9).cell j
        rw [show (Wb.setCell ⟨w.heap.size + 2, 0, none⟩ (.string (bs (acc ++ p)))).heap.size = Wb.heap.size by simp [World.setCell]] at this
        rw [addr_add, Nat.zero_add, this]
        exact hu)
      have hszb : w.heap.size + 6 ≤ Wb.heap.size := (Array.getElem?_eq_some_iff.1 HB.out.1).1
      have nB : ∀ i, i < w.heap.size + 6 → v.ownBlock ≠ some i := fun i hi e => by have := (HOW.out.lt i e).1; omega
      have lB1 : w.heap.size < Wb.heap.size := by omega
      have lB2 : w.heap.size + 1 < Wb.heap.size := by omega
      clear hi0 hz0 hz1 hz2
      gi_wp2_with (gi_at_builtin; refine wpListIn_append_own _ rfl _ _ 34 rfl (w.heap.size + 6) 9 i9 (.string ⟨#[]⟩) 1 16 Try.underlying34 HI.out.1 HI.out.2.1 HI.out.2.2.1 HI.out.2.2.2 rfl (by decide) v rs.length (strs rs) rfl (HOS.out.alloc _) ⟨Wb.heap.size, 0, none⟩ 1 1 [.string (bs (acc ++ p))] rfl rfl HN1.out (by intro u hu; rw [List.mem_singleton.1 hu]; rfl) (by unfold maxLen; omega) (by omega) (by simp; omega) ?_; intro v6 w6 hown hgrow _; obtain ⟨gg, cc, rfl⟩ := ownsRow_succ hown; have q1 := cell_far' hgrow w.heap.size 0 (by simp; omega) (nB _ (by omega)); have q2 := frozen_far' hgrow w.heap.size 0 (by simp; omega) (nB _ (by omega)); have q3 := cell_far' hgrow (w.heap.size + 1) 0 (by simp; omega) (nB _ (by omega)); have q4 := frozen_far' hgrow (w.heap.size + 1) 0 (by simp; omega) (nB _ (by omega)); have q5 := cell_far' hgrow (w.heap.size + 2) 0 (by simp; omega) (nB _ (by omega)); have q6 := frozen_far' hgrow (w.heap.size + 2) 0 (by simp; omega) (nB _ (by omega)))
      have hz5 : ((Wb.setCell ⟨w.heap.size + 2, 0, none⟩ (.string (bs (acc ++ p)))).alloc (.cells [Value.string (bs (acc ++ p))].toArray 9)).heap[w.heap.size + 5]? = some (.loop (busyOf rec)) :=
        (Below.heap_alloc _ _ _ (by simp [World.setCell]; omega)).trans (heap_other HB.out.1 _ _ (by omega))
      have hz6 : w6.heap[w.heap.size + 5]? = some (.loop (busyOf rec)) := (hgrow.block _ (Array.getElem?_eq_some_iff.1 hz5).1 (fun e => nB _ (by omega) e.symm)).trans hz5
      have hz7 := heap_other (heap_other (heap_other hz6 (.slice (some ⟨gg, 0, none⟩) (rs.length + 1) cc) 0 (J := w.heap.size) (by omega)) (.string ⟨#[]⟩) 0 (J := w.heap.size + 2) (by omega)) (.int .i64 ((k : Int) + 1)) 0 (J := w.heap.size + 1) (by omega)
      refine ⟨hz7, rfl, ⟨⟨.slice (some ⟨gg, 0, none⟩) (rs.length + 1) cc, ?_⟩, ?_⟩, ?_⟩
      · obtain ⟨rfl, rfl, rfl⟩ := HAC.out
        exact (HB.out.2.1.more _ HST.out _ _ hgrow hown).putObj hz7 _
      · rw [World.putObj_heap_same (Array.getElem?_eq_some_iff.1 hz7).1, HRR.out]
      · exact ((((((HLD.out.trans (Loud.set _ (p := ⟨w.heap.size + 2, 0, none⟩) (by show _ + 2 < _; omega) _)).trans (Loud.alloc _ _ _)).trans (Loud.grown hgrow (own_rowy (HOS.out.alloc _)))).trans (Loud.set _ (p := ⟨w.heap.size, 0, none⟩) (by show w.heap.size < w.heap.size + 6; omega) _)).trans (Loud.set _ (p := ⟨w.heap.size + 2, 0, none⟩) (by show _ + 2 < _; omega) _)).trans (Loud.set _ (p := ⟨w.heap.size + 1, 0, none⟩) (by show _ + 1 < _; omega) _)).trans (Loud.putObj _ (by omega) _)
  · rintro e W2 ⟨hv, ⟨⟨v, hs⟩, hrec⟩⟩
    refine ⟨hv, rec, hrec, by rw [hr1]; decide, .inl ⟨hr2, fun o => ?_⟩⟩
    have hs3 := hs.putObj hrec (.loop o)
    obtain ⟨W3, hW3⟩ : ∃ W3, W3 = W2.putObj (w.heap.size + 5) (.loop o) := ⟨_, rfl⟩
    rw [show w.heap.size + 4 + 1 = w.heap.size + 5 from rfl, ← hW3]
    rw [← hW3, ] at hs3
    have HS3 := Lib.hid hs3
    have cR := hs3.r.cell 0
    have fR := hs3.r.frozen 0
    have cE := hs3.e.cell 0
    have fE := hs3.e.frozen 0
    simp only [List.getElem?_cons_zero] at cR cE
    obtain ⟨sa, sc, rfl⟩ := len_of_own hs3.own
    clear hs3 hs hrec hr1 hr2 hr3 hr4 hr5 hr6 hW3 hv
    gi_wp2
    gi_region
    all_goals
      gi_wp2
      have b1 : Blk ((W3.setCell ⟨w.heap.size, 0, none⟩ (.slice sa (foundK D (pcs D).length).recs.length sc)).setCell ⟨w.heap.size + 1, 0, none⟩ (.int .i64 ((foundK D (pcs D).length).fin : Int))).drew w.heap.size [.slice sa (foundK D (pcs D).length).recs.length sc] 34 := by
        have := (HS3.out.r.set 0 (.slice sa (foundK D (pcs D).length).recs.length sc)).setElse (J := w.heap.size + 1) (by omega) 0 (.int .i64 ((foundK D (pcs D).length).fin : Int))
        simpa using this.drew
      have b2 : Blk ((W3.setCell ⟨w.heap.size, 0, none⟩ (.slice sa (foundK D (pcs D).length).recs.length sc)).setCell ⟨w.heap.size + 1, 0, none⟩ (.int .i64 ((foundK D (pcs D).length).fin : Int))).drew (w.heap.size + 1) [.int .i64 ((foundK D (pcs D).length).fin : Int)] 3 := by
        have := (HS3.out.e.setElse (J := w.heap.size) (by omega) 0 (.slice sa (foundK D (pcs D).length).recs.length sc)).set 0 (.int .i64 ((foundK D (pcs D).length).fin : Int))
        simpa using this.drew
      have hd : ((W3.setCell ⟨w.heap.size, 0, none⟩ (.slice sa (foundK D (pcs D).length).recs.length sc)).setCell ⟨w.heap.size + 1, 0, none⟩ (.int .i64 ((foundK D (pcs D).length).fin : Int))).drew.heap[w.heap.size + 4]? = some (.deferred (some [])) := heap_other (heap_other HS3.out.d _ _ (by omega)) _ _ (by omega)
      have ho := own_set (own_set HS3.out.own (J := w.heap.size) (by omega) 0 (.slice sa (foundK D (pcs D).length).recs.length sc)) (J := w.heap.size + 1) (by omega) 0 (.int .i64 ((foundK D (pcs D).length).fin : Int))
      have hbl := ((HS3.out.bel.setCell (p := ⟨w.heap.size, 0, none⟩) (Nat.le_refl _) (.slice sa (foundK D (pcs D).length).recs.length sc)).setCell (p := ⟨w.heap.size + 1, 0, none⟩) (by show _ ≤ _ + 1; omega) (.int .i64 ((foundK D (pcs D).length).fin : Int))).drew
      refine ⟨by simp, .inl ⟨_, _, rfl, run_takeDeferred hd, ?_⟩⟩
      have r1 := (b1.putObj (l := w.heap.size + 4) (by omega) (.deferred none)).cell 0
      have r2 := (b2.putObj (l := w.heap.size + 4) (by omega) (.deferred none)).cell 0
      simp only [List.getElem?_cons_zero] at r1 r2
      refine ⟨.tuple #[.slice sa (foundK D (pcs D).length).recs.length sc, .int .i64 ((foundK D (pcs D).length).fin : Int)], ?_, ?_⟩
      · simp [results, Try.results18, go_sem, r1, r2]
      · refine ⟨.slice sa (foundK D (pcs D).length).recs.length sc, by rw [found_all], ?_, ?_⟩
        · rw [← found_all]
          exact own_base (own_heap (own_heap ho fun g _ o ho' _ => ho') fun g hg o ho' _ => (World.putObj_heap_other (fun e => by have := (ho.lt g hg).1; omega)).trans ho') (by omega)
        · exact hbl.grown (grownBy_putObj' _ (w.heap.size + 4) (.deferred none)) (by simpa using hbl.size) fun k e => by cases e; omega
theorem scan_ok (b cap : Nat) (D : List UInt8) (hlen : D.length ≤ 1000000) (hcap : D.length ≤ cap) (w : World) (hb : b < w.heap.size) (hc : ∀ j u, (byteCells D)[j]? = some u → w.cell? ⟨b, j, none⟩ = some u) :
    Calls Try.prog 18 #[.slice (some ⟨b, 0, none⟩) D.length cap] w (ScanSays w D) := (callsIn_wide (n := 9)).1 (scan_in 9 b cap D hlen hcap w hb hc)
end Go.Proofs.YtbbnjnpbaekfgaaM
