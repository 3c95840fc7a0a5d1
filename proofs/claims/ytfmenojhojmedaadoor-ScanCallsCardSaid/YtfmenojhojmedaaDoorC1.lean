/- The contract of scan.Valid and scan.Quote. -/
import Derived.Test.YtfmenojhojmedaaDoorBld
import Derived.Test.YtfmenojhojmedaaDoorX2
import Derived.LoopTactic
import Derived.Lib.Hide
import Derived.Outline
import Derived.Deep.RegionWith
import Derived.StillTailTactics
import Derived.WalkLawsBesides
import Derived.WalkSpells
set_option linter.unusedVariables false
set_option linter.unusedSimpArgs false
namespace Go.Proofs.YtfmenojhojmedaaDoorG
open Go.RowKit Go.Proofs Go.Proofs.YtfmenojhojmedaaDoorX Go.Proofs.YtfmenojhojmedaaDoorB
/-- The library's two tables lie as their initialisers lay them. -/
def TabU (w : World) : Prop := Lib.Utf8Tabs 0 1 w
theorem TabU.at {w w' : World} (h : TabU w) (hb : Below w.heap.size w w') : TabU w' := Utf8Tabs_below h hb
theorem valid_any (s : ByteArray) (w : World) (hs : s.size ≤ 9223372036854775807) (ht : TabU w) :
    Calls Tryd.prog 11 #[.string s] w fun e w' => e = .returned (.bool (Lib.validD s.data.toList)) ∧ Below w.heap.size w w' := by
  go_enter Tryd.func11, Tryd.ntmps11
  go_wp2_with (go_at_call 31; refine (Tryd.utf8_ValidString s w hs ht).mono ?_; rintro e w' ⟨rfl, hb⟩)
  go_ret
  exact ⟨rfl, hb⟩
theorem quote_bad (s : ByteArray) (w : World) (hs : s.size ≤ 9223372036854775807) (ht : TabU w) (hv : Lib.validD s.data.toList = false) :
    Calls Tryd.prog 10 #[.string s] w fun e w' => e = .returned (.tuple #[.string ⟨#[]⟩, .int .i64 6]) ∧ Below w.heap.size w w' := by
  have hc := valid_any s w hs ht
  rw [hv] at hc
  have HC := Lib.hid hc
  clear hc hv
  go_enter Tryd.func10, Tryd.ntmps10
  go_wp2_with (go_at_call 11; refine HC.out.mono ?_; rintro e w' ⟨rfl, hb⟩)
  go_ret2
  exact ⟨rfl, hb⟩

/-- What a writing method does. -/
def Wr (B : Nat) (bs : List Value) (w w' : World) : Prop := Lib.BuilderAtF 46 5 B B (.pointer (some ⟨B, 0, none⟩)) bs w' ∧ Below B w w' ∧ Lib.OthersKept 5 (some B) w w'
theorem wByte (B : Nat) (l : List UInt8) (c : Int) (w : World) (h : Lib.IsBuilderF 46 5 B B (Lib.byteCells l) w) (hlen : l.length + 1 ≤ 140737488355328) (hBw : B ≤ w.heap.size) :
    Calls Tryd.prog 27 #[.pointer (some ⟨B, 0, none⟩), .int .u8 c] w fun e w' => e = .returned .nilIface ∧ Wr B (Lib.byteCells l ++ [.int .u8 c]) w w' := (writeByte_k B B (Lib.byteCells l) c w h (by rw [Lib.byteCells_length]; exact hlen) hBw).mono fun _ _ h => h
theorem wString (B : Nat) (l : List UInt8) (s : ByteArray) (w : World) (h : Lib.IsBuilderF 46 5 B B (Lib.byteCells l) w) (hlen : l.length + s.size ≤ 140737488355328) (hBw : B ≤ w.heap.size) :
    Calls Tryd.prog 28 #[.pointer (some ⟨B, 0, none⟩), .string s] w fun e w' => e = .returned (.tuple #[.int .i64 s.size, .nilIface]) ∧ Wr B (Lib.byteCells l ++ Lib.strCells s) w w' := (writeString_k B B (Lib.byteCells l) s w h (by rw [Lib.byteCells_length]; exact hlen) hBw).mono fun _ _ h => h
theorem wRune (B : Nat) (l : List UInt8) (r : Int) (hr0 : 0 ≤ r) (hr1 : r ≤ 2147483647) (w : World) (h : Lib.IsBuilderF 46 5 B B (Lib.byteCells l) w) (hlen : l.length + 4 ≤ 140737488355328) (hBw : B ≤ w.heap.size) :
    Calls Tryd.prog 29 #[.pointer (some ⟨B, 0, none⟩), .int .i32 r] w fun e w' => e = .returned (.tuple #[.int .i64 (Lib.runeCells r).length, .nilIface]) ∧ Wr B (Lib.byteCells (l ++ Lib.encodeRune r)) w w' := (writeRune_k B B (Lib.byteCells l) r (by omega) hr1 w h (by rw [Lib.byteCells_length]; exact hlen) hBw).mono fun _ _ h => ⟨h.1, by rw [Lib.byteCells_append, Lib.byteCells_encodeRune]; exact h.2.1, h.2.2⟩
def hexd (n : Nat) : UInt8 := if n < 10 then UInt8.ofNat (48 + n) else UInt8.ofNat (87 + n)
/-- A code point in a literal. -/
def qRune (r : Nat) : List UInt8 := if r = 8 then [92, 98] else if r = 12 then [92, 102] else if r = 10 then [92, 110] else if r = 13 then [92, 114] else if r = 9 then [92, 116] else if r = 34 then [92, 34] else if r = 92 then [92, 92] else if r < 32 then [92, 117, 48, 48, hexd (r / 16), hexd (r % 16)] else Lib.encodeRune r
def qFrom (s : ByteArray) : Nat → Nat → List UInt8
  | 0, _ => []
  | fuel + 1, pos => if pos < s.size then qRune (Utf8.decode s pos).1 ++ qFrom s fuel (pos + (Utf8.decode s pos).2) else []
def qAll (s : ByteArray) : List UInt8 := 34 :: qFrom s s.size 0 ++ [34]
theorem width_pos (s : ByteArray) (pos : Nat) (h : pos < s.size) : 1 ≤ (Utf8.decode s pos).2 := by
  by_cases ha : (s[pos]'h).toNat < 128
  · rw [decode_ascii s pos h ha]
    exact Nat.le_refl _
  · exact (decode_high s pos h (by omega)).2
theorem width_le (s : ByteArray) (pos : Nat) : (Utf8.decode s pos).2 ≤ 4 := by
  simp only [Utf8.decode]
  repeat' split
  all_goals first | (simp; done) | omega
theorem qFrom_end (s : ByteArray) (fuel pos : Nat) (h : ¬ pos < s.size) : qFrom s fuel pos = [] := by
  cases fuel with
  | zero => rfl
  | succ f => simp [qFrom, h]
theorem qRune_len (r : Nat) : (qRune r).length ≤ 6 := by
  unfold qRune
  repeat' split
  all_goals first | decide | (simp; done) | skip
  have h := Lib.runeCells_le (r : Int)
  rw [Lib.runeCells_length] at h
  omega
/-- What holds behind a round: the builder holds the literal so far. -/
def Rel (s : ByteArray) (n k : Nat) (w1 : World) (tot : List UInt8) (wr : World) : Prop := ∃ (pos fuel : Nat) (acc : List UInt8), Lib.IsBuilderF 46 5 n n (Lib.byteCells acc) wr ∧ wr.heap[k]? = some (.stringIter s pos) ∧ Below n w1 wr ∧ acc ++ qFrom s fuel pos = tot ∧ s.size ≤ pos + fuel ∧ acc.length ≤ 6 * pos + 1 ∧ pos ≤ s.size + 4
theorem low_and (Q : Int) (h0 : 0 ≤ Q) (h1 : Q < 32) : bits BinOp.and IntKind.i32 Q 15 = Q % 16 := by
  have h : ∀ q : Fin 32, bits BinOp.and IntKind.i32 ((q.val : Nat) : Int) 15 = ((q.val : Nat) : Int) % 16 := by decide
  have := h ⟨Q.toNat, by omega⟩
  rw [show (((⟨Q.toNat, by omega⟩ : Fin 32).val : Nat) : Int) = Q by simp; omega] at this
  exact this
theorem low_str (Q M : Int) (h0 : 0 ≤ Q) (h1 : Q < 32) (hM : M = Q % 16) (h8 : ¬ Q = 8) (h12 : ¬ Q = 12) (h10 : ¬ Q = 10) (h13 : ¬ Q = 13) (h9 : ¬ Q = 9) :
    Lib.strCells ((⟨#[92, 117, 48, 48]⟩ : ByteArray) ++ (⟨#[48, 49, 50, 51, 52, 53, 54, 55, 56, 57, 97, 98, 99, 100, 101, 102]⟩ : ByteArray).extract (Q / 16).toNat (Q / 16 + 1).toNat ++ (⟨#[48, 49, 50, 51, 52, 53, 54, 55, 56, 57, 97, 98, 99, 100, 101, 102]⟩ : ByteArray).extract M.toNat (M + 1).toNat) = Lib.byteCells (qRune Q.toNat) := by
  have h : ∀ q : Fin 32, q.val ≠ 8 → q.val ≠ 12 → q.val ≠ 10 → q.val ≠ 13 → q.val ≠ 9 → ((⟨#[92, 117, 48, 48]⟩ : ByteArray) ++ (⟨#[48, 49, 50, 51, 52, 53, 54, 55, 56, 57, 97, 98, 99, 100, 101, 102]⟩ : ByteArray).extract (q.val / 16) (q.val / 16 + 1) ++ (⟨#[48, 49, 50, 51, 52, 53, 54, 55, 56, 57, 97, 98, 99, 100, 101, 102]⟩ : ByteArray).extract (q.val % 16) (q.val % 16 + 1)).data.toList = qRune q.val := by decide +kernel
  have hq := h ⟨Q.toNat, by omega⟩ (by simp; omega) (by simp; omega) (by simp; omega) (by simp; omega) (by simp; omega)
  simp only at hq
  rw [← hq]
  have e1 : (Q / 16).toNat = Q.toNat / 16 := by omega
  have e2 : (Q / 16 + 1).toNat = Q.toNat / 16 + 1 := by omega
  have e3 : M.toNat = Q.toNat % 16 := by omega
  have e4 : (M + 1).toNat = Q.toNat % 16 + 1 := by omega
  rw [e1, e2, e3, e4]
  rfl
set_option maxHeartbeats 4000000 in
set_option maxRecDepth 1000000 in
theorem quote_ok (s : ByteArray) (w : World) (hs : s.size ≤ 1000000) (ht : TabU w) (hv : Lib.validD s.data.toList = true) :
    Calls Tryd.prog 10 #[.string s] w fun e w' => e = .returned (.tuple #[.string ⟨(qAll s).toArray⟩, .int .i64 0]) ∧ Below w.heap.size w w' := by
  have hc := valid_any s w (by omega) ht
  rw [hv] at hc
  have HC := Lib.hid hc
  clear hc hv
  go_enter Tryd.func10, Tryd.ntmps10
  go_wp2_with (go_at_call 11; refine HC.out.mono ?_; rintro e w1 ⟨rfl, hb1⟩)
  have hI0 := Lib.IsBuilderF.of (Lib.fresh_isBuilder 46 5 w1)
  go_wp2_with (go_at_call 27; refine (writeByte_k w1.heap.size w1.heap.size _ 34 _ hI0 (by simp) (by simp)).mono ?_)
  rintro e w2 ⟨rfl, h2, b2, k2⟩
  have hsz2 : w1.heap.size < w2.heap.size := by have := b2.size; simp at this; omega
  go_wp2
  go_loopw [] (fun wr => Rel s w1.heap.size w2.heap.size w1 (34 :: qFrom s s.size 0) wr) (fun wr => s.size - wr.iterPos w2.heap.size)
  case atStart =>
    refine ⟨0, s.size, [34], ?_, ?_, ?_, rfl, by omega, by simp, by omega⟩
    · exact Lib.IsBuilderF.alloc (Or.inr (by simpa [Lib.byteCells] using h2)) _
    · have := World.iter_heap w2 s 0
      simpa using this
    · exact (((Below.refl _ w1).alloc (Nat.le_refl _) _).trans (b2.mono (Nat.le_refl _))).alloc (by omega) _
  case round =>
    obtain ⟨pos, fuel, acc, hI, hit, hbw, hacc, hfu, hal, hpl⟩ := hrel
    have hsz : w2.heap.size < wr.heap.size := (Array.getElem?_eq_some_iff.1 hit).1
    by_cases hp : pos < s.size
    · have hnx : ∀ ty, (Instr.next (.pointer (some ⟨w2.heap.size, 0, none⟩)) true ty).run Tryd.prog wr = _ := fun ty => Lib.run_next_any_at wr w2.heap.size s pos ty hit hp
      have hwd := width_pos s pos hp
      have hwl := width_le s pos
      have hd1 := decode_le s pos
      have hI2 := hI.iterAt hit (pos + (Utf8.decode s pos).2)
      have hit2 := Lib.iterAt_heap wr w2.heap.size s pos (pos + (Utf8.decode s pos).2) hit
      have hbw2 := Lib.below_iterAt hbw (k := w2.heap.size) (by omega) s (pos + (Utf8.decode s pos).2)
      have hsz3 : w1.heap.size ≤ (wr.iterAt w2.heap.size s (pos + (Utf8.decode s pos).2)).heap.size := by rw [Lib.iterAt_size]; omega
      obtain ⟨f, rfl⟩ : ∃ f, fuel = f + 1 := ⟨fuel - 1, by omega⟩
      have hql := qRune_len (Utf8.decode s pos).1
      have hstep : acc ++ qRune (Utf8.decode s pos).1 ++ qFrom s f (pos + (Utf8.decode s pos).2) = 34 :: qFrom s s.size 0 := by rw [← hacc]; simp [qFrom, hp]
      have hmeas : s.size - (pos + (Utf8.decode s pos).2) < s.size - wr.iterPos w2.heap.size := by simp only [World.iterPos, hit]; omega
      have hfin : ∀ W1 : World, Lib.IsBuilderF 46 5 w1.heap.size w1.heap.size (Lib.byteCells (acc ++ qRune (Utf8.decode s pos).1)) W1 → Below w1.heap.size (wr.iterAt w2.heap.size s (pos + (Utf8.decode s pos).2)) W1 → Lib.OthersKept 5 (some w1.heap.size) (wr.iterAt w2.heap.size s (pos + (Utf8.decode s pos).2)) W1 → Rel s w1.heap.size w2.heap.size w1 (34 :: qFrom s s.size 0) W1 ∧ s.size - W1.iterPos w2.heap.size < s.size - wr.iterPos w2.heap.size := by
        intro W1 h1 b1 k1
        have hit3 := k1.iter hit2 (by omega)
        exact ⟨⟨_, f, _, h1, hit3, hbw2.trans b1, hstep, by omega, by rw [List.length_append]; omega, by omega⟩, by rw [World.iterPos, hit3]; exact hmeas⟩
      have HFIN := Lib.hid hfin
      have HS := Lib.hid hstep
      have HA := Lib.hid hacc
      have HM := Lib.hid hmeas
      clear hfin hstep hacc hmeas hit hbw hbw2 hit2
      obtain ⟨Q, hQ⟩ : ∃ Q : Int, ((Utf8.decode s pos).1 : Int) = Q := ⟨_, rfl⟩
      obtain ⟨W, hW⟩ : ∃ W, (Utf8.decode s pos).2 = W := ⟨_, rfl⟩
      have hq0 : 0 ≤ Q := by omega
      have hq1 : Q ≤ 2147483647 := by omega
      simp only [hQ, hW] at hnx HFIN hI2 hsz3
      have HQ := Lib.hid hQ
      have HWW := Lib.hid hW
      clear hQ hW hd1 hql
      generalize wr.iterAt w2.heap.size s (pos + W) = W0 at hnx HFIN hI2 hsz3
      by_cases h8 : Q = 8
      · subst h8
        go_wp2_with (go_at_call 28; refine (wString w1.heap.size acc _ _ hI2 (by show _ + 2 ≤ _; omega) hsz3).mono ?_)
        rintro e W1 ⟨rfl, h1, b1, k1⟩
        go_wp2
        refine HFIN.out W1 ?_ b1 k1
        have e1 : (Utf8.decode s pos).1 = 8 := by have := HQ.out; omega
        rw [e1, Lib.byteCells_append]
        exact Or.inr h1
      by_cases h12 : Q = 12
      · subst h12
        go_wp2_with (go_at_call 28; refine (wString w1.heap.size acc _ _ hI2 (by show _ + 2 ≤ _; omega) hsz3).mono ?_)
        rintro e W1 ⟨rfl, h1, b1, k1⟩
        go_wp2
        refine HFIN.out W1 ?_ b1 k1
        have e1 : (Utf8.decode s pos).1 = 12 := by have := HQ.out; omega
        rw [e1, Lib.byteCells_append]
        exact Or.inr h1
      by_cases h10 : Q = 10
      · subst h10
        go_wp2_with (go_at_call 28; refine (wString w1.heap.size acc _ _ hI2 (by show _ + 2 ≤ _; omega) hsz3).mono ?_)
        rintro e W1 ⟨rfl, h1, b1, k1⟩
        go_wp2
        refine HFIN.out W1 ?_ b1 k1
        have e1 : (Utf8.decode s pos).1 = 10 := by have := HQ.out; omega
        rw [e1, Lib.byteCells_append]
        exact Or.inr h1
      by_cases h13 : Q = 13
      · subst h13
        go_wp2_with (go_at_call 28; refine (wString w1.heap.size acc _ _ hI2 (by show _ + 2 ≤ _; omega) hsz3).mono ?_)
        rintro e W1 ⟨rfl, h1, b1, k1⟩
        go_wp2
        refine HFIN.out W1 ?_ b1 k1
        have e1 : (Utf8.decode s pos).1 = 13 := by have := HQ.out; omega
        rw [e1, Lib.byteCells_append]
        exact Or.inr h1
      by_cases h9 : Q = 9
      · subst h9
        go_wp2_with (go_at_call 28; refine (wString w1.heap.size acc _ _ hI2 (by show _ + 2 ≤ _; omega) hsz3).mono ?_)
        rintro e W1 ⟨rfl, h1, b1, k1⟩
        go_wp2
        refine HFIN.out W1 ?_ b1 k1
        have e1 : (Utf8.decode s pos).1 = 9 := by have := HQ.out; omega
        rw [e1, Lib.byteCells_append]
        exact Or.inr h1
      by_cases h34 : Q = 34
      · subst h34
        go_wp2_with (go_at_call 27; refine (wByte w1.heap.size acc _ _ hI2 (by omega) hsz3).mono ?_)
        rintro e Wb ⟨rfl, h0, b0, k0⟩
        have hsz4 : w1.heap.size ≤ Wb.heap.size := Nat.le_trans hsz3 b0.size
        have hI4 : Lib.IsBuilderF 46 5 w1.heap.size w1.heap.size (Lib.byteCells (acc ++ [92])) Wb := by rw [Lib.byteCells_append]; exact Or.inr h0
        go_wp2_with (go_at_call 29; refine (wRune w1.heap.size (acc ++ [92]) _ (by omega) (by omega) _ hI4 (by simp only [List.length_append, List.length_cons, List.length_nil]; omega) hsz4).mono ?_)
        rintro e W1 ⟨rfl, h1, b1, k1⟩
        go_wp2
        refine HFIN.out W1 ?_ (b0.trans b1) (k0.trans k1)
        have e1 : (Utf8.decode s pos).1 = 34 := by have := HQ.out; omega
        rw [e1, show qRune 34 = [92] ++ Lib.encodeRune 34 from rfl, ← List.append_assoc]
        exact Or.inr h1
      by_cases h92 : Q = 92
      · subst h92
        go_wp2_with (go_at_call 27; refine (wByte w1.heap.size acc _ _ hI2 (by omega) hsz3).mono ?_)
        rintro e Wb ⟨rfl, h0, b0, k0⟩
        have hsz4 : w1.heap.size ≤ Wb.heap.size := Nat.le_trans hsz3 b0.size
        have hI4 : Lib.IsBuilderF 46 5 w1.heap.size w1.heap.size (Lib.byteCells (acc ++ [92])) Wb := by rw [Lib.byteCells_append]; exact Or.inr h0
        go_wp2_with (go_at_call 29; refine (wRune w1.heap.size (acc ++ [92]) _ (by omega) (by omega) _ hI4 (by simp only [List.length_append, List.length_cons, List.length_nil]; omega) hsz4).mono ?_)
        rintro e W1 ⟨rfl, h1, b1, k1⟩
        go_wp2
        refine HFIN.out W1 ?_ (b0.trans b1) (k0.trans k1)
        have e1 : (Utf8.decode s pos).1 = 92 := by have := HQ.out; omega
        rw [e1, show qRune 92 = [92] ++ Lib.encodeRune 92 from rfl, ← List.append_assoc]
        exact Or.inr h1
      by_cases hlow : Q < 32
      · skip
        have hI5 : Lib.IsBuilderF 46 5 w1.heap.size w1.heap.size (Lib.byteCells acc) W0.drew := by
          rcases hI2 with h | h
          · exact Or.inl h.drew
          · exact Or.inr h.drew
        have hl6 : acc.length + 6 ≤ 140737488355328 := by omega
        have b8 : (Q == 8) = false := beq_eq_false_iff_ne.2 h8
        have b12 : (Q == 12) = false := beq_eq_false_iff_ne.2 h12
        have b10 : (Q == 10) = false := beq_eq_false_iff_ne.2 h10
        have b13 : (Q == 13) = false := beq_eq_false_iff_ne.2 h13
        have b9 : (Q == 9) = false := beq_eq_false_iff_ne.2 h9
        have b34 : (Q == 34) = false := beq_eq_false_iff_ne.2 h34
        have b92 : (Q == 92) = false := beq_eq_false_iff_ne.2 h92
        have bl : decide (Q < 32) = true := decide_eq_true hlow
        obtain ⟨M, hm, hM⟩ : ∃ M : Int, bits BinOp.and IntKind.i32 Q 15 = M ∧ M = Q % 16 := ⟨_, rfl, low_and Q hq0 hlow⟩
        have g1 : 0 ≤ IntKind.i32.wrap (Q / 16 + 1) := by rw [IntKind.wrap_i32]; omega
        have g2 : IntKind.i32.wrap (Q / 16 + 1) ≤ 16 := by rw [IntKind.wrap_i32]; omega
        have g3 : 0 ≤ Q / 16 := by omega
        have g4 : Q / 16 ≤ IntKind.i32.wrap (Q / 16 + 1) := by rw [IntKind.wrap_i32]; omega
        have g5 : 0 ≤ IntKind.i32.wrap (M + 1) := by rw [IntKind.wrap_i32]; omega
        have g6 : IntKind.i32.wrap (M + 1) ≤ 16 := by rw [IntKind.wrap_i32]; omega
        have g7 : 0 ≤ M := by omega
        have g8 : M ≤ IntKind.i32.wrap (M + 1) := by rw [IntKind.wrap_i32]; omega
        have HLOW := Lib.hid hlow
        have HMQ := Lib.hid hM
        clear hlow hM
        go_wp2
        go_region_with (go_at_call 28; refine (wString w1.heap.size acc _ _ hI5 (by simp only [ByteArray.size_append, ByteArray.size_extract]; show _ + (4 + _ + _) ≤ _; show _ + (4 + (min _ 16 - _) + (min _ 16 - _)) ≤ _; omega) hsz3).mono ?_; rintro e W1 ⟨rfl, h1, b1, k1⟩)
        go_wp2
        refine HFIN.out W1 ?_ (((Below.refl _ W0).drew).trans b1) (((Lib.OthersKept.refl _ _ W0).drew).trans k1)
        have e1 := HQ.out
        have e2 : (Utf8.decode s pos).1 = Q.toNat := by omega
        rw [e2, Lib.byteCells_append, ← low_str Q M hq0 HLOW.out HMQ.out h8 h12 h10 h13 h9]
        exact Or.inr h1
      · have b8 : (Q == 8) = false := beq_eq_false_iff_ne.2 h8
        have b12 : (Q == 12) = false := beq_eq_false_iff_ne.2 h12
        have b10 : (Q == 10) = false := beq_eq_false_iff_ne.2 h10
        have b13 : (Q == 13) = false := beq_eq_false_iff_ne.2 h13
        have b9 : (Q == 9) = false := beq_eq_false_iff_ne.2 h9
        have b34 : (Q == 34) = false := beq_eq_false_iff_ne.2 h34
        have b92 : (Q == 92) = false := beq_eq_false_iff_ne.2 h92
        have bl : decide (Q < 32) = false := decide_eq_false hlow
        go_wp2_with (go_at_call 29; refine (wRune w1.heap.size acc _ (by omega) (by omega) _ hI2 (by omega) hsz3).mono ?_)
        rintro e W1 rfl ⟨h1, b1, k1⟩
        go_wp2
        refine HFIN.out W1 ?_ b1 k1
        have e1 := HQ.out
        have e2 : qRune (Utf8.decode s pos).1 = Lib.encodeRune Q := by
          unfold qRune
          rw [if_neg (by omega), if_neg (by omega), if_neg (by omega), if_neg (by omega), if_neg (by omega), if_neg (by omega), if_neg (by omega), if_neg (by omega), e1]
        rw [e2]
        exact Or.inr h1
    · have hnx : ∀ ty, (Instr.next (.pointer (some ⟨w2.heap.size, 0, none⟩)) true ty).run Tryd.prog wr = _ := fun ty => Lib.run_next_end_at wr w2.heap.size s pos ty hit hp
      rw [qFrom_end s fuel pos hp, List.append_nil] at hacc
      have HA := Lib.hid hacc
      clear hacc
      have hsz3 : w1.heap.size ≤ wr.heap.size := by omega
      go_wp2_with (go_at_call 27; refine (wByte w1.heap.size acc 34 _ hI (by omega) hsz3).mono ?_)
      rintro e W1 ⟨rfl, h1, b1, k1⟩
      have hI3 : Lib.IsBuilderF 46 5 w1.heap.size w1.heap.size (Lib.byteCells (acc ++ [34])) W1 := by rw [Lib.byteCells_append]; exact Or.inr h1
      go_wp2_with (go_at_call 30; refine (Tryd.Builder_String_any_k w1.heap.size w1.heap.size (acc ++ [34]) _ hI3 (by have := b1.size; omega)).mono ?_)
      rintro e W2 ⟨rfl, h4, b4, k4⟩
      go_wp2
      go_ret2
      have hA := HA.out
      subst hA
      exact ⟨rfl, hb1.trans ((hbw.trans (b1.trans b4)).mono hb1.size)⟩
end Go.Proofs.YtfmenojhojmedaaDoorG
