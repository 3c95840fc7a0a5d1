import Derived.Test.YtlmhgnkkdjpkcaaDoorPAx0m
import Derived.Test.YtlmhgnkkdjpkcaaDoorM0
import Derived.Test.YtlmhgnkkdjpkcaaDoorShelf
import Derived.Test.YtlmhgnkkdjpkcaaDoorShelf2
import Derived.Lib.ItoaLen
import Derived.Lib.SmallJoins
import Derived.Lib.AppendIntMem
import Derived.Deep.RegionHeld3
set_option linter.unusedVariables false
set_option linter.unusedSimpArgs false
namespace Go.Proofs.YtlmhgnkkdjpkcaaDoorG
open Go.RowKit Go.Proofs.YtlmhgnkkdjpkcaaDoorW.PrintWords Go.Proofs.YtlmhgnkkdjpkcaaDoorM Go.Proofs.YtlmhgnkkdjpkcaaDoorW.PrintMore
def Tab (w : World) : Prop := Lib.TabIs Tryd.prog w "internal/strconv.uint64pow10" .u64 Lib.pow10Tab
def itoaS (n : Int) : ByteArray := ⟨(Lib.itoa n).toArray⟩
theorem itoaS_size (n : Int) (h0 : -9223372036854775808 ≤ n) (h1 : n ≤ 9223372036854775807) : (itoaS n).size ≤ 21 := Lib.itoa_length_le n h0 h1
theorem grow_below {w w' : World} (h : ∃ k os, w' = Go.Sort.grow (w.drewN k) os) : Below w.heap.size w w' := by
 obtain ⟨k, os, rfl⟩ := h
 exact Lib.below_grow _ w (Nat.le_refl _) k os
theorem format_any (n : Int) (w : World) (h0 : -9223372036854775808 ≤ n) (h1 : n ≤ 9223372036854775807) (ht : Tab w) :
  Calls Tryd.prog 32 #[.int .i64 n, .int .i64 10] w fun e w' => e = .returned (.string (itoaS n)) ∧ Below w.heap.size w w' := by
 refine (Tryd.strconv_FormatInt_10 n h0 h1 w ht).mono ?_
 rintro e w' ⟨rfl, h⟩
 exact ⟨rfl, grow_below h⟩
theorem itoa_any (n : Int) (w : World) (h0 : -9223372036854775808 ≤ n) (h1 : n ≤ 9223372036854775807) (ht : Tab w) :
  Calls Tryd.prog 30 #[.int .i64 n] w fun e w' => e = .returned (.string (itoaS n)) ∧ Below w.heap.size w w' := by
 refine (Tryd.strconv_Itoa n h0 h1 w ht).mono ?_
 rintro e w' ⟨rfl, h⟩
 exact ⟨rfl, grow_below h⟩
theorem Tab.below {w w' : World} {B : Nat} (h : Tab w) (hb : Below B w w') (hB : w.heap.size ≤ B) : Tab w' := Go.Joins.tab_stays (g := 0) (by kernel_rfl) h hb hB
theorem Tab.at {w w' : World} (h : Tab w) (hb : Below w.heap.size w w') : Tab w' := h.below hb (Nat.le_refl _)
def wordS (ks : List ByteArray) (k : Int) (o : ByteArray) : ByteArray := if 1 ≤ k ∧ k ≤ ks.length then ks.getD (k - 1).toNat o else o
set_option maxHeartbeats 1000000 in
theorem word_in (b n c : Nat) (k : Int) (x o : ByteArray) (w : World) (h1 : 1 ≤ k) (h2 : k ≤ n) (hn : n ≤ 1000) (hc : w.cell? ⟨b, k.toNat - 1, none⟩ = some (.string x)) :
  Calls Tryd.prog 29 #[.slice (some ⟨b, 0, none⟩) n c, .int .i64 k, .string o] w fun e w' => e = .returned (.string x) ∧ w = w' := by
 have a1 : ¬ k < 1 := by omega
 have a2 : ¬ k > n := by omega
 have a3 : ¬ (n : Int) < k := by omega
 have e0 : 0 ≤ k - 1 := by omega
 have e1 : k - 1 < n := by omega
 have e2 : (k - 1).toNat < n := by omega
 go_enter Tryd.func29, Tryd.ntmps29
 go_wp2_with fail
 go_ret
 exact ⟨rfl, rfl⟩
set_option maxHeartbeats 1000000 in
theorem word_low (a : Option Addr) (n c : Nat) (k : Int) (o : ByteArray) (w : World) (h1 : k < 1) :
  Calls Tryd.prog 29 #[.slice a n c, .int .i64 k, .string o] w fun e w' => e = .returned (.string o) ∧ w = w' := by
 go_enter Tryd.func29, Tryd.ntmps29
 go_wp2_with fail
 go_ret
 exact ⟨rfl, rfl⟩
set_option maxHeartbeats 1000000 in
theorem word_high (a : Option Addr) (n c : Nat) (k : Int) (o : ByteArray) (w : World) (h1 : (n : Int) < k) :
  Calls Tryd.prog 29 #[.slice a n c, .int .i64 k, .string o] w fun e w' => e = .returned (.string o) ∧ w = w' := by
 have a1 : ¬ k < 1 := by omega
 go_enter Tryd.func29, Tryd.ntmps29
 go_wp2_with fail
 go_ret
 exact ⟨rfl, rfl⟩
theorem word_any {w : World} {b : Nat} {ks : List ByteArray} {t : TypeId} (hB : Blk w b (ks.map Value.string) t) (hn : ks.length ≤ 1000) (k : Int) (o : ByteArray) (n : Nat) (hl : ks.length = n) :
  Calls Tryd.prog 29 #[.slice (some ⟨b, 0, none⟩) n n, .int .i64 k, .string o] w fun e w' => e = .returned (.string (wordS ks k o)) ∧ w = w' := by
 subst hl
 unfold wordS
 by_cases h1 : k < 1
 ·rw [if_neg (by omega)]; exact word_low _ _ _ k o w h1
 by_cases h2 : (ks.length : Int) < k
 ·rw [if_neg (by omega)]; exact word_high _ _ _ k o w h2
 ·rw [if_pos ⟨by omega, by omega⟩]
  refine word_in b _ _ k _ o w (by omega) (by omega) hn ?_
  have hi : (k - 1).toNat < ks.length := by omega
  have hk : k.toNat - 1 = (k - 1).toNat := by omega
  rw [hk, hB.cell, List.getElem?_map, List.getElem?_eq_getElem hi, List.getD_eq_getElem?_getD, List.getElem?_eq_getElem hi]
  rfl
end Go.Proofs.YtlmhgnkkdjpkcaaDoorG
set_option linter.unusedVariables false
set_option linter.unusedSimpArgs false
namespace Go.Proofs.YtlmhgnkkdjpkcaaDoorG
open Go.RowKit Go.Proofs.YtlmhgnkkdjpkcaaDoorW.PrintWords Go.Proofs.YtlmhgnkkdjpkcaaDoorM Go.Proofs.YtlmhgnkkdjpkcaaDoorW.PrintMore
def kindsL : List ByteArray := [⟨#[114, 101, 102, 117, 115, 101, 100]⟩, ⟨#[99, 111, 109, 109, 97, 110, 100]⟩, ⟨#[113, 117, 101, 117, 101, 100]⟩, ⟨#[115, 101, 110, 116]⟩, ⟨#[100, 111, 110, 101]⟩, ⟨#[97, 103, 97, 105, 110]⟩, ⟨#[102, 97, 105, 108, 101, 100]⟩, ⟨#[103, 111, 110, 101]⟩, ⟨#[102, 117, 108, 108]⟩]
def actsL : List ByteArray := [⟨#[98, 97, 110]⟩, ⟨#[117, 110, 98, 97, 110]⟩, ⟨#[97, 99, 108]⟩, ⟨#[114, 101, 100, 97, 99, 116]⟩]
def noteC (k t a : Int) (a1 a2 a3 a4 : ByteArray) (c : Int) (x : ByteArray) : List Value := [.int .i64 k, .int .i64 t, .int .i64 a, .string a1, .string a2, .string a3, .string a4, .int .i64 c, .string x]
structure Laid (w : World) (L : List Value) (w' : World) : Prop where
 note : Blk w' w.heap.size L 30
 kinds : Blk w' (w.heap.size + 1) (kindsL.map Value.string) 46
 acts : Blk w' (w.heap.size + 1 + 1) (actsL.map Value.string) 47
 bel : Below w.heap.size w w'
theorem Laid.drew {w w' : World} {L : List Value} (h : Laid w L w') : Laid w L w'.drew := ⟨h.note, h.kinds, h.acts, h.bel.drew⟩
theorem Laid.below {w w1 w2 : World} {L : List Value} (h : Laid w L w1) (hb : Below w1.heap.size w1 w2) : Laid w L w2 :=
 ⟨h.note.below hb h.note.lt, h.kinds.below hb h.kinds.lt, h.acts.below hb h.acts.lt, h.bel.trans (hb.mono h.bel.size)⟩
theorem Laid.alloc {w w1 : World} {L : List Value} (h : Laid w L w1) (o : Obj) : Laid w L (w1.alloc o) := ⟨h.note.alloc o, h.kinds.alloc o, h.acts.alloc o, h.bel.alloc h.bel.size o⟩
theorem laid_new (w : World) (L : List Value) : Laid w L (((w.alloc (.cells L.toArray 30)).alloc (.cells (kindsL.map Value.string).toArray 46)).alloc (.cells (actsL.map Value.string).toArray 47)) := by
 have s1 : (w.alloc (.cells L.toArray 30)).heap.size = w.heap.size + 1 := Array.size_push ..
 have s2 : ((w.alloc (.cells L.toArray 30)).alloc (.cells (kindsL.map Value.string).toArray 46)).heap.size = w.heap.size + 1 + 1 := by rw [← s1]; exact Array.size_push ..
 refine ⟨((Blk.new w L 30).alloc _).alloc _, ?_, ?_, ?_⟩
 ·have := (Blk.new (w.alloc (.cells L.toArray 30)) (kindsL.map Value.string) 46).alloc (.cells (actsL.map Value.string).toArray 47)
  rw [s1] at this; exact this
 ·have := Blk.new ((w.alloc (.cells L.toArray 30)).alloc (.cells (kindsL.map Value.string).toArray 46)) (actsL.map Value.string) 47
  rw [s2] at this; exact this
 ·exact (((Below.refl w.heap.size w).alloc (Nat.le_refl _) _).alloc (by rw [s1]; omega) _).alloc (by rw [s2]; omega) _
theorem S_kinds {w w1 : World} {L : List Value} {P : Prop} (h : P ∧ Hid (Laid w L w1)) : Blk w1 (w.heap.size + 1) (kindsL.map Value.string) 46 := h.2.out.kinds
theorem word_kinds {w w1 : World} {L : List Value} {P : Prop} (h : P ∧ Hid (Laid w L w1)) (k : Int) :
  Calls Tryd.prog 29 #[.slice (some ⟨w.heap.size + 1, 0, none⟩) 9 9, .int .i64 k, .string ⟨#[63]⟩] w1 fun e w' => e = .returned (.string (wordS kindsL k ⟨#[63]⟩)) ∧ w1 = w' :=
 word_any (S_kinds h) (by decide) k _ 9 rfl
theorem nineL {w : World} {I : Nat} {T : TypeId} {k t a : Int} {a1 a2 a3 a4 : ByteArray} {c : Int} {x : ByteArray} (h : Blk w I (noteC k t a a1 a2 a3 a4 c x) T) :
  w.cell? ⟨I, 0, none⟩ = some (.int .i64 k) ∧ w.cell? ⟨I, 1, none⟩ = some (.int .i64 t) ∧ w.cell? ⟨I, 2, none⟩ = some (.int .i64 a) ∧ w.cell? ⟨I, 3, none⟩ = some (.string a1) ∧ w.cell? ⟨I, 4, none⟩ = some (.string a2) ∧ w.cell? ⟨I, 5, none⟩ = some (.string a3) ∧ w.cell? ⟨I, 6, none⟩ = some (.string a4) ∧ w.cell? ⟨I, 7, none⟩ = some (.int .i64 c) ∧ w.cell? ⟨I, 8, none⟩ = some (.string x) :=
 ⟨h.cell 0, h.cell 1, h.cell 2, h.cell 3, h.cell 4, h.cell 5, h.cell 6, h.cell 7, h.cell 8⟩
theorem word_kindsW {w w1 : World} {L : List Value} {P : Prop} {W : ByteArray} (h : P ∧ Hid (Laid w L w1)) (k : Int) (hW : Hid (wordS kindsL k ⟨#[63]⟩ = W)) :
  Calls Tryd.prog 29 #[.slice (some ⟨w.heap.size + 1, 0, none⟩) 9 9, .int .i64 k, .string ⟨#[63]⟩] w1 fun e w' => e = .returned (.string W) ∧ w1 = w' := by
 have := word_kinds h k
 rw [hW.out] at this; exact this
structure Join7 (w : World) (L : List Value) (J : Nat) (LA : List Value) (w' : World) : Prop where
 laid : Laid w L w'
 act : Blk w' J LA 28
theorem Join7.below {w w1 w2 : World} {J : Nat} {L LA : List Value} (h : Join7 w L J LA w1) (hb : Below w1.heap.size w1 w2) : Join7 w L J LA w2 := ⟨h.laid.below hb, h.act.below hb h.act.lt⟩
theorem Join7.drew {w w1 : World} {J : Nat} {L LA : List Value} (h : Join7 w L J LA w1) : Join7 w L J LA w1.drew := ⟨h.laid.drew, h.act.drew⟩
theorem Join7.alloc {w w1 : World} {J : Nat} {L LA : List Value} (h : Join7 w L J LA w1) (o : Obj) : Join7 w L J LA (w1.alloc o) := ⟨h.laid.alloc o, h.act.alloc o⟩
theorem word_actsW {w w1 : World} {L : List Value} {W : ByteArray} (h : Laid w L w1) (k : Int) (hW : Hid (wordS actsL k ⟨#[63]⟩ = W)) :
  Calls Tryd.prog 29 #[.slice (some ⟨w.heap.size + 1 + 1, 0, none⟩) 4 4, .int .i64 k, .string ⟨#[63]⟩] w1 fun e w' => e = .returned (.string W) ∧ w1 = w' := by
 have := word_any h.acts (by decide) k ⟨#[63]⟩ 4 rfl
 rw [hW.out] at this; exact this
set_option maxHeartbeats 4000000 in
theorem line_1 (k t a : Int) (a1 a2 a3 a4 : ByteArray) (c : Int) (x : ByteArray) (W A : ByteArray) (w : World) (hw : Tab w) (hk : k = 1) (hW : wordS kindsL k ⟨#[63]⟩ = W) (hA : wordS actsL a ⟨#[63]⟩ = A) (sW : W.size ≤ 7) (sA : A.size ≤ 6)
  (ht0 : -9223372036854775808 ≤ t) (ht1 : t ≤ 9223372036854775807) (hc0 : -9223372036854775808 ≤ c) (hc1 : c ≤ 9223372036854775807) (hs : a1.size + a2.size + a3.size + a4.size + x.size ≤ 1099511627776) :
  Calls Tryd.prog 10 #[.agg #[.int .i64 k, .int .i64 t, .int .i64 a, .string a1, .string a2, .string a3, .string a4, .int .i64 c, .string x]] w fun e w' => e = .returned (.string (W ++ ⟨#[32]⟩ ++ itoaS c)) ∧ Below w.heap.size w w' := by
 have sc := itoaS_size c hc0 hc1
 have st := itoaS_size t ht0 ht1
 have HT0 := Lib.hid ht0
 have HT1 := Lib.hid ht1
 have HC0 := Lib.hid hc0
 have HC1 := Lib.hid hc1
 have HS := Lib.hid hs
 have HW := Lib.hid hw
 have HWd := Lib.hid hW
 have HAd := Lib.hid hA
 have HK := Lib.hid hk
 clear hk
 have h0 := laid_new w (noteC k t a a1 a2 a3 a4 c x)
 unfold noteC kindsL actsL at h0
 simp only [List.map_cons, List.map_nil] at h0
 have H0 := Lib.hid h0
 clear hw h0 hW hA ht0 ht1 hc0 hc1 hs
 go_enter Tryd.func10, Tryd.ntmps10
 go_wp2_with fail
 replace H0 := H0.out
 generalize World.alloc _ _ = w1 at H0 ⊢
 have y0 := H0.note.cell 0
 dsimp only [noteC, List.getElem?_cons_zero] at y0
 replace H0 := Lib.hid H0
 go_region_held3 (fun w' => w'.cell? ⟨w.heap.size, 0, none⟩ = some (.int .i64 k) ∧ Hid (Laid w (noteC k t a a1 a2 a3 a4 c x) w')) (first | assumption | exact ⟨y0, Lib.hid H0.out.drew⟩)
  (first | (go_at_call 29; refine (word_kindsW (by assumption) k HWd).mono ?_; rintro e w2 ⟨rfl, rfl⟩))
 rename_i hH
 generalize w1.drew = w2 at hH ⊢
 obtain ⟨-, H1⟩ := hH
 clear y0 H0
 obtain ⟨y0, y1, y2, y3, y4, y5, y6, y7, y8⟩ := nineL H1.out.note
 have HA := Lib.hid (Blk.new w2 [.int .i64 a, .string a1, .string a2, .string a3, .string a4] 28)
 have H2 := Lib.hid (H1.out.alloc (.cells #[.int .i64 a, .string a1, .string a2, .string a3, .string a4] 28))
 obtain ⟨z0, z1, z2, z3, z4, z5, z6, z7, z8⟩ := nineL H2.out.note
 replace HK := HK.out
 go_wp2_with fail
 refine (itoa_any c _ HC0.out HC1.out (HW.out.below H2.out.bel (Nat.le_refl _))).mono ?_
 rintro e w3 ⟨rfl, hb⟩
 have HB := Lib.hid (H2.out.bel.trans (hb.mono H2.out.bel.size))
 clear hb y0 y1 y2 y3 y4 y5 y6 y7 y8 z0 z1 z2 z3 z4 z5 z6 z7 z8 H1 H2 HA
 have q1 : (9223372036854775807 < W.size + 1 + (itoaS c).size) = False := eq_false (by omega)
 have q2 : (9223372036854775807 < W.size + (1 + (itoaS c).size)) = False := eq_false (by omega)
 go_wp2_with fail
 go_ret
 exact ⟨rfl, HB.out⟩
theorem S2_step {w w1 w2 : World} {k t a : Int} {a1 a2 a3 a4 : ByteArray} {c : Int} {x : ByteArray} (h : w1.cell? ⟨w.heap.size, 7, none⟩ = some (.int .i64 c) ∧ w1.cell? ⟨w.heap.size, 8, none⟩ = some (.string x) ∧ Hid (Laid w (noteC k t a a1 a2 a3 a4 c x) w1)) (hb : Below w1.heap.size w1 w2) :
  w2.cell? ⟨w.heap.size, 7, none⟩ = some (.int .i64 c) ∧ w2.cell? ⟨w.heap.size, 8, none⟩ = some (.string x) ∧ Hid (Laid w (noteC k t a a1 a2 a3 a4 c x) w2) := by
 have := h.2.2.out.below hb
 obtain ⟨z0, z1, z2, z3, z4, z5, z6, z7, z8⟩ := nineL this.note
 exact ⟨z7, z8, Lib.hid this⟩
theorem S2_b {w w1 : World} {L : List Value} {P Q : Prop} (h : P ∧ Q ∧ Hid (Laid w L w1)) : Below w.heap.size w w1 := h.2.2.out.bel
set_option maxHeartbeats 4000000 in
theorem line_2 (k t a : Int) (a1 a2 a3 a4 : ByteArray) (c : Int) (x : ByteArray) (W A : ByteArray) (w : World) (hw : Tab w) (hk : k = 2) (hW : wordS kindsL k ⟨#[63]⟩ = W) (hA : wordS actsL a ⟨#[63]⟩ = A) (sW : W.size ≤ 7) (sA : A.size ≤ 6)
  (ht0 : -9223372036854775808 ≤ t) (ht1 : t ≤ 9223372036854775807) (hc0 : -9223372036854775808 ≤ c) (hc1 : c ≤ 9223372036854775807) (hs : a1.size + a2.size + a3.size + a4.size + x.size ≤ 1099511627776) :
  Calls Tryd.prog 10 #[.agg #[.int .i64 k, .int .i64 t, .int .i64 a, .string a1, .string a2, .string a3, .string a4, .int .i64 c, .string x]] w fun e w' => e = .returned (.string (W ++ ⟨#[32]⟩ ++ itoaS c ++ ⟨#[32]⟩ ++ x)) ∧ Below w.heap.size w w' := by
 have sc := itoaS_size c hc0 hc1
 have st := itoaS_size t ht0 ht1
 have HT0 := Lib.hid ht0
 have HT1 := Lib.hid ht1
 have HC0 := Lib.hid hc0
 have HC1 := Lib.hid hc1
 have HS := Lib.hid hs
 have HW := Lib.hid hw
 have HWd := Lib.hid hW
 have HAd := Lib.hid hA
 have HK := Lib.hid hk
 clear hk
 have h0 := laid_new w (noteC k t a a1 a2 a3 a4 c x)
 unfold noteC kindsL actsL at h0
 simp only [List.map_cons, List.map_nil] at h0
 have H0 := Lib.hid h0
 clear hw h0 hW hA ht0 ht1 hc0 hc1 hs
 go_enter Tryd.func10, Tryd.ntmps10
 go_wp2_with fail
 replace H0 := H0.out
 generalize World.alloc _ _ = w1 at H0 ⊢
 have y0 := H0.note.cell 0
 dsimp only [noteC, List.getElem?_cons_zero] at y0
 replace H0 := Lib.hid H0
 go_region_held3 (fun w' => w'.cell? ⟨w.heap.size, 0, none⟩ = some (.int .i64 k) ∧ Hid (Laid w (noteC k t a a1 a2 a3 a4 c x) w')) (first | assumption | exact ⟨y0, Lib.hid H0.out.drew⟩)
  (first | (go_at_call 29; refine (word_kindsW (by assumption) k HWd).mono ?_; rintro e w2 ⟨rfl, rfl⟩))
 rename_i hH
 generalize w1.drew = w2 at hH ⊢
 obtain ⟨-, H1⟩ := hH
 clear y0 H0
 obtain ⟨y0, y1, y2, y3, y4, y5, y6, y7, y8⟩ := nineL H1.out.note
 have HA := Lib.hid (Blk.new w2 [.int .i64 a, .string a1, .string a2, .string a3, .string a4] 28)
 have H2 := Lib.hid (H1.out.alloc (.cells #[.int .i64 a, .string a1, .string a2, .string a3, .string a4] 28))
 obtain ⟨z0, z1, z2, z3, z4, z5, z6, z7, z8⟩ := nineL H2.out.note
 replace HK := HK.out
 go_wp2_with fail
 replace HS := HS.out
 have q1 : (9223372036854775807 < W.size + 1 + (itoaS c).size) = False := eq_false (by omega)
 have q2 : (9223372036854775807 < W.size + (1 + (itoaS c).size)) = False := eq_false (by omega)
 have q3 : (9223372036854775807 < W.size + 1 + (itoaS c).size + 1) = False := eq_false (by omega)
 have q4 : (9223372036854775806 < W.size + 1 + (itoaS c).size) = False := eq_false (by omega)
 have q5 : (9223372036854775807 < W.size + 1 + (itoaS c).size + 1 + x.size) = False := eq_false (by omega)
 have q6 : (9223372036854775807 < W.size + (1 + (itoaS c).size) + 1) = False := eq_false (by omega)
 have q7 : (9223372036854775807 < W.size + (1 + ((itoaS c).size + 1))) = False := eq_false (by omega)
 have q8 : (9223372036854775807 < W.size + 1) = False := eq_false (by omega)
 have q9 : (9223372036854775806 < W.size) = False := eq_false (by omega)
 replace HS := Lib.hid HS
 generalize World.alloc _ _ = w3 at H2 z7 z8 ⊢
 clear y0 y1 y2 y3 y4 y5 y6 y7 y8 z0 z1 z2 z3 z4 z5 z6 H1 HA
 go_region_held3 (fun w' => w'.cell? ⟨w.heap.size, 7, none⟩ = some (.int .i64 c) ∧ w'.cell? ⟨w.heap.size, 8, none⟩ = some (.string x) ∧ Hid (Laid w (noteC k t a a1 a2 a3 a4 c x) w')) (first | assumption | exact ⟨z7, z8, Lib.hid H2.out.drew⟩ | exact S2_step (by assumption) (by assumption))
  (first | (go_at_call 30; refine (itoa_any c _ HC0.out HC1.out (HW.out.below (S2_b (by assumption)) (Nat.le_refl _))).mono ?_; rintro e w4 ⟨rfl, hb4⟩))
 all_goals go_wp2
 all_goals (go_ret; exact ⟨rfl, S2_b (by assumption)⟩)
set_option maxHeartbeats 4000000 in
theorem line_9 (k t a : Int) (a1 a2 a3 a4 : ByteArray) (c : Int) (x : ByteArray) (W A : ByteArray) (w : World) (hw : Tab w) (n1 : (k == 1) = false) (n2 : (k == 2) = false) (n3 : (k == 3) = false) (n4 : (k == 4) = false) (n5 : (k == 5) = false) (n6 : (k == 6) = false) (n7 : (k == 7) = false) (n8 : (k == 8) = false) (hW : wordS kindsL k ⟨#[63]⟩ = W) (hA : wordS actsL a ⟨#[63]⟩ = A) (sW : W.size ≤ 7) (sA : A.size ≤ 6)
  (ht0 : -9223372036854775808 ≤ t) (ht1 : t ≤ 9223372036854775807) (hc0 : -9223372036854775808 ≤ c) (hc1 : c ≤ 9223372036854775807) (hs : a1.size + a2.size + a3.size + a4.size + x.size ≤ 1099511627776) :
  Calls Tryd.prog 10 #[.agg #[.int .i64 k, .int .i64 t, .int .i64 a, .string a1, .string a2, .string a3, .string a4, .int .i64 c, .string x]] w fun e w' => e = .returned (.string W) ∧ Below w.heap.size w w' := by
 have sc := itoaS_size c hc0 hc1
 have st := itoaS_size t ht0 ht1
 have HT0 := Lib.hid ht0
 have HT1 := Lib.hid ht1
 have HC0 := Lib.hid hc0
 have HC1 := Lib.hid hc1
 have HS := Lib.hid hs
 have HW := Lib.hid hw
 have HWd := Lib.hid hW
 have HAd := Lib.hid hA
 have h0 := laid_new w (noteC k t a a1 a2 a3 a4 c x)
 unfold noteC kindsL actsL at h0
 simp only [List.map_cons, List.map_nil] at h0
 have H0 := Lib.hid h0
 clear hw h0 hW hA ht0 ht1 hc0 hc1 hs
 go_enter Tryd.func10, Tryd.ntmps10
 go_wp2_with fail
 replace H0 := H0.out
 generalize World.alloc _ _ = w1 at H0 ⊢
 have y0 := H0.note.cell 0
 dsimp only [noteC, List.getElem?_cons_zero] at y0
 replace H0 := Lib.hid H0
 go_region_held3 (fun w' => w'.cell? ⟨w.heap.size, 0, none⟩ = some (.int .i64 k) ∧ Hid (Laid w (noteC k t a a1 a2 a3 a4 c x) w')) (first | assumption | exact ⟨y0, Lib.hid H0.out.drew⟩)
  (first | (go_at_call 29; refine (word_kindsW (by assumption) k HWd).mono ?_; rintro e w2 ⟨rfl, rfl⟩))
 rename_i hH
 generalize w1.drew = w2 at hH ⊢
 obtain ⟨-, H1⟩ := hH
 clear y0 H0
 obtain ⟨y0, y1, y2, y3, y4, y5, y6, y7, y8⟩ := nineL H1.out.note
 have HA := Lib.hid (Blk.new w2 [.int .i64 a, .string a1, .string a2, .string a3, .string a4] 28)
 have H2 := Lib.hid (H1.out.alloc (.cells #[.int .i64 a, .string a1, .string a2, .string a3, .string a4] 28))
 obtain ⟨z0, z1, z2, z3, z4, z5, z6, z7, z8⟩ := nineL H2.out.note
 go_wp2_with fail
 go_ret
 exact ⟨rfl, H2.out.bel⟩
theorem join7 (s1 s2 s3 s4 s5 s6 s7 : ByteArray) : (⟨(Lib.join ([s1, s2, s3, s4, s5, s6, s7].map (·.data.toList)) (⟨#[32]⟩ : ByteArray).data.toList).toArray⟩ : ByteArray) = s1 ++ ⟨#[32]⟩ ++ s2 ++ ⟨#[32]⟩ ++ s3 ++ ⟨#[32]⟩ ++ s4 ++ ⟨#[32]⟩ ++ s5 ++ ⟨#[32]⟩ ++ s6 ++ ⟨#[32]⟩ ++ s7 := by
 apply ByteArray.ext
 apply Array.ext'
 simp [Lib.join, List.intercalate, ByteArray.data_append]
theorem join_new {w : World} (T : TypeId) (s1 s2 s3 s4 s5 s6 s7 : ByteArray) (h : s1.size + s2.size + s3.size + s4.size + s5.size + s6.size + s7.size ≤ 10000000000000) :
  Calls Tryd.prog 31 #[.slice (some ⟨w.heap.size, 0, none⟩) 7 7, .string ⟨#[32]⟩] (w.alloc (.cells #[.string s1, .string s2, .string s3, .string s4, .string s5, .string s6, .string s7] T)) fun e w' => e = .returned (.string (s1 ++ ⟨#[32]⟩ ++ s2 ++ ⟨#[32]⟩ ++ s3 ++ ⟨#[32]⟩ ++ s4 ++ ⟨#[32]⟩ ++ s5 ++ ⟨#[32]⟩ ++ s6 ++ ⟨#[32]⟩ ++ s7)) ∧ Below (w.alloc (.cells #[.string s1, .string s2, .string s3, .string s4, .string s5, .string s6, .string s7] T)).heap.size (w.alloc (.cells #[.string s1, .string s2, .string s3, .string s4, .string s5, .string s6, .string s7] T)) w' := by
 have hB := Blk.new w [.string s1, .string s2, .string s3, .string s4, .string s5, .string s6, .string s7] T
 have hl : (Lib.join ([s1, s2, s3, s4, s5, s6, s7].map (·.data.toList)) (⟨#[32]⟩ : ByteArray).data.toList).length = (s1 ++ ⟨#[32]⟩ ++ s2 ++ ⟨#[32]⟩ ++ s3 ++ ⟨#[32]⟩ ++ s4 ++ ⟨#[32]⟩ ++ s5 ++ ⟨#[32]⟩ ++ s6 ++ ⟨#[32]⟩ ++ s7).size := congrArg ByteArray.size (join7 s1 s2 s3 s4 s5 s6 s7)
 have e1 : (⟨#[32]⟩ : ByteArray).size = 1 := rfl
 simp only [ByteArray.size_append, e1] at hl
 have := Tryd.strings_Join w.heap.size 0 7 [s1, s2, s3, s4, s5, s6, s7] ⟨#[32]⟩ _ (fun j x hx => by rw [hB.cell]; match j, hx with | 0, hx | 1, hx | 2, hx | 3, hx | 4, hx | 5, hx | 6, hx => (first | (simp at hx; subst hx; rfl))) hB.lt (by simp) (by simp) (by
  rw [hl]
  omega)
 rw [join7] at this
 exact this
theorem S3_step {w w1 w2 : World} {J : Nat} {k t a : Int} {a1 a2 a3 a4 : ByteArray} {c : Int} {x : ByteArray} (h : w1.cell? ⟨w.heap.size, 1, none⟩ = some (.int .i64 t) ∧ w1.cell? ⟨J, 0, none⟩ = some (.int .i64 a) ∧ w1.cell? ⟨J, 1, none⟩ = some (.string a1) ∧ w1.cell? ⟨J, 2, none⟩ = some (.string a2) ∧ w1.cell? ⟨J, 3, none⟩ = some (.string a3) ∧ w1.cell? ⟨J, 4, none⟩ = some (.string a4) ∧ Hid (Join7 w (noteC k t a a1 a2 a3 a4 c x) J [.int .i64 a, .string a1, .string a2, .string a3, .string a4] w1)) (hb : Below w1.heap.size w1 w2) :
  w2.cell? ⟨w.heap.size, 1, none⟩ = some (.int .i64 t) ∧ w2.cell? ⟨J, 0, none⟩ = some (.int .i64 a) ∧ w2.cell? ⟨J, 1, none⟩ = some (.string a1) ∧ w2.cell? ⟨J, 2, none⟩ = some (.string a2) ∧ w2.cell? ⟨J, 3, none⟩ = some (.string a3) ∧ w2.cell? ⟨J, 4, none⟩ = some (.string a4) ∧ Hid (Join7 w (noteC k t a a1 a2 a3 a4 c x) J [.int .i64 a, .string a1, .string a2, .string a3, .string a4] w2) := by
 have := h.2.2.2.2.2.2.out.below hb
 exact ⟨(nineL this.laid.note).2.1, this.act.cell 0, this.act.cell 1, this.act.cell 2, this.act.cell 3, this.act.cell 4, Lib.hid this⟩
theorem S3_alloc {w w1 : World} {J : Nat} {o : Obj} {k t a : Int} {a1 a2 a3 a4 : ByteArray} {c : Int} {x : ByteArray} (h : w1.cell? ⟨w.heap.size, 1, none⟩ = some (.int .i64 t) ∧ w1.cell? ⟨J, 0, none⟩ = some (.int .i64 a) ∧ w1.cell? ⟨J, 1, none⟩ = some (.string a1) ∧ w1.cell? ⟨J, 2, none⟩ = some (.string a2) ∧ w1.cell? ⟨J, 3, none⟩ = some (.string a3) ∧ w1.cell? ⟨J, 4, none⟩ = some (.string a4) ∧ Hid (Join7 w (noteC k t a a1 a2 a3 a4 c x) J [.int .i64 a, .string a1, .string a2, .string a3, .string a4] w1)) :
  (w1.alloc o).cell? ⟨w.heap.size, 1, none⟩ = some (.int .i64 t) ∧ (w1.alloc o).cell? ⟨J, 0, none⟩ = some (.int .i64 a) ∧ (w1.alloc o).cell? ⟨J, 1, none⟩ = some (.string a1) ∧ (w1.alloc o).cell? ⟨J, 2, none⟩ = some (.string a2) ∧ (w1.alloc o).cell? ⟨J, 3, none⟩ = some (.string a3) ∧ (w1.alloc o).cell? ⟨J, 4, none⟩ = some (.string a4) ∧ Hid (Join7 w (noteC k t a a1 a2 a3 a4 c x) J [.int .i64 a, .string a1, .string a2, .string a3, .string a4] (w1.alloc o)) := by
 have := h.2.2.2.2.2.2.out.alloc o
 exact ⟨(nineL this.laid.note).2.1, this.act.cell 0, this.act.cell 1, this.act.cell 2, this.act.cell 3, this.act.cell 4, Lib.hid this⟩
theorem S3_l {w w1 : World} {J : Nat} {L LA : List Value} {P1 P2 P3 P4 P5 P6 : Prop} (h : P1 ∧ P2 ∧ P3 ∧ P4 ∧ P5 ∧ P6 ∧ Hid (Join7 w L J LA w1)) : Laid w L w1 := h.2.2.2.2.2.2.out.laid
theorem S3_b {w w1 : World} {J : Nat} {L LA : List Value} {P1 P2 P3 P4 P5 P6 : Prop} (h : P1 ∧ P2 ∧ P3 ∧ P4 ∧ P5 ∧ P6 ∧ Hid (Join7 w L J LA w1)) : Below w.heap.size w w1 := h.2.2.2.2.2.2.out.laid.bel
set_option maxHeartbeats 4000000 in
theorem line_3 (k t a : Int) (a1 a2 a3 a4 : ByteArray) (c : Int) (x : ByteArray) (W A : ByteArray) (w : World) (hw : Tab w) (hk : k = 3) (hW : wordS kindsL k ⟨#[63]⟩ = W) (hA : wordS actsL a ⟨#[63]⟩ = A) (sW : W.size ≤ 7) (sA : A.size ≤ 6)
  (ht0 : -9223372036854775808 ≤ t) (ht1 : t ≤ 9223372036854775807) (hc0 : -9223372036854775808 ≤ c) (hc1 : c ≤ 9223372036854775807) (hs : a1.size + a2.size + a3.size + a4.size + x.size ≤ 1099511627776) :
  Calls Tryd.prog 10 #[.agg #[.int .i64 k, .int .i64 t, .int .i64 a, .string a1, .string a2, .string a3, .string a4, .int .i64 c, .string x]] w fun e w' => e = .returned (.string (W ++ ⟨#[32]⟩ ++ itoaS t ++ ⟨#[32]⟩ ++ A ++ ⟨#[32]⟩ ++ a1 ++ ⟨#[32]⟩ ++ a2 ++ ⟨#[32]⟩ ++ a3 ++ ⟨#[32]⟩ ++ a4)) ∧ Below w.heap.size w w' := by
 have sc := itoaS_size c hc0 hc1
 have st := itoaS_size t ht0 ht1
 have HT0 := Lib.hid ht0
 have HT1 := Lib.hid ht1
 have HC0 := Lib.hid hc0
 have HC1 := Lib.hid hc1
 have HS := Lib.hid hs
 have HW := Lib.hid hw
 have HWd := Lib.hid hW
 have HAd := Lib.hid hA
 have HK := Lib.hid hk
 clear hk
 have h0 := laid_new w (noteC k t a a1 a2 a3 a4 c x)
 unfold noteC kindsL actsL at h0
 simp only [List.map_cons, List.map_nil] at h0
 have H0 := Lib.hid h0
 clear hw h0 hW hA ht0 ht1 hc0 hc1 hs
 go_enter Tryd.func10, Tryd.ntmps10
 go_wp2_with fail
 replace H0 := H0.out
 generalize World.alloc _ _ = w1 at H0 ⊢
 have y0 := H0.note.cell 0
 dsimp only [noteC, List.getElem?_cons_zero] at y0
 replace H0 := Lib.hid H0
 go_region_held3 (fun w' => w'.cell? ⟨w.heap.size, 0, none⟩ = some (.int .i64 k) ∧ Hid (Laid w (noteC k t a a1 a2 a3 a4 c x) w')) (first | assumption | exact ⟨y0, Lib.hid H0.out.drew⟩)
  (first | (go_at_call 29; refine (word_kindsW (by assumption) k HWd).mono ?_; rintro e w2 ⟨rfl, rfl⟩))
 rename_i hH
 generalize w1.drew = w2 at hH ⊢
 obtain ⟨-, H1⟩ := hH
 clear y0 H0
 obtain ⟨y0, y1, y2, y3, y4, y5, y6, y7, y8⟩ := nineL H1.out.note
 have HA := Lib.hid (Blk.new w2 [.int .i64 a, .string a1, .string a2, .string a3, .string a4] 28)
 have H2 := Lib.hid (H1.out.alloc (.cells #[.int .i64 a, .string a1, .string a2, .string a3, .string a4] 28))
 obtain ⟨z0, z1, z2, z3, z4, z5, z6, z7, z8⟩ := nineL H2.out.note
 replace HK := HK.out
 go_wp2_with fail
 replace HS := HS.out
 have q1 : (9223372036854775807 < W.size + 1) = False := eq_false (by omega)
 have HJ := Lib.hid (show W.size + (itoaS t).size + A.size + a1.size + a2.size + a3.size + a4.size ≤ 10000000000000 by omega)
 have h3 : Join7 w (noteC k t a a1 a2 a3 a4 c x) w2.heap.size [.int .i64 a, .string a1, .string a2, .string a3, .string a4] (w2.alloc (.cells #[.int .i64 a, .string a1, .string a2, .string a3, .string a4] 28)) := ⟨H2.out, HA.out⟩
 have H3 := Lib.hid h3
 have u0 := HA.out.cell 0
 have u1 := HA.out.cell 1
 have u2 := HA.out.cell 2
 have u3 := HA.out.cell 3
 have u4 := HA.out.cell 4
 dsimp only [List.getElem?_cons_zero, List.getElem?_cons_succ] at u0 u1 u2 u3 u4
 replace HS := Lib.hid HS
 generalize w2.heap.size = J at *
 generalize World.alloc _ _ = w3 at H3 z1 u0 u1 u2 u3 u4 ⊢
 clear y0 y1 y2 y3 y4 y5 y6 y7 y8 z0 z2 z3 z4 z5 z6 z7 z8 H1 HA H2 h3
 go_region_held3 (fun w' => w'.cell? ⟨w.heap.size, 1, none⟩ = some (.int .i64 t) ∧ w'.cell? ⟨J, 0, none⟩ = some (.int .i64 a) ∧ w'.cell? ⟨J, 1, none⟩ = some (.string a1) ∧ w'.cell? ⟨J, 2, none⟩ = some (.string a2) ∧ w'.cell? ⟨J, 3, none⟩ = some (.string a3) ∧ w'.cell? ⟨J, 4, none⟩ = some (.string a4) ∧ Hid (Join7 w (noteC k t a a1 a2 a3 a4 c x) J [.int .i64 a, .string a1, .string a2, .string a3, .string a4] w')) (first | assumption | exact ⟨z1, u0, u1, u2, u3, u4, Lib.hid H3.out.drew⟩ | exact S3_step (by assumption) (by assumption) | exact S3_alloc (by assumption))
  (first
   | (go_at_call 32; refine (format_any t _ HT0.out HT1.out (HW.out.below (S3_b (by assumption)) (Nat.le_refl _))).mono ?_; rintro e w4 ⟨rfl, hb4⟩)
   | (go_at_call 29; refine (word_actsW (S3_l (by assumption)) a HAd).mono ?_; rintro e w4 ⟨rfl, rfl⟩)
   | (go_at_call 31; go_loud (refine (join_new _ W (itoaS t) A a1 a2 a3 a4 HJ.out).mono ?_); rintro e w4 ⟨rfl, hb4⟩))
 all_goals go_wp2
 all_goals (go_ret; exact ⟨rfl, S3_b (by assumption)⟩)
set_option maxHeartbeats 4000000 in
theorem line_4 (k t a : Int) (a1 a2 a3 a4 : ByteArray) (c : Int) (x : ByteArray) (W A : ByteArray) (w : World) (hw : Tab w) (hk : k = 4) (hW : wordS kindsL k ⟨#[63]⟩ = W) (hA : wordS actsL a ⟨#[63]⟩ = A) (sW : W.size ≤ 7) (sA : A.size ≤ 6)
  (ht0 : -9223372036854775808 ≤ t) (ht1 : t ≤ 9223372036854775807) (hc0 : -9223372036854775808 ≤ c) (hc1 : c ≤ 9223372036854775807) (hs : a1.size + a2.size + a3.size + a4.size + x.size ≤ 1099511627776) :
  Calls Tryd.prog 10 #[.agg #[.int .i64 k, .int .i64 t, .int .i64 a, .string a1, .string a2, .string a3, .string a4, .int .i64 c, .string x]] w fun e w' => e = .returned (.string (W ++ ⟨#[32]⟩ ++ itoaS t ++ ⟨#[32]⟩ ++ A ++ ⟨#[32]⟩ ++ a1 ++ ⟨#[32]⟩ ++ a2 ++ ⟨#[32]⟩ ++ a3 ++ ⟨#[32]⟩ ++ a4)) ∧ Below w.heap.size w w' := by
 have sc := itoaS_size c hc0 hc1
 have st := itoaS_size t ht0 ht1
 have HT0 := Lib.hid ht0
 have HT1 := Lib.hid ht1
 have HC0 := Lib.hid hc0
 have HC1 := Lib.hid hc1
 have HS := Lib.hid hs
 have HW := Lib.hid hw
 have HWd := Lib.hid hW
 have HAd := Lib.hid hA
 have HK := Lib.hid hk
 clear hk
 have h0 := laid_new w (noteC k t a a1 a2 a3 a4 c x)
 unfold noteC kindsL actsL at h0
 simp only [List.map_cons, List.map_nil] at h0
 have H0 := Lib.hid h0
 clear hw h0 hW hA ht0 ht1 hc0 hc1 hs
 go_enter Tryd.func10, Tryd.ntmps10
 go_wp2_with fail
 replace H0 := H0.out
 generalize World.alloc _ _ = w1 at H0 ⊢
 have y0 := H0.note.cell 0
 dsimp only [noteC, List.getElem?_cons_zero] at y0
 replace H0 := Lib.hid H0
 go_region_held3 (fun w' => w'.cell? ⟨w.heap.size, 0, none⟩ = some (.int .i64 k) ∧ Hid (Laid w (noteC k t a a1 a2 a3 a4 c x) w')) (first | assumption | exact ⟨y0, Lib.hid H0.out.drew⟩)
  (first | (go_at_call 29; refine (word_kindsW (by assumption) k HWd).mono ?_; rintro e w2 ⟨rfl, rfl⟩))
 rename_i hH
 generalize w1.drew = w2 at hH ⊢
 obtain ⟨-, H1⟩ := hH
 clear y0 H0
 obtain ⟨y0, y1, y2, y3, y4, y5, y6, y7, y8⟩ := nineL H1.out.note
 have HA := Lib.hid (Blk.new w2 [.int .i64 a, .string a1, .string a2, .string a3, .string a4] 28)
 have H2 := Lib.hid (H1.out.alloc (.cells #[.int .i64 a, .string a1, .string a2, .string a3, .string a4] 28))
 obtain ⟨z0, z1, z2, z3, z4, z5, z6, z7, z8⟩ := nineL H2.out.note
 replace HK := HK.out
 go_wp2_with fail
 replace HS := HS.out
 have q1 : (9223372036854775807 < W.size + 1) = False := eq_false (by omega)
 have HJ := Lib.hid (show W.size + (itoaS t).size + A.size + a1.size + a2.size + a3.size + a4.size ≤ 10000000000000 by omega)
 have h3 : Join7 w (noteC k t a a1 a2 a3 a4 c x) w2.heap.size [.int .i64 a, .string a1, .string a2, .string a3, .string a4] (w2.alloc (.cells #[.int .i64 a, .string a1, .string a2, .string a3, .string a4] 28)) := ⟨H2.out, HA.out⟩
 have H3 := Lib.hid h3
 have u0 := HA.out.cell 0
 have u1 := HA.out.cell 1
 have u2 := HA.out.cell 2
 have u3 := HA.out.cell 3
 have u4 := HA.out.cell 4
 dsimp only [List.getElem?_cons_zero, List.getElem?_cons_succ] at u0 u1 u2 u3 u4
 replace HS := Lib.hid HS
 generalize w2.heap.size = J at *
 generalize World.alloc _ _ = w3 at H3 z1 u0 u1 u2 u3 u4 ⊢
 clear y0 y1 y2 y3 y4 y5 y6 y7 y8 z0 z2 z3 z4 z5 z6 z7 z8 H1 HA H2 h3
 go_region_held3 (fun w' => w'.cell? ⟨w.heap.size, 1, none⟩ = some (.int .i64 t) ∧ w'.cell? ⟨J, 0, none⟩ = some (.int .i64 a) ∧ w'.cell? ⟨J, 1, none⟩ = some (.string a1) ∧ w'.cell? ⟨J, 2, none⟩ = some (.string a2) ∧ w'.cell? ⟨J, 3, none⟩ = some (.string a3) ∧ w'.cell? ⟨J, 4, none⟩ = some (.string a4) ∧ Hid (Join7 w (noteC k t a a1 a2 a3 a4 c x) J [.int .i64 a, .string a1, .string a2, .string a3, .string a4] w')) (first | assumption | exact ⟨z1, u0, u1, u2, u3, u4, Lib.hid H3.out.drew⟩ | exact S3_step (by assumption) (by assumption) | exact S3_alloc (by assumption))
  (first
   | (go_at_call 32; refine (format_any t _ HT0.out HT1.out (HW.out.below (S3_b (by assumption)) (Nat.le_refl _))).mono ?_; rintro e w4 ⟨rfl, hb4⟩)
   | (go_at_call 29; refine (word_actsW (S3_l (by assumption)) a HAd).mono ?_; rintro e w4 ⟨rfl, rfl⟩)
   | (go_at_call 31; go_loud (refine (join_new _ W (itoaS t) A a1 a2 a3 a4 HJ.out).mono ?_); rintro e w4 ⟨rfl, hb4⟩))
 all_goals go_wp2
 all_goals (go_ret; exact ⟨rfl, S3_b (by assumption)⟩)
set_option maxHeartbeats 4000000 in
theorem line_5 (k t a : Int) (a1 a2 a3 a4 : ByteArray) (c : Int) (x : ByteArray) (W A : ByteArray) (w : World) (hw : Tab w) (hk : k = 5) (hW : wordS kindsL k ⟨#[63]⟩ = W) (hA : wordS actsL a ⟨#[63]⟩ = A) (sW : W.size ≤ 7) (sA : A.size ≤ 6)
  (ht0 : -9223372036854775808 ≤ t) (ht1 : t ≤ 9223372036854775807) (hc0 : -9223372036854775808 ≤ c) (hc1 : c ≤ 9223372036854775807) (hs : a1.size + a2.size + a3.size + a4.size + x.size ≤ 1099511627776) :
  Calls Tryd.prog 10 #[.agg #[.int .i64 k, .int .i64 t, .int .i64 a, .string a1, .string a2, .string a3, .string a4, .int .i64 c, .string x]] w fun e w' => e = .returned (.string (W ++ ⟨#[32]⟩ ++ itoaS t ++ ⟨#[32]⟩ ++ A ++ ⟨#[32]⟩ ++ a1 ++ ⟨#[32]⟩ ++ a2 ++ ⟨#[32]⟩ ++ a3 ++ ⟨#[32]⟩ ++ a4)) ∧ Below w.heap.size w w' := by
 have sc := itoaS_size c hc0 hc1
 have st := itoaS_size t ht0 ht1
 have HT0 := Lib.hid ht0
 have HT1 := Lib.hid ht1
 have HC0 := Lib.hid hc0
 have HC1 := Lib.hid hc1
 have HS := Lib.hid hs
 have HW := Lib.hid hw
 have HWd := Lib.hid hW
 have HAd := Lib.hid hA
 have HK := Lib.hid hk
 clear hk
 have h0 := laid_new w (noteC k t a a1 a2 a3 a4 c x)
 unfold noteC kindsL actsL at h0
 simp only [List.map_cons, List.map_nil] at h0
 have H0 := Lib.hid h0
 clear hw h0 hW hA ht0 ht1 hc0 hc1 hs
 go_enter Tryd.func10, Tryd.ntmps10
 go_wp2_with fail
 replace H0 := H0.out
 generalize World.alloc _ _ = w1 at H0 ⊢
 have y0 := H0.note.cell 0
 dsimp only [noteC, List.getElem?_cons_zero] at y0
 replace H0 := Lib.hid H0
 go_region_held3 (fun w' => w'.cell? ⟨w.heap.size, 0, none⟩ = some (.int .i64 k) ∧ Hid (Laid w (noteC k t a a1 a2 a3 a4 c x) w')) (first | assumption | exact ⟨y0, Lib.hid H0.out.drew⟩)
  (first | (go_at_call 29; refine (word_kindsW (by assumption) k HWd).mono ?_; rintro e w2 ⟨rfl, rfl⟩))
 rename_i hH
 generalize w1.drew = w2 at hH ⊢
 obtain ⟨-, H1⟩ := hH
 clear y0 H0
 obtain ⟨y0, y1, y2, y3, y4, y5, y6, y7, y8⟩ := nineL H1.out.note
 have HA := Lib.hid (Blk.new w2 [.int .i64 a, .string a1, .string a2, .string a3, .string a4] 28)
 have H2 := Lib.hid (H1.out.alloc (.cells #[.int .i64 a, .string a1, .string a2, .string a3, .string a4] 28))
 obtain ⟨z0, z1, z2, z3, z4, z5, z6, z7, z8⟩ := nineL H2.out.note
 replace HK := HK.out
 go_wp2_with fail
 replace HS := HS.out
 have q1 : (9223372036854775807 < W.size + 1) = False := eq_false (by omega)
 have HJ := Lib.hid (show W.size + (itoaS t).size + A.size + a1.size + a2.size + a3.size + a4.size ≤ 10000000000000 by omega)
 have h3 : Join7 w (noteC k t a a1 a2 a3 a4 c x) w2.heap.size [.int .i64 a, .string a1, .string a2, .string a3, .string a4] (w2.alloc (.cells #[.int .i64 a, .string a1, .string a2, .string a3, .string a4] 28)) := ⟨H2.out, HA.out⟩
 have H3 := Lib.hid h3
 have u0 := HA.out.cell 0
 have u1 := HA.out.cell 1
 have u2 := HA.out.cell 2
 have u3 := HA.out.cell 3
 have u4 := HA.out.cell 4
 dsimp only [List.getElem?_cons_zero, List.getElem?_cons_succ] at u0 u1 u2 u3 u4
 replace HS := Lib.hid HS
 generalize w2.heap.size = J at *
 generalize World.alloc _ _ = w3 at H3 z1 u0 u1 u2 u3 u4 ⊢
 clear y0 y1 y2 y3 y4 y5 y6 y7 y8 z0 z2 z3 z4 z5 z6 z7 z8 H1 HA H2 h3
 go_region_held3 (fun w' => w'.cell? ⟨w.heap.size, 1, none⟩ = some (.int .i64 t) ∧ w'.cell? ⟨J, 0, none⟩ = some (.int .i64 a) ∧ w'.cell? ⟨J, 1, none⟩ = some (.string a1) ∧ w'.cell? ⟨J, 2, none⟩ = some (.string a2) ∧ w'.cell? ⟨J, 3, none⟩ = some (.string a3) ∧ w'.cell? ⟨J, 4, none⟩ = some (.string a4) ∧ Hid (Join7 w (noteC k t a a1 a2 a3 a4 c x) J [.int .i64 a, .string a1, .string a2, .string a3, .string a4] w')) (first | assumption | exact ⟨z1, u0, u1, u2, u3, u4, Lib.hid H3.out.drew⟩ | exact S3_step (by assumption) (by assumption) | exact S3_alloc (by assumption))
  (first
   | (go_at_call 32; refine (format_any t _ HT0.out HT1.out (HW.out.below (S3_b (by assumption)) (Nat.le_refl _))).mono ?_; rintro e w4 ⟨rfl, hb4⟩)
   | (go_at_call 29; refine (word_actsW (S3_l (by assumption)) a HAd).mono ?_; rintro e w4 ⟨rfl, rfl⟩)
   | (go_at_call 31; go_loud (refine (join_new _ W (itoaS t) A a1 a2 a3 a4 HJ.out).mono ?_); rintro e w4 ⟨rfl, hb4⟩))
 all_goals go_wp2
 all_goals (go_ret; exact ⟨rfl, S3_b (by assumption)⟩)
set_option maxHeartbeats 4000000 in
theorem line_6 (k t a : Int) (a1 a2 a3 a4 : ByteArray) (c : Int) (x : ByteArray) (W A : ByteArray) (w : World) (hw : Tab w) (hk : k = 6) (hW : wordS kindsL k ⟨#[63]⟩ = W) (hA : wordS actsL a ⟨#[63]⟩ = A) (sW : W.size ≤ 7) (sA : A.size ≤ 6)
  (ht0 : -9223372036854775808 ≤ t) (ht1 : t ≤ 9223372036854775807) (hc0 : -9223372036854775808 ≤ c) (hc1 : c ≤ 9223372036854775807) (hs : a1.size + a2.size + a3.size + a4.size + x.size ≤ 1099511627776) :
  Calls Tryd.prog 10 #[.agg #[.int .i64 k, .int .i64 t, .int .i64 a, .string a1, .string a2, .string a3, .string a4, .int .i64 c, .string x]] w fun e w' => e = .returned (.string (W ++ ⟨#[32]⟩ ++ itoaS t ++ ⟨#[32]⟩ ++ A ++ ⟨#[32]⟩ ++ a1 ++ ⟨#[32]⟩ ++ a2 ++ ⟨#[32]⟩ ++ a3 ++ ⟨#[32]⟩ ++ a4)) ∧ Below w.heap.size w w' := by
 have sc := itoaS_size c hc0 hc1
 have st := itoaS_size t ht0 ht1
 have HT0 := Lib.hid ht0
 have HT1 := Lib.hid ht1
 have HC0 := Lib.hid hc0
 have HC1 := Lib.hid hc1
 have HS := Lib.hid hs
 have HW := Lib.hid hw
 have HWd := Lib.hid hW
 have HAd := Lib.hid hA
 have HK := Lib.hid hk
 clear hk
 have h0 := laid_new w (noteC k t a a1 a2 a3 a4 c x)
 unfold noteC kindsL actsL at h0
 simp only [List.map_cons, List.map_nil] at h0
 have H0 := Lib.hid h0
 clear hw h0 hW hA ht0 ht1 hc0 hc1 hs
 go_enter Tryd.func10, Tryd.ntmps10
 go_wp2_with fail
 replace H0 := H0.out
 generalize World.alloc _ _ = w1 at H0 ⊢
 have y0 := H0.note.cell 0
 dsimp only [noteC, List.getElem?_cons_zero] at y0
 replace H0 := Lib.hid H0
 go_region_held3 (fun w' => w'.cell? ⟨w.heap.size, 0, none⟩ = some (.int .i64 k) ∧ Hid (Laid w (noteC k t a a1 a2 a3 a4 c x) w')) (first | assumption | exact ⟨y0, Lib.hid H0.out.drew⟩)
  (first | (go_at_call 29; refine (word_kindsW (by assumption) k HWd).mono ?_; rintro e w2 ⟨rfl, rfl⟩))
 rename_i hH
 generalize w1.drew = w2 at hH ⊢
 obtain ⟨-, H1⟩ := hH
 clear y0 H0
 obtain ⟨y0, y1, y2, y3, y4, y5, y6, y7, y8⟩ := nineL H1.out.note
 have HA := Lib.hid (Blk.new w2 [.int .i64 a, .string a1, .string a2, .string a3, .string a4] 28)
 have H2 := Lib.hid (H1.out.alloc (.cells #[.int .i64 a, .string a1, .string a2, .string a3, .string a4] 28))
 obtain ⟨z0, z1, z2, z3, z4, z5, z6, z7, z8⟩ := nineL H2.out.note
 replace HK := HK.out
 go_wp2_with fail
 replace HS := HS.out
 have q1 : (9223372036854775807 < W.size + 1) = False := eq_false (by omega)
 have HJ := Lib.hid (show W.size + (itoaS t).size + A.size + a1.size + a2.size + a3.size + a4.size ≤ 10000000000000 by omega)
 have h3 : Join7 w (noteC k t a a1 a2 a3 a4 c x) w2.heap.size [.int .i64 a, .string a1, .string a2, .string a3, .string a4] (w2.alloc (.cells #[.int .i64 a, .string a1, .string a2, .string a3, .string a4] 28)) := ⟨H2.out, HA.out⟩
 have H3 := Lib.hid h3
 have u0 := HA.out.cell 0
 have u1 := HA.out.cell 1
 have u2 := HA.out.cell 2
 have u3 := HA.out.cell 3
 have u4 := HA.out.cell 4
 dsimp only [List.getElem?_cons_zero, List.getElem?_cons_succ] at u0 u1 u2 u3 u4
 replace HS := Lib.hid HS
 generalize w2.heap.size = J at *
 generalize World.alloc _ _ = w3 at H3 z1 u0 u1 u2 u3 u4 ⊢
 clear y0 y1 y2 y3 y4 y5 y6 y7 y8 z0 z2 z3 z4 z5 z6 z7 z8 H1 HA H2 h3
 go_region_held3 (fun w' => w'.cell? ⟨w.heap.size, 1, none⟩ = some (.int .i64 t) ∧ w'.cell? ⟨J, 0, none⟩ = some (.int .i64 a) ∧ w'.cell? ⟨J, 1, none⟩ = some (.string a1) ∧ w'.cell? ⟨J, 2, none⟩ = some (.string a2) ∧ w'.cell? ⟨J, 3, none⟩ = some (.string a3) ∧ w'.cell? ⟨J, 4, none⟩ = some (.string a4) ∧ Hid (Join7 w (noteC k t a a1 a2 a3 a4 c x) J [.int .i64 a, .string a1, .string a2, .string a3, .string a4] w')) (first | assumption | exact ⟨z1, u0, u1, u2, u3, u4, Lib.hid H3.out.drew⟩ | exact S3_step (by assumption) (by assumption) | exact S3_alloc (by assumption))
  (first
   | (go_at_call 32; refine (format_any t _ HT0.out HT1.out (HW.out.below (S3_b (by assumption)) (Nat.le_refl _))).mono ?_; rintro e w4 ⟨rfl, hb4⟩)
   | (go_at_call 29; refine (word_actsW (S3_l (by assumption)) a HAd).mono ?_; rintro e w4 ⟨rfl, rfl⟩)
   | (go_at_call 31; go_loud (refine (join_new _ W (itoaS t) A a1 a2 a3 a4 HJ.out).mono ?_); rintro e w4 ⟨rfl, hb4⟩))
 all_goals go_wp2
 all_goals (go_ret; exact ⟨rfl, S3_b (by assumption)⟩)
set_option maxHeartbeats 4000000 in
theorem line_7 (k t a : Int) (a1 a2 a3 a4 : ByteArray) (c : Int) (x : ByteArray) (W A : ByteArray) (w : World) (hw : Tab w) (hk : k = 7) (hW : wordS kindsL k ⟨#[63]⟩ = W) (hA : wordS actsL a ⟨#[63]⟩ = A) (sW : W.size ≤ 7) (sA : A.size ≤ 6)
  (ht0 : -9223372036854775808 ≤ t) (ht1 : t ≤ 9223372036854775807) (hc0 : -9223372036854775808 ≤ c) (hc1 : c ≤ 9223372036854775807) (hs : a1.size + a2.size + a3.size + a4.size + x.size ≤ 1099511627776) :
  Calls Tryd.prog 10 #[.agg #[.int .i64 k, .int .i64 t, .int .i64 a, .string a1, .string a2, .string a3, .string a4, .int .i64 c, .string x]] w fun e w' => e = .returned (.string (W ++ ⟨#[32]⟩ ++ itoaS t ++ ⟨#[32]⟩ ++ A ++ ⟨#[32]⟩ ++ a1 ++ ⟨#[32]⟩ ++ a2 ++ ⟨#[32]⟩ ++ a3 ++ ⟨#[32]⟩ ++ a4)) ∧ Below w.heap.size w w' := by
 have sc := itoaS_size c hc0 hc1
 have st := itoaS_size t ht0 ht1
 have HT0 := Lib.hid ht0
 have HT1 := Lib.hid ht1
 have HC0 := Lib.hid hc0
 have HC1 := Lib.hid hc1
 have HS := Lib.hid hs
 have HW := Lib.hid hw
 have HWd := Lib.hid hW
 have HAd := Lib.hid hA
 have HK := Lib.hid hk
 clear hk
 have h0 := laid_new w (noteC k t a a1 a2 a3 a4 c x)
 unfold noteC kindsL actsL at h0
 simp only [List.map_cons, List.map_nil] at h0
 have H0 := Lib.hid h0
 clear hw h0 hW hA ht0 ht1 hc0 hc1 hs
 go_enter Tryd.func10, Tryd.ntmps10
 go_wp2_with fail
 replace H0 := H0.out
 generalize World.alloc _ _ = w1 at H0 ⊢
 have y0 := H0.note.cell 0
 dsimp only [noteC, List.getElem?_cons_zero] at y0
 replace H0 := Lib.hid H0
 go_region_held3 (fun w' => w'.cell? ⟨w.heap.size, 0, none⟩ = some (.int .i64 k) ∧ Hid (Laid w (noteC k t a a1 a2 a3 a4 c x) w')) (first | assumption | exact ⟨y0, Lib.hid H0.out.drew⟩)
  (first | (go_at_call 29; refine (word_kindsW (by assumption) k HWd).mono ?_; rintro e w2 ⟨rfl, rfl⟩))
 rename_i hH
 generalize w1.drew = w2 at hH ⊢
 obtain ⟨-, H1⟩ := hH
 clear y0 H0
 obtain ⟨y0, y1, y2, y3, y4, y5, y6, y7, y8⟩ := nineL H1.out.note
 have HA := Lib.hid (Blk.new w2 [.int .i64 a, .string a1, .string a2, .string a3, .string a4] 28)
 have H2 := Lib.hid (H1.out.alloc (.cells #[.int .i64 a, .string a1, .string a2, .string a3, .string a4] 28))
 obtain ⟨z0, z1, z2, z3, z4, z5, z6, z7, z8⟩ := nineL H2.out.note
 replace HK := HK.out
 go_wp2_with fail
 replace HS := HS.out
 have q1 : (9223372036854775807 < W.size + 1) = False := eq_false (by omega)
 have HJ := Lib.hid (show W.size + (itoaS t).size + A.size + a1.size + a2.size + a3.size + a4.size ≤ 10000000000000 by omega)
 have h3 : Join7 w (noteC k t a a1 a2 a3 a4 c x) w2.heap.size [.int .i64 a, .string a1, .string a2, .string a3, .string a4] (w2.alloc (.cells #[.int .i64 a, .string a1, .string a2, .string a3, .string a4] 28)) := ⟨H2.out, HA.out⟩
 have H3 := Lib.hid h3
 have u0 := HA.out.cell 0
 have u1 := HA.out.cell 1
 have u2 := HA.out.cell 2
 have u3 := HA.out.cell 3
 have u4 := HA.out.cell 4
 dsimp only [List.getElem?_cons_zero, List.getElem?_cons_succ] at u0 u1 u2 u3 u4
 replace HS := Lib.hid HS
 generalize w2.heap.size = J at *
 generalize World.alloc _ _ = w3 at H3 z1 u0 u1 u2 u3 u4 ⊢
 clear y0 y1 y2 y3 y4 y5 y6 y7 y8 z0 z2 z3 z4 z5 z6 z7 z8 H1 HA H2 h3
 go_region_held3 (fun w' => w'.cell? ⟨w.heap.size, 1, none⟩ = some (.int .i64 t) ∧ w'.cell? ⟨J, 0, none⟩ = some (.int .i64 a) ∧ w'.cell? ⟨J, 1, none⟩ = some (.string a1) ∧ w'.cell? ⟨J, 2, none⟩ = some (.string a2) ∧ w'.cell? ⟨J, 3, none⟩ = some (.string a3) ∧ w'.cell? ⟨J, 4, none⟩ = some (.string a4) ∧ Hid (Join7 w (noteC k t a a1 a2 a3 a4 c x) J [.int .i64 a, .string a1, .string a2, .string a3, .string a4] w')) (first | assumption | exact ⟨z1, u0, u1, u2, u3, u4, Lib.hid H3.out.drew⟩ | exact S3_step (by assumption) (by assumption) | exact S3_alloc (by assumption))
  (first
   | (go_at_call 32; refine (format_any t _ HT0.out HT1.out (HW.out.below (S3_b (by assumption)) (Nat.le_refl _))).mono ?_; rintro e w4 ⟨rfl, hb4⟩)
   | (go_at_call 29; refine (word_actsW (S3_l (by assumption)) a HAd).mono ?_; rintro e w4 ⟨rfl, rfl⟩)
   | (go_at_call 31; go_loud (refine (join_new _ W (itoaS t) A a1 a2 a3 a4 HJ.out).mono ?_); rintro e w4 ⟨rfl, hb4⟩))
 all_goals go_wp2
 all_goals (go_ret; exact ⟨rfl, S3_b (by assumption)⟩)
set_option maxHeartbeats 4000000 in
theorem line_8 (k t a : Int) (a1 a2 a3 a4 : ByteArray) (c : Int) (x : ByteArray) (W A : ByteArray) (w : World) (hw : Tab w) (hk : k = 8) (hW : wordS kindsL k ⟨#[63]⟩ = W) (hA : wordS actsL a ⟨#[63]⟩ = A) (sW : W.size ≤ 7) (sA : A.size ≤ 6)
  (ht0 : -9223372036854775808 ≤ t) (ht1 : t ≤ 9223372036854775807) (hc0 : -9223372036854775808 ≤ c) (hc1 : c ≤ 9223372036854775807) (hs : a1.size + a2.size + a3.size + a4.size + x.size ≤ 1099511627776) :
  Calls Tryd.prog 10 #[.agg #[.int .i64 k, .int .i64 t, .int .i64 a, .string a1, .string a2, .string a3, .string a4, .int .i64 c, .string x]] w fun e w' => e = .returned (.string (W ++ ⟨#[32]⟩ ++ itoaS t ++ ⟨#[32]⟩ ++ A ++ ⟨#[32]⟩ ++ a1 ++ ⟨#[32]⟩ ++ a2 ++ ⟨#[32]⟩ ++ a3 ++ ⟨#[32]⟩ ++ a4)) ∧ Below w.heap.size w w' := by
 have sc := itoaS_size c hc0 hc1
 have st := itoaS_size t ht0 ht1
 have HT0 := Lib.hid ht0
 have HT1 := Lib.hid ht1
 have HC0 := Lib.hid hc0
 have HC1 := Lib.hid hc1
 have HS := Lib.hid hs
 have HW := Lib.hid hw
 have HWd := Lib.hid hW
 have HAd := Lib.hid hA
 have HK := Lib.hid hk
 clear hk
 have h0 := laid_new w (noteC k t a a1 a2 a3 a4 c x)
 unfold noteC kindsL actsL at h0
 simp only [List.map_cons, List.map_nil] at h0
 have H0 := Lib.hid h0
 clear hw h0 hW hA ht0 ht1 hc0 hc1 hs
 go_enter Tryd.func10, Tryd.ntmps10
 go_wp2_with fail
 replace H0 := H0.out
 generalize World.alloc _ _ = w1 at H0 ⊢
 have y0 := H0.note.cell 0
 dsimp only [noteC, List.getElem?_cons_zero] at y0
 replace H0 := Lib.hid H0
 go_region_held3 (fun w' => w'.cell? ⟨w.heap.size, 0, none⟩ = some (.int .i64 k) ∧ Hid (Laid w (noteC k t a a1 a2 a3 a4 c x) w')) (first | assumption | exact ⟨y0, Lib.hid H0.out.drew⟩)
  (first | (go_at_call 29; refine (word_kindsW (by assumption) k HWd).mono ?_; rintro e w2 ⟨rfl, rfl⟩))
 rename_i hH
 generalize w1.drew = w2 at hH ⊢
 obtain ⟨-, H1⟩ := hH
 clear y0 H0
 obtain ⟨y0, y1, y2, y3, y4, y5, y6, y7, y8⟩ := nineL H1.out.note
 have HA := Lib.hid (Blk.new w2 [.int .i64 a, .string a1, .string a2, .string a3, .string a4] 28)
 have H2 := Lib.hid (H1.out.alloc (.cells #[.int .i64 a, .string a1, .string a2, .string a3, .string a4] 28))
 obtain ⟨z0, z1, z2, z3, z4, z5, z6, z7, z8⟩ := nineL H2.out.note
 replace HK := HK.out
 go_wp2_with fail
 replace HS := HS.out
 have q1 : (9223372036854775807 < W.size + 1) = False := eq_false (by omega)
 have HJ := Lib.hid (show W.size + (itoaS t).size + A.size + a1.size + a2.size + a3.size + a4.size ≤ 10000000000000 by omega)
 have h3 : Join7 w (noteC k t a a1 a2 a3 a4 c x) w2.heap.size [.int .i64 a, .string a1, .string a2, .string a3, .string a4] (w2.alloc (.cells #[.int .i64 a, .string a1, .string a2, .string a3, .string a4] 28)) := ⟨H2.out, HA.out⟩
 have H3 := Lib.hid h3
 have u0 := HA.out.cell 0
 have u1 := HA.out.cell 1
 have u2 := HA.out.cell 2
 have u3 := HA.out.cell 3
 have u4 := HA.out.cell 4
 dsimp only [List.getElem?_cons_zero, List.getElem?_cons_succ] at u0 u1 u2 u3 u4
 replace HS := Lib.hid HS
 generalize w2.heap.size = J at *
 generalize World.alloc _ _ = w3 at H3 z1 u0 u1 u2 u3 u4 ⊢
 clear y0 y1 y2 y3 y4 y5 y6 y7 y8 z0 z2 z3 z4 z5 z6 z7 z8 H1 HA H2 h3
 go_region_held3 (fun w' => w'.cell? ⟨w.heap.size, 1, none⟩ = some (.int .i64 t) ∧ w'.cell? ⟨J, 0, none⟩ = some (.int .i64 a) ∧ w'.cell? ⟨J, 1, none⟩ = some (.string a1) ∧ w'.cell? ⟨J, 2, none⟩ = some (.string a2) ∧ w'.cell? ⟨J, 3, none⟩ = some (.string a3) ∧ w'.cell? ⟨J, 4, none⟩ = some (.string a4) ∧ Hid (Join7 w (noteC k t a a1 a2 a3 a4 c x) J [.int .i64 a, .string a1, .string a2, .string a3, .string a4] w')) (first | assumption | exact ⟨z1, u0, u1, u2, u3, u4, Lib.hid H3.out.drew⟩ | exact S3_step (by assumption) (by assumption) | exact S3_alloc (by assumption))
  (first
   | (go_at_call 32; refine (format_any t _ HT0.out HT1.out (HW.out.below (S3_b (by assumption)) (Nat.le_refl _))).mono ?_; rintro e w4 ⟨rfl, hb4⟩)
   | (go_at_call 29; refine (word_actsW (S3_l (by assumption)) a HAd).mono ?_; rintro e w4 ⟨rfl, rfl⟩)
   | (go_at_call 31; go_loud (refine (join_new _ W (itoaS t) A a1 a2 a3 a4 HJ.out).mono ?_); rintro e w4 ⟨rfl, hb4⟩))
 all_goals go_wp2
 all_goals (go_ret; exact ⟨rfl, S3_b (by assumption)⟩)
end Go.Proofs.YtlmhgnkkdjpkcaaDoorG
set_option linter.unusedVariables false
namespace Go.Proofs.YtlmhgnkkdjpkcaaDoorG
open Go.RowKit
def lineS (k t a : Int) (a1 a2 a3 a4 : ByteArray) (c : Int) (x : ByteArray) : ByteArray :=
 if k = 1 then wordS kindsL k ⟨#[63]⟩ ++ ⟨#[32]⟩ ++ itoaS c
 else if k = 2 then wordS kindsL k ⟨#[63]⟩ ++ ⟨#[32]⟩ ++ itoaS c ++ ⟨#[32]⟩ ++ x
 else if 3 ≤ k ∧ k ≤ 8 then wordS kindsL k ⟨#[63]⟩ ++ ⟨#[32]⟩ ++ itoaS t ++ ⟨#[32]⟩ ++ wordS actsL a ⟨#[63]⟩ ++ ⟨#[32]⟩ ++ a1 ++ ⟨#[32]⟩ ++ a2 ++ ⟨#[32]⟩ ++ a3 ++ ⟨#[32]⟩ ++ a4
 else wordS kindsL k ⟨#[63]⟩
theorem word_size (ks : List ByteArray) (n : Nat) (h : ∀ x ∈ ks, x.size ≤ n) (h1 : 1 ≤ n) (k : Int) : (wordS ks k ⟨#[63]⟩).size ≤ n := by
 unfold wordS
 split
 ·rename_i hk
  have hi : (k - 1).toNat < ks.length := by omega
  rw [List.getD_eq_getElem?_getD, List.getElem?_eq_getElem hi]
  exact h _ (List.getElem_mem _)
 ·exact h1
theorem kinds_size (k : Int) : (wordS kindsL k ⟨#[63]⟩).size ≤ 7 := word_size _ 7 (by decide) (by decide) k
theorem acts_size (k : Int) : (wordS actsL k ⟨#[63]⟩).size ≤ 6 := word_size _ 6 (by decide) (by decide) k
theorem line_any (k t a : Int) (a1 a2 a3 a4 : ByteArray) (c : Int) (x : ByteArray) (w : World) (hw : Tab w)
  (ht0 : -9223372036854775808 ≤ t) (ht1 : t ≤ 9223372036854775807) (hc0 : -9223372036854775808 ≤ c) (hc1 : c ≤ 9223372036854775807) (hs : a1.size + a2.size + a3.size + a4.size + x.size ≤ 1099511627776) :
  Calls Tryd.prog 10 #[.agg #[.int .i64 k, .int .i64 t, .int .i64 a, .string a1, .string a2, .string a3, .string a4, .int .i64 c, .string x]] w fun e w' => e = .returned (.string (lineS k t a a1 a2 a3 a4 c x)) ∧ Below w.heap.size w w' := by
 have sW := kinds_size k
 have sA := acts_size a
 unfold lineS
 by_cases h1 : k = 1
 ·rw [if_pos h1]; exact line_1 k t a a1 a2 a3 a4 c x _ _ w hw h1 rfl rfl sW sA ht0 ht1 hc0 hc1 hs
 rw [if_neg h1]
 by_cases h2 : k = 2
 ·rw [if_pos h2]; exact line_2 k t a a1 a2 a3 a4 c x _ _ w hw h2 rfl rfl sW sA ht0 ht1 hc0 hc1 hs
 rw [if_neg h2]
 by_cases h3 : k = 3
 ·rw [if_pos ⟨by omega, by omega⟩]; exact line_3 k t a a1 a2 a3 a4 c x _ _ w hw h3 rfl rfl sW sA ht0 ht1 hc0 hc1 hs
 by_cases h4 : k = 4
 ·rw [if_pos ⟨by omega, by omega⟩]; exact line_4 k t a a1 a2 a3 a4 c x _ _ w hw h4 rfl rfl sW sA ht0 ht1 hc0 hc1 hs
 by_cases h5 : k = 5
 ·rw [if_pos ⟨by omega, by omega⟩]; exact line_5 k t a a1 a2 a3 a4 c x _ _ w hw h5 rfl rfl sW sA ht0 ht1 hc0 hc1 hs
 by_cases h6 : k = 6
 ·rw [if_pos ⟨by omega, by omega⟩]; exact line_6 k t a a1 a2 a3 a4 c x _ _ w hw h6 rfl rfl sW sA ht0 ht1 hc0 hc1 hs
 by_cases h7 : k = 7
 ·rw [if_pos ⟨by omega, by omega⟩]; exact line_7 k t a a1 a2 a3 a4 c x _ _ w hw h7 rfl rfl sW sA ht0 ht1 hc0 hc1 hs
 by_cases h8 : k = 8
 ·rw [if_pos ⟨by omega, by omega⟩]; exact line_8 k t a a1 a2 a3 a4 c x _ _ w hw h8 rfl rfl sW sA ht0 ht1 hc0 hc1 hs
 rw [if_neg (by omega)]
 exact line_9 k t a a1 a2 a3 a4 c x _ _ w hw (by simp [h1]) (by simp [h2]) (by simp [h3]) (by simp [h4]) (by simp [h5]) (by simp [h6]) (by simp [h7]) (by simp [h8]) rfl rfl sW sA ht0 ht1 hc0 hc1 hs
def LineOk (t : Int) (a1 a2 a3 a4 : ByteArray) (c : Int) (x : ByteArray) : Prop :=
 ((-9223372036854775808 ≤ t ∧ t ≤ 9223372036854775807) ∧ (-9223372036854775808 ≤ c ∧ c ≤ 9223372036854775807)) ∧ a1.size + a2.size + a3.size + a4.size + x.size ≤ 1099511627776
instance (t : Int) (a1 a2 a3 a4 : ByteArray) (c : Int) (x : ByteArray) : Decidable (LineOk t a1 a2 a3 a4 c x) := by unfold LineOk; infer_instance
def audit_Line.f (k t a : Int) (a1 a2 a3 a4 : ByteArray) (c : Int) (x : ByteArray) : Option ByteArray :=
 if LineOk t a1 a2 a3 a4 c x then some (lineS k t a a1 a2 a3 a4 c x) else none
theorem audit_Line.calls (k t a : Int) (a1 a2 a3 a4 : ByteArray) (c : Int) (x : ByteArray) (r : ByteArray) (w : World) (ht : Tab w) (h : audit_Line.f k t a a1 a2 a3 a4 c x = some r) :
  Calls Tryd.prog 10 #[.agg #[.int .i64 k, .int .i64 t, .int .i64 a, .string a1, .string a2, .string a3, .string a4, .int .i64 c, .string x]] w fun e w' => e = .returned (.string r) ∧ Below w.heap.size w w' := by
 unfold audit_Line.f at h
 by_cases hs : LineOk t a1 a2 a3 a4 c x
 ·rw [if_pos hs] at h
  obtain rfl := Option.some.inj h
  exact line_any k t a a1 a2 a3 a4 c x w ht hs.1.1.1 hs.1.1.2 hs.1.2.1 hs.1.2.2 hs.2
 ·rw [if_neg hs] at h
  simp at h
end Go.Proofs.YtlmhgnkkdjpkcaaDoorG
