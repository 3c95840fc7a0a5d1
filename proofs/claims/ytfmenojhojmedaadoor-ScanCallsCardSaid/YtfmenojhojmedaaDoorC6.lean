/- The walk of scan.Unquote: its loop. -/
import Derived.Test.YtfmenojhojmedaaDoorC5
set_option linter.unusedVariables false
set_option linter.unusedSimpArgs false
namespace Go.Proofs.YtfmenojhojmedaaDoorG
open Go.RowKit Go.Proofs Go.Proofs.YtfmenojhojmedaaDoorX Go.Proofs.YtfmenojhojmedaaDoorB Go.Proofs.YtfmenojhojmedaaDoorW.PrintWords Go.Proofs.YtfmenojhojmedaaDoor.PR
theorem St.read {w W W' : World} {g b : Nat} {s : ByteArray} {at_ e at2 e2 : Int} {acc : List UInt8} (h : St w W g b s at_ e acc) (hl : Left3 w W W' g s at2 e2) : St w W' g b s at2 e2 acc := h.step hl.1 hl.2.1 hl.2.2
theorem St.put {w W : World} {g b : Nat} {s : ByteArray} {at_ e : Int} {acc : List UInt8} (h : St w W g b s at_ e acc) (x : Int) : St w (W.setCell ⟨g, 1, none⟩ (.int .i64 x)) g b s x e acc :=
  ⟨h.rd.set_1 x, builder_keep h.bld ((KeepBut.refl W g none).set_ 1 _) (by have := h.lt; omega) h.rd.1, h.bel.setCell (p := ⟨g, 1, none⟩) h.rd.2 _, h.lt, Nat.le_trans h.le (by simp [World.setCell])⟩
/-- What the loop's round hands on. -/
def RelU (w : World) (g b : Nat) (s : ByteArray) (R : ByteArray × Int × Int) (k : Nat) (W : World) : Prop := ∃ at_ e acc, St w W g b s at_ e acc ∧ scan_Unquote.l0 k s at_ e acc = some R
theorem str_st {w W : World} {g b : Nat} {s : ByteArray} {at_ e : Int} {acc : List UInt8} (h : St w W g b s at_ e acc) (hb : w.heap.size ≤ b) :
    Calls Tryd.prog 30 #[.pointer (some ⟨b, 0, none⟩)] W.drew fun q w' => q = .returned (.string ⟨acc.toArray⟩) ∧ (w'.cell? ⟨g, 1, none⟩ = some (.int .i64 at_) ∧ Below w.heap.size w w') := by
  have h5 : Lib.IsBuilderF 46 5 b b (Lib.byteCells acc) W.drew := by
    rcases h.bld with h | h
    · exact Or.inl h.drew
    · exact Or.inr h.drew
  refine (Tryd.Builder_String_any_k b b acc W.drew h5 h.le).mono ?_
  rintro q w' ⟨rfl, _, hb1, _⟩
  refine ⟨rfl, ?_, (h.bel.drew).trans (hb1.mono hb)⟩
  exact cellS56_1 ((hb1.block g h.lt).trans h.rd.1)
set_option maxHeartbeats 8000000 in
set_option maxRecDepth 1000000 in
theorem unq_body (k : Nat) (s : ByteArray) (a e0 : Int) (R : ByteArray × Int × Int) (w : World) (hs : s.size ≤ 1000000) (ht : TabU w) (hn : scan_reader_next.f s 0 0 = some (34, true, s, a, e0)) (hl : scan_Unquote.l0 k s a e0 [] = some R) :
    Calls Tryd.prog 12 #[.string s] w fun q w' => q = endR R ∧ Below w.heap.size w w' := by
  have HI := Lib.hid (IsS56.new w w s 0 0 (Below.refl _ _))
  have HB := Lib.hid ((Below.refl w.heap.size w).alloc (Nat.le_refl _) (.cells #[.string s, .int .i64 0, .int .i64 0] 56))
  have HN := Lib.hid hn
  have HT := Lib.hid ht
  have HL := Lib.hid hl
  clear hn hl ht
  go_enter Tryd.func12, Tryd.ntmps12
  go_wp2_with fail
  refine (next_l w.heap.size s 0 0 34 true s a e0 w _ HI.out HB.out HN.out).mono ?_
  rintro q w1 ⟨rfl, h1⟩
  have hsz1 : w.heap.size < w1.heap.size := h1.1.lt
  have hst : St w (w1.alloc (.cells #[.pointer none, .slice none 0 0] 46)) w.heap.size w1.heap.size s a e0 [] :=
    ⟨h1.1.alloc _, Lib.IsBuilderF.of (Lib.fresh_isBuilder 46 5 w1), h1.2.1.alloc (by omega) _, hsz1, by simp⟩
  have HST := Lib.hid hst
  clear h1 hst
  go_wp2
  go_loopg [] k (fun gk wr => RelU w w.heap.size w1.heap.size s R gk wr)
  case atStart => exact ⟨a, e0, [], HST.out, HL.out⟩
  case round =>
    clear HST HL HI HB HN
    obtain ⟨at_, e, acc, hst, hl⟩ := hrel
    obtain ⟨g', rfl⟩ : ∃ g', gk = g' + 1 := by
      cases gk with
      | zero => simp [scan_Unquote.l0] at hl
      | succ n => exact ⟨n, rfl⟩
    simp only [scan_Unquote.l0] at hl
    obtain ⟨⟨c, is, s', a', e'⟩, hn, hl⟩ := Option.bind_eq_some_iff.mp hl
    by_cases hc0 : s' = s ∧ 1 ≤ a' ∧ a' ≤ s.size ∧ acc.length ≤ 100000000 ∧ c < 256
    case neg => rw [if_neg hc0] at hl; simp at hl
    rw [if_pos hc0] at hl
    simp only at hl
    obtain ⟨rfl, ha1, ha2, hacc, hc256⟩ := hc0
    have HS := Lib.hid hst
    have HN := Lib.hid hn
    have hrd := hst.rd
    have hbel := hst.bel
    have HRD := Lib.hid hrd
    have HBEL := Lib.hid hbel
    clear hn hst hrd hbel
    cases is with
    | false =>
      rw [if_neg (by decide)] at hl
      have HL := Lib.hid hl
      clear hl
      go_wp2_with fail
      refine (next_l w.heap.size s' at_ e c false s' a' e' w _ HRD.out HBEL.out HN.out).mono ?_
      rintro q w2 ⟨rfl, h2⟩
      have hc2 : w2.cell? ⟨w.heap.size, 2, none⟩ = some (.int .i64 e') := cellS56_2 h2.1.1
      have H2 := Lib.hid h2
      clear h2
      go_wp2
      go_region
      all_goals go_wp2
      go_ret3
      obtain rfl := Option.some.inj HL.out
      exact ⟨rfl, H2.out.2.1.drew⟩
    | true =>
      rw [if_pos rfl] at hl
      by_cases h34 : c = 34
      · rw [if_pos h34] at hl
        have HL := Lib.hid hl
        clear hl
        subst h34
        go_wp2_with fail
        refine (next_l w.heap.size s' at_ e 34 true s' a' e' w _ HRD.out HBEL.out HN.out).mono ?_
        rintro q w2 ⟨rfl, h2⟩
        have hst2 := HS.out.read h2
        have hc1 : w2.cell? ⟨w.heap.size, 1, none⟩ = some (.int .i64 a') := cellS56_1 h2.1.1
        have H2 := Lib.hid h2
        have HS2 := Lib.hid hst2
        clear h2 hst2
        have hgb : w.heap.size ≤ w1.heap.size := Nat.le_of_lt hsz1
        go_wp2
        go_region_with (go_at_call 30; refine (str_st HS2.out hgb).mono ?_; rintro q w3 ⟨rfl, hc3, hb3⟩)
        all_goals
          have HB3 := Lib.hid hb3
          go_wp2
          go_ret3
          obtain rfl := Option.some.inj HL.out
          exact ⟨rfl, HB3.out⟩
      rw [if_neg h34] at hl
      have b34 : (c == 34) = false := beq_eq_false_iff_ne.2 h34
      by_cases h32 : c < 32
      · rw [if_pos h32] at hl
        have HL := Lib.hid hl
        have b32 : decide (c < 32) = true := decide_eq_true h32
        clear hl h34 h32
        go_wp2_with fail
        refine (next_l w.heap.size s' at_ e c true s' a' e' w _ HRD.out HBEL.out HN.out).mono ?_
        rintro q w2 ⟨rfl, h2⟩
        have H2 := Lib.hid h2
        clear h2
        go_wp2
        go_ret3
        obtain rfl := Option.some.inj HL.out
        exact ⟨rfl, H2.out.2.1⟩
      rw [if_neg h32] at hl
      have b32 : decide (c < 32) = false := decide_eq_false h32
      by_cases h92 : c = 92
      · rw [if_pos h92] at hl
        subst h92
        obtain ⟨⟨x, is2, s2, a2, e2⟩, hx, hl⟩ := Option.bind_eq_some_iff.mp hl
        have HX := Lib.hid hx
        clear hx h34 h32 b34 b32
        cases is2 with
        | false =>
          rw [if_neg Bool.false_ne_true] at hl
          have HL := Lib.hid hl
          clear hl
          go_wp2_with fail
          refine (next_l w.heap.size s' at_ e 92 true s' a' e' w _ HRD.out HBEL.out HN.out).mono ?_
          rintro q w2 ⟨rfl, h2⟩
          have H2 := Lib.hid h2
          clear h2
          go_wp2_with fail
          refine (escape_l g' w.heap.size s' a' e' x false s2 a2 e2 w _ H2.out.1 H2.out.2.1 HX.out).mono ?_
          rintro q w3 ⟨rfl, h3⟩
          have hc3 : w3.cell? ⟨w.heap.size, 2, none⟩ = some (.int .i64 e2) := cellS56_2 h3.1.1
          have H3 := Lib.hid h3
          clear h3
          go_wp2
          go_region
          all_goals go_wp2
          go_ret3
          obtain rfl := Option.some.inj HL.out
          exact ⟨rfl, H3.out.2.1.drew⟩
        | true =>
          rw [if_pos rfl] at hl
          by_cases hc1 : s2 = s' ∧ 0 ≤ x ∧ x ≤ 2147483647
          case neg => rw [if_neg hc1] at hl; simp at hl
          rw [if_pos hc1] at hl
          obtain ⟨rfl, hx0, hx1⟩ := hc1
          have HL := Lib.hid hl
          clear hl
          go_wp2_with fail
          refine (next_l w.heap.size s2 at_ e 92 true s2 a' e' w _ HRD.out HBEL.out HN.out).mono ?_
          rintro q w2 ⟨rfl, h2⟩
          have HS2 := Lib.hid (HS.out.read h2)
          have H2 := Lib.hid h2
          clear h2
          go_wp2_with fail
          refine (escape_l g' w.heap.size s2 a' e' x true s2 a2 e2 w _ H2.out.1 H2.out.2.1 HX.out).mono ?_
          rintro q w3 ⟨rfl, h3⟩
          have HS3 := Lib.hid (HS2.out.read h3)
          clear h3
          go_wp2_with fail
          refine (wRune w1.heap.size acc x hx0 hx1 _ HS3.out.bld (by omega) HS3.out.le).mono ?_
          rintro q w4 ⟨rfl, h4⟩
          have HS4 := Lib.hid (HS3.out.wrote h4 (Nat.le_of_lt hsz1))
          clear h4
          go_wp2
          go_roundg g'
          case measure => omega
          case rel => exact ⟨_, _, _, HS4.out, HL.out⟩
      rw [if_neg h92] at hl
      have b92 : (c == 92) = false := beq_eq_false_iff_ne.2 h92
      clear h34 h32 h92
      obtain ⟨n1, n2, hd⟩ : ∃ n1 n2 : Nat, Lib.decodeGo (s'.extract (a'.toNat - 1) s'.size) = (n1, n2) := ⟨_, _, rfl⟩
      rw [hd] at hl
      simp only at hl
      obtain ⟨d1, hd1⟩ : ∃ d1 : Int, (n1 : Int) = d1 := ⟨_, rfl⟩
      obtain ⟨d2, hd2⟩ : ∃ d2 : Int, (n2 : Int) = d2 := ⟨_, rfl⟩
      have E1 := Lib.hid hd1
      have E2 := Lib.hid hd2
      have HD := Lib.hid hd
      have q1 : 0 ≤ a' - 1 := by omega
      have q2 : a' - 1 ≤ (s'.size : Int) := by omega
      have q3 : a' ≤ 1000000 := by omega
      clear hd
      by_cases hbad : n1 = 65533 ∧ n2 < 2
      · rw [if_pos hbad] at hl
        have HL := Lib.hid hl
        obtain rfl : d1 = 65533 := by omega
        have hb2 : d2 < 2 := by omega
        clear hl hbad hd1 hd2
        go_wp2_with fail
        refine (next_l w.heap.size s' at_ e c true s' a' e' w _ HRD.out HBEL.out HN.out).mono ?_
        rintro q w2 ⟨rfl, h2⟩
        have hc1 : w2.cell? ⟨w.heap.size, 1, none⟩ = some (.int .i64 a') := cellS56_1 h2.1.1
        have HS2 := Lib.hid (HS.out.read h2)
        clear h2
        go_wp2_with fail
        have hdc := Tryd.utf8_DecodeRuneInString (s'.extract (a'.toNat - 1) s'.size) w2 (HT.out.at HS2.out.bel)
        rw [HD.out] at hdc
        simp only [E1.out, E2.out] at hdc
        refine hdc.mono ?_
        rintro q w3 ⟨rfl, h3⟩
        have H3 := Lib.hid (HS2.out.bel.trans (h3.mono HS2.out.bel.size))
        clear h3 hdc
        go_wp2
        go_ret3
        obtain rfl := Option.some.inj HL.out
        exact ⟨rfl, H3.out⟩
      rw [if_neg hbad] at hl
      by_cases hok : 0 ≤ n2 ∧ n2 ≤ 4 ∧ 0 ≤ n1 ∧ n1 ≤ 2147483647
      case neg => rw [if_neg hok] at hl; simp at hl
      rw [if_pos hok] at hl
      rw [hd1, hd2] at hl
      have k0 : 0 ≤ d2 := by omega
      have k1 : d2 ≤ 4 := by omega
      have k2 : 0 ≤ d1 := by omega
      have k3 : d1 ≤ 2147483647 := by omega
      have HL := Lib.hid hl
      clear hl
      have hcase : ((d1 == 65533) = true ∧ decide (d2 < 2) = false) ∨ (d1 == 65533) = false := by
        by_cases e1 : d1 = 65533
        · exact .inl ⟨by simpa using e1, decide_eq_false fun h => hbad ⟨by omega, by omega⟩⟩
        · exact .inr (beq_eq_false_iff_ne.2 e1)
      clear hbad hok hd1 hd2
      rcases hcase with ⟨t1, t2⟩ | t1
      all_goals
        go_wp2_with fail
        refine (next_l w.heap.size s' at_ e c true s' a' e' w _ HRD.out HBEL.out HN.out).mono ?_
        rintro q w2 ⟨rfl, h2⟩
        have hc1 : w2.cell? ⟨w.heap.size, 1, none⟩ = some (.int .i64 a') := cellS56_1 h2.1.1
        have HS2 := Lib.hid (HS.out.read h2)
        clear h2
        go_wp2_with fail
        have hdc := Tryd.utf8_DecodeRuneInString (s'.extract (a'.toNat - 1) s'.size) w2 (HT.out.at HS2.out.bel)
        rw [HD.out] at hdc
        simp only [E1.out, E2.out] at hdc
        refine hdc.mono ?_
        rintro q w3 ⟨rfl, h3⟩
        have hst3 : St w w3 w.heap.size w1.heap.size s' a' e' acc := HS2.out.step ⟨(h3.block _ (by have := HS2.out.lt; have := HS2.out.le; omega)).trans HS2.out.rd.1, Nat.le_refl _⟩ (HS2.out.bel.trans (h3.mono HS2.out.bel.size)) (KeepBut.of_below h3 _ none)
        have HS3 := Lib.hid hst3
        clear h3 hdc hst3 hc1
        go_wp2_with fail
        refine (wRune w1.heap.size acc d1 k2 k3 _ HS3.out.bld (by omega) HS3.out.le).mono ?_
        rintro q w4 ⟨rfl, h4⟩
        have HS4 := Lib.hid (HS3.out.wrote h4 (Nat.le_of_lt hsz1))
        clear h4
        have hc4 : w4.cell? ⟨w.heap.size, 1, none⟩ = some (.int .i64 a') := cellS56_1 HS4.out.rd.1
        have hf4 : w4.frozen? ⟨w.heap.size, 1, none⟩ = false := blk_frozen HS4.out.rd.1 1
        go_wp2
        go_roundg g'
        case measure => omega
        case rel => exact ⟨_, _, _, HS4.out.put _, HL.out⟩
end Go.Proofs.YtfmenojhojmedaaDoorG
