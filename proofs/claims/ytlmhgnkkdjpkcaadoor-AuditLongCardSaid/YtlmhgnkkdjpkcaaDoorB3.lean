/- The contract of audit.Life. -/
import Derived.Test.YtlmhgnkkdjpkcaaDoorB2
import Derived.LoopTactic
set_option linter.unusedVariables false
set_option linter.unusedSimpArgs false
namespace Go.Proofs.YtlmhgnkkdjpkcaaDoorG
open Go.RowKit Go.Proofs.YtlmhgnkkdjpkcaaDoor.PA Go.Proofs.YtlmhgnkkdjpkcaaDoorW.PrintWords Go.Proofs.YtlmhgnkkdjpkcaaDoorW.PrintLast Go.Proofs.YtlmhgnkkdjpkcaaDoorW.PrintMore Go.Proofs.YtlmhgnkkdjpkcaaDoorM Go.Proofs.YtlmhgnkkdjpkcaaDoorV
theorem takes_any (n : S30) (p m q : Nat) (last : Int) (f : Int → Option (S28 × Bool)) (w : World) (hL : LivesAt w p m q last f) (hw : (Lit.int .i64 n.f1).wf = true)
  (hl0 : 0 ≤ last) (hl1 : last ≤ 1000000000000) (hq : q ≤ 1000000000000) : Calls Tryd.prog 39 #[.pointer (some ⟨p, 0, none⟩), encN n] w (PostT p m q (takesP last f n) w) := by
 cases hn : eqN n (bareP n) with
 | true => exact takes_ok n p m q last f w hn hL hw hl0 hl1 hq
 | false =>
  refine (takes_bad n p w (fun h => ?_)).mono ?_
  ·rw [h] at hn
   rw [(eqN_iff n n).2 rfl] at hn
   cases hn
  ·rintro e w' ⟨rfl, hb⟩
   exact post_no (by unfold takesP; rw [if_pos hn]) (Elses.of_new hb)
/-- What a call of Life's literal comes to. -/
def PostC (p m q : Nat) (r : Option (Int × (Int → Option (S28 × Bool)))) (w : World) (e : Ending) (w' : World) : Prop :=
 Elses (Two p m) w w' ∧ match r with
  | none => e = .returned (.bool true)
  | some (l, g) => e = .returned (.bool false) ∧ LivesAt w' p m (q + 1) l g
set_option maxHeartbeats 1000000 in
theorem lit_any (n : S30) (B p m q : Nat) (last : Int) (f : Int → Option (S28 × Bool)) (w : World) (hB : Blk w B [.pointer (some ⟨p, 0, none⟩)] 62) (hL : LivesAt w p m q last f) (hw : (Lit.int .i64 n.f1).wf = true)
  (hl0 : 0 ≤ last) (hl1 : last ≤ 1000000000000) (hq : q ≤ 1000000000000) : Calls Tryd.prog 38 #[encN n, .pointer (some ⟨B, 0, none⟩)] w (PostC p m q (takesP last f n) w) := by
 have hT := fun W h => takes_any n p m q last f W h hw hl0 hl1 hq
 generalize takesP last f n = T at hT ⊢
 have HT := Lib.hid hT
 have hb0 := hB.cell 0
 have hlt := hB.lt
 have HL := Lib.hid hL
 clear hT hL hw hB
 obtain ⟨k, t, ⟨a0, a1, a2, a3, a4⟩, c, x⟩ := n
 unfold encN at HT ⊢
 dsimp only at HT ⊢
 go_enter Tryd.func38, Tryd.ntmps38
 go_wp2_with fail
 refine (HT.out _ (LivesAt.new HL.out _)).mono ?_
 rintro e w1 ⟨hE, hr⟩
 have HE := Lib.hid hE
 clear hE
 cases T with
 | none =>
  obtain rfl := hr
  go_wp2_with fail
  go_ret
  exact ⟨((Elses.refl _ _).alloc _).trans HE.out, rfl⟩
 | some y =>
  obtain ⟨l, g⟩ := y
  obtain ⟨rfl, hr⟩ := hr
  have HR := Lib.hid hr
  clear hr
  go_wp2_with fail
  go_ret
  exact ⟨((Elses.refl _ _).alloc _).trans HE.out, rfl, HR.out⟩
/-- The first note that may not be where it stands. -/
def lifeP : List S30 → Int → Int → (Int → Option (S28 × Bool)) → Int
 | [], _, _, _ => -1
 | n :: l, i, last, f => match takesP last f n with
  | none => i
  | some (a, g) => lifeP l (i + 1) a g
theorem lifeP_none {l : List S30} {n : S30} {i last : Int} {f : Int → Option (S28 × Bool)} (h : takesP last f n = none) : lifeP (n :: l) i last f = i := by unfold lifeP; rw [h]
theorem lifeP_some {l : List S30} {n : S30} {i last a : Int} {f g : Int → Option (S28 × Bool)} (h : takesP last f n = some (a, g)) : lifeP (n :: l) i last f = lifeP l (i + 1) a g := by rw [lifeP, h]
theorem takes_last {last a : Int} {f g : Int → Option (S28 × Bool)} {n : S30} (h : takesP last f n = some (a, g)) : a = last ∨ a = last + 1 := by
 unfold takesP at h
 by_cases c0 : eqN n (bareP n) = false
 ·rw [if_pos c0] at h; cases h
 rw [if_neg c0] at h
 by_cases c1 : n.f0 = 1
 ·rw [if_pos c1] at h; cases h; exact .inl rfl
 rw [if_neg c1] at h
 by_cases c2 : n.f0 = 2
 ·rw [if_pos c2] at h; cases h; exact .inl rfl
 rw [if_neg c2] at h
 by_cases c9 : n.f0 = 9
 ·rw [if_pos c9] at h; cases h; exact .inl rfl
 rw [if_neg c9] at h
 by_cases c3 : n.f0 = 3
 ·rw [if_pos c3] at h
  by_cases d1 : n.f1 = last + 1
  ·rw [if_pos d1] at h
   by_cases d2 : 1 ≤ n.f2.f0
   ·rw [if_pos d2] at h
    by_cases d3 : n.f2.f0 ≤ 4
    ·rw [if_pos d3] at h; cases h; exact .inr d1
    ·rw [if_neg d3] at h; cases h
   ·rw [if_neg d2] at h; cases h
  ·rw [if_neg d1] at h; cases h
 rw [if_neg c3] at h
 cases hf : f n.f1 with
 | none => rw [hf] at h; cases h
 | some y =>
  obtain ⟨b, s⟩ := y
  rw [hf] at h
  dsimp only at h
  have e : ∀ (P : Prop) [Decidable P] (x y : Option (Int × (Int → Option (S28 × Bool)))), (∀ a g, x = some (a, g) → a = last) → (∀ a g, y = some (a, g) → a = last) → ∀ a g, (if P then x else y) = some (a, g) → a = last := by
   intro P _ x y hx hy a g h
   by_cases hp : P
   ·rw [if_pos hp] at h; exact hx a g h
   ·rw [if_neg hp] at h; exact hy a g h
  have n0 : ∀ a g, (none : Option (Int × (Int → Option (S28 × Bool)))) = some (a, g) → a = last := fun a g h => by cases h
  have n1 : ∀ (z : Int → Option (S28 × Bool)) a g, some (last, z) = some (a, g) → a = last := fun z a g h => by cases h; rfl
  exact .inl (e _ _ _ n0 (e _ _ _ (n1 _) (e _ _ _ (e _ _ _ (n1 _) n0) (e _ _ _ (e _ _ _ (n1 _) n0) (e _ _ _ (e _ _ _ (n1 _) n0) (e _ _ _ (e _ _ _ n0 (n1 _)) n0))))) a g h)
theorem wrap_i {i : Int} {n : Nat} (h0 : 0 ≤ i) (h : i < (n : Int)) (hn : n ≤ 1000000000) : wrap64 (i + 1) = i + 1 := by unfold wrap64; omega
theorem drop_cons (l : List S30) (i : Int) (h0 : 0 ≤ i) (hi : i < (l.length : Int)) : l.drop i.toNat = rd_T30 l i :: l.drop (i + 1).toNat := by
 have hlt : i.toNat < l.length := by omega
 rw [List.drop_eq_getElem_cons hlt, show (i + 1).toNat = i.toNat + 1 by omega]
 congr 1
 unfold rd_T30
 rw [List.getD_eq_getElem?_getD, List.getElem?_eq_getElem hlt]
 rfl
set_option maxHeartbeats 4000000 in
set_option maxRecDepth 100000 in
theorem idx_any (w0 w : World) (B p m : Nat) (A : Option Addr) (c : Nat) (l : List S30) (hC : Kd.C k30 w0 A l.length l) (hb : Below w0.heap.size w0 w) (hB : Blk w B [.pointer (some ⟨p, 0, none⟩)] 62) (hL : LivesAt w p m 0 0 (fun _ => none))
  (hp : w0.heap.size ≤ p) (hm : w0.heap.size ≤ m) (hBp : B ≠ p) (hBm : B ≠ m) (hw : ∀ n ∈ l, (Lit.int .i64 n.f1).wf = true) (hl : l.length ≤ 1000000000) :
  Calls Tryd.prog 37 #[.slice A l.length c, .func (.func 38) #[] #[.pointer (some ⟨B, 0, none⟩)]] w fun e w' => e = .returned (.int .i64 (lifeP l 0 0 (fun _ => none))) ∧ Elses (Two p m) w w' := by
 obtain ⟨r, hr⟩ : ∃ r, r = lifeP l 0 0 (fun _ => none) := ⟨_, rfl⟩
 rw [← hr]
 have HC := Lib.hid (And.intro hC (And.intro hb (And.intro hp (And.intro hm (And.intro hBp (And.intro hBm hw))))))
 have HB := Lib.hid hB
 have HL := Lib.hid hL
 have HR := Lib.hid hr
 have HLEN := Lib.hid hl
 clear hC hb hB hL hp hm hBp hBm hw hr
 go_enter Tryd.func37, Tryd.ntmps37
 go_wp2_with fail
 go_loopw [8] (fun v wr => ∃ (i last : Int) (f : Int → Option (S28 × Bool)), v = .int .i64 i ∧ 0 ≤ i ∧ i ≤ l.length ∧ Hid (0 ≤ last ∧ last ≤ i ∧ LivesAt wr p m i.toNat last f ∧ Blk wr B [.pointer (some ⟨p, 0, none⟩)] 62 ∧ Elses (Two p m) w wr ∧ r = lifeP (l.drop i.toNat) i last f))
  (fun v _ => l.length - (intOf v).toNat)
 case atStart => exact ⟨0, 0, _, rfl, by omega, by omega, Lib.hid ⟨by omega, by omega, HL.out, HB.out, Elses.refl _ _, HR.out⟩⟩
 case round =>
  obtain ⟨i, last, f, rfl, h0, hi, HX⟩ := hrel
  by_cases hlt : i < (l.length : Int)
  ·have HD := Lib.hid (drop_cons l i h0 hlt)
   have HCr := Lib.hid (Kd.C_below HC.out.1 (HC.out.2.1.trans (HX.out.2.2.2.2.1.below HC.out.2.1.size (fun k hk => by rcases hk with rfl | rfl; exact HC.out.2.2.1; exact HC.out.2.2.2.1))))
   have HWF := Lib.hid (show (Lit.int .i64 (rd_T30 l i).f1).wf = true from HC.out.2.2.2.2.2.2 _ (List.mem_of_mem_drop (i := i.toNat) (by rw [HD.out]; exact List.mem_cons_self)))
   obtain ⟨ad, e184, hx0, hx1, hx2, hx3, hx4, hx5, hx6, hx7, hx8⟩ := at_T30 HCr.out i h0 hlt
   subst e184
   have HRR := Lib.hid HX.out.2.2.2.2.2
   have HT := Lib.hid (lit_any (rd_T30 l i) B p m i.toNat last f wr HX.out.2.2.2.1 HX.out.2.2.1 HWF.out HX.out.1 (by have := HX.out.2.1; omega) (by omega))
   obtain ⟨T, hT⟩ : ∃ T, takesP last f (rd_T30 l i) = T := ⟨_, rfl⟩
   rw [hT] at HT
   unfold encN at HT
   have HTT := Lib.hid hT
   clear hT
   go_wp2_with fail
   refine (HT.out).mono ?_
   rintro e w1 ⟨hE, hr⟩
   have HE := Lib.hid hE
   clear hE
   cases T with
   | none =>
    obtain rfl := hr
    go_wp2_with fail
    go_ret
    have hri : r = i := by rw [HRR.out, HD.out, lifeP_none HTT.out]
    exact ⟨by rw [hri]; rfl, HX.out.2.2.2.2.1.trans HE.out⟩
   | some y =>
    obtain ⟨a, g⟩ := y
    obtain ⟨rfl, hr⟩ := hr
    have HRL := Lib.hid hr
    clear hr
    have hw := wrap_i (i := i) h0 hlt HLEN.out
    go_wp2_with fail
    go_roundw
    case rel => exact ⟨i + 1, a, g, by first | rfl | rw [hw], by omega, by omega, Lib.hid ⟨by have := takes_last HTT.out; have := HX.out.1; omega, by have := takes_last HTT.out; have := HX.out.2.1; omega, by rw [show (i + 1).toNat = i.toNat + 1 by omega]; exact HRL.out, HX.out.2.2.2.1.kept HE.out (fun hk => by rcases hk with hk | hk; exact HC.out.2.2.2.2.1 hk; exact HC.out.2.2.2.2.2.1 hk), HX.out.2.2.2.2.1.trans HE.out, by rw [HRR.out, HD.out, lifeP_some HTT.out]⟩⟩
    case measure => simp [intOf]; omega
  ·obtain rfl : i = l.length := by omega
   have HRR := Lib.hid HX.out.2.2.2.2.2
   go_wp2_with fail
   go_ret
   exact ⟨by rw [HRR.out, List.drop_eq_nil_of_le (by omega)]; rfl, HX.out.2.2.2.2.1⟩
/-- Notes that Life goes through. -/
def okN (l : List S30) : Bool := l.all (fun n => (Lit.int .i64 n.f1).wf) && decide (l.length ≤ 1000000000)
def audit_Life.f (l : List S30) : Option Int := if okN l = true then some (lifeP l 0 0 (fun _ => none)) else none
set_option maxHeartbeats 1000000 in
theorem audit_Life.calls (A0 : Option Addr) (c0 : Nat) (l0 : List S30) (r : Int) (w : World) (hr0 : Kd.C k30 w A0 l0.length l0) (hc0 : l0.length ≤ c0) (h : audit_Life.f l0 = some r) :
  Calls Tryd.prog 16 #[.slice A0 l0.length c0] w fun e w' => e = .returned (.int .i64 r) ∧ Below w.heap.size w w' := by
 unfold audit_Life.f at h
 by_cases hk : okN l0 = true
 ·rw [if_pos hk] at h
  obtain rfl := Option.some.inj h
  simp only [okN, Bool.and_eq_true, List.all_eq_true, decide_eq_true_eq] at hk
  obtain ⟨hw, hl⟩ := hk
  have HI := Lib.hid (fun (W : World) (B p m : Nat) (h1 : Below w.heap.size w W) (h2 : Blk W B [.pointer (some ⟨p, 0, none⟩)] 62) (h3 : LivesAt W p m 0 0 (fun _ => none)) (h4 : w.heap.size ≤ p) (h5 : w.heap.size ≤ m) (h6 : B ≠ p) (h7 : B ≠ m) => idx_any w W B p m A0 c0 l0 hr0 h1 h2 h3 h4 h5 h6 h7 hw hl)
  clear h hr0 hc0 hw hl
  generalize lifeP l0 0 0 (fun _ => none) = r at HI ⊢
  have hmm := @run_makeMap Tryd.prog
  go_enter Tryd.func16, Tryd.ntmps16
  go_wp2_with fail
  refine (HI.out _ _ (w.heap.size + 1) w.heap.size ?_ ?_ ?_ (by omega) (by omega) (by omega) (by omega)).mono ?_
  ·exact (((Below.refl _ _).alloc (Nat.le_refl _) _).alloc (by simp) _).alloc (by simp; omega) _
  ·have := Blk.new ((w.alloc (Obj.map #[] 0)).alloc (Obj.cells #[Value.map (some w.heap.size), Value.int IntKind.i64 0] 65)) [.pointer (some ⟨w.heap.size + 1, 0, none⟩)] 62
   simpa using this
  ·refine ⟨Blk.alloc ?_ _, MapV.congr (((MapV.made Tryd.prog 2 w).alloc _).alloc _) ?_, by omega⟩
   ·have := Blk.new (w.alloc (Obj.map #[] 0)) [Value.map (some w.heap.size), Value.int IntKind.i64 0] 65
    simpa using this
   ·intro l _
    unfold lf
    split <;> rfl
  rintro e w1 ⟨rfl, hE⟩
  have HE := Lib.hid hE
  clear hE
  go_wp2_with fail
  go_ret
  exact ⟨rfl, ((((Below.refl _ _).alloc (Nat.le_refl _) _).alloc (by simp) _).alloc (by simp; omega) _).trans (HE.out.below (by simp; omega) (fun k hk => by rcases hk with rfl | rfl <;> omega))⟩
 ·rw [if_neg hk] at h
  cases h
end Go.Proofs.YtlmhgnkkdjpkcaaDoorG
