import Derived.Test.YtfgibjkgiolonaaWm
import Derived.Test.YtfgibjkgiolonaaPAx0
import Derived.Test.YtfgibjkgiolonaaX2
import Derived.Outline
import Derived.RegionTactic
import Derived.Deep.QuietTactic
import Derived.BigQuiet
import Derived.Test.YtfgibjkgiolonaaGm
set_option linter.unusedVariables false
set_option linter.unusedSimpArgs false
namespace Go.Proofs.YtfgibjkgiolonaaS
open Go.RowKit Go.Proofs.YtfgibjkgiolonaaW.PrintWords Go.Proofs.YtfgibjkgiolonaaW.PrintLast Go.Proofs.YtfgibjkgiolonaaW.PrintMore Go.Proofs.YtfgibjkgiolonaaX
theorem i64_or_nat (a b : Nat) (ha : a < 9223372036854775808) (hb : b < 9223372036854775808) : bits .or .i64 (a : Int) (b : Int) = ((a ||| b : Nat) : Int) := by
 have hx : a ||| b < 2 ^ 63 := Nat.or_lt_two_pow (by omega) (by omega)
 have h1 : ∀ n : Nat, n < 9223372036854775808 → (BitVec.ofInt 64 (n : Int)).toNat = n := fun n hn => by
  rw [BitVec.ofInt_natCast, BitVec.toNat_ofNat]
  exact Nat.mod_eq_of_lt (by omega)
 show IntKind.i64.wrap ((BitVec.ofInt 64 (a : Int) ||| BitVec.ofInt 64 (b : Int)).toNat : Int) = _
 rw [BitVec.toNat_or, h1 a ha, h1 b hb, IntKind.wrap_i64]
 omega
theorem or_two (x y : UInt8) : bits BinOp.or IntKind.i64 (wrap64 ((x.toNat : Int) * 256)) (y.toNat : Int) = (x.toNat : Int) * 256 + y.toNat := by
 have hx := x.toNat_lt
 have hy := y.toNat_lt
 have h1 : wrap64 ((x.toNat : Int) * 256) = ((x.toNat * 256 : Nat) : Int) := by unfold wrap64; omega
 rw [h1, i64_or_nat _ _ (by omega) (by omega)]
 have h4 : x.toNat * 256 ||| y.toNat = x.toNat * 256 + y.toNat := by
  have := Nat.two_pow_add_eq_or_of_lt (i := 8) (b := y.toNat) (by omega) x.toNat
  rw [Nat.mul_comm]
  exact this.symm
 rw [h4]
 omega
@[reducible] def givesE (e : Int) : Ending := .panicked [{ v := .iface 27 (.int .i64 e), recovered := false }]
theorem tk_ok (B : Nat) (s : ByteArray) (n : Int) (w : World) (hB : Blk w B #[.string s] 58) (h0 : 0 ≤ n) (hn : n ≤ s.size) :
  Calls Try.prog 68 #[.pointer (some ⟨B, 0, none⟩), .int .i64 n] w fun e w' => e = .returned (.string (s.extract 0 n.toNat)) ∧ Else B w w' ∧ Blk w' B #[.string (s.extract n.toNat s.size)] 58 := by
 have hc := hB.cell 0
 have hz := hB.frozen 0
 have hE := (Else.refl B w).set 0 (.string (s.extract n.toNat s.size))
 have hA := hB.set 0 (.string (s.extract n.toNat s.size))
 have HE := Lib.hid hE
 have HA := Lib.hid hA
 clear hE hA
 go_enter Try.func68, Try.ntmps68
 go_wp2
 go_ret
 exact ⟨rfl, HE.out, HA.out⟩
theorem tk_short (B : Nat) (s : ByteArray) (n : Int) (w : World) (hB : Blk w B #[.string s] 58) (hn : (s.size : Int) < n) :
  Calls Try.prog 68 #[.pointer (some ⟨B, 0, none⟩), .int .i64 n] w fun e w' => e = givesE 3 ∧ w = w' := by
 have hc := hB.cell 0
 go_enter Try.func68, Try.ntmps68
 go_wp2
 exact ⟨rfl, rfl, rfl⟩
theorem ext1 {s : ByteArray} (h : 0 < s.size) : s.extract 0 1 = ⟨#[s[0]'h]⟩ := by
 apply ByteArray.ext
 apply Array.ext
 ·simp; omega
 ·intro i h1 h2
  have : i = 0 := by simp at h2; omega
  subst this
  simp [ByteArray.getElem_eq_getElem_data]
theorem ext2 {s : ByteArray} (h : 1 < s.size) : s.extract 0 2 = ⟨#[s[0]'(by omega), s[1]'h]⟩ := by
 apply ByteArray.ext
 apply Array.ext
 ·simp; omega
 ·intro i h1 h2
  have : i = 0 ∨ i = 1 := by simp at h2; omega
  rcases this with rfl | rfl <;> simp [ByteArray.getElem_eq_getElem_data]
theorem small_ok (B : Nat) (s : ByteArray) (w : World) (hB : Blk w B #[.string s] 58) (h : 0 < s.size) :
  Calls Try.prog 51 #[.pointer (some ⟨B, 0, none⟩)] w fun e w' => e = .returned (.int .i64 (bt s 0)) ∧ Else B w w' ∧ Blk w' B #[.string (s.extract 1 s.size)] 58 := by
 have HX := Lib.hid (ext1 h)
 obtain ⟨x, hx⟩ : ∃ x, x = s[0]'h := ⟨_, rfl⟩
 rw [← hx] at HX
 have HV := Lib.hid (show bt s 0 = (x.toNat : Int) by rw [hx]; exact bt_nat (s := s) (i := 0) h)
 have hw : wrap64 (x.toNat : Int) = (x.toNat : Int) := by have := x.toNat_lt; unfold wrap64; omega
 clear hx
 have HB := Lib.hid hB
 clear hB
 have g0 : ∀ h, (⟨#[x]⟩ : ByteArray)[0]'h = x := fun _ => rfl
 go_enter Try.func51, Try.ntmps51
 go_wp2_with fail
 refine (tk_ok B s 1 w HB.out (by decide) (by omega)).mono ?_
 rintro e w' ⟨rfl, hE, hA⟩
 rw [show (1 : Int).toNat = 1 from rfl] at hA ⊢
 rw [HX.out]
 have HE := Lib.hid hE
 have HA := Lib.hid hA
 clear hE hA
 go_wp2_with fail
 go_ret
 exact ⟨by rw [HV.out]; show Ending.returned (.int .i64 (wrap64 (x.toNat : Int))) = _; rw [hw], HE.out, HA.out⟩
theorem small_short (B : Nat) (s : ByteArray) (w : World) (hB : Blk w B #[.string s] 58) (h : ¬ 0 < s.size) :
  Calls Try.prog 51 #[.pointer (some ⟨B, 0, none⟩)] w fun e w' => e = givesE 3 ∧ w = w' := by
 have HB := Lib.hid hB
 clear hB
 go_enter Try.func51, Try.ntmps51
 go_wp2_with fail
 refine (tk_short B s 1 w HB.out (by omega)).mono ?_
 rintro e w' ⟨rfl, rfl⟩
 exact ⟨rfl, rfl, rfl⟩
theorem great_ok (B : Nat) (s : ByteArray) (w : World) (hB : Blk w B #[.string s] 58) (h : 1 < s.size) :
  Calls Try.prog 52 #[.pointer (some ⟨B, 0, none⟩)] w fun e w' => e = .returned (.int .i64 (bt s 0 * 256 + bt s 1)) ∧ Else B w w' ∧ Blk w' B #[.string (s.extract 2 s.size)] 58 := by
 have HX := Lib.hid (ext2 h)
 obtain ⟨x, hx⟩ : ∃ x, x = s[0]'(by omega) := ⟨_, rfl⟩
 obtain ⟨y, hy⟩ : ∃ y, y = s[1]'h := ⟨_, rfl⟩
 rw [← hx, ← hy] at HX
 have HV := Lib.hid (show bt s 0 * 256 + bt s 1 = (x.toNat : Int) * 256 + (y.toNat : Int) by rw [hx, hy]; have e0 : bt s 0 = _ := bt_nat (s := s) (i := 0) (by omega); have e1 : bt s 1 = _ := bt_nat (s := s) (i := 1) h; rw [e0, e1])
 have hw : wrap64 (x.toNat : Int) = (x.toNat : Int) := by have := x.toNat_lt; unfold wrap64; omega
 have hw2 : wrap64 (y.toNat : Int) = (y.toNat : Int) := by have := y.toNat_lt; unfold wrap64; omega
 clear hx hy
 have HB := Lib.hid hB
 clear hB
 have g0 : ∀ h, (⟨#[x, y]⟩ : ByteArray)[0]'h = x := fun _ => rfl
 have g1 : ∀ h, (⟨#[x, y]⟩ : ByteArray)[1]'h = y := fun _ => rfl
 go_enter Try.func52, Try.ntmps52
 go_wp2_with fail
 refine (tk_ok B s 2 w HB.out (by decide) (by omega)).mono ?_
 rintro e w' ⟨rfl, hE, hA⟩
 rw [show (2 : Int).toNat = 2 from rfl] at hA ⊢
 rw [HX.out]
 have HE := Lib.hid hE
 have HA := Lib.hid hA
 clear hE hA
 go_wp2_with fail
 go_region
 go_wp2_with fail
 go_ret
 refine ⟨?_, HE.out.drew, HA.out.drew⟩
 rw [HV.out]
 show Ending.returned (.int .i64 (bits BinOp.or IntKind.i64 (wrap64 ((x.toNat : Int) * 256)) (y.toNat : Int))) = _
 rw [or_two x y]
theorem great_short (B : Nat) (s : ByteArray) (w : World) (hB : Blk w B #[.string s] 58) (h : ¬ 1 < s.size) :
  Calls Try.prog 52 #[.pointer (some ⟨B, 0, none⟩)] w fun e w' => e = givesE 3 ∧ w = w' := by
 have HB := Lib.hid hB
 clear hB
 go_enter Try.func52, Try.ntmps52
 go_wp2_with fail
 refine (tk_short B s 2 w HB.out (by omega)).mono ?_
 rintro e w' ⟨rfl, rfl⟩
 exact ⟨rfl, rfl, rfl⟩
inductive Res (α : Type)
 | bad (e : Int)
 | ok (x : α) (r : ByteArray)
def takeP (s : ByteArray) (n : Int) : Res ByteArray := if (s.size : Int) < n then .bad 3 else .ok (s.extract 0 n.toNat) (s.extract n.toNat s.size)
def smallP (s : ByteArray) : Res Int := if 0 < s.size then .ok (bt s 0) (s.extract 1 s.size) else .bad 3
def greatP (s : ByteArray) : Res Int := if 1 < s.size then .ok (bt s 0 * 256 + bt s 1) (s.extract 2 s.size) else .bad 3
def Post {α : Type} (B : Nat) (R : Res α) (val : α → Value) (w : World) (e : Ending) (w' : World) : Prop :=
 match R with
 | .bad x => e = givesE x ∧ Else B w w'
 | .ok x r => e = .returned (val x) ∧ Else B w w' ∧ Blk w' B #[.string r] 58
theorem tk_any (B : Nat) (s : ByteArray) (n : Int) (w : World) (hB : Blk w B #[.string s] 58) (h0 : 0 ≤ n) :
  Calls Try.prog 68 #[.pointer (some ⟨B, 0, none⟩), .int .i64 n] w (Post B (takeP s n) Value.string w) := by
 unfold takeP
 by_cases h : (s.size : Int) < n
 ·rw [if_pos h]
  exact (tk_short B s n w hB h).mono fun e w' ⟨he, hw⟩ => ⟨he, hw ▸ Else.refl B w⟩
 ·rw [if_neg h]
  exact tk_ok B s n w hB h0 (by omega)
theorem small_any (B : Nat) (s : ByteArray) (w : World) (hB : Blk w B #[.string s] 58) :
  Calls Try.prog 51 #[.pointer (some ⟨B, 0, none⟩)] w (Post B (smallP s) (Value.int .i64) w) := by
 unfold smallP
 by_cases h : 0 < s.size
 ·rw [if_pos h]
  exact small_ok B s w hB h
 ·rw [if_neg h]
  exact (small_short B s w hB h).mono fun e w' ⟨he, hw⟩ => ⟨he, hw ▸ Else.refl B w⟩
theorem great_any (B : Nat) (s : ByteArray) (w : World) (hB : Blk w B #[.string s] 58) :
  Calls Try.prog 52 #[.pointer (some ⟨B, 0, none⟩)] w (Post B (greatP s) (Value.int .i64) w) := by
 unfold greatP
 by_cases h : 1 < s.size
 ·rw [if_pos h]
  exact great_ok B s w hB h
 ·rw [if_neg h]
  exact (great_short B s w hB h).mono fun e w' ⟨he, hw⟩ => ⟨he, hw ▸ Else.refl B w⟩
theorem smallP_range {s : ByteArray} {n : Int} {r : ByteArray} (h : smallP s = .ok n r) : 0 ≤ n ∧ n ≤ 255 ∧ r.size ≤ s.size := by
 unfold smallP at h
 by_cases h0 : 0 < s.size
 ·rw [if_pos h0] at h
  cases h
  have := bt_range s 0
  exact ⟨this.1, by omega, by simp⟩
 ·rw [if_neg h0] at h
  cases h
theorem greatP_range {s : ByteArray} {n : Int} {r : ByteArray} (h : greatP s = .ok n r) : 0 ≤ n ∧ n ≤ 65535 ∧ r.size ≤ s.size := by
 unfold greatP at h
 by_cases h0 : 1 < s.size
 ·rw [if_pos h0] at h
  cases h
  have h1 := bt_range s 0
  have h2 := bt_range s 1
  exact ⟨by omega, by omega, by simp⟩
 ·rw [if_neg h0] at h
  cases h
def textP (len : ByteArray → Res Int) (s : ByteArray) : Res ByteArray :=
 match len s with
 | .bad x => .bad x
 | .ok n r => takeP r n
theorem text_any (G : Nat) (len : ByteArray → Res Int) (he : ∀ args w, (callFunc G args).run Try.prog w = .ok (.enter G args) w) (hl : ∀ B s w, Blk w B #[.string s] 58 → Calls Try.prog G #[.pointer (some ⟨B, 0, none⟩)] w (Post B (len s) (Value.int .i64) w))
  (hn : ∀ s n r, len s = .ok n r → 0 ≤ n) (B : Nat) (s : ByteArray) (w : World) (hB : Blk w B #[.string s] 58) :
  Calls Try.prog 50 #[.pointer (some ⟨B, 0, none⟩), .func (.func G) #[.pointer (some ⟨B, 0, none⟩)] #[]] w (Post B (textP len s) Value.string w) := by
 have HL := Lib.hid (hl B s w hB)
 have HN := Lib.hid (hn s)
 clear hl hB hn
 unfold textP
 cases hs : len s with
 | bad x =>
  rw [hs] at HL
  go_enter Try.func50, Try.ntmps50
  go_wp2_with (go_at_fn G; refine (HL.out).mono ?_; rintro e w' ⟨rfl, hE⟩; have HE := Lib.hid hE; clear hE)
  exact ⟨rfl, rfl, HE.out⟩
 | ok n r =>
  rw [hs] at HL
  have H0 := HN.out n r hs
  go_enter Try.func50, Try.ntmps50
  go_wp2_with (go_at_fn G; refine (HL.out).mono ?_; rintro e w' ⟨rfl, hE, hA⟩; have HE := Lib.hid hE; have HA := Lib.hid hA; clear hE hA)
  cases ht : takeP r n with
  | bad x =>
   have HT := Lib.hid (tk_any B r n w' HA.out H0)
   rw [ht] at HT
   refine HT.out.mono ?_
   rintro e w2 ⟨rfl, hE2⟩
   exact ⟨rfl, rfl, HE.out.trans hE2⟩
  | ok t r2 =>
   have HT := Lib.hid (tk_any B r n w' HA.out H0)
   rw [ht] at HT
   refine HT.out.mono ?_
   rintro e w2 ⟨rfl, hE2, hA2⟩
   have HE2 := Lib.hid (HE.out.trans hE2)
   have HA2 := Lib.hid hA2
   clear hE2 hA2
   go_wp2_with fail
   go_ret
   rw [ht]
   exact ⟨rfl, HE2.out, HA2.out⟩
end Go.Proofs.YtfgibjkgiolonaaS
set_option linter.unusedVariables false
set_option linter.unusedSimpArgs false
namespace Go.Proofs.YtfgibjkgiolonaaS
open Go.RowKit Go.Proofs.YtfgibjkgiolonaaW.PrintWords Go.Proofs.YtfgibjkgiolonaaW.PrintLast Go.Proofs.YtfgibjkgiolonaaW.PrintMore Go.Proofs.YtfgibjkgiolonaaX Go.Proofs.Ytfgibjkgiolonaa.PA
theorem Else.thenBelow {B n : Nat} {a b c : World} (h : Else B a b) (k : Below n b c) (hn : a.heap.size ≤ n) : Else B a c :=
 ⟨k.os.trans h.os, k.tape.trans h.tape, k.output.trans h.output, Nat.le_trans h.size k.size, fun i hi hs => (k.block i (by omega)).trans (h.block i hi hs)⟩
theorem R_else {α : Type} {d : Kd α} {e : Nat} {w w1 : World} {base : Nat} {ok : Nat → Prop} {v : Value} {xs : List α} {B : Nat} (h : Kd.R d e w base ok v xs) (hE : Else B w w1) (hB : B < base) : Kd.R d e w1 base ok v xs :=
 Kd.R_mono (Kd.R_move (Kd.R_bound h) (fun k hk => hE.block k (by have := hk.2.1; omega) hk.2.2.1)) (fun _ hk => hk.1)
def manyA : List Int → Nat → ByteArray → Res (List Int)
 | acc, 0, s => .ok acc s
 | acc, k + 1, s => match greatP s with
  | .bad x => .bad x
  | .ok n r => manyA (acc ++ [n]) k r
def PostR {α : Type} (d : Kd α) (t : Nat) (B : Nat) (R : Res (List α)) (w : World) (e : Ending) (w' : World) : Prop :=
 match R with
 | .bad x => e = givesE x ∧ Else B w w'
 | .ok l r => ∃ v, e = .returned v ∧ Kd.R d t w' w.heap.size (fun _ => True) v l ∧ Else B w w' ∧ Blk w' B #[.string r] 58
theorem manyA_bad {acc : List Int} {k : Nat} {r : ByteArray} {x : Int} (h : greatP r = .bad x) : manyA acc (k + 1) r = .bad x := by unfold manyA; rw [h]
theorem manyA_ok {acc : List Int} {k : Nat} {r r1 : ByteArray} {n : Int} (h : greatP r = .ok n r1) : manyA acc (k + 1) r = manyA (acc ++ [n]) k r1 := by
 conv => lhs; unfold manyA
 rw [h]
set_option maxHeartbeats 2000000 in
theorem many_any (B : Nat) (s : ByteArray) (n : Nat) (w : World) (hB : Blk w B #[.string s] 58) (hn : n ≤ 65535) (T : Res (List Int)) (hT : manyA [] n s = T) :
  Calls Try.prog 70 #[.int .i64 n, .func (.func 52) #[.pointer (some ⟨B, 0, none⟩)] #[]] w (PostR (Kd.int .i64) 3 B T w) := by
 have HB := Lib.hid hB
 have HL := Lib.hid hB.lt
 have HT := Lib.hid hT
 clear hB hT
 go_enter Try.func70, Try.ntmps70
 go_wp2
 go_loopw [5, 7] (fun v i wr => ∃ (k : Nat) (acc : List Int) (r : ByteArray), k ≤ n ∧ i = .int .i64 k ∧ acc.length = k ∧ Hid (Kd.R (Kd.int .i64) 3 wr w.heap.size (fun _ => True) v acc ∧ Else B w wr ∧ Blk wr B #[.string r] 58 ∧ manyA acc (n - k) r = T)) (fun _ i _ => n - (intOf i).toNat)
 case atStart => exact ⟨0, [], s, Nat.zero_le _, rfl, rfl, Lib.hid ⟨Kd.R_nil _ _ _ _ _, Else.refl _ _, HB.out, by rw [Nat.sub_zero]; exact HT.out⟩⟩
 case round =>
  obtain ⟨k, acc, r, hk, rfl, hl, HR⟩ := hrel
  by_cases hlt : k < n
  ·have HG := Lib.hid (great_any B r wr HR.out.2.2.1)
   have HM := Lib.hid (show manyA acc (n - k) r = T from HR.out.2.2.2)
   rw [show n - k = (n - (k + 1)) + 1 by omega] at HM
   cases hg : greatP r with
   | bad x =>
    rw [hg] at HG
    rw [manyA_bad hg] at HM
    obtain rfl := HM.out
    clear hg HM
    go_wp2_with (go_at_call 52; refine HG.out.mono ?_; rintro e w1 ⟨rfl, hE⟩; have HE := Lib.hid (HR.out.2.1.trans hE); clear hE)
    exact ⟨rfl, rfl, HE.out⟩
   | ok m r1 =>
    rw [hg] at HG
    rw [manyA_ok hg] at HM
    clear hg
    obtain ⟨v, rfl⟩ : ∃ v : Value, v = u5 := ⟨_, rfl⟩
    have HZ := Lib.hid (show (acc.length + 1) * 8 ≤ 140737488355328 by omega)
    go_wp2_with (first
     | (go_at_call 52; refine HG.out.mono ?_; rintro e w1 ⟨rfl, hE, hA⟩; have HE := Lib.hid (And.intro (HR.out.2.1.trans hE) (And.intro hA (R_else HR.out.1 hE HL.out))); clear hE hA)
     | (at_builtin; refine Kd.R_append (Kd.int .i64) (w0 := w1) w.heap.size rfl (.tmp 9) (.tmp 12) 43 3 (.int .i64 0) 8 rfl Try.underlying43 info3 rfl (by decide) (by decide) v acc m [.int .i64 m] (fun _ => True) (fun _ => False) rfl rfl rfl (fun k hk => hk.elim) (fun _ _ => trivial) HE.out.2.2 (Below.refl _ _) HE.out.1.size HZ.out ?_; go_loud (intro v1 w2 hR2 hb2 _ _); go_loud (have HE2 := Lib.hid (And.intro (_root_.Go.Proofs.YtfgibjkgiolonaaS.Else.thenBelow HE.out.1 hb2 (Nat.le_refl _)) (And.intro (HE.out.2.1.below hb2 HL.out) hR2))); go_loud (clear hR2 hb2)))
    go_roundw
    case rel => exact ⟨k + 1, acc ++ [m], r1, by omega, by go_num, by simp [hl], Lib.hid ⟨HE2.out.2.2, HE2.out.1, HE2.out.2.1, HM.out⟩⟩
    case measure => simp [intOf]; omega
  ·obtain rfl : k = n := by omega
   have HM := Lib.hid (show manyA acc (k - k) r = T from HR.out.2.2.2)
   rw [Nat.sub_self] at HM
   unfold manyA at HM
   obtain rfl := HM.out
   clear HM
   go_wp2
   go_ret
   exact ⟨_, rfl, HR.out.1, HR.out.2.1, HR.out.2.2.1⟩
end Go.Proofs.YtfgibjkgiolonaaS
set_option linter.unusedVariables false
set_option linter.unusedSimpArgs false
namespace Go.Proofs.YtfgibjkgiolonaaS
open Go.RowKit Go.Proofs.YtfgibjkgiolonaaW.PrintWords Go.Proofs.YtfgibjkgiolonaaW.PrintLast Go.Proofs.YtfgibjkgiolonaaW.PrintMore Go.Proofs.YtfgibjkgiolonaaX Go.Proofs.Ytfgibjkgiolonaa.PA Go.Proofs.YtfgibjkgiolonaaG
def inG (g : Int × Int × Int × Bool × ByteArray × Int) : S42 := ⟨g.1, g.2.1, g.2.2.1, g.2.2.2.1, g.2.2.2.2.1⟩
def stepP (s : ByteArray) : Res S45 :=
 match smallP s with
 | .bad x => .bad x
 | .ok flag r =>
  if 1 < flag then .bad 5 else
  match textP greatP r with
  | .bad x => .bad x
  | .ok rec r2 =>
   if (readG rec).2.2.2.2.2 = 0 then
    if flag = 1 then
     match smallP r2 with
     | .bad x => .bad x
     | .ok n r3 =>
      match manyA [] n.toNat r3 with
      | .bad x => .bad x
      | .ok cuts r4 => .ok ⟨true, inG (readG rec), cuts⟩ r4
    else .ok ⟨false, inG (readG rec), []⟩ r2
   else .bad (readG rec).2.2.2.2.2
theorem stepP_1 {s : ByteArray} {x : Int} (h : smallP s = .bad x) : stepP s = .bad x := by unfold stepP; rw [h]
theorem stepP_2 {s r : ByteArray} {f : Int} (h : smallP s = .ok f r) (hf : 1 < f) : stepP s = .bad 5 := by unfold stepP; rw [h]; simp only; rw [if_pos hf]
theorem stepP_3 {s r : ByteArray} {f x : Int} (h : smallP s = .ok f r) (hf : ¬ 1 < f) (ht : textP greatP r = .bad x) : stepP s = .bad x := by unfold stepP; rw [h]; simp only; rw [if_neg hf, ht]
theorem stepP_4 {s r rec r2 : ByteArray} {f : Int} (h : smallP s = .ok f r) (hf : ¬ 1 < f) (ht : textP greatP r = .ok rec r2) (hg : ¬ (readG rec).2.2.2.2.2 = 0) : stepP s = .bad (readG rec).2.2.2.2.2 := by unfold stepP; rw [h]; simp only; rw [if_neg hf, ht]; simp only; rw [if_neg hg]
theorem stepP_5 {s r rec r2 : ByteArray} {f : Int} (h : smallP s = .ok f r) (hf : ¬ 1 < f) (ht : textP greatP r = .ok rec r2) (hg : (readG rec).2.2.2.2.2 = 0) (hf1 : ¬ f = 1) : stepP s = .ok ⟨false, inG (readG rec), []⟩ r2 := by unfold stepP; rw [h]; simp only; rw [if_neg hf, ht]; simp only; rw [if_pos hg, if_neg hf1]
theorem stepP_6 {s r rec r2 : ByteArray} {f x : Int} (h : smallP s = .ok f r) (hf : ¬ 1 < f) (ht : textP greatP r = .ok rec r2) (hg : (readG rec).2.2.2.2.2 = 0) (hf1 : f = 1) (hs : smallP r2 = .bad x) : stepP s = .bad x := by unfold stepP; rw [h]; simp only; rw [if_neg hf, ht]; simp only; rw [if_pos hg, if_pos hf1, hs]
theorem stepP_7 {s r rec r2 r3 : ByteArray} {f n x : Int} (h : smallP s = .ok f r) (hf : ¬ 1 < f) (ht : textP greatP r = .ok rec r2) (hg : (readG rec).2.2.2.2.2 = 0) (hf1 : f = 1) (hs : smallP r2 = .ok n r3) (hm : manyA [] n.toNat r3 = .bad x) : stepP s = .bad x := by unfold stepP; rw [h]; simp only; rw [if_neg hf, ht]; simp only; rw [if_pos hg, if_pos hf1, hs]; simp only; rw [hm]
theorem stepP_8 {s r rec r2 r3 r4 : ByteArray} {f n : Int} {l : List Int} (h : smallP s = .ok f r) (hf : ¬ 1 < f) (ht : textP greatP r = .ok rec r2) (hg : (readG rec).2.2.2.2.2 = 0) (hf1 : f = 1) (hs : smallP r2 = .ok n r3) (hm : manyA [] n.toNat r3 = .ok l r4) : stepP s = .ok ⟨true, inG (readG rec), l⟩ r4 := by unfold stepP; rw [h]; simp only; rw [if_neg hf, ht]; simp only; rw [if_pos hg, if_pos hf1, hs]; simp only; rw [hm]
def PostS (B : Nat) (R : Res S45) (w : World) (e : Ending) (w' : World) : Prop :=
 match R with
 | .bad x => e = givesE x ∧ Else B w w'
 | .ok x r => ∃ v, e = .returned (.agg #[.bool x.f0, .int .i64 x.f1.f0, .int .i64 x.f1.f1, .int .i64 x.f1.f2, .bool x.f1.f3, .string x.f1.f4, v]) ∧ Kd.R (Kd.int .i64) 3 w' w.heap.size (fun _ => True) v x.f2 ∧ Else B w w' ∧ Blk w' B #[.string r] 58
theorem text_great (B : Nat) (s : ByteArray) (w : World) (hB : Blk w B #[.string s] 58) :
  Calls Try.prog 50 #[.pointer (some ⟨B, 0, none⟩), .func (.func 52) #[.pointer (some ⟨B, 0, none⟩)] #[]] w (Post B (textP greatP s) Value.string w) :=
 text_any 52 greatP (enters_of Try.func52 (by kernel_rfl) rfl) great_any (fun _ _ _ h => (greatP_range h).1) B s w hB
theorem text_small (B : Nat) (s : ByteArray) (w : World) (hB : Blk w B #[.string s] 58) :
  Calls Try.prog 50 #[.pointer (some ⟨B, 0, none⟩), .func (.func 51) #[.pointer (some ⟨B, 0, none⟩)] #[]] w (Post B (textP smallP s) Value.string w) :=
 text_any 51 smallP (enters_of Try.func51 (by kernel_rfl) rfl) small_any (fun _ _ _ h => (smallP_range h).1) B s w hB
theorem textP_size {s t r : ByteArray} (h : textP greatP s = .ok t r) : t.size ≤ 65535 ∧ r.size ≤ s.size := by
 unfold textP at h
 cases hg : greatP s with
 | bad x => rw [hg] at h; cases h
 | ok n r1 =>
  rw [hg] at h
  simp only at h
  have hr := greatP_range hg
  unfold takeP at h
  by_cases hn : (r1.size : Int) < n
  ·rw [if_pos hn] at h; cases h
  ·rw [if_neg hn] at h
   cases h
   simp
   omega
def z7 : Array Value := #[.bool false, .int .i64 0, .int .i64 0, .int .i64 0, .bool false, .string ⟨#[]⟩, .slice none 0 0]
theorem set7 {w : World} {I : Nat} {p0 p1 p2 p3 p4 p5 p6 : Value} (h : Blk w I #[p0, p1, p2, p3, p4, p5, p6] 45) (a0 a1 a2 a3 a4 a5 a6 : Value) :
  Blk (((((((w.setCell ⟨I, 0, none⟩ a0).setCell ⟨I, 1, none⟩ a1).setCell ⟨I, 2, none⟩ a2).setCell ⟨I, 3, none⟩ a3).setCell ⟨I, 4, none⟩ a4).setCell ⟨I, 5, none⟩ a5).setCell ⟨I, 6, none⟩ a6) I #[a0, a1, a2, a3, a4, a5, a6] 45 := by
 have h2 := ((((((h.set 0 a0).set 1 a1).set 2 a2).set 3 a3).set 4 a4).set 5 a5).set 6 a6
 simp only [List.setIfInBounds_toArray, List.set_cons_zero, List.set_cons_succ] at h2
 exact h2
theorem else7 {w a : World} {B I : Nat} (h : Else B a w) (hI : a.heap.size ≤ I) (a0 a1 a2 a3 a4 a5 a6 : Value) :
  Else B a (((((((w.setCell ⟨I, 0, none⟩ a0).setCell ⟨I, 1, none⟩ a1).setCell ⟨I, 2, none⟩ a2).setCell ⟨I, 3, none⟩ a3).setCell ⟨I, 4, none⟩ a4).setCell ⟨I, 5, none⟩ a5).setCell ⟨I, 6, none⟩ a6) :=
 ((((((h.setNew hI 0 a0).setNew hI 1 a1).setNew hI 2 a2).setNew hI 3 a3).setNew hI 4 a4).setNew hI 5 a5).setNew hI 6 a6
theorem blk7 {w : World} {B I : Nat} {c : Array Value} {t : TypeId} (h : Blk w B c t) (hI : B ≠ I) (a0 a1 a2 a3 a4 a5 a6 : Value) :
  Blk (((((((w.setCell ⟨I, 0, none⟩ a0).setCell ⟨I, 1, none⟩ a1).setCell ⟨I, 2, none⟩ a2).setCell ⟨I, 3, none⟩ a3).setCell ⟨I, 4, none⟩ a4).setCell ⟨I, 5, none⟩ a5).setCell ⟨I, 6, none⟩ a6) B c t :=
 ((((((h.setElse hI 0 a0).setElse hI 1 a1).setElse hI 2 a2).setElse hI 3 a3).setElse hI 4 a4).setElse hI 5 a5).setElse hI 6 a6
theorem rset {w : World} {base I t : Nat} {ok : Nat → Prop} {v : Value} {l : List Int} {c : Array Value} (hR : Kd.R (Kd.int .i64) 3 w base ok v l) (h : Blk w I c t) (ht : 3 ≠ t) (j : Nat) (u : Value) : Kd.R (Kd.int .i64) 3 (w.setCell ⟨I, j, none⟩ u) base ok v l :=
 Kd.R_set hR h (fun q hq => by rcases List.mem_cons.1 hq with rfl | hq; exact ht; cases hq) j u
theorem rset2 {w : World} {base I t : Nat} {ok : Nat → Prop} {v : Value} {l : List Int} (h : Kd.R (Kd.int .i64) 3 w base ok v l ∧ ∃ c, Blk w I c t) (ht : 3 ≠ t) (j : Nat) (u : Value) : Kd.R (Kd.int .i64) 3 (w.setCell ⟨I, j, none⟩ u) base ok v l ∧ ∃ c, Blk (w.setCell ⟨I, j, none⟩ u) I c t := by
 obtain ⟨hR, c, hc⟩ := h
 exact ⟨rset hR hc ht j u, _, hc.set j u⟩
theorem rset7 {w : World} {base I : Nat} {ok : Nat → Prop} {v : Value} {l : List Int} {c : Array Value} (hR : Kd.R (Kd.int .i64) 3 w base ok v l) (h : Blk w I c 45) (a0 a1 a2 a3 a4 a5 a6 : Value) :
  Kd.R (Kd.int .i64) 3 (((((((w.setCell ⟨I, 0, none⟩ a0).setCell ⟨I, 1, none⟩ a1).setCell ⟨I, 2, none⟩ a2).setCell ⟨I, 3, none⟩ a3).setCell ⟨I, 4, none⟩ a4).setCell ⟨I, 5, none⟩ a5).setCell ⟨I, 6, none⟩ a6) base ok v l :=
 (rset2 (rset2 (rset2 (rset2 (rset2 (rset2 (rset2 ⟨hR, c, h⟩ (by decide) 0 a0) (by decide) 1 a1) (by decide) 2 a2) (by decide) 3 a3) (by decide) 4 a4) (by decide) 5 a5) (by decide) 6 a6).1
theorem res53 {w : World} {I : Nat} {a0 a1 a2 a3 a4 a5 a6 : Value} {tmps : Array Value} (h : Blk w I #[a0, a1, a2, a3, a4, a5, a6] 45) (ht : tmps.getD 2 undef = .pointer (some ⟨I, 0, none⟩)) :
  (results Try.f53 tmps).run Try.prog w = .ok (.agg #[a0, a1, a2, a3, a4, a5, a6]) w := by
 have c0 := h.cell 0
 have c1 := h.cell 1
 have c2 := h.cell 2
 have c3 := h.cell 3
 have c4 := h.cell 4
 have c5 := h.cell 5
 have c6 := h.cell 6
 simp at ht c0 c1 c2 c3 c4 c5 c6
 simp [results, Try.results53, go_sem, ht, c0, c1, c2, c3, c4, c5, c6, Result.andThen]
theorem seven {w : World} {I : Nat} {a0 a1 a2 a3 a4 a5 a6 : Value} {t : TypeId} (h : Blk w I #[a0, a1, a2, a3, a4, a5, a6] t) :
  w.cell? ⟨I, 0, none⟩ = some a0 ∧ w.cell? ⟨I, 1, none⟩ = some a1 ∧ w.cell? ⟨I, 2, none⟩ = some a2 ∧ w.cell? ⟨I, 3, none⟩ = some a3 ∧ w.cell? ⟨I, 4, none⟩ = some a4 ∧ w.cell? ⟨I, 5, none⟩ = some a5 ∧ w.cell? ⟨I, 6, none⟩ = some a6 ∧
  w.frozen? ⟨I, 0, none⟩ = false ∧ w.frozen? ⟨I, 1, none⟩ = false ∧ w.frozen? ⟨I, 2, none⟩ = false ∧ w.frozen? ⟨I, 3, none⟩ = false ∧ w.frozen? ⟨I, 4, none⟩ = false ∧ w.frozen? ⟨I, 5, none⟩ = false ∧ w.frozen? ⟨I, 6, none⟩ = false :=
 ⟨h.cell 0, h.cell 1, h.cell 2, h.cell 3, h.cell 4, h.cell 5, h.cell 6, h.frozen 0, h.frozen 1, h.frozen 2, h.frozen 3, h.frozen 4, h.frozen 5, h.frozen 6⟩
theorem read_any (s : ByteArray) (hs : s.size ≤ 100000) (w : World) (g : Int × Int × Int × Bool × ByteArray × Int) (hg : readG s = g) :
  Calls Try.prog 69 #[.string s] w fun e w' => e = .returned (.tuple #[.agg #[.int .i64 g.1, .int .i64 g.2.1, .int .i64 g.2.2.1, .bool g.2.2.2.1, .string g.2.2.2.2.1], .int .i64 g.2.2.2.2.2]) ∧ Below w.heap.size w w' :=
 record_Read.calls s _ _ _ _ _ _ w (by unfold record_Read.f; rw [if_pos hs, hg])
set_option maxHeartbeats 4000000 in
theorem step_any (B : Nat) (s : ByteArray) (w : World) (hB : Blk w B #[.string s] 58) (T : Res S45) (hT : stepP s = T) :
  Calls Try.prog 53 #[.pointer (some ⟨B, 0, none⟩)] w (PostS B T w) := by
 have HB := Lib.hid (hB.alloc (.cells #[.bool false, .int .i64 0, .int .i64 0, .int .i64 0, .bool false, .string ⟨#[]⟩, .slice none 0 0] 45))
 have HI0 := Lib.hid (Blk.new w #[.bool false, .int .i64 0, .int .i64 0, .int .i64 0, .bool false, .string ⟨#[]⟩, .slice none 0 0] 45)
 have H0 := Lib.hid ((Else.refl B w).alloc (.cells #[.bool false, .int .i64 0, .int .i64 0, .int .i64 0, .bool false, .string ⟨#[]⟩, .slice none 0 0] 45))
 have HL := Lib.hid hB.lt
 have HT := Lib.hid hT
 clear hB hT
 have hmf : ∀ (fn : Fn) (first cap : Array Value) (w : World), (Instr.makeFunc fn first cap).run Try.prog w = .ok (.func fn first cap) w := fun _ _ _ _ => rfl
 go_enter Try.func53, Try.ntmps53
 go_wp2_with fail
 cases h1 : smallP s with
 | bad x =>
  have HC := Lib.hid (small_any B s _ HB.out)
  rw [h1] at HC
  refine HC.out.mono ?_
  rintro e w1 ⟨rfl, hE⟩
  obtain rfl : Res.bad x = T := (stepP_1 h1).symm.trans HT.out
  exact ⟨rfl, rfl, H0.out.trans hE⟩
 | ok f r =>
  have HC := Lib.hid (small_any B s _ HB.out)
  rw [h1] at HC
  refine HC.out.mono ?_
  rintro e w1 ⟨rfl, hE, hA⟩
  have HE := Lib.hid (H0.out.trans hE)
  have HA := Lib.hid hA
  have HI := Lib.hid (HI0.out.kept hE (by have := HL.out; omega))
  have HS := Lib.hid h1
  clear hE hA HC h1 H0 HB
  by_cases hf : 1 < f
  ·obtain rfl : Res.bad 5 = T := (stepP_2 HS.out hf).symm.trans HT.out
   go_wp2_with fail
   exact ⟨rfl, rfl, HE.out⟩
  ·have hf2 : ¬ f > 1 := hf
   have hd : decide (f > 1) = false := decide_eq_false hf
   have HF := Lib.hid hf
   clear hf hf2
   go_wp2_with fail
   cases h2 : textP greatP r with
   | bad x =>
    have HC := Lib.hid (text_great B r _ HA.out)
    rw [h2] at HC
    refine HC.out.mono ?_
    rintro e w2 ⟨rfl, hE⟩
    obtain rfl : Res.bad x = T := (stepP_3 HS.out (Int.not_lt.2 HF.out) h2).symm.trans HT.out
    exact ⟨rfl, rfl, HE.out.trans hE⟩
   | ok rec r2 =>
    have HC := Lib.hid (text_great B r _ HA.out)
    rw [h2] at HC
    refine HC.out.mono ?_
    rintro e w2 ⟨rfl, hE, hA⟩
    replace HI := Lib.hid (HI.out.kept hE (by have := HL.out; omega))
    replace HE := Lib.hid (HE.out.trans hE)
    replace HA := Lib.hid hA
    have HS2 := Lib.hid h2
    clear hE hA HC h2
    go_wp2_with fail
    obtain ⟨g, hg⟩ : ∃ g, readG rec = g := ⟨_, rfl⟩
    obtain ⟨g1, g2, g3, g4, g5, g6⟩ := g
    refine (read_any rec (by have := (textP_size HS2.out).1; omega) _ _ hg).mono ?_
    rintro e w3 ⟨rfl, hb⟩
    replace HI := Lib.hid (HI.out.below hb HI.out.lt)
    replace HE := Lib.hid (_root_.Go.Proofs.YtfgibjkgiolonaaS.Else.thenBelow HE.out hb HE.out.size)
    replace HA := Lib.hid (HA.out.below hb HA.out.lt)
    have HGG := Lib.hid hg
    clear hb hg
    by_cases hg6 : g6 = 0
    ·subst hg6
     by_cases hf1 : f = 1
     ·have hfb : (f == 1) = true := by simpa using hf1
      have HF1 := Lib.hid hf1
      clear hf1 hd
      obtain ⟨W, hW⟩ : ∃ W, W = (w3.alloc (.cells #[.int .i64 g1, .int .i64 g2, .int .i64 g3, .bool g4, .string g5] 42)).alloc (.cells #[.bool true, .int .i64 g1, .int .i64 g2, .int .i64 g3, .bool g4, .string g5, .slice none 0 0] 45) := ⟨_, rfl⟩
      have HJ := Lib.hid (show Blk W (w3.heap.size + 1) #[.bool true, .int .i64 g1, .int .i64 g2, .int .i64 g3, .bool g4, .string g5, .slice none 0 0] 45 by
       rw [hW]
       have h := Blk.new (w3.alloc (.cells #[.int .i64 g1, .int .i64 g2, .int .i64 g3, .bool g4, .string g5] 42)) #[.bool true, .int .i64 g1, .int .i64 g2, .int .i64 g3, .bool g4, .string g5, .slice none 0 0] 45
       rw [show (w3.alloc (.cells #[.int .i64 g1, .int .i64 g2, .int .i64 g3, .bool g4, .string g5] 42)).heap.size = w3.heap.size + 1 by simp] at h
       exact h)
      replace HI := Lib.hid (show Blk W w.heap.size _ 45 by rw [hW]; exact (HI.out.alloc _).alloc _)
      replace HA := Lib.hid (show Blk W B _ 58 by rw [hW]; exact (HA.out.alloc _).alloc _)
      have HL3 := Lib.hid HE.out.size
      replace HE := Lib.hid (show Else B w W by rw [hW]; exact (HE.out.alloc _).alloc _)
      have HWW := Lib.hid hW
      clear hW
      go_wp2_with fail
      rw [← HWW.out]
      cases h3 : smallP r2 with
      | bad x =>
       have HC := Lib.hid (small_any B r2 W HA.out)
       rw [h3] at HC
       refine HC.out.mono ?_
       rintro e w4 ⟨rfl, hE⟩
       obtain rfl : Res.bad x = T := (stepP_6 HS.out (Int.not_lt.2 HF.out) HS2.out (by rw [HGG.out]) HF1.out h3).symm.trans HT.out
       exact ⟨rfl, rfl, HE.out.trans hE⟩
      | ok n r3 =>
       have HC := Lib.hid (small_any B r2 W HA.out)
       rw [h3] at HC
       refine HC.out.mono ?_
       rintro e w4 ⟨rfl, hE, hA⟩
       replace HI := Lib.hid (HI.out.kept hE (by have := HL.out; omega))
       replace HJ := Lib.hid (HJ.out.kept hE (by have := HL.out; have := HL3.out; omega))
       replace HE := Lib.hid (HE.out.trans hE)
       replace HA := Lib.hid hA
       have HS3 := Lib.hid h3
       have hn := smallP_range h3
       clear hE hA HC h3 HWW
       obtain ⟨m, rfl⟩ := Int.eq_ofNat_of_zero_le hn.1
       have HM := Lib.hid (show m ≤ 65535 by omega)
       clear hn
       go_wp2_with fail
       cases h4 : manyA [] m r3 with
       | bad x =>
        refine (many_any B r3 m _ HA.out HM.out _ h4).mono ?_
        rintro e w5 ⟨rfl, hE⟩
        obtain rfl : Res.bad x = T := (stepP_7 HS.out (Int.not_lt.2 HF.out) HS2.out (by rw [HGG.out]) HF1.out HS3.out (by simpa using h4)).symm.trans HT.out
        exact ⟨rfl, rfl, HE.out.trans hE⟩
       | ok l r4 =>
        refine (many_any B r3 m _ HA.out HM.out _ h4).mono ?_
        rintro e w5 ⟨v, rfl, hR, hE, hA⟩
        obtain ⟨Av, cv, rfl⟩ := Kd.R_slice hR
        replace HI := Lib.hid (HI.out.kept hE (by have := HL.out; omega))
        replace HJ := Lib.hid (HJ.out.kept hE (by have := HL.out; have := HL3.out; omega))
        have HR := Lib.hid (Kd.R_lower hR HE.out.size)
        replace HE := Lib.hid (HE.out.trans hE)
        replace HA := Lib.hid hA
        have hT2 : T = .ok ⟨true, inG (readG rec), l⟩ r4 := HT.out.symm.trans (stepP_8 HS.out (Int.not_lt.2 HF.out) HS2.out (by rw [HGG.out]) HF1.out HS3.out (by simpa using h4))
        rw [HGG.out] at hT2
        subst hT2
        clear hE hA hR h4
        obtain ⟨x0, x1, x2, x3, x4, x5, x6, z0, z1, z2, z3, z4, z5, z6⟩ := seven HI.out
        obtain ⟨y0, y1, y2, y3, y4, y5, y6, q0, q1, q2, q3, q4, q5, q6⟩ := seven HJ.out
        have hne : w.heap.size ≠ w3.heap.size + 1 := by have := HL3.out; omega
        have hne2 : w3.heap.size + 1 ≠ w.heap.size := Ne.symm hne
        have HLL := Lib.hid (And.intro HL.out (And.intro HL3.out (And.intro hne hne2)))
        go_wp2_with fail
        refine bodyPost_ret (res53 (set7 (HI.out.setElse HLL.out.2.2.1 _ _) _ _ _ _ _ _ _) rfl) rfl ⟨_, rfl, rset7 (rset HR.out HJ.out (by decide) _ _) (HI.out.setElse HLL.out.2.2.1 _ _) _ _ _ _ _ _ _,
         else7 (HE.out.setNew (by have := HLL.out.2.1; omega) _ _) (Nat.le_refl _) _ _ _ _ _ _ _, blk7 (HA.out.setElse (by have := HLL.out.1; have := HLL.out.2.1; omega) _ _) (by have := HLL.out.1; omega) _ _ _ _ _ _ _⟩
     ·have hfb : (f == 1) = false := by simpa using hf1
      have hT2 : T = .ok ⟨false, inG (readG rec), []⟩ r2 := HT.out.symm.trans (stepP_5 HS.out (Int.not_lt.2 HF.out) HS2.out (by rw [HGG.out]) hf1)
      rw [HGG.out] at hT2
      subst hT2
      clear hf1 hd
      obtain ⟨x0, x1, x2, x3, x4, x5, x6, z0, z1, z2, z3, z4, z5, z6⟩ := seven HI.out
      have hIl := HI.out.lt
      have HIL := Lib.hid hIl
      go_wp2_with fail
      refine bodyPost_ret (res53 (((set7 HI.out _ _ _ _ _ _ _).alloc _).alloc _) rfl) rfl ⟨_, rfl, Kd.R_nil _ _ _ _ _, ((else7 HE.out (Nat.le_refl _) _ _ _ _ _ _ _).alloc _).alloc _, ((blk7 HA.out (by have := HL.out; omega) _ _ _ _ _ _ _).alloc _).alloc _⟩
    ·have hgb : (g6 != 0) = true := by simpa using hg6
     obtain rfl : Res.bad g6 = T := by
      have := stepP_4 HS.out (Int.not_lt.2 HF.out) HS2.out (by rw [HGG.out]; exact hg6)
      rw [HGG.out] at this
      exact this.symm.trans HT.out
     go_wp2_with fail
     exact ⟨rfl, rfl, HE.out.alloc _⟩
end Go.Proofs.YtfgibjkgiolonaaS
set_option linter.unusedVariables false
set_option linter.unusedSimpArgs false
namespace Go.Proofs.YtfgibjkgiolonaaS
open Go.RowKit Go.Proofs.YtfgibjkgiolonaaW.PrintWords Go.Proofs.YtfgibjkgiolonaaW.PrintLast Go.Proofs.YtfgibjkgiolonaaW.PrintMore Go.Proofs.YtfgibjkgiolonaaX Go.Proofs.Ytfgibjkgiolonaa.PA Go.Proofs.YtfgibjkgiolonaaG
def stepsA : List S45 → Nat → ByteArray → Res (List S45)
 | acc, 0, s => .ok acc s
 | acc, k + 1, s => match stepP s with
  | .bad x => .bad x
  | .ok n r => stepsA (acc ++ [n]) k r
theorem stepsA_bad {acc : List S45} {k : Nat} {r : ByteArray} {x : Int} (h : stepP r = .bad x) : stepsA acc (k + 1) r = .bad x := by unfold stepsA; rw [h]
theorem stepsA_ok {acc : List S45} {k : Nat} {r r1 : ByteArray} {n : S45} (h : stepP r = .ok n r1) : stepsA acc (k + 1) r = stepsA (acc ++ [n]) k r1 := by
 conv => lhs; unfold stepsA
 rw [h]
structure Scr where
 bot : ByteArray
 sectors : Int
 steps : List S45
def scriptP (s : ByteArray) : Res Scr :=
 match textP smallP s with
 | .bad x => .bad x
 | .ok bot r =>
  match greatP r with
  | .bad x => .bad x
  | .ok sec r2 =>
   match greatP r2 with
   | .bad x => .bad x
   | .ok n r3 =>
    match stepsA [] n.toNat r3 with
    | .bad x => .bad x
    | .ok l r4 => if r4.size = 0 then .ok ⟨bot, sec, l⟩ r4 else .bad 5
theorem scriptP_1 {s : ByteArray} {x : Int} (h : textP smallP s = .bad x) : scriptP s = .bad x := by unfold scriptP; rw [h]
theorem scriptP_2 {s bot r : ByteArray} {x : Int} (h : textP smallP s = .ok bot r) (h2 : greatP r = .bad x) : scriptP s = .bad x := by unfold scriptP; rw [h]; simp only; rw [h2]
theorem scriptP_3 {s bot r r2 : ByteArray} {sec x : Int} (h : textP smallP s = .ok bot r) (h2 : greatP r = .ok sec r2) (h3 : greatP r2 = .bad x) : scriptP s = .bad x := by unfold scriptP; rw [h]; simp only; rw [h2]; simp only; rw [h3]
theorem scriptP_4 {s bot r r2 r3 : ByteArray} {sec n x : Int} (h : textP smallP s = .ok bot r) (h2 : greatP r = .ok sec r2) (h3 : greatP r2 = .ok n r3) (h4 : stepsA [] n.toNat r3 = .bad x) : scriptP s = .bad x := by unfold scriptP; rw [h]; simp only; rw [h2]; simp only; rw [h3]; simp only; rw [h4]
theorem scriptP_5 {s bot r r2 r3 r4 : ByteArray} {sec n : Int} {l : List S45} (h : textP smallP s = .ok bot r) (h2 : greatP r = .ok sec r2) (h3 : greatP r2 = .ok n r3) (h4 : stepsA [] n.toNat r3 = .ok l r4) (h5 : ¬ r4.size = 0) : scriptP s = .bad 5 := by unfold scriptP; rw [h]; simp only; rw [h2]; simp only; rw [h3]; simp only; rw [h4]; simp only; rw [if_neg h5]
theorem scriptP_6 {s bot r r2 r3 r4 : ByteArray} {sec n : Int} {l : List S45} (h : textP smallP s = .ok bot r) (h2 : greatP r = .ok sec r2) (h3 : greatP r2 = .ok n r3) (h4 : stepsA [] n.toNat r3 = .ok l r4) (h5 : r4.size = 0) : scriptP s = .ok ⟨bot, sec, l⟩ r4 := by unfold scriptP; rw [h]; simp only; rw [h2]; simp only; rw [h3]; simp only; rw [h4]; simp only; rw [if_pos h5]
def PostC (B : Nat) (R : Res Scr) (w : World) (e : Ending) (w' : World) : Prop :=
 match R with
 | .bad x => e = givesE x ∧ Else B w w'
 | .ok x r => ∃ v, e = .returned (.agg #[.string x.bot, .int .i64 x.sectors, v]) ∧ Kd.S k45 45 w' w.heap.size (fun _ => True) v x.steps ∧ Else B w w' ∧ Blk w' B #[.string r] 58
theorem three {w : World} {I : Nat} {a0 a1 a2 : Value} {t : TypeId} (h : Blk w I #[a0, a1, a2] t) :
  w.cell? ⟨I, 0, none⟩ = some a0 ∧ w.cell? ⟨I, 1, none⟩ = some a1 ∧ w.cell? ⟨I, 2, none⟩ = some a2 ∧ w.frozen? ⟨I, 0, none⟩ = false ∧ w.frozen? ⟨I, 1, none⟩ = false ∧ w.frozen? ⟨I, 2, none⟩ = false :=
 ⟨h.cell 0, h.cell 1, h.cell 2, h.frozen 0, h.frozen 1, h.frozen 2⟩
theorem set3 {w : World} {I t : Nat} {p0 p1 p2 : Value} (h : Blk w I #[p0, p1, p2] t) (a0 a1 a2 : Value) :
  Blk (((w.setCell ⟨I, 0, none⟩ a0).setCell ⟨I, 1, none⟩ a1).setCell ⟨I, 2, none⟩ a2) I #[a0, a1, a2] t := ((h.set 0 a0).set 1 a1).set 2 a2
theorem res30 {w : World} {I : Nat} {a0 a1 a2 : Value} {tmps : Array Value} (h : Blk w I #[a0, a1, a2] 24) (ht : tmps.getD 2 undef = .pointer (some ⟨I, 0, none⟩)) :
  (results Try.f30 tmps).run Try.prog w = .ok (.agg #[a0, a1, a2]) w := by
 obtain ⟨c0, c1, c2, z0, z1, z2⟩ := three h
 simp at ht c0 c1 c2
 simp [results, Try.results30, go_sem, ht, c0, c1, c2, Result.andThen]
theorem S_else {α : Type} {d : Kd α} {e : Nat} {w w1 : World} {base : Nat} {ok : Nat → Prop} {v : Value} {xs : List α} {B : Nat} (h : Kd.S d e w base ok v xs) (hE : Else B w w1) (hB : B < base) : Kd.S d e w1 base ok v xs :=
 Kd.S_mono (Kd.S_move (Kd.S_bound h) (fun k hk => hE.block k (by have := hk.2.1; omega) hk.2.2.1)) (fun _ hk => hk.1)
theorem rkset {w : World} {base I : Nat} {ok : Nat → Prop} {v : Value} {l : List S45} {c : Array Value} (hR : Kd.S k45 45 w base ok v l) (h : Blk w I c 24) (j : Nat) (u : Value) : Kd.S k45 45 (w.setCell ⟨I, j, none⟩ u) base ok v l :=
 Kd.S_set hR h (by decide) j u
theorem rkset3 {w : World} {base I : Nat} {ok : Nat → Prop} {v : Value} {l : List S45} {c : Array Value} (hR : Kd.S k45 45 w base ok v l) (h : Blk w I c 24) (a0 a1 a2 : Value) : Kd.S k45 45 (((w.setCell ⟨I, 0, none⟩ a0).setCell ⟨I, 1, none⟩ a1).setCell ⟨I, 2, none⟩ a2) base ok v l :=
 rkset (rkset (rkset hR h 0 a0) (h.set 0 a0) 1 a1) ((h.set 0 a0).set 1 a1) 2 a2
theorem blk_of_grown {w w1 : World} {I t e base : Nat} {c : Array Value} {v : Value} {d : Kd S45} {l : List S45} {ok : Nat → Prop} (h : Blk w I c t) (hg : w.grownBy w1 v.ownBlock) (hR : Kd.S d e w base ok v l) (ht : e ≠ t) : Blk w1 I c t :=
 blk_grown h hg (Kd.S_ne hR h ht)
theorem goesP_ {P : Program} {ops : Array Oper} {Q : Exit → Act → World → Prop} {oi : Oper} {N : Option Tmp} {a : Act} {w : World} {K : Act → World → Prop} {f : FuncId} {fn : Func} {opds : Array Operand} {ts : Array TypeId} (hf : P.funcs[f]? = some fn) (hname : (fn.name == "runtime.NumGoroutine") = false) (hb : fn.body.isSome = true) (args : Array Value)
  (hw : Region.wanted oi (yielded ops a.tmps) = true) (hN : oi.dst = N) (hop : oi.op = .call { callee := .value (.func f), args := opds, argTypes := ts }) (hargs : opds.map a.eval = args)
  (h : Calls P f args w fun e w' => (∃ v, e = .returned v ∧ K (a.put N v) w') ∨ ∃ c, e = .panicked c ∧ Q (.panic c) a w') : if Region.wanted oi (yielded ops a.tmps) = true then Oper.wp P oi a w K Q else K (a.put N undef) w := by
 rw [if_pos hw]
 subst hN
 have he := enters_ hf hname hb args w
 have hrun : (execOp a.eval oi).run P w = .ok (.enter f args) w := by
  unfold execOp
  simp [hop, resolve, Deferred.ofValue, invoke, Act.eval, hargs, he]
 unfold Oper.wp
 rw [hrun, Oper.upon_enter]
 refine h.mono fun e w'' hh => ?_
 rcases hh with ⟨v, rfl, hk⟩ | ⟨c, rfl, hk⟩
 ·exact hk
 ·exact hk
set_option maxHeartbeats 8000000 in
set_option maxRecDepth 100000 in
theorem script_any (B : Nat) (s : ByteArray) (w : World) (hB : Blk w B #[.string s] 58) (T : Res Scr) (hT : scriptP s = T) :
  Calls Try.prog 30 #[.pointer (some ⟨B, 0, none⟩)] w (PostC B T w) := by
 have HB := Lib.hid (hB.alloc (.cells #[.string ⟨#[]⟩, .int .i64 0, .slice none 0 0] 24))
 have HI0 := Lib.hid (Blk.new w #[.string ⟨#[]⟩, .int .i64 0, .slice none 0 0] 24)
 have H0 := Lib.hid ((Else.refl B w).alloc (.cells #[.string ⟨#[]⟩, .int .i64 0, .slice none 0 0] 24))
 have HL := Lib.hid hB.lt
 have HT := Lib.hid hT
 clear hB hT
 have hmf : ∀ (fn : Fn) (first cap : Array Value) (w : World), (Instr.makeFunc fn first cap).run Try.prog w = .ok (.func fn first cap) w := fun _ _ _ _ => rfl
 go_enter Try.func30, Try.ntmps30
 go_wp2_with fail
 cases h1 : textP smallP s with
 | bad x =>
  have HC := Lib.hid (text_small B s _ HB.out)
  rw [h1] at HC
  refine HC.out.mono ?_
  rintro e w1 ⟨rfl, hE⟩
  obtain rfl : Res.bad x = T := (scriptP_1 h1).symm.trans HT.out
  exact ⟨rfl, rfl, H0.out.trans hE⟩
 | ok bot r =>
  have HC := Lib.hid (text_small B s _ HB.out)
  rw [h1] at HC
  refine HC.out.mono ?_
  rintro e w1 ⟨rfl, hE, hA⟩
  have HL3 := Lib.hid (H0.out.trans hE).size
  have HI := Lib.hid ((HI0.out.kept hE (by have := HL.out; omega)).alloc (.cells #[.string bot, .int .i64 0, .slice none 0 0] 24))
  have HE := Lib.hid ((H0.out.trans hE).alloc (.cells #[.string bot, .int .i64 0, .slice none 0 0] 24))
  have HA := Lib.hid (hA.alloc (.cells #[.string bot, .int .i64 0, .slice none 0 0] 24))
  have HJ := Lib.hid (Blk.new w1 #[.string bot, .int .i64 0, .slice none 0 0] 24)
  have HIJ := Lib.hid (show w.heap.size < w1.heap.size from (HI0.out.kept hE (by have := HL.out; omega)).lt)
  have HS := Lib.hid h1
  clear hE hA HC h1 H0 HB HI0
  go_wp2_with fail
  cases h2 : greatP r with
  | bad x =>
   have HC := Lib.hid (great_any B r _ HA.out)
   rw [h2] at HC
   refine HC.out.mono ?_
   rintro e w2 ⟨rfl, hE⟩
   obtain rfl : Res.bad x = T := (scriptP_2 HS.out h2).symm.trans HT.out
   exact ⟨rfl, rfl, HE.out.trans hE⟩
  | ok sec r2 =>
   have HC := Lib.hid (great_any B r _ HA.out)
   rw [h2] at HC
   refine HC.out.mono ?_
   rintro e w2 ⟨rfl, hE, hA⟩
   replace HI := Lib.hid (HI.out.kept hE (by have := HL.out; omega))
   replace HJ := Lib.hid (HJ.out.kept hE (by have := HL.out; have := HL3.out; omega))
   replace HE := Lib.hid (HE.out.trans hE)
   replace HA := Lib.hid hA
   have HS2 := Lib.hid h2
   clear hE hA HC h2
   obtain ⟨y0, y1, y2, q0, q1, q2⟩ := three HJ.out
   go_wp2_with fail
   replace HI := Lib.hid (HI.out.setElse (show w.heap.size ≠ w1.heap.size from Nat.ne_of_lt HIJ.out) 1 (.int .i64 sec))
   replace HA := Lib.hid (HA.out.setElse (show B ≠ w1.heap.size by have := HL.out; have := HIJ.out; omega) 1 (.int .i64 sec))
   replace HE := Lib.hid (HE.out.setNew (show w.heap.size ≤ w1.heap.size from HL3.out) 1 (.int .i64 sec))
   replace HJ := Lib.hid (show Blk (w2.setCell ⟨w1.heap.size, 1, none⟩ (.int .i64 sec)) w1.heap.size #[.string bot, .int .i64 sec, .slice none 0 0] 24 from HJ.out.set 1 (.int .i64 sec))
   clear y0 y1 y2 q0 q1 q2
   cases h3 : greatP r2 with
   | bad x =>
    have HC := Lib.hid (great_any B r2 _ HA.out)
    rw [h3] at HC
    refine HC.out.mono ?_
    rintro e w3 ⟨rfl, hE⟩
    obtain rfl : Res.bad x = T := (scriptP_3 HS.out HS2.out h3).symm.trans HT.out
    exact ⟨rfl, rfl, HE.out.trans hE⟩
   | ok n r3 =>
    have HC := Lib.hid (great_any B r2 _ HA.out)
    rw [h3] at HC
    refine HC.out.mono ?_
    rintro e w3 ⟨rfl, hE, hA⟩
    replace HI := Lib.hid (HI.out.kept hE (by have := HL.out; omega))
    replace HJ := Lib.hid (HJ.out.kept hE (by have := HL.out; have := HL3.out; omega))
    replace HE := Lib.hid (HE.out.trans hE)
    replace HA := Lib.hid hA
    have HS3 := Lib.hid h3
    have hn := greatP_range h3
    clear hE hA HC h3
    obtain ⟨m, rfl⟩ := Int.eq_ofNat_of_zero_le hn.1
    have HM := Lib.hid (show m ≤ 65535 by omega)
    have hm : m ≤ 65535 := by omega
    clear hn
    obtain ⟨J, HJJ⟩ : ∃ J, Hid (w1.heap.size = J) := ⟨_, Lib.hid rfl⟩
    rw [HJJ.out] at HJ HIJ
    rw [HJJ.out]
    have HLs := Lib.hid (And.intro HL.out (And.intro (show w.heap.size ≤ J by rw [← HJJ.out]; exact HL3.out) HIJ.out))
    go_wp2_with fail
    go_loopw [14] (fun i wr => ∃ (k : Nat) (acc : List S45) (r : ByteArray) (v : Value), k ≤ m ∧ i = .int .i64 k ∧ Hid (acc.length = k ∧ Kd.S k45 45 wr w.heap.size (fun _ => True) v acc ∧ Else B w wr ∧ Blk wr B #[.string r] 58 ∧ Blk wr J #[.string bot, .int .i64 sec, v] 24 ∧ Blk wr w.heap.size #[.string ⟨#[]⟩, .int .i64 0, .slice none 0 0] 24 ∧ stepsA acc (m - k) r = stepsA [] m r3)) (fun i _ => m - (intOf i).toNat)
    case atStart => exact ⟨0, [], r3, .slice none 0 0, Nat.zero_le _, rfl, Lib.hid ⟨rfl, Kd.S_nil _ _ _ _ _, HE.out, HA.out, HJ.out, HI.out, by rw [Nat.sub_zero]⟩⟩
    case round =>
     obtain ⟨k, acc, rr, v, hk, rfl, HR⟩ := hrel
     by_cases hlt : k < m
     ·have HQ := Lib.hid (show stepsA acc (m - k) rr = _ from HR.out.2.2.2.2.2.2)
      rw [show m - k = (m - (k + 1)) + 1 by omega] at HQ
      have HX := Lib.hid (And.intro (S_else HR.out.2.1 (Else.refl B wr).drew HLs.out.1) (And.intro HR.out.2.2.1.drew (And.intro HR.out.2.2.2.1.drew (And.intro HR.out.2.2.2.2.1.drew HR.out.2.2.2.2.2.1.drew))))
      have HLn := Lib.hid HR.out.1
      clear HR
      go_wp2_with fail
      refine start_ (n := 8) (S := fun w' => w'.cell? ⟨J, 2, none⟩ = some v) (ds := [7]) #[false, false, false, false, false, false, false, false] (by kernel_rfl) rfl rfl (HX.out.2.2.2.1.cell 2) (fun hHeld => ?_)
      generalize wr.drew = w4 at HX hHeld ⊢
      refine pq_ 0 16 (mb_ 8 1) rfl ?_
      refine pq_ 2 18 (mb_ 8 5) rfl ?_
      refine take_ (i := 1) (N := some 17) (v := ?_) (a' := ?_) #[true, true, true, false, false, false, false, false] rfl rfl (by kernel_rfl) (fun _ _ _ h => h) (Or.inl ⟨by rfl, ?_⟩) hHeld ?_ ?_
      rotate_left
      ·rintro w' s2
       go_simp
       with_reducible rfl
      rotate_left
      ·simp only [Act.put, List.setIfInBounds_toArray, List.set_cons_zero, List.set_cons_succ, i64_w, i32_w]
       rfl
      refine one_ (i := 3) (N := some 19) (mb_ 8 15) rfl rfl (by kernel_rfl) (by decide) (fun K hK => ?_)
      refine goesP_ Try.func53 (by kernel_rfl) rfl #[.pointer (some ⟨B, 0, none⟩)] (by rfl) rfl rfl (by (try simp only [List.map_toArray, List.map_cons, List.map_nil]); first | done | rfl) ?_
      cases h4 : stepP rr with
      | bad x =>
       refine (step_any B rr w4 HX.out.2.2.1 _ h4).mono ?_
       rintro e w5 ⟨rfl, hE⟩
       refine .inr ⟨_, rfl, ?_⟩
       rw [stepsA_bad h4] at HQ
       obtain rfl : Res.bad x = T := (scriptP_4 HS.out HS2.out HS3.out (by simpa using HQ.out.symm)).symm.trans HT.out
       exact ⟨rfl, rfl, HX.out.2.1.trans hE⟩
      | ok y r4 =>
       refine (step_any B rr w4 HX.out.2.2.1 _ h4).mono ?_
       rintro e w5 ⟨vc, rfl, hRc, hE, hA⟩
       refine .inl ⟨_, rfl, ?_⟩
       have HR5 := Lib.hid (S_else (Kd.S_mono (ok' := fun k => True ∧ ¬ w4.heap.size ≤ k) (Kd.S_bound HX.out.1) (fun k hk => ⟨trivial, by have := hk.2.2.1; omega⟩)) hE HLs.out.1)
       have HM5 := Lib.hid (k45_mkM w5 w.heap.size (fun k => w4.heap.size ≤ k) y (Kd.R_lower (Kd.R_mono (Kd.R_bound hRc) (fun k hk => hk.2.1)) HX.out.2.1.size))
       have HV5 := Lib.hid (show ∀ k, w4.heap.size ≤ k → True ∧ some k ≠ v.ownBlock from fun k hk => ⟨trivial, fun he => by have := Kd.S_lt HX.out.1 k he.symm; omega⟩)
       obtain ⟨Av, cv, rfl⟩ := Kd.R_slice hRc
       have HE5 := Lib.hid (HX.out.2.1.trans hE)
       have HA5 := Lib.hid hA
       have HJ5 := Lib.hid (HX.out.2.2.2.1.kept hE (by have := HLs.out; omega))
       have HI5 := Lib.hid (HX.out.2.2.2.2.kept hE (by have := HLs.out; omega))
       have HZ := Lib.hid (show (acc.length + 1) * 80 ≤ 140737488355328 by have := HLn.out; omega)
       rw [stepsA_ok h4] at HQ
       clear hRc hE hA HX h4
       refine hK.out _ _ (HJ5.out.cell 2) (fun hHeld => ?_)
       clear hK K
       refine norm_ (a' := ?_) ?_ ?_
       rotate_left
       ·show Act.put _ (some 19) _ = _
        simp only [Act.put, List.setIfInBounds_toArray, List.set_cons_zero, List.set_cons_succ, i64_w, i32_w]
        rfl
       refine one_ (i := 4) (N := some 20) (mb_ 8 31) rfl rfl (by kernel_rfl) (by decide) (fun K hK => ?_)
       refine value_ (w1 := ?_) (v := ?_) (by rfl) rfl ?_ ?_
       rotate_left 2
       ·go_simp
        constructor
        ·rfl
        ·rfl
       refine hK.out _ _ ((HJ5.out.alloc _).cell 2) (fun hHeld => ?_)
       clear hK K
       refine norm_ (a' := ?_) ?_ ?_
       rotate_left
       ·show Act.put _ (some 20) _ = _
        simp only [Act.put, List.setIfInBounds_toArray, List.set_cons_zero, List.set_cons_succ, i64_w, i32_w]
        rfl
       refine one_ (i := 5) (N := some 21) (mb_ 8 63) rfl rfl (by kernel_rfl) (by decide) (fun K hK => ?_)
       refine Kd.S_append_step k45 w.heap.size (by rfl) (.tmp 17) (.tmp 20) 22 45 (.agg #[.bool false, .int .i64 0, .int .i64 0, .int .i64 0, .bool false, .string ⟨#[]⟩, .slice none 0 0]) 80 rfl Try.underlying22 info45 rfl (show 0 < 7 by decide) (by decide) v acc y _ (fun _ => True) (fun k => w4.heap.size ≤ k) rfl rfl HM5.out HV5.out (fun _ _ => trivial) HR5.out (Below.refl _ _) HE5.out.size HZ.out ?_
       intro v1 w6 ho hb hg hat
       obtain ⟨A1, c1, rfl⟩ := Kd.S_slice ho
       rw [show (acc ++ [y]).length = acc.length + 1 by simp] at ho
       have HR6 := Lib.hid ho
       have HE6 := Lib.hid (_root_.Go.Proofs.YtfgibjkgiolonaaS.Else.thenBelow HE5.out hb (Nat.le_refl _))
       have HA6 := Lib.hid (HA5.out.below hb HLs.out.1)
       have HJ6 := Lib.hid (blk_of_grown HJ5.out hg HR5.out (by decide))
       have HI6 := Lib.hid (blk_of_grown HI5.out hg HR5.out (by decide))
       clear ho hb hg hat HR5 HE5 HA5 HJ5 HI5 HM5
       refine hK.out _ _ (HJ6.out.cell 2) (fun hHeld => ?_)
       clear hK K
       refine norm_ (a' := ?_) ?_ ?_
       rotate_left
       ·show Act.put _ (some 21) _ = _
        simp only [Act.put, List.setIfInBounds_toArray, List.set_cons_zero, List.set_cons_succ, i64_w, i32_w]
        rfl
       refine pq_ 6 22 (mb_ 8 127) rfl ?_
       refine last_ (i := 7) (N := none) (mb_ 8 255) rfl rfl (by kernel_rfl) (by decide) (fun K hK => ?_)
       have hs41 := hHeld
       have hfs41 := HJ6.out.frozen 2
       refine skip_ (w1 := ?_) (by rfl) rfl ?_ ?_
       rotate_left
       ·go_simp
        rfl
       refine hK.out _ _ ?_
       clear hK K
       refine done_ (by kernel_rfl) ?_
       try go_wp2
       go_roundw
       case rel => exact ⟨k + 1, acc ++ [y], r4, .slice A1 (acc.length + 1) c1, by omega, by go_num, Lib.hid ⟨by simp [HLn.out], rkset HR6.out HJ6.out 2 _, HE6.out.setNew HLs.out.2.1 2 _, HA6.out.setElse (by have := HLs.out; omega) 2 _, HJ6.out.set 2 _, HI6.out.setElse (by have := HLs.out; omega) 2 _, HQ.out⟩⟩
       case measure => simp [intOf]; omega
     ·obtain rfl : k = m := by omega
      have HQ := Lib.hid (show stepsA acc (k - k) rr = _ from HR.out.2.2.2.2.2.2)
      rw [Nat.sub_self] at HQ
      have hb0 := HR.out.2.2.2.1.cell 0
      simp at hb0
      obtain ⟨y0, y1, y2, q0, q1, q2⟩ := three HR.out.2.2.2.2.1
      obtain ⟨x0, x1, x2, p0, p1, p2⟩ := three HR.out.2.2.2.2.2.1
      have HIJ2 := Lib.hid HLs.out
      have hne : w.heap.size ≠ J := by have := HLs.out; omega
      have hne2 : J ≠ w.heap.size := Ne.symm hne
      by_cases hz : rr.size = 0
      ·have hT2 := HT.out.symm.trans (scriptP_6 HS.out HS2.out HS3.out (by have h := HQ.out.symm; simpa [stepsA] using h) hz)
       subst hT2
       have hzz : rr.toList.isEmpty = true := by rw [List.isEmpty_iff]; exact size_nil.2 hz
       have hzn : rr.toList = [] := size_nil.2 hz
       obtain ⟨A1, c1, rfl⟩ := Kd.S_slice HR.out.2.1
       go_wp2_with fail
       refine bodyPost_ret (res30 (set3 HR.out.2.2.2.2.2.1 _ _ _) rfl) rfl ⟨_, rfl, rkset3 HR.out.2.1 HR.out.2.2.2.2.2.1 _ _ _, ((HR.out.2.2.1.setNew (Nat.le_refl _) _ _).setNew (Nat.le_refl _) _ _).setNew (Nat.le_refl _) _ _,
        ((HR.out.2.2.2.1.setElse (by have := HLs.out; omega) _ _).setElse (by have := HLs.out; omega) _ _).setElse (by have := HLs.out; omega) _ _⟩
      ·have hT2 := HT.out.symm.trans (scriptP_5 HS.out HS2.out HS3.out (by have h := HQ.out.symm; simpa [stepsA] using h) hz)
       subst hT2
       have hzn : ¬ rr.toList = [] := fun h => hz (size_nil.1 h)
       have hzz : rr.toList.isEmpty = false := by rw [List.isEmpty_eq_false_iff]; exact hzn
       go_wp2_with fail
       exact ⟨rfl, rfl, HR.out.2.2.1⟩
end Go.Proofs.YtfgibjkgiolonaaS
